/- JournalSame returns true: the walk. -/
import Derived.Test.YtbpbmigdfjnneaaJCrash
namespace Go.Proofs.Ytbpbmigdfjnneaa
open Go.RowKit
set_option maxRecDepth 100000

/-- A journal that is broken, its disk and its model. -/
structure BrokenP (w : World) (jb b rb : Nat) (k : Nat) (D : DiskM) (F : List UInt8) (rs : List (List UInt8)) (r : List UInt8) (S Sr : List Nat) (wr : World) : Prop where
  j : JAt wr jb b ⟨F.length, rs.length, spaceL rs, true⟩
  d : DiskAt wr b D S
  may : JMay D F (F ++ frameL r)
  jS : jb ∉ S
  above : Above w.heap.size (jb :: S)
  below : Below w.heap.size w wr
  size : w.heap.size ≤ wr.heap.size
  recs : recsL F = (rs, true)
  ref : RJAt wr rb ⟨rs, [r], true, spaceL rs⟩ Sr
  dis : ∀ x, x ∈ jb :: S → x ∉ Sr
  aboveR : Above w.heap.size Sr
  calls : D.calls ≤ 10 + 6 * k
  many : rs.length ≤ k
  space : spaceL rs ≤ 216 * k
  lens : ∀ s, s ∈ rs ++ [r] → s.length ≤ 200

theorem BrokenP.disk {w wr w' : World} {jb b rb k : Nat} {D D' : DiskM} {F : List UInt8} {rs : List (List UInt8)} {r : List UInt8} {S S' Sr : List Nat} (h : BrokenP w jb b rb k D F rs r S Sr wr) (hd : DiskAt w' b D' S') (hu : Upd S S' wr w') (hm : JMay D' F (F ++ frameL r)) (hcl : D'.calls = D.calls) : BrokenP w jb b rb k D' F rs r S' Sr w' := by
  have ha : Above w.heap.size S := fun x hx => h.above x (by simp [hx])
  have nw : ∀ x, x ∈ S' → x ≠ jb ∧ x ∉ Sr ∧ w.heap.size ≤ x := fun x hx => by
    have hab := hu.above ha h.size x hx
    rcases hu.new x hx with g | g
    · exact ⟨fun e => h.jS (e ▸ g), h.dis x (by simp [g]), hab⟩
    · exact ⟨fun e => by have := h.j.lt; omega, fun m => by have := h.ref.lt x m; omega, hab⟩
  refine ⟨h.j.kept hu h.jS, hd, hm, fun m => (nw jb m).1 rfl, fun x hx => ?_, hu.belowOf h.below ha h.size, Nat.le_trans h.size hu.size, h.recs, h.ref.kept hu (fun x hx hm => h.dis x (by simp [hm]) hx), fun x hx => ?_, h.aboveR, by rw [hcl]; exact h.calls, h.many, h.space, h.lens⟩
  · rcases List.mem_cons.1 hx with rfl | hx
    · exact h.above x (by simp)
    · exact (nw x hx).2.2
  · rcases List.mem_cons.1 hx with rfl | hx
    · exact h.dis x (by simp)
    · exact (nw x hx).2.1

def SameSt (w : World) (jb b rb k : Nat) (wr : World) : Prop :=
  (∃ (D : DiskM) (F : List UInt8) (rs : List (List UInt8)) (S Sr : List Nat), Pair w jb b rb k D F rs S Sr wr) ∨
  (∃ (D : DiskM) (F : List UInt8) (rs : List (List UInt8)) (r : List UInt8) (S Sr : List Nat), BrokenP w jb b rb k D F rs r S Sr wr)

/-- What the end of JournalSame needs. -/
structure ReadyP (w : World) (b rb : Nat) (D : DiskM) (F : List UInt8) (rs : List (List UInt8)) (R : RJ) (S Sr : List Nat) (wr : World) : Prop where
  d : DiskAt wr b D S
  ok : D.ok
  inv : DInv D
  car : CarF D.now F
  recs : recsL F = (rs, true)
  above : Above w.heap.size S
  below : Below w.heap.size w wr
  size : w.heap.size ≤ wr.heap.size
  ref : RJAt wr rb R Sr
  dis : ∀ x, x ∈ Sr → x ∉ S
  aboveR : Above w.heap.size Sr
  op : opensB R rs = true
  len1 : R.L.length ≤ 20
  len2 : R.maybe.length ≤ 20
  many : rs.length ≤ 21
  lens : ∀ s, s ∈ rs → s.length ≤ 200
  calls : D.calls ≤ 200

theorem SameSt.ready {w wr : World} {jb b rb k : Nat} (h : SameSt w jb b rb k wr) (hk : k ≤ 10) : ∃ D F rs R S Sr, ReadyP w b rb D F rs R S Sr wr := by
  rcases h with ⟨D, F, rs, S, Sr, p⟩ | ⟨D, F, rs, r, S, Sr, p⟩
  · exact ⟨D, F, rs, _, S, Sr, p.st.d, p.st.clean.ok, p.st.clean.inv, p.st.clean.car, p.st.recs, fun x hx => p.st.above x (by simp [hx]), p.st.below, p.st.size, p.ref, fun x hx hm => p.dis x (by simp [hm]) hx, p.aboveR, opens_same rs _ rfl, by have := p.many; show rs.length ≤ _; omega, by simp, by have := p.many; omega, p.lens, by have := p.calls; omega⟩
  · have h1 : ∀ s, s ∈ rs → s.length ≤ 200 := fun s hs => p.lens s (by simp [hs])
    rcases p.may.now with hc | hc
    · exact ⟨D, F, rs, _, S, Sr, p.d, p.may.ok, p.may.inv, hc, p.recs, fun x hx => p.above x (by simp [hx]), p.below, p.size, p.ref, fun x hx hm => p.dis x (by simp [hm]) hx, p.aboveR, opens_same rs _ rfl, by have := p.many; show rs.length ≤ _; omega, by simp, by have := p.many; omega, h1, by have := p.calls; omega⟩
    · exact ⟨D, F ++ frameL r, rs ++ [r], _, S, Sr, p.d, p.may.ok, p.may.inv, hc, recs_snoc r (by have := p.lens r (by simp); omega) F.length F rs (Nat.le_refl _) p.recs, fun x hx => p.above x (by simp [hx]), p.below, p.size, p.ref, fun x hx hm => p.dis x (by simp [hm]) hx, p.aboveR, opens_more rs r _, by have := p.many; show rs.length ≤ _; omega, by simp, by have := p.many; simp; omega, p.lens, by have := p.calls; omega⟩

theorem Open_car {w0 wp : World} {B b : Nat} {D : DiskM} {F : List UInt8} {rs : List (List UInt8)} {S : List Nat} (hd : DiskAt wp b D S) (hok : D.ok) (hinv : DInv D) (hcar : CarF D.now F) (hr : recsL F = (rs, true)) (hoff : D.off = false) (hc : D.calls < 65536) (ha : Above B S) (hbl : Below B w0 wp) (hsz : B ≤ wp.heap.size) :
    Calls Try.prog 37 #[.pointer (some ⟨b, 0, none⟩)] wp (OpenFine w0 B b D F rs S wp) := by
  refine (Open_ok b D S F rs wp hd hok hc hoff (open_car hcar hr)).mono ?_
  rintro e w' ⟨jb, v, S', rfl, hd', hj, hv, hu, hn⟩
  rw [syncS_now hoff] at hd'
  have hab := hu.above ha hsz
  refine ⟨jb, v, S', rfl, ⟨hj, hd', fun m => (List.nodup_cons.1 hn).1 (by simp [m]), ⟨rfl, hinv, hcar, hok.sync hc⟩, hr, fun k hk => hab k ?_, hu.belowOf hbl ha hsz, Nat.le_trans hsz hu.size⟩, hv, hu, hn⟩
  simp only [List.mem_cons, List.mem_append] at hk ⊢
  rcases hk with h | h
  · exact .inl h
  · exact .inr (.inr h)

theorem short_to (y r : ByteArray) (w : World) (hy : y.size ≤ 9223372036854775807) (hr : Hid (bs r = shortL (bs y))) : Calls Try.prog 40 #[.string y] w (Same (.string r) w) :=
  (short_any y w hy).mono fun _ _ ⟨r2, h2, h3, h4⟩ => ⟨by rw [h3, str_inj (h2.out.trans hr.out.symm)], h4⟩

/-- The journal has broken. -/
theorem pair_fell {w wr w5 w6 : World} {jb b rb k : Nat} {D D5 : DiskM} {F : List UInt8} {rs : List (List UInt8)} {r : List UInt8} {S S5 Sr Sr6 : List Nat} (h : Pair w jb b rb k D F rs S Sr wr)
    (hj5 : JAt w5 jb b ⟨F.length, rs.length, spaceL rs, true⟩) (hd5 : DiskAt w5 b D5 S5) (hm5 : JMay D5 F (F ++ frameL r)) (hjS5 : jb ∉ S5) (ha5 : Above w.heap.size (jb :: S5)) (hb5 : Below w.heap.size w w5) (hz5 : w.heap.size ≤ w5.heap.size) (hu5 : Upd (jb :: S) (jb :: S5) wr w5) (hc : D5.calls ≤ D.calls + 4)
    (hr6 : RJAt w6 rb ⟨rs, [r], true, spaceL rs⟩ Sr6) (hu6 : Upd Sr Sr6 w5 w6) (hrl : r.length ≤ 200) : BrokenP w jb b rb (k + 1) D5 F rs r S5 Sr6 w6 := by
  have dis5 : ∀ x, x ∈ jb :: S5 → x ∉ Sr := fun x hx hm => by
    rcases hu5.new x hx with g | g
    · exact h.dis x g hm
    · have := h.ref.lt x hm; omega
  have lt5 : ∀ x, x ∈ jb :: S5 → x < w5.heap.size := fun x hx => by
    rcases List.mem_cons.1 hx with rfl | hx
    · exact hj5.lt
    · exact hd5.lt x hx
  refine ⟨hj5.kept hu6 (dis5 jb (by simp)), hd5.kept hu6 (fun x hx => dis5 x (by simp [hx])), hm5, hjS5, ha5, hu6.belowOf hb5 h.aboveR hz5, Nat.le_trans hz5 hu6.size, h.st.recs, hr6, hu6.disj lt5 dis5, hu6.above h.aboveR hz5, by have := h.calls; omega, by have := h.many; omega, by have := h.space; omega, ?_⟩
  intro s hs
  rcases List.mem_append.1 hs with g | g
  · exact h.lens s g
  · simp at g; rw [g]; exact hrl

/-- Nothing is appended to a broken journal. -/
theorem broken_on {w wr w5 w6 : World} {jb b rb k : Nat} {D : DiskM} {F : List UInt8} {rs : List (List UInt8)} {r : List UInt8} {S Sr Sr6 : List Nat} (h : BrokenP w jb b rb k D F rs r S Sr wr) (hu5 : Upd [] [] wr w5) (hr6 : RJAt w6 rb ⟨rs, [r], true, spaceL rs⟩ Sr6) (hu6 : Upd Sr Sr6 w5 w6) : BrokenP w jb b rb (k + 1) D F rs r S Sr6 w6 := by
  have lt5 : ∀ x, x ∈ jb :: S → x < w5.heap.size := fun x hx => Nat.lt_of_lt_of_le (by
    rcases List.mem_cons.1 hx with rfl | hx
    · exact h.j.lt
    · exact h.d.lt x hx) hu5.size
  have hb5 := hu5.belowOf h.below (above_nil _) h.size
  have hz5 := Nat.le_trans h.size hu5.size
  exact ⟨(h.j.kept hu5 (by simp)).kept hu6 (h.dis jb (by simp)), (h.d.kept hu5 (by simp)).kept hu6 (fun x hx => h.dis x (by simp [hx])), h.may, h.jS, h.above, hu6.belowOf hb5 h.aboveR hz5, Nat.le_trans hz5 hu6.size, h.recs, hr6, hu6.disj lt5 h.dis, hu6.above h.aboveR hz5, by have := h.calls; omega, by have := h.many; omega, by have := h.space; omega, h.lens⟩

def SameRel (w : World) (jb b rb : Nat) (l : List (List UInt8)) (wr : World) (i : Value) : Prop := ∃ k : Nat, i = .int .i64 (k : Int) ∧ k ≤ l.length ∧ k ≤ 10 ∧ SameSt w jb b rb k wr

set_option maxHeartbeats 3200000 in
theorem walk_JournalSame (vl : Value) (l : List (List UInt8)) (fl : Int) (vs : Value) (sv : List Int) (w : World) (hl : StrsAt w vl l) (hl2 : ∀ s ∈ l, s.length ≤ 9223372036854775807) (hf0 : 0 ≤ fl) (hf1 : fl ≤ 255) (hsv : IntsAt w vs sv) :
    Calls Try.prog 13 #[vl, .int .u8 fl, vs] w (TrueB w) := by
  obtain ⟨aol, capl, rfl, hcl, hml⟩ := hl.slice
  have HL2 := Lib.hid hl2
  clear hl2
  go_enter Try.func13, Try.ntmps13
  go_wp2_with fail
  refine (sanity25 w).mono ?_
  rintro e w1 ⟨rfl, hb⟩
  go_wp2_with fail
  refine (New_to w1).mono ?_
  rintro e w2 ⟨bd, Sd, rfl, hd2, hu2⟩
  have d2 := start_disk hb hd2 hu2
  clear hb hd2 hu2
  go_wp2_with fail
  refine (Open_fine d2.at_ JClean.empty (recsL_nil [] rfl) rfl (by decide) d2.above d2.below d2.size).mono ?_
  rintro e w3 ⟨jb, v0, S3, rfl, st3, hv0, hu3, hn3⟩
  clear d2 hv0 hu3 hn3
  go_wp2_with fail
  refine (RJNew_any w3).mono ?_
  rintro e w4 ⟨rb, Sr, rfl, hr4, hu4⟩
  have p4 := pair_start st3 hr4 hu4
  clear st3 hr4 hu4
  go_wp2_with fail
  go_loopw [13] (fun i wr => SameRel w jb bd rb l wr i) (fun i _ => 10 - (intOf i).toNat)
  case atStart => exact ⟨0, rfl, Nat.zero_le _, Nat.zero_le _, .inl ⟨_, _, _, _, _, p4⟩⟩
  case round =>
    clear p4
    obtain ⟨k, rfl, hk, hk10, ss⟩ := hrel
    by_cases hgo : k < l.length ∧ k < 10
    · obtain ⟨hkl, hk9⟩ := hgo
      obtain ⟨b, off, cap', s, hv, hs, hc, hcl', hml'⟩ := hl.at k hkl
      cases hv
      have hsl := HL2.out s (List.mem_of_getElem? hs)
      obtain ⟨y, hy⟩ : ∃ y : ByteArray, y = ⟨s.toArray⟩ := ⟨_, rfl⟩
      have hc' : w.cell? ⟨b, off + k, none⟩ = some (.string y) := by rw [hy]; exact hc
      have hbl : b < w.heap.size := World.block_lt_of_cell? _ _ hc'
      have hyl : y.size ≤ 9223372036854775807 := by rw [hy]; exact hsl
      have hcW : ∀ wx, Below w.heap.size w wx → wx.cell? ⟨b, off + k, none⟩ = some (.string y) := fun wx hx => (hx.cell (p := ⟨b, off + k, none⟩) hbl).trans hc'
      have HCW := Lib.hid hcW
      obtain ⟨r, hr⟩ : ∃ r : ByteArray, r = ⟨(shortL (bs y)).toArray⟩ := ⟨_, rfl⟩
      have hrb : Hid (bs r = shortL (bs y)) := by rw [hr]; rfl
      have hrl : r.size ≤ 200 := by rw [hr]; exact shortL_length _
      have hk0 : (0 : Int) ≤ (k : Int) := by omega
      have hk1 : (k : Int) < (l.length : Int) := by omega
      have hk2 : (k : Int) < 10 := by omega
      clear hc hs hy hc' hcW hr
      go_upto_if 49 with (fail)
      go_cut [] (fun wx => SameSt w jb bd rb k wx)
      case first =>
        rcases ss with ⟨D, F, rs, S, Sr, p⟩ | ⟨D, F, rs, r', S, Sr, p⟩
        · go_wp2_with fail
          · refine (Fail_any bd D S _ wr p.st.d).mono ?_
            rintro e w5 ⟨rfl, hd5, hu5⟩
            have p5 := p.disk hd5 hu5 (p.st.clean.fail _ (by omega)) rfl
            clear p hd5 hu5
            go_wp2_with fail
            go_meet
            exact .inl ⟨_, _, _, _, _, p5⟩
          · go_meet
            exact .inl ⟨_, _, _, _, _, p⟩
        · go_wp2_with fail
          · refine (Fail_any bd D S _ wr p.d).mono ?_
            rintro e w5 ⟨rfl, hd5, hu5⟩
            have p5 := p.disk hd5 hu5 (p.may.fail _ (by omega)) rfl
            clear p hd5 hu5
            go_wp2_with fail
            go_meet
            exact .inr ⟨_, _, _, _, _, _, p5⟩
          · go_meet
            exact .inr ⟨_, _, _, _, _, _, p⟩
      case rest =>
        clear ss
        have hrb2 : (bs r).length ≤ 200 := by rw [bs_length]; exact hrl
        rcases hcut with ⟨D, F, rs, S, Sr, p⟩ | ⟨D, F, rs, r', S, Sr, p⟩
        · have c1 := HCW.out wc p.st.below
          have sp1 := p.space
          have mn1 := p.many
          have pd : Pair w jb bd rb k D F rs S Sr wc.drew := p.quiet (Upd.refl [] wc).drew
          cases ho : (appendD D F (bs r)).2 with
          | true =>
            have HO := Lib.hid ho
            clear ho
            go_wp2_with fail
            go_region_held3 (fun wp => wp.cell? ⟨b, off + k, none⟩ = some (.string y)) (first | assumption | go_keep)
              (first
                | (go_at_call 40; ((with_reducible refine (short_to y r _ hyl hrb).mono ?_); rintro e wq ⟨rfl, rfl⟩))
                | (go_at_call 39; ((with_reducible refine (App_sure pd.st r (by have := pd.calls; omega) (by omega) HO.out).mono ?_); rintro e w5 ⟨D5, S5, rfl, st5, hu5, f5, c5⟩; have c5' := HCW.out w5 st5.below; have href5 := pd.ref.kept hu5 (fun x hx hm => pd.dis x hm hx)))
                | (go_at_call 41; ((with_reducible refine (RJAppend_any rb _ Sr r true w5 _ _ href5 (by show spaceL rs ≤ _; omega) (by omega) (by show rs.length ≤ _; omega) (by simp) (rapp_on rs (bs r) (by rw [bs_length]; omega))).mono ?_); rintro e w6 ⟨Sr6, rfl, hr6, hu6⟩; have p6 := pair_on pd st5 hu5 c5 hr6 hu6 hrb2; have c6 := HCW.out w6 p6.st.below)))
            clear c1 c5' c6 hr6 hu6 href5 st5 hu5 c5 f5 p pd
            go_wp2_with fail
            go_roundw
            case rel => exact ⟨k + 1, by go_num, by omega, by omega, .inl ⟨_, _, _, _, _, p6⟩⟩
            case measure => simp [intOf]; omega
          | false =>
            have HO := Lib.hid ho
            clear ho
            go_wp2_with fail
            go_region_held3 (fun wp => wp.cell? ⟨b, off + k, none⟩ = some (.string y)) (first | assumption | go_keep)
              (first
                | (go_at_call 40; ((with_reducible refine (short_to y r _ hyl hrb).mono ?_); rintro e wq ⟨rfl, rfl⟩))
                | (go_at_call 39; ((with_reducible refine (App_fell pd.st r (by have := pd.calls; omega) (by omega) HO.out).mono ?_); rintro e w5 ⟨D5, S5, rfl, hj5, hd5, hm5, hjS5, ha5, hb5, hz5, hu5, f5, c5⟩; have c5' := HCW.out w5 hb5; have href5 := pd.ref.kept hu5 (fun x hx hm => pd.dis x hm hx)))
                | (go_at_call 41; ((with_reducible refine (RJAppend_any rb _ Sr r false w5 _ _ href5 (by show spaceL rs ≤ _; omega) (by omega) (by show rs.length ≤ _; omega) (by simp) (rapp_no rs (bs r) (by rw [bs_length]; omega))).mono ?_); rintro e w6 ⟨Sr6, rfl, hr6, hu6⟩; have p6 := pair_fell pd hj5 hd5 hm5 hjS5 ha5 hb5 hz5 hu5 c5 hr6 hu6 hrb2; have c6 := HCW.out w6 p6.below)))
            clear c1 c5' c6 hr6 hu6 href5 hj5 hd5 hm5 hjS5 ha5 hb5 hz5 hu5 c5 f5 p pd
            go_wp2_with fail
            go_roundw
            case rel => exact ⟨k + 1, by go_num, by omega, by omega, .inr ⟨_, _, _, _, _, _, p6⟩⟩
            case measure => simp [intOf]; omega
        · have c1 := HCW.out wc p.below
          have sp1 := p.space
          have mn1 := p.many
          have hjA : JAt wc.drew jb bd ⟨F.length, rs.length, spaceL rs, true⟩ := p.j.same rfl
          have hrefA : RJAt wc.drew rb ⟨rs, [r'], true, spaceL rs⟩ Sr := p.ref.kept (Upd.refl [] wc).drew (by simp)
          have hbA : Below w.heap.size w wc.drew := (Upd.refl [] wc).drew.belowOf p.below (above_nil _) p.size
          have hzA : w.heap.size ≤ wc.drew.heap.size := by simpa using p.size
          have hrp : rapp ⟨rs, [r'], true, spaceL rs⟩ (bs r) false = (⟨rs, [r'], true, spaceL rs⟩, 70) := rfl
          have HRP := Lib.hid hrp
          clear hrp
          go_wp2_with fail
          go_region_held3 (fun wp => wp.cell? ⟨b, off + k, none⟩ = some (.string y)) (first | assumption | go_keep)
            (first
              | (go_at_call 40; ((with_reducible refine (short_to y r _ hyl hrb).mono ?_); rintro e wq ⟨rfl, rfl⟩))
              | (go_at_call 39; ((with_reducible refine (Append_broken jb bd _ r _ hjA rfl).mono ?_); rintro e w5 ⟨rfl, hu5⟩; have c5' := HCW.out w5 (hu5.belowOf hbA (above_nil _) hzA); have href5 := hrefA.kept hu5 (by simp)))
              | (go_at_call 41; ((with_reducible refine (RJAppend_any rb _ Sr r false w5 _ _ href5 (by show spaceL rs ≤ _; omega) (by omega) (by show rs.length ≤ _; omega) (by simp) HRP.out).mono ?_); rintro e w6 ⟨Sr6, rfl, hr6, hu6⟩; have p6 := broken_on p (Upd.trans (Upd.refl [] wc).drew hu5) hr6 hu6; have c6 := HCW.out w6 p6.below)))
          clear c1 c5' c6 hr6 hu6 href5 hu5 p hjA hrefA hbA hzA
          go_wp2_with fail
          go_roundw
          case rel => exact ⟨k + 1, by go_num, by omega, by omega, .inr ⟨_, _, _, _, _, _, p6⟩⟩
          case measure => simp [intOf]; omega
    · have hcase : ¬ k < l.length ∨ (10 < l.length ∧ k = 10) := by omega
      obtain ⟨D, F, rs, R, S, Sr, q⟩ := ss.ready hk10
      have HQ := Lib.hid q
      clear hgo ss q
      rcases hcase with hc1 | ⟨hc1, rfl⟩
      all_goals
        have HK := Lib.hid hk10
        clear hk10
        go_wp2_with fail
        refine (Fail_any bd D S (-1) wr HQ.out.d).mono ?_
        rintro e w5 ⟨rfl, hd5, hu5⟩
        have q := HQ.out
        have hr5 := q.ref.kept hu5 q.dis
        have hb5 := hu5.belowOf q.below q.above q.size
        have hz5 := Nat.le_trans q.size hu5.size
        have hop := Lib.hid (Open_car (w0 := w) (B := w.heap.size) hd5 (q.ok.fail (-1) (by decide)) q.inv q.car q.recs (DiskM.off_of rfl) (by show D.calls < _; have := q.calls; omega) q.above hb5 hz5)
        have dis5 := q.dis
        have HL := Lib.hid (fun s hs => Nat.le_trans (q.lens s hs) (by omega : 200 ≤ 16777216))
        have m1 := q.many
        have m2 := q.len1
        have m3 := q.len2
        have aR := q.aboveR
        have OP := Lib.hid q.op
        have DIS := Lib.hid dis5
        clear q hu5 hd5 hb5 hz5 dis5 HQ
        go_wp2_with fail
        refine hop.out.mono ?_
        rintro e w6 ⟨jc, v6, S6, rfl, st6, hv6, hu6, hn6⟩
        have hr6 := hr5.kept hu6 DIS.out
        have dv6 := hu6.disj hr5.lt DIS.out
        have nv6 : ∀ x, x ∈ foot v6 → x ∉ Sr := fun x hx hm => dv6 x hm (by simp [hx])
        have dv6' : ∀ x, x ∈ jc :: S6 → x ∉ Sr := fun x hx hm => dv6 x hm (by
          simp only [List.mem_cons, List.mem_append] at hx ⊢
          rcases hx with h | h
          · exact .inl h
          · exact .inr (.inr h))
        have nS6 : ∀ x, x ∈ foot v6 → x ∉ S6 := fun x hx hm => by
          rw [List.nodup_cons, List.nodup_append] at hn6
          exact hn6.2.2.2 x hx x hm rfl
        have HOP := Lib.hid (Opens_any rb R Sr v6 rs w6 true hr6 hv6.strs (foot_at nv6) (by omega) (by omega) (by omega) HL.out OP.out)
        have HNV := Lib.hid nv6
        have HDV := Lib.hid dv6'
        have HNS := Lib.hid nS6
        clear hr5 hop hu6 hn6 dv6 nv6 dv6' nS6
        go_wp2_with fail
        refine HOP.out.mono ?_
        rintro e w7 ⟨Sr7, rfl, hr7, hu7⟩
        have st7 := st6.other hu7 aR HDV.out
        have hv7 := hv6.kept hu7 HNV.out
        have hs7 := hsv.below st7.below
        have HCR := Lib.hid (Crash_to bd _ S6 vs sv w7 st7.d hs7 st7.clean.ok)
        clear st6 hv6 hr7 hu7 HOP hr6 hs7
        go_wp2_with fail
        refine HCR.out.mono ?_
        rintro e w8 ⟨bc, Sc, rfl, hc8, hu8⟩
        have st8 := st7.quiet hu8
        have hv8 := hv7.kept hu8 (by simp)
        have dv8 := hu8.disj hv7.lt (by simp)
        have ac8 := hu8.above (above_nil _) st7.size
        clear HCR hv7 st7 hu8
        go_wp2_with fail
        refine (Open_fine (w0 := w) (B := w.heap.size) hc8 (st8.clean.crashed sv) st8.recs rfl (by show 0 < 65536; decide) ac8 st8.below st8.size).mono ?_
        rintro e w9 ⟨jx, v9, S9, rfl, st9, hv9, hu9, hn9⟩
        have hv8' := hv8.kept hu9 dv8
        have b9 := st9.below
        have hq := Same_any v9 v6 rs rs w9 hv9.strs hv8'.strs
        rw [decide_eq_true rfl] at hq
        have HSM := Lib.hid hq
        clear st8 st9 hu9 hn9 hv8 dv8 ac8 hc8 hq hv8' hv9
        go_wp2_with fail
        refine HSM.out.mono ?_
        rintro e w' ⟨n, rfl, rfl⟩
        go_wp2_with fail
        go_ret
        exact ⟨rfl, below_drewN b9 n⟩
end Go.Proofs.Ytbpbmigdfjnneaa
