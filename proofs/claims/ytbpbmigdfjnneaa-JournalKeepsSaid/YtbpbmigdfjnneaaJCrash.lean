/- JournalCrashes returns true: the walk. -/
import Derived.Test.YtbpbmigdfjnneaaJ25C
import Derived.Test.YtbpbmigdfjnneaaJFull
import Derived.Test.YtbpbmigdfjnneaaJApart
namespace Go.Proofs.Ytbpbmigdfjnneaa
open Go.RowKit
set_option maxRecDepth 100000

/-- A journal on a disk and its model, alike. -/
structure Pair (w : World) (jb b rb : Nat) (k : Nat) (D : DiskM) (F : List UInt8) (rs : List (List UInt8)) (S Sr : List Nat) (wr : World) : Prop where
  st : JSt w w.heap.size jb b D F rs S wr
  ref : RJAt wr rb ⟨rs, [], false, spaceL rs⟩ Sr
  dis : ∀ x, x ∈ jb :: S → x ∉ Sr
  aboveR : Above w.heap.size Sr
  calls : D.calls ≤ 10 + 6 * k
  many : rs.length ≤ k
  space : spaceL rs ≤ 216 * k
  lens : ∀ s, s ∈ rs → s.length ≤ 200

section
variable {w wr w' : World} {jb b rb k : Nat} {D D' : DiskM} {F F' : List UInt8} {rs : List (List UInt8)} {S S' Sr Sr' : List Nat}
theorem Pair.disk (h : Pair w jb b rb k D F rs S Sr wr) (hd : DiskAt w' b D' S') (hu : Upd S S' wr w') (hc : JClean D' F) (hcl : D'.calls = D.calls) : Pair w jb b rb k D' F rs S' Sr w' := by
  refine ⟨h.st.disk hd hu hc, h.ref.kept hu (fun x hx hm => h.dis x (by simp [hm]) hx), fun x hx => ?_, h.aboveR, by rw [hcl]; exact h.calls, h.many, h.space, h.lens⟩
  intro hm
  rcases List.mem_cons.1 hx with rfl | hx
  · exact h.dis x (by simp) hm
  · rcases hu.new x hx with g | g
    · exact h.dis x (by simp [g]) hm
    · have := h.ref.lt x hm; omega
theorem Pair.quiet (h : Pair w jb b rb k D F rs S Sr wr) {T' : List Nat} (hu : Upd [] T' wr w') : Pair w jb b rb k D F rs S Sr w' :=
  ⟨h.st.quiet hu, h.ref.kept hu (by simp), h.dis, h.aboveR, h.calls, h.many, h.space, h.lens⟩
end

theorem rapp_on (rs : List (List UInt8)) (r : List UInt8) (h : spaceL rs + r.length + 16 + 256 ≤ 16777216) : rapp ⟨rs, [], false, spaceL rs⟩ r true = (⟨rs ++ [r], [], false, spaceL (rs ++ [r])⟩, 0) := by
  have hf : fitsB ⟨rs, [], false, spaceL rs⟩ r.length = true := decide_eq_true h
  unfold rapp
  rw [hf, spaceL_snoc]
  rfl
theorem rapp_no (rs : List (List UInt8)) (r : List UInt8) (h : spaceL rs + r.length + 16 + 256 ≤ 16777216) : rapp ⟨rs, [], false, spaceL rs⟩ r false = (⟨rs, [r], true, spaceL rs⟩, 70) := by
  have hf : fitsB ⟨rs, [], false, spaceL rs⟩ r.length = true := decide_eq_true h
  unfold rapp
  rw [hf]
  rfl
theorem opens_same (rs : List (List UInt8)) (R : RJ) (h : R.L = rs) : opensB R rs = true := by unfold opensB; rw [decide_eq_true h.symm]; rfl
theorem opens_more (rs : List (List UInt8)) (r : List UInt8) (n : Nat) : opensB ⟨rs, [r], true, n⟩ (rs ++ [r]) = true := by unfold opensB; simp

def PairRel (w : World) (rb : Nat) (l : List (List UInt8)) (wr : World) (d j e i : Value) : Prop :=
  ∃ (k jb b : Nat) (D : DiskM) (F : List UInt8) (rs : List (List UInt8)) (S Sr : List Nat), d = .pointer (some ⟨b, 0, none⟩) ∧ j = .pointer (some ⟨jb, 0, none⟩) ∧ e = .int .i64 0 ∧ i = .int .i64 (k : Int) ∧ k ≤ l.length ∧ k ≤ 20 ∧
    Pair w jb b rb k D F rs S Sr wr ∧ D.failing = false
def PairMid (w : World) (jb b rb k : Nat) (F : List UInt8) (rs : List (List UInt8)) (wx : World) : Prop := ∃ (D : DiskM) (S Sr : List Nat), Pair w jb b rb k D F rs S Sr wx

/-- The pair is born. -/
theorem pair_start {w w3 w4 : World} {jb b rb : Nat} {S Sr : List Nat} (st : JSt w w.heap.size jb b DiskM.empty.synced1.count [] [] S w3) (hr : RJAt w4 rb .empty Sr) (hu : Upd [] Sr w3 w4) : Pair w jb b rb 0 DiskM.empty.synced1.count [] [] S Sr w4 :=
  ⟨st.quiet hu, hr, hu.disj st.lt (by simp), hu.above (above_nil _) st.size, by decide, by simp, by simp [spaceL], by simp⟩

/-- After an Append that succeeded, with the model's. -/
theorem pair_on {w wr w5 w6 : World} {jb b rb k : Nat} {D D5 : DiskM} {F : List UInt8} {rs : List (List UInt8)} {r : List UInt8} {S S5 Sr Sr6 : List Nat} (h : Pair w jb b rb k D F rs S Sr wr)
    (st5 : JSt w w.heap.size jb b D5 (F ++ frameL r) (rs ++ [r]) S5 w5) (hu5 : Upd (jb :: S) (jb :: S5) wr w5) (hc : D5.calls ≤ D.calls + 4) (hr6 : RJAt w6 rb ⟨rs ++ [r], [], false, spaceL (rs ++ [r])⟩ Sr6) (hu6 : Upd Sr Sr6 w5 w6) (hrl : r.length ≤ 200) :
    Pair w jb b rb (k + 1) D5 (F ++ frameL r) (rs ++ [r]) S5 Sr6 w6 := by
  have href5 := h.ref.kept hu5 (fun x hx hm => h.dis x hm hx)
  have dis5 : ∀ x, x ∈ jb :: S5 → x ∉ Sr := fun x hx hm => by
    rcases hu5.new x hx with g | g
    · exact h.dis x g hm
    · have := h.ref.lt x hm; omega
  refine ⟨st5.other hu6 h.aboveR dis5, hr6, hu6.disj st5.lt dis5, hu6.above h.aboveR st5.size, by have := h.calls; omega, ?_, ?_, ?_⟩
  · have := h.many; simp; omega
  · have := h.space; rw [spaceL_snoc]; omega
  · intro s hs
    rcases List.mem_append.1 hs with g | g
    · exact h.lens s g
    · simp at g; rw [g]; exact hrl

/-- A slice value's block is of its foot. -/
theorem foot_at {v : Value} {T : List Nat} (h : ∀ x, x ∈ foot v → x ∉ T) : ∀ b off n cap, v = .slice (some ⟨b, off, none⟩) n cap → b ∉ T := fun b off n cap hv hm => h b (by rw [hv]; simp [foot, Value.ownBlock]) hm

/-- The journal is opened again, and the model told so. -/
theorem pair_open {w w8 w9 w10 : World} {jb b rb k : Nat} {D : DiskM} {F : List UInt8} {rs : List (List UInt8)} {v : Value} {S S9 Sr Sr10 : List Nat} (st9 : JSt w w.heap.size jb b D.synced1.count F rs S9 w9) (hu9 : Upd S (jb :: (foot v ++ S9)) w8 w9) (hlt : ∀ x, x ∈ Sr → x < w8.heap.size) (hdis : ∀ x, x ∈ Sr → x ∉ S) (hab : Above w.heap.size Sr)
    (hr : RJAt w10 rb ⟨rs, [], false, spaceL rs⟩ Sr10) (hu10 : Upd Sr Sr10 w9 w10) (hc : D.calls + 1 ≤ 10 + 6 * k) (hm : rs.length ≤ k) (hs : spaceL rs ≤ 216 * k) (hl : ∀ s, s ∈ rs → s.length ≤ 200) : Pair w jb b rb k D.synced1.count F rs S9 Sr10 w10 := by
  have d9 := hu9.disj hlt hdis
  have d9' : ∀ x, x ∈ jb :: S9 → x ∉ Sr := fun x hx hm => d9 x hm (by
    simp only [List.mem_cons, List.mem_append] at hx ⊢
    rcases hx with h | h
    · exact .inl h
    · exact .inr (.inr h))
  exact ⟨st9.other hu10 hab d9', hr, hu10.disj st9.lt d9', hu10.above hab st9.size, hc, hm, hs, hl⟩

/-- Append, when it is known to succeed. -/
theorem App_sure {w0 wp : World} {B jb b : Nat} {D : DiskM} {F : List UInt8} {rs : List (List UInt8)} {S : List Nat} (h : JSt w0 B jb b D F rs S wp) (r : ByteArray) (hc : D.calls + 4 ≤ 65536) (hfit : spaceL rs + r.size + 16 + 256 ≤ 16777216) (ho : (appendD D F (bs r)).2 = true) :
    Calls Try.prog 39 #[.pointer (some ⟨jb, 0, none⟩), .string r] wp (AppFine w0 B jb b D F rs (bs r) S wp) := by
  have h1 := h.fin
  have h2 := h.many
  refine (Append_go jb b _ D F S r wp h.j h.d h.jS h.clean.ok hc rfl rfl hfit h1 (by show rs.length ≤ _; omega)).mono ?_
  rintro e w' ⟨S', hjS, hd', hu, hcase⟩
  obtain ⟨l1, l2⟩ := append_law h.clean (bs r) (by rw [bs_length]; omega) hc
  obtain ⟨c1, c2, c3⟩ := appendD_calls D F (bs r)
  rcases hcase with ⟨_, rfl, hj⟩ | ⟨ho', _⟩
  · refine ⟨_, S', rfl, ⟨?_, hd', hjS, l1 ho, ?_, hu.above h.above h.size, hu.belowOf h.below h.above h.size, Nat.le_trans h.size hu.size⟩, hu, c2, c1⟩
    · rw [List.length_append, frameL_length, List.length_append, spaceL_snoc]
      exact hj
    · exact recs_snoc (bs r) (by rw [bs_length]; omega) F.length F rs (Nat.le_refl _) h.recs
  · rw [ho] at ho'; cases ho'

def AppFell (w0 : World) (B jb b : Nat) (D : DiskM) (F : List UInt8) (rs : List (List UInt8)) (r : List UInt8) (S : List Nat) (w : World) (e : Ending) (w' : World) : Prop :=
  ∃ D' S', e = .returned (.int .i64 70) ∧ JAt w' jb b ⟨F.length, rs.length, spaceL rs, true⟩ ∧ DiskAt w' b D' S' ∧ JMay D' F (F ++ frameL r) ∧ jb ∉ S' ∧ Above B (jb :: S') ∧ Below B w0 w' ∧ B ≤ w'.heap.size ∧ Upd (jb :: S) (jb :: S') w w' ∧ D'.failing = D.failing ∧ D'.calls ≤ D.calls + 4
/-- Append, when it is known to fail. -/
theorem App_fell {w0 wp : World} {B jb b : Nat} {D : DiskM} {F : List UInt8} {rs : List (List UInt8)} {S : List Nat} (h : JSt w0 B jb b D F rs S wp) (r : ByteArray) (hc : D.calls + 4 ≤ 65536) (hfit : spaceL rs + r.size + 16 + 256 ≤ 16777216) (ho : (appendD D F (bs r)).2 = false) :
    Calls Try.prog 39 #[.pointer (some ⟨jb, 0, none⟩), .string r] wp (AppFell w0 B jb b D F rs (bs r) S wp) := by
  have h1 := h.fin
  have h2 := h.many
  refine (Append_go jb b _ D F S r wp h.j h.d h.jS h.clean.ok hc rfl rfl hfit h1 (by show rs.length ≤ _; omega)).mono ?_
  rintro e w' ⟨S', hjS, hd', hu, hcase⟩
  obtain ⟨l1, l2⟩ := append_law h.clean (bs r) (by rw [bs_length]; omega) hc
  obtain ⟨c1, c2, c3⟩ := appendD_calls D F (bs r)
  rcases hcase with ⟨ho', _⟩ | ⟨_, rfl, hj⟩
  · rw [ho] at ho'; cases ho'
  · exact ⟨_, S', rfl, hj, hd', l2 ho, hjS, hu.above h.above h.size, hu.belowOf h.below h.above h.size, Nat.le_trans h.size hu.size, hu, c2, c1⟩

theorem str_inj {a b : ByteArray} (h : bs a = bs b) : a = b := Value.string.inj (by rw [← strV_bs, ← strV_bs, h])

set_option maxHeartbeats 3200000 in
theorem walk_JournalCrashes (vl : Value) (l : List (List UInt8)) (vf : Value) (fs : List Int) (vs : Value) (sv : List Int) (w : World) (hl : StrsAt w vl l) (hl2 : ∀ s ∈ l, s.length ≤ 9223372036854775807)
    (hf : NumsAt .u8 w vf fs) (hf2 : ∀ z ∈ fs, 0 ≤ z ∧ z ≤ 255) (hsv : IntsAt w vs sv) :
    Calls Try.prog 12 #[vl, vf, vs] w (TrueB w) := by
  obtain ⟨aol, capl, rfl, hcl, hml⟩ := hl.slice
  obtain ⟨aof, capf, rfl, hcf, hmf⟩ := hf.slice
  have HL2 := Lib.hid hl2
  have HF2 := Lib.hid hf2
  clear hl2 hf2
  go_enter Try.func12, Try.ntmps12
  go_wp2_with fail
  refine (sanity25 w).mono ?_
  rintro e w1 ⟨rfl, hb⟩
  go_wp2_with fail
  refine (New_to w1).mono ?_
  rintro e w2 ⟨bd, Sd, rfl, hd2, hu2⟩
  have d2 := start_disk hb hd2 hu2
  clear hb hd2 hu2
  go_wp2_with fail
  refine (Open_fine d2.at_ JClean.empty (recsL_nil [] rfl) rfl (by decide) d2.above d2.below d2.size).mono ?_
  rintro e w3 ⟨jb, v0, S3, rfl, st3, hv0, hu3, hn3⟩
  clear d2 hv0 hu3 hn3
  go_wp2_with fail
  refine (RJNew_any w3).mono ?_
  rintro e w4 ⟨rb, Sr, rfl, hr4, hu4⟩
  have p4 := pair_start st3 hr4 hu4
  clear st3 hr4 hu4
  go_wp2_with fail
  go_loopw [8, 9, 11, 13] (fun d j e i wr => PairRel w rb l wr d j e i) (fun _ _ _ i _ => 20 - (intOf i).toNat)
  case atStart => exact ⟨0, jb, bd, _, _, _, _, _, rfl, rfl, rfl, rfl, Nat.zero_le _, Nat.zero_le _, p4, rfl⟩
  case round =>
    clear p4
    obtain ⟨k, jb, bd, D, F, rs, S, Sr, rfl, rfl, rfl, rfl, hk, hk20, p, hff⟩ := hrel
    have HFF := Lib.hid hff
    clear hff
    by_cases hgo : k < l.length ∧ k < 20
    · obtain ⟨hkl, hk9⟩ := hgo
      obtain ⟨b, off, cap', s, hv, hs, hc, _, _⟩ := hl.at k hkl
      cases hv
      have hsl := HL2.out s (List.mem_of_getElem? hs)
      obtain ⟨y, hy⟩ : ∃ y : ByteArray, y = ⟨s.toArray⟩ := ⟨_, rfl⟩
      have hc' : w.cell? ⟨b, off + k, none⟩ = some (.string y) := by rw [hy]; exact hc
      have hbl : b < w.heap.size := World.block_lt_of_cell? _ _ hc'
      have hyl : y.size ≤ 9223372036854775807 := by rw [hy]; exact hsl
      have hcW : ∀ wx, Below w.heap.size w wx → wx.cell? ⟨b, off + k, none⟩ = some (.string y) := fun wx hx => (hx.cell (p := ⟨b, off + k, none⟩) hbl).trans hc'
      have HCW := Lib.hid hcW
      have hk0 : (0 : Int) ≤ (k : Int) := by omega
      have hk1 : (k : Int) < (l.length : Int) := by omega
      have hk2 : (k : Int) < 20 := by omega
      clear hc hs hy hc' hcW
      go_upto_if 46 with (fail)
      go_cut [] (fun wx => PairMid w jb bd rb k F rs wx)
      case first =>
        by_cases hf0 : fs.length = 0
        · have hfs : fs = [] := List.eq_nil_of_length_eq_zero hf0
          subst hfs
          clear hf0
          simp only [List.length_nil, Nat.lt_irrefl, decide_false]
          go_wp2_with fail
          go_meet
          exact ⟨D, S, Sr, p⟩
        · have hmod : k % fs.length < fs.length := Nat.mod_lt _ (by omega)
          obtain ⟨bf, off2, cap2, z, hv, hz, hcz, _, _⟩ := (hf.below p.st.below).at (k % fs.length) hmod
          cases hv
          obtain ⟨z0, z1⟩ := HF2.out z (List.mem_of_getElem? hz)
          have hfl : 0 < fs.length := by omega
          clear hz hf0
          generalize fs.length = nf at *
          go_wp2_with fail
          refine (Fail_any bd D S (z % 9) wr p.st.d).mono ?_
          rintro e w5 ⟨rfl, hd5, hu5⟩
          have p5 := p.disk hd5 hu5 (p.st.clean.fail _ (by omega)) rfl
          clear p hd5 hu5
          go_wp2_with fail
          go_meet
          exact ⟨_, _, _, p5⟩
      case rest =>
        obtain ⟨D1, S1, Sr1, p1⟩ := hcut
        clear p
        have c1 := HCW.out wc p1.st.below
        have sp1 := p1.space
        have mn1 := p1.many
        have ln1 := Lib.hid p1.lens
        go_wp2_with fail
        refine (short_any y wc hyl).mono ?_
        rintro e w' ⟨r, hr, rfl, rfl⟩
        have hrl : r.size ≤ 200 := by rw [← bs_length, hr.out]; exact shortL_length _
        clear c1
        go_wp2_with fail
        refine (App_may p1.st r (by have := p1.calls; omega) (by omega)).mono ?_
        rintro e w5 hpost
        rcases hpost with ⟨D5, S5, rfl, st5, hu5, f5, c5⟩ | ⟨D5, S5, rfl, hj5, hd5, hm5, hjS5, ha5, hb5, hz5, hu5, f5, c5⟩
        · have c5' := HCW.out w5 st5.below
          have href5 := p1.ref.kept hu5 (fun x hx hm => p1.dis x hm hx)
          go_wp2_with fail
          refine (short_any y w5 hyl).mono ?_
          rintro e w' ⟨r2, hr2, rfl, rfl⟩
          obtain rfl : r2 = r := str_inj (hr2.out.trans hr.out.symm)
          clear c5'
          go_wp2_with fail
          refine (RJAppend_any rb _ Sr1 r2 true w5 _ _ href5 (by show spaceL rs ≤ _; omega) (by omega) (by show rs.length ≤ _; omega) (by simp) (rapp_on rs (bs r2) (by rw [bs_length]; omega))).mono ?_
          rintro e w6 ⟨Sr6, rfl, hr6, hu6⟩
          have p6 := pair_on p1 st5 hu5 c5 hr6 hu6 (by rw [bs_length]; exact hrl)
          clear st5 hu5 c5 hr6 hu6 href5 p1 f5
          go_wp2_with fail
          refine (Fail_any bd D5 S5 (-1) w6 p6.st.d).mono ?_
          rintro e w7 ⟨rfl, hd7, hu7⟩
          have p7 := p6.disk hd7 hu7 (p6.st.clean.fail (-1) (by decide)) rfl
          clear p6 hd7 hu7
          go_wp2_with fail
          go_roundw
          case rel => exact ⟨k + 1, jb, bd, _, _, _, _, _, rfl, rfl, rfl, by go_num, by omega, by omega, p7, rfl⟩
          case measure => simp [intOf]; omega
        · have c5' := HCW.out w5 hb5
          have href5 := p1.ref.kept hu5 (fun x hx hm => p1.dis x hm hx)
          go_wp2_with fail
          refine (short_any y w5 hyl).mono ?_
          rintro e w' ⟨r2, hr2, rfl, rfl⟩
          obtain rfl : r2 = r := str_inj (hr2.out.trans hr.out.symm)
          clear c5'
          go_wp2_with fail
          refine (RJAppend_any rb _ Sr1 r2 false w5 _ _ href5 (by show spaceL rs ≤ _; omega) (by omega) (by show rs.length ≤ _; omega) (by simp) (rapp_no rs (bs r2) (by rw [bs_length]; omega))).mono ?_
          rintro e w6 ⟨Sr6, rfl, hr6, hu6⟩
          have dis5 : ∀ x, x ∈ jb :: S5 → x ∉ Sr1 := fun x hx hm => by
            rcases hu5.new x hx with g | g
            · exact p1.dis x g hm
            · have := p1.ref.lt x hm; omega
          have lt5 : ∀ x, x ∈ jb :: S5 → x < w5.heap.size := fun x hx => by
            rcases List.mem_cons.1 hx with rfl | hx
            · exact hj5.lt
            · exact hd5.lt x hx
          have hj6 := hj5.kept hu6 (dis5 jb (by simp))
          have hd6 := hd5.kept hu6 (fun x hx => dis5 x (by simp [hx]))
          have hb6 := hu6.belowOf hb5 p1.aboveR hz5
          have hz6 := Nat.le_trans hz5 hu6.size
          have dis6 := hu6.disj lt5 dis5
          have ar6 := hu6.above p1.aboveR hz5
          have rec6 := p1.st.recs
          have hjA : JAt w6.drew jb bd ⟨F.length, rs.length, spaceL rs, true⟩ := hj6.same rfl
          obtain ⟨vl6, vm6, hi6, hSr6⟩ := hr6.is
          have cL6 : w6.cell? ⟨rb, 0, none⟩ = some vl6 := cell_of_row _ rb 0 _ _ _ hi6.1
          obtain ⟨aoL, capL, hvL, _, _⟩ := row_slice hi6.2.1
          have hvL' : vl6 = .slice aoL rs.length capL := hvL
          subst hvL'
          have hbL : rb < w6.heap.size := World.block_lt_of_cell? _ _ cL6
          have HR6 := Lib.hid hr6
          have REC6 := Lib.hid rec6
          have HM5 := Lib.hid hm5
          clear dis5 lt5 hj5 hd5 hb5 hz5 hu5 hu6 p1 href5 hi6 hSr6 hvL hj6 hr6 rec6 hm5
          go_wp2_with fail
          go_region_held3 (fun wp => wp.cell? ⟨rb, 0, none⟩ = some (.slice aoL rs.length capL)) (first | assumption | go_keep)
            (first
              | (go_at_call 39; ((with_reducible refine (Append_broken jb bd _ _ _ hjA rfl).mono ?_); rintro e w7 ⟨rfl, hu7⟩; have cL7 : w7.cell? ⟨rb, 0, none⟩ = some (.slice aoL rs.length capL) := (hu7.cell (p := ⟨rb, 0, none⟩) (by simpa using hbL) (by simp)).trans cL6; have hj7 := hjA.kept hu7 (by simp)))
              | (go_at_call 42; ((with_reducible refine (Many_any jb bd _ _ hj7).mono ?_); rintro e wq ⟨rfl, rfl⟩)))
          have hu7' : Upd [] [] w6 w7 := Upd.trans (Upd.refl _ _).drew hu7
          have hd7 := hd6.kept hu7' (by simp)
          have hr7 := HR6.out.kept hu7' (by simp)
          have hb7 := hu7'.belowOf hb6 (above_nil _) hz6
          have hz7 := Nat.le_trans hz6 hu7'.size
          have hs7 := hsv.below hb7
          have hcr := Crash_to bd D5 S5 vs sv w7 hd7 hs7 HM5.out.ok
          have HCR := Lib.hid hcr
          clear hu7 hu7' hd6 hb6 hz6 hjA hj7 cL6 cL7 hcr
          go_wp2_with fail
          refine HCR.out.mono ?_
          rintro e w8 ⟨bc, Sc, rfl, hc8, hu8⟩
          have hr8 := hr7.kept hu8 (by simp)
          have dr8 := hu8.disj hr7.lt (by simp)
          have ac8 := hu8.above (above_nil _) hz7
          have hb8 := hu8.belowOf hb7 (above_nil _) hz7
          have hz8 := Nat.le_trans hz7 hu8.size
          have ar8 := ar6
          clear hd7 hr7 hb7 hz7 hs7 HCR hu8
          have hrb : (bs r2).length ≤ 200 := by rw [bs_length]; exact hrl
          rcases HM5.out.crashed sv with hcl | hcl
          · have hl1 : ∀ s, s ∈ rs → s.length ≤ 16777216 := fun s hs => Nat.le_trans (ln1.out s hs) (by omega)
            have HL1 := Lib.hid hl1
            clear hl1
            go_wp2_with fail
            refine (Open_fine (w0 := w) (B := w.heap.size) hc8 hcl REC6.out rfl (by show 0 < 65536; decide) ac8 hb8 hz8).mono ?_
            rintro e w9 ⟨jc, v9, S9, rfl, st9, hv9, hu9, hn9⟩
            have hr9 := hr8.kept hu9 dr8
            have dv9 := hu9.disj hr8.lt dr8
            have nv9 : ∀ x, x ∈ foot v9 → x ∉ Sr6 := fun x hx hm => dv9 x hm (by simp [hx])
            have hop := Opens_any rb _ Sr6 v9 _ w9 true hr9 hv9.strs (foot_at nv9) (by omega) (by show rs.length ≤ _; omega) (by simp) HL1.out (opens_same rs _ rfl)
            have HOP := Lib.hid hop
            clear hop hcl
            go_wp2_with fail
            refine HOP.out.mono ?_
            rintro e w10 ⟨Sr10, rfl, hr10, hu10⟩
            have p10 := pair_open (k := k + 1) st9 hu9 hr8.lt dr8 ar8 hr10 hu10 (by show 0 + 1 ≤ _; omega) (by omega) (by omega) ln1.out
            clear st9 hu9 hr8 hr9 hr10 hu10 hv9 nv9 dv9 hn9 HOP
            go_wp2_with fail
            go_roundw
            case rel => exact ⟨k + 1, jc, bc, _, _, _, _, _, rfl, rfl, rfl, by go_num, by omega, by omega, p10, rfl⟩
            case measure => simp [intOf]; omega
          · have hl0 : ∀ s, s ∈ rs ++ [bs r2] → s.length ≤ 200 := fun s hs => by
              rcases List.mem_append.1 hs with g | g
              · exact ln1.out s g
              · simp at g; rw [g]; exact hrb
            have hl1 : ∀ s, s ∈ rs ++ [bs r2] → s.length ≤ 16777216 := fun s hs => Nat.le_trans (hl0 s hs) (by omega)
            have HL0 := Lib.hid hl0
            have HL1 := Lib.hid hl1
            have hrec2 : recsL (F ++ frameL (bs r2)) = (rs ++ [bs r2], true) := recs_snoc (bs r2) (by omega) F.length F rs (Nat.le_refl _) REC6.out
            have HREC2 := Lib.hid hrec2
            clear hl0 hl1 hrec2
            go_wp2_with fail
            refine (Open_fine (w0 := w) (B := w.heap.size) hc8 hcl HREC2.out rfl (by show 0 < 65536; decide) ac8 hb8 hz8).mono ?_
            rintro e w9 ⟨jc, v9, S9, rfl, st9, hv9, hu9, hn9⟩
            have hr9 := hr8.kept hu9 dr8
            have dv9 := hu9.disj hr8.lt dr8
            have nv9 : ∀ x, x ∈ foot v9 → x ∉ Sr6 := fun x hx hm => dv9 x hm (by simp [hx])
            have hop := Opens_any rb _ Sr6 v9 _ w9 true hr9 hv9.strs (foot_at nv9) (by simp; omega) (by show rs.length ≤ _; omega) (by simp) HL1.out (opens_more rs (bs r2) _)
            have HOP := Lib.hid hop
            clear hop hcl
            go_wp2_with fail
            refine HOP.out.mono ?_
            rintro e w10 ⟨Sr10, rfl, hr10, hu10⟩
            have p10 := pair_open (k := k + 1) st9 hu9 hr8.lt dr8 ar8 hr10 hu10 (by show 0 + 1 ≤ _; omega) (by simp; omega) (by rw [spaceL_snoc]; omega) HL0.out
            clear st9 hu9 hr8 hr9 hr10 hu10 hv9 nv9 dv9 hn9 HOP
            go_wp2_with fail
            go_roundw
            case rel => exact ⟨k + 1, jc, bc, _, _, _, _, _, rfl, rfl, rfl, by go_num, by omega, by omega, p10, rfl⟩
            case measure => simp [intOf]; omega
    · have hcase : ¬ k < l.length ∨ (20 < l.length ∧ k = 20) := by omega
      have hs1 := hsv.below p.st.below
      have cal := p.calls
      clear hgo
      obtain ⟨vl6, vm6, hi6, hSr6⟩ := p.ref.is
      have cL6 : wr.cell? ⟨rb, 0, none⟩ = some vl6 := cell_of_row _ rb 0 _ _ _ hi6.1
      obtain ⟨aoL, capL, hvL, _, _⟩ := row_slice hi6.2.1
      have hvL' : vl6 = .slice aoL rs.length capL := hvL
      subst hvL'
      have hrow : StrRow wr (.slice aoL rs.length capL) rs := hi6.2.1
      have hbL : rb < wr.heap.size := World.block_lt_of_cell? _ _ cL6
      have HCR := Lib.hid (Crash_to bd D S vs sv wr p.st.d hs1 p.st.clean.ok)
      have HP := Lib.hid p
      clear p hi6 hSr6 hvL hs1
      rcases hcase with hc1 | ⟨hc1, rfl⟩
      all_goals
        have HK := Lib.hid hk20
        clear hk20
        go_wp2_with fail
        refine HCR.out.mono ?_
        rintro e w8 ⟨bc, Sc, rfl, hc8, hu8⟩
        have st8 := HP.out.st.quiet hu8
        have ac8 := hu8.above (above_nil _) HP.out.st.size
        have hrow8 := hrow.kept hu8 (by simp)
        have drow8 := hu8.disj hrow.lt (by simp)
        have cL8 : w8.cell? ⟨rb, 0, none⟩ = some (.slice aoL rs.length capL) := (hu8.cell (p := ⟨rb, 0, none⟩) hbL (by simp)).trans cL6
        have drb8 : rb ∉ Sc := fun m => by rcases hu8.new rb m with g | g; (simp at g); omega
        have hbL8 : rb < w8.heap.size := Nat.lt_of_lt_of_le hbL hu8.size
        clear hu8 cL6
        go_wp2_with fail
        refine (Open_fine (w0 := w) (B := w.heap.size) hc8 (st8.clean.crashed sv) st8.recs rfl (by show 0 < 65536; decide) ac8 st8.below st8.size).mono ?_
        rintro e w9 ⟨jc, v9, S9, rfl, st9, hv9, hu9, hn9⟩
        have hrow9 := hrow8.kept hu9 drow8
        have cL9 : w9.cell? ⟨rb, 0, none⟩ = some (.slice aoL rs.length capL) := (hu9.cell (p := ⟨rb, 0, none⟩) hbL8 drb8).trans cL8
        have b9 := st9.below
        have hq := Same_any v9 _ rs rs w9 hv9.strs hrow9.strs
        rw [decide_eq_true rfl] at hq
        have HQ := Lib.hid hq
        clear st8 st9 hu9 hn9 hrow8 drow8 cL8 ac8 hc8 hq hrow9 hv9
        go_wp2_with fail
        refine HQ.out.mono ?_
        rintro e w' ⟨n, rfl, rfl⟩
        go_wp2_with fail
        go_ret
        exact ⟨rfl, below_drewN b9 n⟩
end Go.Proofs.Ytbpbmigdfjnneaa
