/- DiskSynced returns true: the walk. -/
import Derived.Test.YtbpbmigdfjnneaaLawB
namespace Go.Proofs.Ytbpbmigdfjnneaa
open Go.RowKit
set_option maxRecDepth 100000

theorem putL_take (c : List UInt8) (off n : Nat) (s : List UInt8) (h1 : n ≤ off) (h2 : n ≤ c.length) : (putL c off s).take n = c.take n := by
  unfold putL
  rw [List.append_assoc, List.take_append, List.take_take, List.take_append]
  have e1 : n - c.length = 0 := by omega
  have e2 : min n off = n := by omega
  rw [e2]
  have e3 : n - ((c ++ List.replicate (off + s.length - c.length) 0).take off).length = 0 := by simp; omega
  rw [e3, List.take_zero, List.append_nil, e1, List.take_zero, List.append_nil]
theorem crashF_take_eq (sv : List Int) (n : Nat) : ∀ (ps : List (Nat × List UInt8)) (k : Nat) (c : List UInt8), (∀ p, p ∈ ps → n ≤ p.1) → n ≤ c.length → (crashF sv k ps c).take n = c.take n ∧ n ≤ (crashF sv k ps c).length
  | [], _, c, _, h => ⟨rfl, h⟩
  | p :: ps, k, c, hp, h => by
    simp only [crashF]
    have hc : (if survives sv k then putL c p.1 p.2 else c).take n = c.take n ∧ n ≤ (if survives sv k then putL c p.1 p.2 else c).length := by
      split
      · exact ⟨putL_take c p.1 n p.2 (hp p (by simp)) h, by rw [putL_length]; omega⟩
      · exact ⟨rfl, h⟩
    obtain ⟨g1, g2⟩ := crashF_take_eq sv n ps (k + 1) _ (fun q hq => hp q (by simp [hq])) hc.2
    exact ⟨g1.trans hc.1, g2⟩
theorem partsL_ge (n : Nat) : ∀ (off : Nat) (s : List UInt8), s.length ≤ n → ∀ p, p ∈ partsL off s → off ≤ p.1 := by
  induction n with
  | zero => intro off s h; have : s = [] := List.eq_nil_of_length_eq_zero (by omega); subst this; simp [partsL_nil]
  | succ n ih =>
    intro off s h p hp
    by_cases h0 : s = []
    · subst h0; simp [partsL_nil] at hp
    · have hl : 0 < s.length := List.length_pos_iff.2 h0
      have hmm : off % 64 < 64 := Nat.mod_lt _ (by omega)
      rw [partsL_step off s h0] at hp
      rcases List.mem_cons.1 hp with rfl | hp
      · exact Nat.le_refl _
      · exact Nat.le_trans (by omega) (ih _ _ (by simp; omega) p hp)
theorem readL_take (a b : List UInt8) (n : Nat) (h1 : n ≤ a.length) (h2 : n ≤ b.length) (h : a.take n = b.take n) : readL a 0 (n : Int) = readL b 0 (n : Int) := by
  unfold readL
  by_cases h0 : n = 0
  · subst h0; simp
  · rw [if_neg (by omega), if_neg (by omega)]
    simpa using h
theorem writeS_now (D : DiskM) (off : Int) (s : List UInt8) : (D.writeS off s).now.length ≤ max D.now.length (off.toNat + s.length) := by
  unfold DiskM.writeS; split
  · omega
  · split
    · omega
    · show (putL D.now off.toNat s).length ≤ _; rw [putL_length]; omega

/-- What is synced survives. -/
theorem synced_law {D : DiskM} {M : RefM} (h : Rel D M) (hf : D.failing = false) (k : Nat) (s : List UInt8) (sv : List Int) (hs : D.now.length + k + s.length ≤ 16777216) :
    readL ((D.syncS.writeS ((D.now.length : Int) + (k : Int)) s).crash sv).now 0 (D.now.length : Int) = readL D.now 0 (D.now.length : Int) := by
  have f1 : D.syncS.failing = false := (syncS_calls D).2.trans hf
  rw [writeS_good (by omega) (by omega) f1, syncS_good hf]
  have e0 : ((D.now.length : Int) + (k : Int)).toNat = D.now.length + k := by omega
  rw [e0]
  have key := crashF_take_eq sv D.now.length (partsL (D.now.length + k) s) 0 D.now (fun p hp => Nat.le_trans (by omega) (partsL_ge s.length _ s (Nat.le_refl _) p hp)) (Nat.le_refl _)
  have e1 : ((D.synced1.count.wrote (D.now.length + k) s).count.crash sv).now = crashF sv 0 (partsL (D.now.length + k) s) D.now := by
    show crashF sv 0 ([] ++ partsL (D.now.length + k) s) (putL (putParts D.synced D.parts) D.now.length []) = _
    rw [h.inv]; rfl
  rw [e1]
  exact readL_take _ _ _ key.2 (Nat.le_refl _) key.1

theorem arr_cells {w W w' : World} {t0 t1 : Int} (hW : W = w.alloc (.cells #[.int .i64 t0, .int .i64 t1] 40)) (hb : Below W.heap.size W w') :
    w'.cell? ⟨w.heap.size, 0, none⟩ = some (.int .i64 t0) ∧ w'.cell? ⟨w.heap.size, 1, none⟩ = some (.int .i64 t1) := by
  have hX : w.heap.size < W.heap.size := by rw [hW]; simp
  exact ⟨(hb.cell (p := ⟨w.heap.size, 0, none⟩) hX).trans (by rw [hW]; simp), (hb.cell (p := ⟨w.heap.size, 1, none⟩) hX).trans (by rw [hW]; simp)⟩
theorem ActsAt.below {w w' : World} {v : Value} {l : List ActM} (h : ActsAt w v l) (hb : Below w.heap.size w w') : ActsAt w' v l := by
  obtain ⟨cap, h1, h2, h3, h4 | ⟨b, off, rfl, hc⟩⟩ := h
  · exact ⟨cap, h1, h2, h3, .inl h4⟩
  · refine ⟨cap, h1, h2, h3, .inr ⟨b, off, rfl, fun j a hj => ?_⟩⟩
    obtain ⟨q0, q1, q2, q3⟩ := hc j a hj
    have hl := World.block_lt_of_cell? _ _ q0
    exact ⟨(hb.cell (p := ⟨b, off + j * 4, none⟩) hl).trans q0, (hb.cell (p := ⟨b, off + j * 4 + 1, none⟩) hl).trans q1, (hb.cell (p := ⟨b, off + j * 4 + 2, none⟩) hl).trans q2, (hb.cell (p := ⟨b, off + j * 4 + 3, none⟩) hl).trans q3⟩

set_option maxHeartbeats 3200000 in
theorem walk_DiskSynced (vl : Value) (l : List ActM) (t0 t1 : Int) (vq : Value) (zq : List Int) (w : World) (hl0 : ActsAt w vl l) (_ht1 : -9223372036854775808 ≤ t0) (_ht2 : t0 ≤ 9223372036854775807) (_ht3 : -9223372036854775808 ≤ t1) (_ht4 : t1 ≤ 9223372036854775807) (hq : IntsAt w vq zq) :
    Calls Try.prog 5 #[vl, .agg #[.int .i64 t0, .int .i64 t1], vq] w (TrueB w) := by
  obtain ⟨m0, hm0⟩ : ∃ m : Nat, (m : Int) = t0 % 100 := ⟨(t0 % 100).toNat, by omega⟩
  obtain ⟨m1, hm1⟩ : ∃ m : Nat, (m : Int) = t1 % 150 := ⟨(t1 % 150).toNat, by omega⟩
  have b0 : m0 < 100 := by omega
  have b1 : m1 < 150 := by omega
  have HM0 := Lib.hid hm0
  have HM1 := Lib.hid hm1
  clear hm0 hm1
  obtain ⟨W, hW⟩ : ∃ W, W = w.alloc (.cells #[.int .i64 t0, .int .i64 t1] 40) := ⟨_, rfl⟩
  have hq1 : IntsAt W vq zq := by rw [hW]; exact hq.alloc _
  have hl : ActsAt W vl l := by rw [hW]; exact hl0.below ((Below.refl w.heap.size w).alloc (Nat.le_refl _) _)
  have fin : ∀ w', Below W.heap.size W w' → Below w.heap.size w w' := fun w' h => by rw [hW] at h; exact below_fore h
  have HW := Lib.hid hW
  have FIN := Lib.hid fin
  clear hW hq hl0 fin
  obtain ⟨cap, hcap, hlc, hok, hl⟩ := hl
  have hcap2 : cap ≤ 9223372036854775807 := hcap
  clear hcap
  obtain ⟨ao, rfl⟩ : ∃ ao, vl = .slice ao l.length cap := by
    rcases hl with ⟨h0, ao, rfl⟩ | ⟨b, off, rfl, _⟩
    · exact ⟨ao, by rw [h0]; rfl⟩
    · exact ⟨_, rfl⟩
  go_enter Try.func5, Try.ntmps5
  go_wp2_with fail
  rw [← HW.out]
  go_wp2_with fail
  refine (sanity24 W).mono ?_
  rintro e w1 ⟨rfl, hb⟩
  go_wp2_with fail
  refine (New_to w1).mono ?_
  rintro e w2 ⟨bd, Sd, rfl, hd2, hu2⟩
  go_wp2_with fail
  refine (RNew_to w2).mono ?_
  rintro e w3 ⟨bm, Sm, rfl, hm3, hu3⟩
  have hx := start_desk hb hd2 hu2 hm3 hu3
  have c0 : (w3.alloc (.cells #[.pointer (some ⟨bd, 0, none⟩), .pointer (some ⟨bm, 0, none⟩)] 31)).cell? ⟨w3.heap.size, 0, none⟩ = some (.pointer (some ⟨bd, 0, none⟩)) := by simp
  clear hb hd2 hu2 hm3 hu3
  go_wp2_with fail
  generalize w3.alloc (.cells #[.pointer (some ⟨bd, 0, none⟩), .pointer (some ⟨bm, 0, none⟩)] 31) = w4 at *
  generalize w3.heap.size = x at *
  generalize x :: (Sd ++ Sm) = Sx at *
  clear c0
  go_loopw [9] (fun i wr => ∃ (k : Nat) (D : DiskM) (M : RefM) (S : List Nat), i = .int .i64 (k : Int) ∧ k ≤ l.length ∧ k ≤ 10 ∧ D.calls ≤ k ∧ D.now.length ≤ 1000 ∧ Hid (D.failing = false) ∧ DeskOk W W.heap.size x D M S wr) (fun i _ => l.length - (intOf i).toNat)
  case atStart => exact ⟨0, .empty, .empty, Sx, rfl, Nat.zero_le _, Nat.zero_le _, Nat.le_refl _, by decide, rfl, hx⟩
  case round =>
    obtain ⟨k, D, M, S, rfl, hk1, hk2, hdc, hnl, HF, hx⟩ := hrel
    by_cases hin : k < l.length ∧ k < 10
    · obtain ⟨hlt, h20⟩ := hin
      rcases hl with ⟨h0, _⟩ | ⟨bl, offl, hv, hcell⟩
      · rw [h0] at hlt; simp at hlt
      · simp only [Value.slice.injEq] at hv
        obtain ⟨rfl, _, _⟩ := hv
        obtain ⟨a, hak⟩ : ∃ a, l[k]? = some a := ⟨_, List.getElem?_eq_getElem hlt⟩
        obtain ⟨q0', q1', q2', q3'⟩ := hcell k a hak
        have aok := hok a (List.mem_of_getElem? hak)
        have hbl := World.block_lt_of_cell? _ _ q0'
        have q1 := (hx.below.cell (p := ⟨bl, offl + k * 4 + 1, none⟩) hbl).trans q1'
        have q2 := (hx.below.cell (p := ⟨bl, offl + k * 4 + 2, none⟩) hbl).trans q2'
        have q3 := (hx.below.cell (p := ⟨bl, offl + k * 4 + 3, none⟩) hbl).trans q3'
        clear q0' q1' q2' q3' hak
        obtain ⟨kind, off, n, text⟩ := a
        obtain ⟨_, _, o1, o2, n1, n2, t1⟩ := aok
        simp only at q1 q2 q3 o1 o2 n1 n2 t1
        have g1 : off.tmod 4 < 4 := Int.tmod_lt_of_pos off (by omega)
        have g2 : -4 < off.tmod 4 := Int.lt_tmod_of_pos off (by omega)
        go_wp2_with fail
        go_still_tail 18, (by kernel_rfl)
        go_wp2_with fail
        have hxA := hx.drew
        refine (do_write x D M S 0 (off.tmod 4) n text _ hxA.at_ hxA.rel (by omega) (by decide) (by omega) (by omega) t1).mono ?_
        rintro e w5 ⟨S', rfl, hd5, hu5⟩
        have hx5 := hxA.step hd5 hu5 (hxA.rel.writeS (by omega) _ _)
        have wc := writeS_calls D (whereL (off.tmod 4)) (longL (bs text) n)
        have wn := writeS_now D (whereL (off.tmod 4)) (longL (bs text) n)
        have wl := longL_length (bs text) n
        have ww : (whereL (off.tmod 4)).toNat ≤ 300 := by unfold whereL; split <;> omega
        have HF2 := Lib.hid (wc.2.trans HF.out)
        have wc1 := wc.1
        clear hx hxA hd5 hu5 q1 q2 q3 wc
        generalize D.writeS (whereL (off.tmod 4)) (longL (bs text) n) = D' at *
        generalize M.writeS (whereL (off.tmod 4)) (longL (bs text) n) = M' at *
        go_wp2_with fail
        go_roundw
        case rel => exact ⟨k + 1, D', M', S', by go_num, by omega, by omega, by omega, by omega, HF2.out, hx5⟩
        case measure => simp [intOf]; omega
    · have hout : l.length ≤ k ∨ (k < l.length ∧ 10 ≤ k) := by omega
      clear hin hl hok
      obtain ⟨bd', bm', Sd', Sm', hdi, rfl⟩ := hx.at_
      have hrel := hx.rel
      have dx : DiskOk W W.heap.size bd' D Sd' wr := ⟨hdi.dat, fun k hk => hx.above k (by simp [hk]), hx.below, hx.size⟩
      obtain ⟨c0, c1⟩ := hdi.cells
      have hxl := blk_lt hdi.1
      have hxS := hdi.2.2.2.1
      have okD := hrel.ok
      clear hdi hx
      have f1 : D.syncS.failing = false ∧ D.syncS.calls ≤ 11 ∧ D.syncS.ok := ⟨(syncS_calls D).2.trans HF.out, Nat.le_trans (syncS_calls D).1 (by omega), syncS_ok okD (by omega)⟩
      have n1 : D.syncS.now = D.now := by rw [syncS_good HF.out]; rfl
      rcases hout with ho1 | ⟨ho1, ho2⟩
      all_goals
        go_wp2_with fail
        refine (Sync_to bd' D Sd' wr 0 dx.at_ okD (by omega) (sync_no HF.out)).mono ?_
        rintro e w5 ⟨S5, rfl, hd5, hu5⟩
        have d5 := dx.step hd5 hu5
        have e0 := (hu5.cell (p := ⟨x, 0, none⟩) hxl hxS).trans c0
        have hx5 : x ∉ S5 := fun h => by rcases hu5.new x h with h | h; exact hxS h; omega
        clear hd5 hu5 c0 c1 dx
        go_wp2_with fail
        refine (Size_to bd' D.syncS S5 w5 D.now.length d5.at_ (by rw [n1])).mono ?_
        rintro e w' ⟨rfl, rfl⟩
        go_wp2_with fail
        refine (Read_str bd' D.syncS S5 0 D.now.length w5 d5.at_ (by rw [n1]; omega)).mono ?_
        rintro e w' ⟨r1, hr1, rfl, rfl⟩
        rw [n1] at hr1
        obtain ⟨e1, e2⟩ := arr_cells HW.out d5.below
        go_wp2_with fail
        have dA : DiskOk W W.heap.size bd' D.syncS S5 w5.drew := d5.quiet (Upd.refl [] w5).drew
        have i1 : IntKind.i64.wrap ((D.now.length : Int) + (m0 : Int)) = (D.now.length : Int) + (m0 : Int) := IntWalk.i64_in _ (by omega)
        have hxx : x < w5.heap.size := World.block_lt_of_cell? _ _ e0
        have hxy : w.heap.size < w5.heap.size := World.block_lt_of_cell? _ _ e1
        have kA : w5.drew.cell? ⟨x, 0, none⟩ = some (.pointer (some ⟨bd', 0, none⟩)) ∧ w5.drew.cell? ⟨w.heap.size, 0, none⟩ = some (.int .i64 t0) ∧ w5.drew.cell? ⟨w.heap.size, 1, none⟩ = some (.int .i64 t1) := ⟨e0, e1, e2⟩
        have fresh5 : x ∉ S5 := hx5
        have fresh6 : w.heap.size ∉ S5 := fun h => by have h1 := d5.above _ h; rw [HW.out] at h1; simp at h1; omega
        go_region_held3 (fun wp => wp.cell? ⟨x, 0, none⟩ = some (.pointer (some ⟨bd', 0, none⟩)) ∧ wp.cell? ⟨w.heap.size, 0, none⟩ = some (.int .i64 t0) ∧ wp.cell? ⟨w.heap.size, 1, none⟩ = some (.int .i64 t1)) (first | exact kA | assumption)
          (first
            | (go_at_call 20; ((with_reducible refine (Mod_any t0 100 _ (by omega) (by omega)).mono ?_); rintro e wq ⟨rfl, rfl⟩; rw [← HM0.out]))
            | (go_at_call 20; ((with_reducible refine (Mod_any t1 150 _ (by omega) (by omega)).mono ?_); rintro e wq ⟨rfl, rfl⟩; rw [← HM1.out]))
            | (go_at_call 26; ((with_reducible refine (repeated_any 121 121 (by decide) m1 _ (by omega)).mono ?_); rintro e w6 ⟨r6, hr6, rfl, hu6⟩; have d6 := dA.quiet hu6; have k6 : w6.cell? ⟨x, 0, none⟩ = some (.pointer (some ⟨bd', 0, none⟩)) ∧ w6.cell? ⟨w.heap.size, 0, none⟩ = some (.int .i64 t0) ∧ w6.cell? ⟨w.heap.size, 1, none⟩ = some (.int .i64 t1) := ⟨(hu6.cell (p := ⟨x, 0, none⟩) hxx (by simp)).trans kA.1, (hu6.cell (p := ⟨w.heap.size, 0, none⟩) hxy (by simp)).trans kA.2.1, (hu6.cell (p := ⟨w.heap.size, 1, none⟩) hxy (by simp)).trans kA.2.2⟩))
            | (go_at_call 27; ((with_reducible refine (Write_to bd' D.syncS S5 ((D.now.length : Int) + (m0 : Int)) r6 _ 0 _ d6.at_ f1.2.2 (by omega) (by rw [← bs_length, hr6.out]; simp; omega) (errR_no (by omega) (by rw [hr6.out]; simp; omega) f1.1) rfl).mono ?_); rintro e w7 ⟨S7, rfl, hd7, hu7⟩; have d7 := d6.step hd7 hu7; have k7 : w7.cell? ⟨x, 0, none⟩ = some (.pointer (some ⟨bd', 0, none⟩)) ∧ w7.cell? ⟨w.heap.size, 0, none⟩ = some (.int .i64 t0) ∧ w7.cell? ⟨w.heap.size, 1, none⟩ = some (.int .i64 t1) := ⟨(hu7.cell (p := ⟨x, 0, none⟩) (Nat.lt_of_lt_of_le hxx hu6.size) fresh5).trans k6.1, (hu7.cell (p := ⟨w.heap.size, 0, none⟩) (Nat.lt_of_lt_of_le hxy hu6.size) fresh6).trans k6.2.1, (hu7.cell (p := ⟨w.heap.size, 1, none⟩) (Nat.lt_of_lt_of_le hxy hu6.size) fresh6).trans k6.2.2⟩)))
        have c7 := k7.1
        rw [hr6.out] at d7
        have law := synced_law hrel HF.out m0 (List.replicate m1 121) zq (by simp; omega)
        have HLAW := Lib.hid law
        have ok7 : (D.syncS.writeS ((D.now.length : Int) + (m0 : Int)) (List.replicate m1 121)).ok := writeS_ok f1.2.2 (by omega) _ _
        clear law kA k6 k7 i1 e0 e1 e2 d5 dA d6 hu6 hd7 hu7 hr6
        generalize hD7 : D.syncS.writeS ((D.now.length : Int) + (m0 : Int)) (List.replicate m1 121) = D7 at *
        clear hD7
        go_wp2_with fail
        refine (Crash_to bd' D7 S7 vq zq w7 d7.at_ (hq1.below d7.below) ok7).mono ?_
        rintro e w8 ⟨b8, S8, rfl, hd8, hu8⟩
        have d8 := d7.born hd8 hu8
        clear hd8 hu8 c7
        go_wp2_with fail
        refine (Read_str b8 _ S8 0 D.now.length w8 d8.at_ (by have := (ok7.crash zq).now; omega)).mono ?_
        rintro e w' ⟨r8, hr8, rfl, rfl⟩
        rw [HLAW.out] at hr8
        have hk := eq_toList hr8 hr1
        go_wp2_with fail
        go_ret
        exact ⟨rfl, FIN.out _ d8.below⟩
end Go.Proofs.Ytbpbmigdfjnneaa
