/- equal.Text, equal.Read; sorteslaw06.sanity. -/
import Derived.Test.YtkhodajdionaaaaGreatDoorEqD
import Derived.Test.YtkhodajdionaaaaGreatDoorSanS
namespace Go.Proofs.YtkhodajdionaaaaGreatDoor
open Go.RowKit
set_option maxRecDepth 100000

set_option maxHeartbeats 1000000 in
theorem etext_any (r s : Int) (w : World) (hr : i64in r) (hs : i64in s) (htab : Tabs w) : Calls Tryz.prog 31 #[.agg #[.int .i64 r, .int .i64 s]] w (MkS (pairL r s) w) := by
  have h1 := ProofAt.start w r s
  have h4 := h1.upd (Upd.refl _ _).drew
  have k4 := h4.cells
  have hlr := itoa_len r hr
  have hls := itoa_len s hs
  go_enter Tryz.func31, Tryz.ntmps31
  go_wp2_with fail
  clear h1
  go_region_held3 (fun wp => wp.cell? ⟨w.heap.size, 0, none⟩ = some (.int .i64 r) ∧ wp.cell? ⟨w.heap.size, 1, none⟩ = some (.int .i64 s)) (first | exact k4 | assumption)
    (first
      | (go_at_call 66; ((with_reducible refine (itoa_any r _ hr (htab.upd h4.up)).mono ?_); rintro e wq ⟨y1, HY1, hy1, rfl, hq⟩; have t1 : ¬ 9223372036854775807 < y1.size + 1 := (by omega); have g1 := h4.upd hq; have kq := g1.cells; clear hq))
      | (go_at_call 66; ((with_reducible refine (itoa_any s _ hs (htab.upd g1.up)).mono ?_); rintro e wq ⟨y2, HY2, hy2, rfl, hq⟩; have t2 : ¬ 9223372036854775807 < y1.size + 1 + y2.size := (by omega); have g2 := g1.upd hq; have kq := g2.cells; clear hq)))
  go_wp2_with fail
  go_ret
  refine ⟨_, ?_, ?_, rfl, g2.up⟩
  · show _ = _
    rw [bs_append, bs_append, HY1.out, HY2.out]
    rfl
  · have e1 := bs_size HY1.out
    have e2 := bs_size HY2.out
    have e3 : (ByteArray.mk #[46]).size = 1 := rfl
    simp [ByteArray.size_append, pairL, e1, e2, e3]
    omega

set_option maxHeartbeats 1000000 in
theorem eread_any (s : ByteArray) (w : World) (hs : s.size ≤ 4000000000) (htab : Tabs w) : Calls Tryz.prog 30 #[.string s] w (MkRead (bs s) w) := by
  have h1 := ProofAt.start w 0 0
  by_cases hl : ∃ v, Lib.atoiAll (Lib.cut (bs s) [46]).1 = .ok v
  case neg =>
    have hl' : ∀ v, Lib.atoiAll (Lib.cut (bs s) [46]).1 ≠ .ok v := fun v e => hl ⟨v, e⟩
    have HL := Lib.hid hl'
    clear hl hl'
    go_enter Tryz.func30, Tryz.ntmps30
    go_wp2_with fail
    refine (cutPoint_any s _ hs (htab.upd h1.up)).mono ?_
    rintro e w2 ⟨l, r, b, HB1, HB2, hl, hr, rfl, hu2⟩
    have h2 := h1.upd hu2
    clear h1
    go_wp2_with fail
    refine (atoi_bad l w2 (by omega) (by rw [HB1.out]; exact HL.out) (htab.upd h2.up)).mono ?_
    rintro e w3 ⟨v1, N1, rfl, hv1, hu3⟩
    have h3 := h2.upd hu3
    clear h2
    go_wp2_with fail
    refine (atoi_some r w3 (by omega) (htab.upd h3.up)).mono ?_
    rintro e w4 ⟨v2, ev, rfl, hv2, hu4⟩
    have h4 := h3.upd hu4
    clear h3
    have h5 := h4.upd ((Upd.refl _ _).alloc (.cells #[.int .i64 v1, .int .i64 v2] 25))
    obtain ⟨k0, k1⟩ := h5.cells
    obtain ⟨f0, f1⟩ := h5.free
    go_wp2_with fail
    refine bodyPost_ret (v := .tuple #[.agg #[.int .i64 0, .int .i64 0], .bool false]) (by simp [results, Tryz.results30, go_sem, k0, k1]) rfl ⟨0, 0, false, readV_no1 HL.out, ⟨by omega, by omega⟩, ⟨by omega, by omega⟩, rfl, ?_⟩
    exact (h5.up.setNew (p := ⟨_, _, none⟩) (Nat.le_refl _) _).setNew (p := ⟨_, _, none⟩) (Nat.le_refl _) _
  case pos =>
    obtain ⟨a, ha⟩ := hl
    by_cases hr : ∃ v, Lib.atoiAll (Lib.cut (bs s) [46]).2.1 = .ok v
    case neg =>
      have hr' : ∀ v, Lib.atoiAll (Lib.cut (bs s) [46]).2.1 ≠ .ok v := fun v e => hr ⟨v, e⟩
      have HR := Lib.hid hr'
      have HA := Lib.hid ha
      clear hr hr' ha
      go_enter Tryz.func30, Tryz.ntmps30
      go_wp2_with fail
      refine (cutPoint_any s _ hs (htab.upd h1.up)).mono ?_
      rintro e w2 ⟨l, r, b, HB1, HB2, hl, hr, rfl, hu2⟩
      have h2 := h1.upd hu2
      clear h1
      go_wp2_with fail
      refine (atoi_ok l a w2 (by omega) (by rw [HB1.out]; exact HA.out)).mono ?_
      rintro e w3 ⟨rfl, hu3⟩
      have h3 := h2.upd hu3
      clear h2
      go_wp2_with fail
      refine (atoi_bad r w3 (by omega) (by rw [HB2.out]; exact HR.out) (htab.upd h3.up)).mono ?_
      rintro e w4 ⟨v2, N, rfl, hv2, hu4⟩
      have h4 := h3.upd hu4
      clear h3
      have h5 := h4.upd ((Upd.refl _ _).alloc (.cells #[.int .i64 a, .int .i64 v2] 25))
      obtain ⟨k0, k1⟩ := h5.cells
      obtain ⟨f0, f1⟩ := h5.free
      go_wp2_with fail
      refine bodyPost_ret (v := .tuple #[.agg #[.int .i64 0, .int .i64 0], .bool false]) (by simp [results, Tryz.results30, go_sem, k0, k1]) rfl ⟨0, 0, false, readV_no2 HR.out, ⟨by omega, by omega⟩, ⟨by omega, by omega⟩, rfl, ?_⟩
      exact (h5.up.setNew (p := ⟨_, _, none⟩) (Nat.le_refl _) _).setNew (p := ⟨_, _, none⟩) (Nat.le_refl _) _
    case pos =>
      obtain ⟨c, hc⟩ := hr
      have hac := And.intro (Lib.atoiAll_bounds ha) (Lib.atoiAll_bounds hc)
      have HV := Lib.hid (readV_ok ha hc)
      have HA := Lib.hid ha
      have HC := Lib.hid hc
      clear ha hc
      go_enter Tryz.func30, Tryz.ntmps30
      go_wp2_with fail
      refine (cutPoint_any s _ hs (htab.upd h1.up)).mono ?_
      rintro e w2 ⟨l, r, b, HB1, HB2, hl, hr, rfl, hu2⟩
      have h2 := h1.upd hu2
      clear h1
      go_wp2_with fail
      refine (atoi_ok l a w2 (by omega) (by rw [HB1.out]; exact HA.out)).mono ?_
      rintro e w3 ⟨rfl, hu3⟩
      have h3 := h2.upd hu3
      clear h2
      go_wp2_with fail
      refine (atoi_ok r c w3 (by omega) (by rw [HB2.out]; exact HC.out)).mono ?_
      rintro e w4 ⟨rfl, hu4⟩
      have h4 := h3.upd hu4
      clear h3
      have h5 := h4.upd ((Upd.refl _ _).alloc (.cells #[.int .i64 a, .int .i64 c] 25))
      have s5 := ProofAt.start w4 a c
      obtain ⟨q0, q1⟩ := s5.cells
      go_wp2_with fail
      refine (etext_any a c _ hac.1 hac.2 (htab.upd h5.up)).mono ?_
      rintro e w6 ⟨y, HY, hy, rfl, hu6⟩
      have h6 := h5.upd hu6
      have s6 := s5.upd hu6
      clear h5 s5 q0 q1 h4
      obtain ⟨q0, q1⟩ := s6.cells
      obtain ⟨k0, k1⟩ := h6.cells
      obtain ⟨f0, f1⟩ := h6.free
      by_cases heq : pairL a c = bs s
      · have hys : y = s := bs_inj (HY.out.trans heq)
        subst hys
        go_wp2_with fail
        refine bodyPost_ret (v := .tuple #[.agg #[.int .i64 a, .int .i64 c], .bool true]) (by simp [results, Tryz.results30, go_sem, k0, k1]) rfl ⟨a, c, true, ?_, hac.1, hac.2, rfl, ?_⟩
        · show _ = _
          rw [HV.out, if_pos heq]
        · exact (h6.up.setNew (p := ⟨_, _, none⟩) (Nat.le_refl _) _).setNew (p := ⟨_, _, none⟩) (Nat.le_refl _) _
      · have h7 : (y.toList == s.toList) = false := by
          rw [beq_eq_false_iff_ne, ByteArray.toList_eq, ByteArray.toList_eq]
          exact fun e => heq (HY.out.symm.trans e)
        go_wp2_with fail
        refine bodyPost_ret (v := .tuple #[.agg #[.int .i64 0, .int .i64 0], .bool false]) (by simp [results, Tryz.results30, go_sem, k0, k1]) rfl ⟨0, 0, false, ?_, ⟨by omega, by omega⟩, ⟨by omega, by omega⟩, rfl, ?_⟩
        · show _ = _
          rw [HV.out, if_neg heq]
        · exact (h6.up.setNew (p := ⟨_, _, none⟩) (Nat.le_refl _) _).setNew (p := ⟨_, _, none⟩) (Nat.le_refl _) _

theorem etext_is (r s : Int) (l : ByteArray) (w : World) (hr : i64in r) (hs : i64in s) (htab : Tabs w) (h : pairL r s = bs l) : Calls Tryz.prog 31 #[.agg #[.int .i64 r, .int .i64 s]] w (fun e w' => e = .returned (.string l) ∧ Upd [] [] w w') := by
  refine (etext_any r s w hr hs htab).mono ?_
  rintro e w' ⟨y, HY, _, rfl, hu⟩
  exact ⟨by rw [bs_inj (HY.out.trans h)], hu⟩
theorem eread_is (s : ByteArray) (a b : Int) (ok : Bool) (w : World) (hs : s.size ≤ 4000000000) (htab : Tabs w) (h : readV (bs s) = (a, b, ok)) :
    Calls Tryz.prog 30 #[.string s] w (fun e w' => e = .returned (.tuple #[.agg #[.int .i64 a, .int .i64 b], .bool ok]) ∧ Upd [] [] w w') := by
  refine (eread_any s w hs htab).mono ?_
  rintro e w' ⟨x, y, z, HX, _, _, rfl, hu⟩
  have := HX.out
  rw [h] at this
  simp only [Prod.mk.injEq] at this
  obtain ⟨rfl, rfl, rfl⟩ := this
  exact ⟨rfl, hu⟩
end Go.Proofs.YtkhodajdionaaaaGreatDoor
