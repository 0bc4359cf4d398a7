/- equal.Verify. -/
import Derived.Test.YtkhodajdionaaaaGreatDoorEqC
namespace Go.Proofs.YtkhodajdionaaaaGreatDoor
open Go.RowKit
set_option maxRecDepth 100000

theorem six_ok {a b c d e f : Int} : 1 ≤ [a, b, c, d, e, f].length ∧ [a, b, c, d, e, f].length ≤ 100 := ⟨by simp, by simp⟩

theorem eScalar6 (a b c d e f : Int) (g cc : Nat) (w : World) (hx : IntsIn w g [a, b, c, d, e, f]) (htab : Tabs w) :
    Calls Tryz.prog 35 #[.string ⟨#[101, 113, 117, 97, 108]⟩, .slice (some ⟨g, 0, none⟩) 6 cc] w (MkN 1152921504606845789 (eqScal wEqual [a, b, c, d, e, f]) w) :=
  eScalar_any ⟨#[101, 113, 117, 97, 108]⟩ [a, b, c, d, e, f] g cc w hx (by decide) six_ok htab

set_option maxHeartbeats 2000000 in
theorem everify_any (g a h b c z : Int) (w : World) (hg : i64in g) (ha : i64in a) (hh : i64in h) (hb : i64in b) (hc : i64in c) (hz : i64in z) (htab : Tabs w) :
    Calls Tryz.prog 15 #[.int .i64 g, .int .i64 a, .int .i64 h, .int .i64 b, .agg #[.int .i64 c, .int .i64 z]] w (MkB (verE g a h b c z) w) := by
  have h0 := ProofAt.start w c z
  have hc1 := hc.1
  have hc2 := hc.2
  have hz1 := hz.1
  have hz2 := hz.2
  cases m0 : memB g with
  | false =>
    have HV : Hid (verE g a h b c z = false) := by show _ = _; simp [verE, m0]
    have HG := Lib.hid m0
    clear m0
    go_enter Tryz.func15, Tryz.ntmps15
    go_wp2_with fail
    refine (gMember_is g false _ hg HG.out).mono ?_
    rintro e w1 ⟨rfl, hu1⟩
    have h1 := h0.upd hu1
    clear h0
    go_wp2_with fail
    go_ret
    exact ⟨_, HV.out.symm, rfl, h1.up⟩
  | true =>
  cases m1 : memB a with
  | false =>
    have HV : Hid (verE g a h b c z = false) := by show _ = _; simp [verE, m1]
    have HG := Lib.hid m0
    have HA := Lib.hid m1
    clear m0 m1
    go_enter Tryz.func15, Tryz.ntmps15
    go_wp2_with fail
    refine (gMember_is g true _ hg HG.out).mono ?_
    rintro e w1 ⟨rfl, hu1⟩
    have h1 := h0.upd hu1
    clear h0
    go_wp2_with fail
    refine (gMember_is a false _ ha HA.out).mono ?_
    rintro e w2 ⟨rfl, hu2⟩
    have h2 := h1.upd hu2
    clear h1
    go_wp2_with fail
    go_ret
    exact ⟨_, HV.out.symm, rfl, h2.up⟩
  | true =>
  cases m2 : memB h with
  | false =>
    have HV : Hid (verE g a h b c z = false) := by show _ = _; simp [verE, m2]
    have HG := Lib.hid m0
    have HA := Lib.hid m1
    have HH := Lib.hid m2
    clear m0 m1 m2
    go_enter Tryz.func15, Tryz.ntmps15
    go_wp2_with fail
    refine (gMember_is g true _ hg HG.out).mono ?_
    rintro e w1 ⟨rfl, hu1⟩
    have h1 := h0.upd hu1
    clear h0
    go_wp2_with fail
    refine (gMember_is a true _ ha HA.out).mono ?_
    rintro e w2 ⟨rfl, hu2⟩
    have h2 := h1.upd hu2
    clear h1
    go_wp2_with fail
    refine (gMember_is h false _ hh HH.out).mono ?_
    rintro e w3 ⟨rfl, hu3⟩
    have h3 := h2.upd hu3
    clear h2
    go_wp2_with fail
    go_ret
    exact ⟨_, HV.out.symm, rfl, h3.up⟩
  | true =>
  cases m3 : memB b with
  | false =>
    have HV : Hid (verE g a h b c z = false) := by show _ = _; simp [verE, m3]
    have HG := Lib.hid m0
    have HA := Lib.hid m1
    have HH := Lib.hid m2
    have HB := Lib.hid m3
    clear m0 m1 m2 m3
    go_enter Tryz.func15, Tryz.ntmps15
    go_wp2_with fail
    refine (gMember_is g true _ hg HG.out).mono ?_
    rintro e w1 ⟨rfl, hu1⟩
    have h1 := h0.upd hu1
    clear h0
    go_wp2_with fail
    refine (gMember_is a true _ ha HA.out).mono ?_
    rintro e w2 ⟨rfl, hu2⟩
    have h2 := h1.upd hu2
    clear h1
    go_wp2_with fail
    refine (gMember_is h true _ hh HH.out).mono ?_
    rintro e w3 ⟨rfl, hu3⟩
    have h3 := h2.upd hu3
    clear h2
    go_wp2_with fail
    refine (gMember_is b false _ hb HB.out).mono ?_
    rintro e w4 ⟨rfl, hu4⟩
    have h4 := h3.upd hu4
    clear h3
    go_wp2_with fail
    go_ret
    exact ⟨_, HV.out.symm, rfl, h4.up⟩
  | true =>
  have HG := Lib.hid m0
  have HA := Lib.hid m1
  have HH := Lib.hid m2
  have HB := Lib.hid m3
  have HMM := Lib.hid (And.intro m0 (And.intro m1 (And.intro m2 m3)))
  clear m0 m1 m2 m3
  by_cases c0 : c < 0
  · have HV : Hid (verE g a h b c z = false) := by
      show _ = _
      have : decide (0 ≤ c) = false := by rw [decide_eq_false_iff_not]; omega
      simp [verE, this]
    go_enter Tryz.func15, Tryz.ntmps15
    go_wp2_with fail
    refine (gMember_is g true _ hg HG.out).mono ?_
    rintro e w1 ⟨rfl, hu1⟩
    have h1 := h0.upd hu1
    clear h0
    go_wp2_with fail
    refine (gMember_is a true _ ha HA.out).mono ?_
    rintro e w2 ⟨rfl, hu2⟩
    have h2 := h1.upd hu2
    clear h1
    go_wp2_with fail
    refine (gMember_is h true _ hh HH.out).mono ?_
    rintro e w3 ⟨rfl, hu3⟩
    have h3 := h2.upd hu3
    clear h2
    go_wp2_with fail
    refine (gMember_is b true _ hb HB.out).mono ?_
    rintro e w4 ⟨rfl, hu4⟩
    have h4 := h3.upd hu4
    clear h3
    obtain ⟨k0, k1⟩ := h4.cells
    go_wp2_with fail
    go_ret
    exact ⟨_, HV.out.symm, rfl, h4.up⟩
  by_cases c9 : 1152921504606845788 < c
  · have HV : Hid (verE g a h b c z = false) := by
      show _ = _
      have : decide (c < 1152921504606845789) = false := by rw [decide_eq_false_iff_not]; omega
      simp [verE, this]
    go_enter Tryz.func15, Tryz.ntmps15
    go_wp2_with fail
    refine (gMember_is g true _ hg HG.out).mono ?_
    rintro e w1 ⟨rfl, hu1⟩
    have h1 := h0.upd hu1
    clear h0
    go_wp2_with fail
    refine (gMember_is a true _ ha HA.out).mono ?_
    rintro e w2 ⟨rfl, hu2⟩
    have h2 := h1.upd hu2
    clear h1
    go_wp2_with fail
    refine (gMember_is h true _ hh HH.out).mono ?_
    rintro e w3 ⟨rfl, hu3⟩
    have h3 := h2.upd hu3
    clear h2
    go_wp2_with fail
    refine (gMember_is b true _ hb HB.out).mono ?_
    rintro e w4 ⟨rfl, hu4⟩
    have h4 := h3.upd hu4
    clear h3
    obtain ⟨k0, k1⟩ := h4.cells
    go_wp2_with fail
    go_ret
    exact ⟨_, HV.out.symm, rfl, h4.up⟩
  by_cases z0 : z < 0
  · have HV : Hid (verE g a h b c z = false) := by
      show _ = _
      have : decide (0 ≤ z) = false := by rw [decide_eq_false_iff_not]; omega
      simp [verE, this]
    go_enter Tryz.func15, Tryz.ntmps15
    go_wp2_with fail
    refine (gMember_is g true _ hg HG.out).mono ?_
    rintro e w1 ⟨rfl, hu1⟩
    have h1 := h0.upd hu1
    clear h0
    go_wp2_with fail
    refine (gMember_is a true _ ha HA.out).mono ?_
    rintro e w2 ⟨rfl, hu2⟩
    have h2 := h1.upd hu2
    clear h1
    go_wp2_with fail
    refine (gMember_is h true _ hh HH.out).mono ?_
    rintro e w3 ⟨rfl, hu3⟩
    have h3 := h2.upd hu3
    clear h2
    go_wp2_with fail
    refine (gMember_is b true _ hb HB.out).mono ?_
    rintro e w4 ⟨rfl, hu4⟩
    have h4 := h3.upd hu4
    clear h3
    obtain ⟨k0, k1⟩ := h4.cells
    go_wp2_with fail
    go_ret
    exact ⟨_, HV.out.symm, rfl, h4.up⟩
  by_cases z9 : 1152921504606845788 < z
  · have HV : Hid (verE g a h b c z = false) := by
      show _ = _
      have : decide (z < 1152921504606845789) = false := by rw [decide_eq_false_iff_not]; omega
      simp [verE, this]
    go_enter Tryz.func15, Tryz.ntmps15
    go_wp2_with fail
    refine (gMember_is g true _ hg HG.out).mono ?_
    rintro e w1 ⟨rfl, hu1⟩
    have h1 := h0.upd hu1
    clear h0
    go_wp2_with fail
    refine (gMember_is a true _ ha HA.out).mono ?_
    rintro e w2 ⟨rfl, hu2⟩
    have h2 := h1.upd hu2
    clear h1
    go_wp2_with fail
    refine (gMember_is h true _ hh HH.out).mono ?_
    rintro e w3 ⟨rfl, hu3⟩
    have h3 := h2.upd hu3
    clear h2
    go_wp2_with fail
    refine (gMember_is b true _ hb HB.out).mono ?_
    rintro e w4 ⟨rfl, hu4⟩
    have h4 := h3.upd hu4
    clear h3
    obtain ⟨k0, k1⟩ := h4.cells
    go_wp2_with fail
    go_ret
    exact ⟨_, HV.out.symm, rfl, h4.up⟩
  obtain ⟨⟨G, rfl, hG⟩, ⟨A, rfl, hA⟩, ⟨H, rfl, hH⟩, ⟨B, rfl, hB⟩⟩ : (∃ n : Nat, g = (n : Int) ∧ memN n) ∧ (∃ n : Nat, a = (n : Int) ∧ memN n) ∧ (∃ n : Nat, h = (n : Int) ∧ memN n) ∧ (∃ n : Nat, b = (n : Int) ∧ memN n) :=
    ⟨memB_pos HMM.out.1, memB_pos HMM.out.2.1, memB_pos HMM.out.2.2.1, memB_pos HMM.out.2.2.2⟩
  obtain ⟨C, rfl⟩ : ∃ n : Nat, c = (n : Int) := ⟨c.toNat, by omega⟩
  obtain ⟨Z, rfl⟩ : ∃ n : Nat, z = (n : Int) := ⟨z.toNat, by omega⟩
  have lG : G < 2305843009213691579 := hG.2.1
  have lA : A < 2305843009213691579 := hA.2.1
  have lH : H < 2305843009213691579 := hH.2.1
  have lB : B < 2305843009213691579 := hB.2.1
  have lC : C < 1152921504606845789 := by omega
  have lZ : Z < 1152921504606845789 := by omega
  have HLC := Lib.hid (And.intro lC lZ)
  clear hG hA hH hB lC lZ
  have VG := HG
  have VA := HA
  have VH := HH
  have VB := HB
  go_enter Tryz.func15, Tryz.ntmps15
  go_wp2_with fail
  refine (gMember_is G true _ hg VG.out).mono ?_
  rintro e w1 ⟨rfl, hu1⟩
  have h1 := h0.upd hu1
  clear h0
  go_wp2_with fail
  refine (gMember_is A true _ ha VA.out).mono ?_
  rintro e w2 ⟨rfl, hu2⟩
  have h2 := h1.upd hu2
  clear h1
  go_wp2_with fail
  refine (gMember_is H true _ hh VH.out).mono ?_
  rintro e w3 ⟨rfl, hu3⟩
  have h3 := h2.upd hu3
  clear h2
  go_wp2_with fail
  refine (gMember_is B true _ hb VB.out).mono ?_
  rintro e w4 ⟨rfl, hu4⟩
  have h4 := h3.upd hu4
  clear h3
  obtain ⟨k0, k1⟩ := h4.cells
  have h5 := h4.upd (Upd.refl _ _).drew
  have k5 := h5.cells
  go_wp2_with fail
  clear k0 k1 h4
  go_region_held3 (fun wp => wp.cell? ⟨w.heap.size, 0, none⟩ = some (.int .i64 (C : Int)) ∧ wp.cell? ⟨w.heap.size, 1, none⟩ = some (.int .i64 (Z : Int))) (first | exact k5 | assumption | go_keep)
    (first
      | (go_at_call 42; ((with_reducible refine (side_any G A C Z w _ (by omega) (by omega) HLC.out.1 HLC.out.2 h5).mono ?_); rintro e wq ⟨r, HR, hr, rfl, hq⟩; have g1 := h5.upd hq; have kq := g1.cells; clear hq))
      | (go_at_call 42; ((with_reducible refine (side_any H B C Z w _ (by omega) (by omega) HLC.out.1 HLC.out.2 g1).mono ?_); rintro e wq ⟨s, HS, hs, rfl, hq⟩; have g2 := g1.upd hq; have kq := g2.cells; have i2 := ints6 wq G A H B r s 3 (ipE lG) (ipE lA) (ipE lH) (ipE lB) (ipE hr) (ipE hs); have u2 := (Upd.refl [] wq).alloc (.cells #[.int .i64 (G : Int), .int .i64 (A : Int), .int .i64 (H : Int), .int .i64 (B : Int), .int .i64 (r : Int), .int .i64 (s : Int)] 3); have g3 := g2.upd u2; have kq3 := g3.cells; clear hq))
      | (go_at_call 35; ((with_reducible refine (eScalar6 G A H B r s _ _ _ i2 (htab.upd g3.up)).mono ?_); rintro e wz ⟨y, HY, hy, rfl, hq⟩; have g4 := g3.upd hq; have kq := g4.cells; clear hq)))
  go_wp2_with fail
  go_ret
  refine ⟨_, ?_, rfl, g4.up⟩
  show _ = _
  have hy2 : y = chalE G A H B (sideE G A C Z) (sideE H B C Z) := by rw [HY.out, HR.out, HS.out]; rfl
  have e1 : decide (0 ≤ (C : Int)) = true := by rw [decide_eq_true_iff]; omega
  have e2 : decide (0 ≤ (Z : Int)) = true := by rw [decide_eq_true_iff]; omega
  have e3 : decide ((C : Int) < 1152921504606845789) = true := by have := HLC.out.1; rw [decide_eq_true_iff]; omega
  have e4 : decide ((Z : Int) < 1152921504606845789) = true := by have := HLC.out.2; rw [decide_eq_true_iff]; omega
  unfold verE
  rw [VG.out, VA.out, VH.out, VB.out, e1, e2, e3, e4]
  simp only [Int.toNat_natCast, Bool.true_and]
  rw [Bool.eq_iff_iff, decide_eq_true_iff, ← hy2]
  show ((C : Int) == (y : Int)) = true ↔ _
  rw [beq_iff_eq]
  omega

theorem everify_is (g a h b c z : Int) (v : Bool) (w : World) (hg : i64in g) (ha : i64in a) (hh : i64in h) (hb : i64in b) (hc : i64in c) (hz : i64in z) (htab : Tabs w) (hv : verE g a h b c z = v) :
    Calls Tryz.prog 15 #[.int .i64 g, .int .i64 a, .int .i64 h, .int .i64 b, .agg #[.int .i64 c, .int .i64 z]] w (fun e w' => e = .returned (.bool v) ∧ Upd [] [] w w') := by
  refine (everify_any g a h b c z w hg ha hh hb hc hz htab).mono ?_
  rintro e w' ⟨x, HX, rfl, hu⟩
  exact ⟨by rw [HX.out, hv], hu⟩
end Go.Proofs.YtkhodajdionaaaaGreatDoor
