/- The walk of EqualFalse. -/
import Derived.Test.YtkhodajdionaaaaGreatDoorLawE2
namespace Go.Proofs.YtkhodajdionaaaaGreatDoor
open Go.RowKit
set_option maxRecDepth 100000

set_option maxHeartbeats 4000000 in
theorem equalFalse_walk (x y q0 q1 : Int) (w : World) (hx : -9223372036854775808 ≤ x ∧ x ≤ 9223372036854775807) (hy : -9223372036854775808 ≤ y ∧ y ≤ 9223372036854775807)
    (h0 : -9223372036854775808 ≤ q0 ∧ q0 ≤ 9223372036854775807) (h1 : -9223372036854775808 ≤ q1 ∧ q1 ≤ 9223372036854775807) (htab : Tabs w) :
    Calls Tryz.prog 6 #[.int .i64 x, .int .i64 y, .agg #[.int .i64 q0, .int .i64 q1]] w (TrueMk w) := by
  have s0 := PairAt.start w q0 q1
  go_enter Tryz.func6, Tryz.ntmps6
  go_wp2_with fail
  refine (sanityE_any _ (htab.upd s0.up)).mono ?_
  rintro e w1 ⟨rfl, hu1⟩
  have s1 := (s0.upd hu1).upd (Upd.refl _ _).drew
  clear s0
  have k1 := s1.cells
  go_wp2_with fail
  go_region_held3 (fun wp => wp.cell? ⟨w.heap.size, 0, none⟩ = some (.int .i64 q0) ∧ wp.cell? ⟨w.heap.size, 1, none⟩ = some (.int .i64 q1)) (first | exact k1 | assumption)
    (first
      | (go_at_call 10; ((with_reducible refine (element_any q0 _ h0).mono ?_); rintro e wq ⟨G, HG, hG, rfl, rfl⟩))
      | (go_at_call 10; ((with_reducible refine (element_any q1 _ h1).mono ?_); rintro e wq ⟨H, HH, hH, rfl, rfl⟩)))
  have u1 := s1.up
  clear s1 k1
  generalize w1.drew = w2 at *
  have mG : memN G := by rw [HG.out]; exact elemN_mem (expN_lt q0)
  have mH : memN H := by rw [HH.out]; exact elemN_mem (expN_lt q1)
  have HM := Lib.hid (And.intro mG mH)
  clear mG mH
  go_wp2_with fail
  refine (exponent6_any x w2 hx).mono ?_
  rintro e wq ⟨I, HI, hI, rfl, rfl⟩
  go_wp2_with fail
  refine (exponent6_any y w2 hy).mono ?_
  rintro e wq ⟨J, HJ, hJ, rfl, rfl⟩
  go_wp2_with fail
  refine (gPow_n G I _ w2 (by omega) (by omega) rfl).mono ?_
  rintro e w3 ⟨A, HA, hA, rfl, hu3⟩
  go_wp2_with fail
  refine (gPow_n H J _ w3 (by omega) (by omega) rfl).mono ?_
  rintro e w4 ⟨B, HB, hB, rfl, hu4⟩
  go_wp2_with fail
  refine (gPow_n H I _ w4 (by omega) (by omega) rfl).mono ?_
  rintro e w5 ⟨C, HC, hC, rfl, hu5⟩
  have u5 := (u1.trans hu3).trans (hu4.trans hu5)
  go_wp2_with fail
  refine (prove_mem x G H w5 hx HM.out.1 HM.out.2 (htab.upd u5)).mono ?_
  rintro e w6 ⟨c, z, HPC, HPZ, hc, hz, rfl, hu6⟩
  have u6 := u5.trans hu6
  have hvc : verE (G : Int) (A : Int) (H : Int) (C : Int) (c : Int) (z : Int) = true := by
    rw [HPC.out, HPZ.out, HA.out, HC.out, HI.out]
    exact verE_with HM.out.1 HM.out.2 _ _
  have mA : memN A := by rw [HA.out]; exact pP_mem HM.out.1 _
  have mB : memN B := by rw [HB.out]; exact pP_mem HM.out.2 _
  have HVC := Lib.hid hvc
  have HMB := Lib.hid (And.intro mA mB)
  clear hvc mA mB hu3 hu4 hu5 hu6
  have p6 := ProofAt.start w6 c z
  have u7 := u6.trans p6.up
  have k6 := p6.cells
  by_cases hbc : B = C
  · subst hbc
    go_wp2_with fail
    refine (everify_is (G : Int) (A : Int) (H : Int) (B : Int) (c : Int) (z : Int) true _ (ipE hG) (ipE hA) (ipE hH) (ipE hB) (iqE hc) (iqE hz) (htab.upd u7) HVC.out).mono ?_
    rintro e w8 ⟨rfl, hu8⟩
    go_wp2_with fail
    go_ret
    exact ⟨rfl, u7.trans hu8⟩
  have hbq : ((B : Int) == (C : Int)) = false := by rw [beq_eq_false_iff_ne]; omega
  have p7 := p6.upd (Upd.refl _ _).drew
  have k7 := p7.cells
  have hq1 := nat_sub_q c hc
  obtain ⟨m, hm⟩ : ∃ m, m = Qn - c := ⟨_, rfl⟩
  have hml : m ≤ 1152921504606845789 := by rw [hm]; exact Nat.sub_le _ _
  rw [← hm] at hq1
  have HMM := Lib.hid hm
  clear hm hbc
  go_wp2_with fail
  clear k6 p6
  go_region_held3 (fun wp => wp.cell? ⟨w6.heap.size, 0, none⟩ = some (.int .i64 (c : Int)) ∧ wp.cell? ⟨w6.heap.size, 1, none⟩ = some (.int .i64 (z : Int))) (first | exact k7 | assumption)
    (first
      | (go_at_call 16; ((with_reducible refine (gPow_n G z _ _ (by omega) (by omega) rfl).mono ?_); rintro e wq ⟨y1, HY1, hy1, rfl, hq⟩; have g1 := p7.upd hq; have kq := g1.cells; clear hq))
      | (go_at_call 16; ((with_reducible refine (gPow_n A m _ _ (by omega) (by omega) rfl).mono ?_); rintro e wq ⟨y2, HY2, hy2, rfl, hq⟩; have g2 := g1.upd hq; have kq := g2.cells; clear hq))
      | (go_at_call 17; ((with_reducible refine (gMulP_n y1 y2 _ (by omega) (by omega)).mono ?_); rintro e wq ⟨r, HR, hr, rfl, rfl⟩)))
  have p8 := g2.upd (Upd.refl _ _).drew
  have k8 := p8.cells
  clear g1 kq p7 k7
  go_wp2_with fail
  go_region_held3 (fun wp => wp.cell? ⟨w6.heap.size, 0, none⟩ = some (.int .i64 (c : Int)) ∧ wp.cell? ⟨w6.heap.size, 1, none⟩ = some (.int .i64 (z : Int))) (first | exact k8 | assumption)
    (first
      | (go_at_call 16; ((with_reducible refine (gPow_n H z _ _ (by omega) (by omega) rfl).mono ?_); rintro e wq ⟨y3, HY3, hy3, rfl, hq⟩; have g3 := p8.upd hq; have kq := g3.cells; clear hq))
      | (go_at_call 16; ((with_reducible refine (gPow_n B m _ _ (by omega) (by omega) rfl).mono ?_); rintro e wq ⟨y4, HY4, hy4, rfl, hq⟩; have g4 := g3.upd hq; have kq := g4.cells; clear hq))
      | (go_at_call 17; ((with_reducible refine (gMulP_n y3 y4 _ (by omega) (by omega)).mono ?_); rintro e wq ⟨s, HS, hs, rfl, rfl⟩)))
  have p9 := g4.upd (Upd.refl _ _).drew
  have k9 := p9.cells
  clear g3 kq p8 k8 g2
  go_wp2_with fail
  go_region_held3 (fun wp => wp.cell? ⟨w6.heap.size, 0, none⟩ = some (.int .i64 (c : Int)) ∧ wp.cell? ⟨w6.heap.size, 1, none⟩ = some (.int .i64 (z : Int))) (first | exact k9 | assumption)
    (first
      | (go_at_call 16; ((with_reducible refine (gPow_n H z _ _ (by omega) (by omega) rfl).mono ?_); rintro e wq ⟨y5, HY5, hy5, rfl, hq⟩; have g5 := p9.upd hq; have kq := g5.cells; clear hq))
      | (go_at_call 16; ((with_reducible refine (gPow_n C m _ _ (by omega) (by omega) rfl).mono ?_); rintro e wq ⟨y6, HY6, hy6, rfl, hq⟩; have g6 := g5.upd hq; have kq := g6.cells; clear hq))
      | (go_at_call 17; ((with_reducible refine (gMulP_n y5 y6 _ (by omega) (by omega)).mono ?_); rintro e wq ⟨t, HT, ht, rfl, rfl⟩)))
  clear g5 kq p9 k9 g4
  have hrs : r = sideE G A c z ∧ s = sideE H B c z ∧ t = sideE H C c z := by
    refine ⟨?_, ?_, ?_⟩
    · rw [HR.out, HY1.out, HY2.out, HMM.out, sideE]
    · rw [HS.out, HY3.out, HY4.out, HMM.out, sideE]
    · rw [HT.out, HY5.out, HY6.out, HMM.out, sideE]
  have HRS := Lib.hid hrs
  have i1 := ints6 wq G A H B r s 3 (ipE hG) (ipE hA) (ipE hH) (ipE hB) (ipE hr) (ipE hs)
  have I1 := Lib.hid i1
  have p10 := g6.upd ((Upd.refl _ _).alloc (.cells #[.int .i64 (G : Int), .int .i64 (A : Int), .int .i64 (H : Int), .int .i64 (B : Int), .int .i64 (r : Int), .int .i64 (s : Int)] 3))
  clear hrs i1 HR HS HT HY1 HY2 HY3 HY4 HY5 HY6 g6
  go_wp2_with fail
  refine (rchal_any [(G : Int), (A : Int), (H : Int), (B : Int), (r : Int), (s : Int)] _ _ 6 _ I1.out rfl (by omega)).mono ?_
  rintro e w11 ⟨c1, HC1, hc1, rfl, hu11⟩
  have p11 := p10.upd hu11
  have i2 := ints6 w11 G A H C r t 3 (ipE hG) (ipE hA) (ipE hH) (ipE hC) (ipE hr) (ipE ht)
  have I2 := Lib.hid i2
  have p12 := p11.upd ((Upd.refl _ _).alloc (.cells #[.int .i64 (G : Int), .int .i64 (A : Int), .int .i64 (H : Int), .int .i64 (C : Int), .int .i64 (r : Int), .int .i64 (t : Int)] 3))
  clear i2 I1 p10 p11
  go_wp2_with fail
  refine (rchal_any [(G : Int), (A : Int), (H : Int), (C : Int), (r : Int), (t : Int)] _ _ 6 _ I2.out rfl (by omega)).mono ?_
  rintro e w13 ⟨c2, HC2, hc2, rfl, hu13⟩
  have p13 := p12.upd hu13
  have k13 := p13.cells
  have hv : verE (G : Int) (A : Int) (H : Int) (B : Int) (c : Int) (z : Int) = decide (c1 = c2) := by
    have e1 : c1 = chalE G A H B (sideE G A c z) (sideE H B c z) := by rw [HC1.out, HRS.out.1, HRS.out.2.1]; rfl
    have e2 : c2 = chalE G A H C (sideE G A c z) (sideE H C c z) := by rw [HC2.out, HRS.out.1, HRS.out.2.2]; rfl
    have e3 : c = c2 := by rw [e2]; exact ((verE_cast G A H C c z).1 HVC.out).2.2.2.2.2.2
    rw [Bool.eq_iff_iff, decide_eq_true_iff, verE_cast]
    constructor
    · rintro ⟨_, _, _, _, _, _, h⟩
      rw [e1, ← h, e3]
    · intro h
      exact ⟨HM.out.1, HMB.out.1, HM.out.2, HMB.out.2, hc, hz, by rw [← e1, h, e3]⟩
  have HV := Lib.hid hv
  clear hv I2 p12 HC1 HC2 HRS HVC HMB HM
  by_cases hcc : c1 = c2
  · subst hcc
    go_wp2_with fail
    refine (everify_is (G : Int) (A : Int) (H : Int) (B : Int) (c : Int) (z : Int) true _ (ipE hG) (ipE hA) (ipE hH) (ipE hB) (iqE hc) (iqE hz) (htab.upd (u6.trans p13.up)) (by rw [HV.out]; simp)).mono ?_
    rintro e w14 ⟨rfl, hu14⟩
    go_wp2_with fail
    go_ret
    exact ⟨rfl, (u6.trans p13.up).trans hu14⟩
  · have hq2 : ((c1 : Int) == (c2 : Int)) = false := by rw [beq_eq_false_iff_ne]; omega
    have HCC := Lib.hid hcc
    clear hcc
    go_wp2_with fail
    refine (everify_is (G : Int) (A : Int) (H : Int) (B : Int) (c : Int) (z : Int) false _ (ipE hG) (ipE hA) (ipE hH) (ipE hB) (iqE hc) (iqE hz) (htab.upd (u6.trans p13.up)) (by rw [HV.out, decide_eq_false_iff_not]; exact HCC.out)).mono ?_
    rintro e w14 ⟨rfl, hu14⟩
    go_wp2_with fail
    go_ret
    exact ⟨rfl, (u6.trans p13.up).trans hu14⟩
end Go.Proofs.YtkhodajdionaaaaGreatDoor
