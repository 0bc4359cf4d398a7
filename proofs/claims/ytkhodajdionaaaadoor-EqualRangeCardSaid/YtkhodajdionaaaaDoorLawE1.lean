/- The walks of EqualHolds, EqualOnly, EqualRange. -/
import Derived.Test.YtkhodajdionaaaaDoorEqF
namespace Go.Proofs.YtkhodajdionaaaaDoor
open Go.RowKit
set_option maxRecDepth 100000

theorem eAdd0_any (x : Int) (w : World) (hx : -9223372036854775808 ≤ x ∧ x ≤ 9223372036854775807) :
    Calls Tryd.prog 16 #[.int .i64 x, .int .i64 0, .int .i64 1152921504606845789] w (fun e w' => ∃ r : Nat, Hid (r = expN x) ∧ r < 1152921504606845789 ∧ e = .returned (.int .i64 (r : Int)) ∧ w = w') := by
  refine (add_any x 0 1152921504606845789 _ hx (by omega) (by omega)).mono ?_
  rintro e w3 ⟨x1, HX1, x10, x11, rfl, rfl⟩
  refine ⟨expN x, rfl, expN_lt x, ?_, rfl⟩
  have : x1 = (expN x : Int) := by rw [HX1.out, expN_cast, Int.add_zero]
  rw [this]

set_option maxHeartbeats 1000000 in
theorem equalHolds_walk (x g h : Int) (w : World) (hx : -9223372036854775808 ≤ x ∧ x ≤ 9223372036854775807) (hg : -9223372036854775808 ≤ g ∧ g ≤ 9223372036854775807) (hh : -9223372036854775808 ≤ h ∧ h ≤ 9223372036854775807) (htab : Tabs w) :
    Calls Tryd.prog 3 #[.int .i64 x, .int .i64 g, .int .i64 h] w (TrueMk w) := by
  go_enter Tryd.func3, Tryd.ntmps3
  go_wp2_with fail
  refine (sanityE_any w htab).mono ?_
  rintro e w1 ⟨rfl, hu1⟩
  go_wp2_with fail
  refine (element_any g w1 hg).mono ?_
  rintro e w2 ⟨G, HG, hG, rfl, rfl⟩
  go_wp2_with fail
  refine (element_any h w1 hh).mono ?_
  rintro e w2 ⟨H, HH, hH, rfl, rfl⟩
  go_wp2_with fail
  refine (eAdd0_any x w1 hx).mono ?_
  rintro e w2 ⟨X, HX, hX, rfl, rfl⟩
  have mG : memN G := by rw [HG.out]; exact elemN_mem (expN_lt g)
  have mH : memN H := by rw [HH.out]; exact elemN_mem (expN_lt h)
  have HM := Lib.hid (And.intro mG mH)
  clear mG mH
  go_wp2_with fail
  refine (gPow_n G X _ w1 (by omega) (by omega) rfl).mono ?_
  rintro e w2 ⟨A, HA, hA, rfl, hu2⟩
  have u2 := hu1.trans hu2
  go_wp2_with fail
  refine (gPow_n H X _ w2 (by omega) (by omega) rfl).mono ?_
  rintro e w3 ⟨B, HB, hB, rfl, hu3⟩
  have u3 := u2.trans hu3
  go_wp2_with fail
  refine (prove_mem x G H w3 hx HM.out.1 HM.out.2 (htab.upd u3)).mono ?_
  rintro e w4 ⟨c, z, HC, HZ, hc, hz, rfl, hu4⟩
  have u4 := u3.trans hu4
  have hv : verE (G : Int) (A : Int) (H : Int) (B : Int) (c : Int) (z : Int) = true := by
    rw [HC.out, HZ.out, HA.out, HB.out, HX.out]
    exact verE_with HM.out.1 HM.out.2 _ _
  have HV := Lib.hid hv
  clear hv
  go_wp2_with fail
  refine (everify_is _ _ _ _ _ _ true w4 (ipE hG) (ipE hA) (ipE hH) (ipE hB) (iqE hc) (iqE hz) (htab.upd u4) HV.out).mono ?_
  rintro e w5 ⟨rfl, hu5⟩
  go_wp2_with fail
  go_ret
  exact ⟨rfl, u4.trans hu5⟩
/-- Four numbers in a new block. -/
structure FourAt (w wp : World) (a b c d : Int) : Prop where
  up : Upd [] [] w wp
  row : wp.heap[w.heap.size]? = some (.cells #[.int .i64 a, .int .i64 b, .int .i64 c, .int .i64 d] 30 (0, 0))
theorem FourAt.start (w : World) (a b c d : Int) : FourAt w (w.alloc (.cells #[.int .i64 a, .int .i64 b, .int .i64 c, .int .i64 d] 30)) a b c d := ⟨(Upd.refl _ _).alloc _, heap_alloc_new _ _⟩
theorem FourAt.upd {w wp wq : World} {a b c d : Int} (h : FourAt w wp a b c d) (u : Upd [] [] wp wq) : FourAt w wq a b c d := ⟨h.up.trans u, row_upd h.row u⟩
theorem FourAt.cells {w wp : World} {a b c d : Int} (h : FourAt w wp a b c d) : wp.cell? ⟨w.heap.size, 0, none⟩ = some (.int .i64 a) ∧ wp.cell? ⟨w.heap.size, 1, none⟩ = some (.int .i64 b) ∧ wp.cell? ⟨w.heap.size, 2, none⟩ = some (.int .i64 c) ∧ wp.cell? ⟨w.heap.size, 3, none⟩ = some (.int .i64 d) :=
  ⟨by rw [cell_of_row _ _ _ _ _ _ h.row]; rfl, by rw [cell_of_row _ _ _ _ _ _ h.row]; rfl, by rw [cell_of_row _ _ _ _ _ _ h.row]; rfl, by rw [cell_of_row _ _ _ _ _ _ h.row]; rfl⟩

set_option maxHeartbeats 2000000 in
theorem equalOnly_walk (x y q0 q1 q2 q3 : Int) (w : World) (hx : -9223372036854775808 ≤ x ∧ x ≤ 9223372036854775807) (hy : -9223372036854775808 ≤ y ∧ y ≤ 9223372036854775807)
    (h0 : -9223372036854775808 ≤ q0 ∧ q0 ≤ 9223372036854775807) (h1 : -9223372036854775808 ≤ q1 ∧ q1 ≤ 9223372036854775807) (h2 : -9223372036854775808 ≤ q2 ∧ q2 ≤ 9223372036854775807) (h3 : -9223372036854775808 ≤ q3 ∧ q3 ≤ 9223372036854775807) (htab : Tabs w) :
    Calls Tryd.prog 4 #[.int .i64 x, .int .i64 y, .agg #[.int .i64 q0, .int .i64 q1, .int .i64 q2, .int .i64 q3]] w (TrueMk w) := by
  have s0 := FourAt.start w q0 q1 q2 q3
  go_enter Tryd.func4, Tryd.ntmps4
  go_wp2_with fail
  refine (sanityE_any _ (htab.upd s0.up)).mono ?_
  rintro e w1 ⟨rfl, hu1⟩
  have s1 := (s0.upd hu1).upd (Upd.refl _ _).drew
  clear s0
  have k1 := s1.cells
  go_wp2_with fail
  go_region_held3 (fun wp => wp.cell? ⟨w.heap.size, 0, none⟩ = some (.int .i64 q0) ∧ wp.cell? ⟨w.heap.size, 1, none⟩ = some (.int .i64 q1) ∧ wp.cell? ⟨w.heap.size, 2, none⟩ = some (.int .i64 q2) ∧ wp.cell? ⟨w.heap.size, 3, none⟩ = some (.int .i64 q3)) (first | exact k1 | assumption)
    (first
      | (go_at_call 15; ((with_reducible refine (element_any q0 _ h0).mono ?_); rintro e wq ⟨G, HG, hG, rfl, rfl⟩))
      | (go_at_call 15; ((with_reducible refine (element_any q1 _ h1).mono ?_); rintro e wq ⟨H, HH, hH, rfl, rfl⟩)))
  have s2 := s1.upd (Upd.refl _ _).drew
  clear s1 k1
  have k2 := s2.cells
  go_wp2_with fail
  go_region_held3 (fun wp => wp.cell? ⟨w.heap.size, 0, none⟩ = some (.int .i64 q0) ∧ wp.cell? ⟨w.heap.size, 1, none⟩ = some (.int .i64 q1) ∧ wp.cell? ⟨w.heap.size, 2, none⟩ = some (.int .i64 q2) ∧ wp.cell? ⟨w.heap.size, 3, none⟩ = some (.int .i64 q3)) (first | exact k2 | assumption)
    (first
      | (go_at_call 20; ((with_reducible refine (exponent6_any x _ hx).mono ?_); rintro e wq ⟨I, HI, hI, rfl, rfl⟩))
      | (go_at_call 20; ((with_reducible refine (exponent6_any y _ hy).mono ?_); rintro e wq ⟨J, HJ, hJ, rfl, rfl⟩))
      | (go_at_call 20; ((with_reducible refine (exponent6_any q2 _ h2).mono ?_); rintro e wq ⟨K, HK, hK, rfl, rfl⟩))
      | (go_at_call 20; ((with_reducible refine (exponent6_any q3 _ h3).mono ?_); rintro e wq ⟨C, HC, hC, rfl, rfl⟩)))
  clear k2
  have u2 := s2.up
  generalize w1.drew.drew = w2 at *
  clear s2
  by_cases g1 : G = 1
  · subst g1
    go_wp2_with fail
    go_ret
    exact ⟨rfl, u2⟩
  have b1 : ((G : Int) == 1) = false := by rw [beq_eq_false_iff_ne]; omega
  by_cases g2 : H = 1
  · subst g2
    clear g1
    go_wp2_with fail
    go_ret
    exact ⟨rfl, u2⟩
  have b2 : ((H : Int) == 1) = false := by rw [beq_eq_false_iff_ne]; omega
  by_cases g3 : I = J
  · subst g3
    clear g1 g2
    go_wp2_with fail
    go_ret
    exact ⟨rfl, u2⟩
  have b3 : ((I : Int) == (J : Int)) = false := by rw [beq_eq_false_iff_ne]; omega
  have mG : memN G := by rw [HG.out]; exact elemN_mem (expN_lt q0)
  have mH : memN H := by rw [HH.out]; exact elemN_mem (expN_lt q1)
  have HO := Lib.hid (only_one mG I K C)
  have HT := Lib.hid (only_two mH g2 I J K C hI hJ hC g3)
  clear g1 g2 g3 mG mH HG HH HI HJ HK HC
  go_wp2_with fail
  refine (gMulQ_n C I w2 (by omega) (by omega)).mono ?_
  rintro e wq ⟨m, HM, hm, rfl, rfl⟩
  go_wp2_with fail
  refine (gAddQ_n K m w2 (by omega) (by omega)).mono ?_
  rintro e wq ⟨z, HZ, hz, rfl, rfl⟩
  have hzz : z = (K + C * I % Qn) % Qn := by rw [HZ.out, HM.out]
  have HZZ := Lib.hid hzz
  clear hzz HZ HM
  go_wp2_with fail
  refine (gPow_n G z _ w2 (by omega) (by omega) rfl).mono ?_
  rintro e w3 ⟨a1, HA1, ha1, rfl, hu3⟩
  go_wp2_with fail
  refine (gPow_n G K _ w3 (by omega) (by omega) rfl).mono ?_
  rintro e w4 ⟨a2, HA2, ha2, rfl, hu4⟩
  go_wp2_with fail
  refine (gPow_n G I _ w4 (by omega) (by omega) rfl).mono ?_
  rintro e w5 ⟨a3, HA3, ha3, rfl, hu5⟩
  go_wp2_with fail
  refine (gPow_n a3 C _ w5 (by omega) (by omega) rfl).mono ?_
  rintro e w6 ⟨a4, HA4, ha4, rfl, hu6⟩
  go_wp2_with fail
  refine (gMulP_n a2 a4 w6 (by omega) (by omega)).mono ?_
  rintro e wq ⟨a5, HA5, ha5, rfl, rfl⟩
  have o1 : a1 = a5 := by rw [HA1.out, HA5.out, HA2.out, HA4.out, HA3.out, HZZ.out]; exact HO.out
  subst o1
  have u6 := u2.trans ((hu3.trans hu4).trans (hu5.trans hu6))
  clear hu3 hu4 hu5 hu6 HA1 HA2 HA3 HA4 HA5
  go_wp2_with fail
  refine (gPow_n H z _ w6 (by omega) (by omega) rfl).mono ?_
  rintro e w7 ⟨b1', HB1, hb1, rfl, hu7⟩
  go_wp2_with fail
  refine (gPow_n H K _ w7 (by omega) (by omega) rfl).mono ?_
  rintro e w8 ⟨b2', HB2, hb2, rfl, hu8⟩
  go_wp2_with fail
  refine (gPow_n H J _ w8 (by omega) (by omega) rfl).mono ?_
  rintro e w9 ⟨b3', HB3, hb3, rfl, hu9⟩
  go_wp2_with fail
  refine (gPow_n b3' C _ w9 (by omega) (by omega) rfl).mono ?_
  rintro e w10 ⟨b4', HB4, hb4, rfl, hu10⟩
  go_wp2_with fail
  refine (gMulP_n b2' b4' w10 (by omega) (by omega)).mono ?_
  rintro e wq ⟨b5', HB5, hb5, rfl, rfl⟩
  have o2 : b1' = b5' ↔ C = 0 := by rw [HB1.out, HB5.out, HB2.out, HB4.out, HB3.out, HZZ.out]; exact HT.out
  have u10 := u6.trans ((hu7.trans hu8).trans (hu9.trans hu10))
  clear hu7 hu8 hu9 hu10 HB1 HB2 HB3 HB4 HB5
  by_cases c0 : C = 0
  · obtain rfl := o2.2 c0
    subst c0
    clear o2
    go_wp2_with fail
    go_ret
    exact ⟨rfl, u10⟩
  · have n1 : ((b1' : Int) == (b5' : Int)) = false := by rw [beq_eq_false_iff_ne]; exact fun e => c0 (o2.1 (by omega))
    have n2 : ((C : Int) == 0) = false := by rw [beq_eq_false_iff_ne]; omega
    clear c0 o2
    go_wp2_with fail
    go_ret
    exact ⟨rfl, u10⟩

/-- Two numbers in a new block. -/
structure PairAt (w wp : World) (a b : Int) : Prop where
  up : Upd [] [] w wp
  row : wp.heap[w.heap.size]? = some (.cells #[.int .i64 a, .int .i64 b] 40 (0, 0))
theorem PairAt.start (w : World) (a b : Int) : PairAt w (w.alloc (.cells #[.int .i64 a, .int .i64 b] 40)) a b := ⟨(Upd.refl _ _).alloc _, heap_alloc_new _ _⟩
theorem PairAt.upd {w wp wq : World} {a b : Int} (h : PairAt w wp a b) (u : Upd [] [] wp wq) : PairAt w wq a b := ⟨h.up.trans u, row_upd h.row u⟩
theorem PairAt.cells {w wp : World} {a b : Int} (h : PairAt w wp a b) : wp.cell? ⟨w.heap.size, 0, none⟩ = some (.int .i64 a) ∧ wp.cell? ⟨w.heap.size, 1, none⟩ = some (.int .i64 b) :=
  ⟨by rw [cell_of_row _ _ _ _ _ _ h.row]; rfl, by rw [cell_of_row _ _ _ _ _ _ h.row]; rfl⟩

theorem verE_g {g a h b c z : Int} (m : memB g = false) : verE g a h b c z = false := by simp [verE, m]
theorem verE_a {g a h b c z : Int} (m : memB a = false) : verE g a h b c z = false := by simp [verE, m]
theorem verE_h {g a h b c z : Int} (m : memB h = false) : verE g a h b c z = false := by simp [verE, m]
theorem verE_b {g a h b c z : Int} (m : memB b = false) : verE g a h b c z = false := by simp [verE, m]
theorem verE_c {g a h b c z : Int} (m : ¬ (0 ≤ c ∧ c < 1152921504606845789)) : verE g a h b c z = false := by
  have : (decide (0 ≤ c) && decide (c < 1152921504606845789)) = false := by
    rw [Bool.eq_false_iff]
    intro e
    simp only [Bool.and_eq_true, decide_eq_true_eq] at e
    exact m e
  unfold verE
  rw [Bool.and_assoc (memB g && memB a && memB h && memB b), this]
  simp
theorem verE_z {g a h b c z : Int} (m : ¬ (0 ≤ z ∧ z < 1152921504606845789)) : verE g a h b c z = false := by
  have : (decide (0 ≤ z) && decide (z < 1152921504606845789)) = false := by
    rw [Bool.eq_false_iff]
    intro e
    simp only [Bool.and_eq_true, decide_eq_true_eq] at e
    exact m e
  unfold verE
  rw [Bool.and_assoc (memB g && memB a && memB h && memB b && decide (0 ≤ c) && decide (c < 1152921504606845789)), this]
  simp
theorem memB_neg {a : Nat} (h : memN a) : memB (2305843009213691579 - (a : Int)) = false := by
  have hl : a < 2305843009213691579 := h.2.1
  have e : (2305843009213691579 - (a : Int)) = ((Pn - a : Nat) : Int) := by
    have : Pn = 2305843009213691579 := rfl
    omega
  rw [e, Bool.eq_false_iff]
  intro e
  exact neg_no h ((memB_cast _).1 e)

/-- A proof, and another one two blocks behind it. -/
structure TwoP (w wp : World) (c z c2 z2 : Int) : Prop where
  one : ProofAt w wp c z
  row : wp.heap[w.heap.size + 1 + 1]? = some (.cells #[.int .i64 c2, .int .i64 z2] 27 (0, 0))
theorem TwoP.of {w w' : World} {c z c2 z2 : Int} {o : Obj} (u : Upd [] [] (((w.alloc (.cells #[.int .i64 c, .int .i64 z] 27)).alloc o).alloc (.cells #[.int .i64 c2, .int .i64 z2] 27)) w') : TwoP w w' c z c2 z2 := by
  have h := heap_alloc_new ((w.alloc (.cells #[.int .i64 c, .int .i64 z] 27)).alloc o) (.cells #[.int .i64 c2, .int .i64 z2] 27)
  rw [alloc_sizeW, alloc_sizeW] at h
  exact ⟨(ProofAt.start w c z).upd ((((Upd.refl _ _).alloc o).alloc _).trans u), row_upd h u⟩
theorem TwoP.upd {w wp wq : World} {c z c2 z2 : Int} (h : TwoP w wp c z c2 z2) (u : Upd [] [] wp wq) : TwoP w wq c z c2 z2 := ⟨h.one.upd u, row_upd h.row u⟩
theorem TwoP.cells {w wp : World} {c z c2 z2 : Int} (h : TwoP w wp c z c2 z2) : wp.cell? ⟨w.heap.size + 1 + 1, 0, none⟩ = some (.int .i64 c2) ∧ wp.cell? ⟨w.heap.size + 1 + 1, 1, none⟩ = some (.int .i64 z2) :=
  ⟨by rw [cell_of_row _ _ _ _ _ _ h.row]; rfl, by rw [cell_of_row _ _ _ _ _ _ h.row]; rfl⟩

set_option maxHeartbeats 4000000 in
theorem equalRange_walk (x q0 q1 n : Int) (w : World) (hx : -9223372036854775808 ≤ x ∧ x ≤ 9223372036854775807)
    (h0 : -9223372036854775808 ≤ q0 ∧ q0 ≤ 9223372036854775807) (h1 : -9223372036854775808 ≤ q1 ∧ q1 ≤ 9223372036854775807) (hn : 0 ≤ n ∧ n ≤ 255) (htab : Tabs w) :
    Calls Tryd.prog 6 #[.int .i64 x, .agg #[.int .i64 q0, .int .i64 q1], .int .u8 n] w (TrueMk w) := by
  have s0 := PairAt.start w q0 q1
  have hn4 : n % 4 = 0 ∨ n % 4 = 1 ∨ n % 4 = 2 ∨ n % 4 = 3 := by omega
  go_enter Tryd.func6, Tryd.ntmps6
  go_wp2_with fail
  refine (sanityE_any _ (htab.upd s0.up)).mono ?_
  rintro e w1 ⟨rfl, hu1⟩
  have s1 := (s0.upd hu1).upd (Upd.refl _ _).drew
  clear s0
  have k1 := s1.cells
  go_wp2_with fail
  go_region_held3 (fun wp => wp.cell? ⟨w.heap.size, 0, none⟩ = some (.int .i64 q0) ∧ wp.cell? ⟨w.heap.size, 1, none⟩ = some (.int .i64 q1)) (first | exact k1 | assumption)
    (first
      | (go_at_call 15; ((with_reducible refine (element_any q0 _ h0).mono ?_); rintro e wq ⟨G, HG, hG, rfl, rfl⟩))
      | (go_at_call 15; ((with_reducible refine (element_any q1 _ h1).mono ?_); rintro e wq ⟨H, HH, hH, rfl, rfl⟩)))
  have u1 := s1.up
  clear s1 k1
  generalize w1.drew = w2 at *
  have mG : memN G := by rw [HG.out]; exact elemN_mem (expN_lt q0)
  have mH : memN H := by rw [HH.out]; exact elemN_mem (expN_lt q1)
  have HM := Lib.hid (And.intro mG mH)
  clear mG mH
  go_wp2_with fail
  refine (eAdd0_any x w2 hx).mono ?_
  rintro e wq ⟨X, HX, hX, rfl, rfl⟩
  go_wp2_with fail
  refine (gPow_n G X _ w2 (by omega) (by omega) rfl).mono ?_
  rintro e w3 ⟨A, HA, hA, rfl, hu3⟩
  have u3 := u1.trans hu3
  go_wp2_with fail
  refine (gPow_n H X _ w3 (by omega) (by omega) rfl).mono ?_
  rintro e w4 ⟨B, HB, hB, rfl, hu4⟩
  have u4 := u3.trans hu4
  go_wp2_with fail
  refine (prove_mem x G H w4 hx HM.out.1 HM.out.2 (htab.upd u4)).mono ?_
  rintro e w5 ⟨c, z, HC, HZ, hc, hz, rfl, hu5⟩
  have u5 := u4.trans hu5
  have hv : verE (G : Int) (A : Int) (H : Int) (B : Int) (c : Int) (z : Int) = true := by
    rw [HC.out, HZ.out, HA.out, HB.out, HX.out]
    exact verE_with HM.out.1 HM.out.2 _ _
  have mA : memN A := by rw [HA.out]; exact pP_mem HM.out.1 _
  have mB : memN B := by rw [HB.out]; exact pP_mem HM.out.2 _
  have HV := Lib.hid hv
  have V1 := Lib.hid (memB_neg HM.out.1)
  have V2 := Lib.hid (memB_neg mA)
  have V3 := Lib.hid (memB_neg mB)
  clear hv mA mB HC HZ HA HB HX HM HG HH
  have p0 := ProofAt.start w5 c z
  have k0 := p0.cells
  have iG := ipE hG
  have iH := ipE hH
  have iA := ipE hA
  have iB := ipE hB
  have ic := iqE hc
  have iz := iqE hz
  rcases hn4 with hn4 | hn4 | hn4 | hn4
  all_goals
    go_wp2_with fail
    refine (everify_is (G : Int) (A : Int) (H : Int) (B : Int) (c : Int) (z : Int) true _ iG iA iH iB ic iz (htab.upd (u5.trans ((((Upd.refl _ _).alloc _).alloc _).alloc _))) HV.out).mono ?_
    rintro e w6 ⟨rfl, hu6⟩
    have t6 := TwoP.of hu6
    clear p0 k0 hn4
    obtain ⟨k2, k3⟩ := t6.cells
    go_wp2_with fail
    refine (everify_is (G : Int) (A : Int) (H : Int) (B : Int) _ _ false _ iG iA iH iB ⟨by omega, by omega⟩ ⟨by omega, by omega⟩ (htab.upd (u5.trans t6.one.up)) (by first | exact verE_c (by omega) | exact verE_z (by omega))).mono ?_
    rintro e w7 ⟨rfl, hu7⟩
    have t7 := t6.one.upd hu7
    clear t6 k2 k3
    obtain ⟨k2, k3⟩ := t7.cells
    go_wp2_with fail
    refine (everify_is _ _ _ _ _ _ false _ iG ⟨by omega, by omega⟩ iH iB ic iz (htab.upd (u5.trans t7.up)) (verE_a V2.out)).mono ?_
    rintro e w8 ⟨rfl, hu8⟩
    have t8 := t7.upd hu8
    clear t7 k2 k3
    obtain ⟨k2, k3⟩ := t8.cells
    go_wp2_with fail
    refine (everify_is _ _ _ _ _ _ false _ iG iA iH ⟨by omega, by omega⟩ ic iz (htab.upd (u5.trans t8.up)) (verE_b V3.out)).mono ?_
    rintro e w9 ⟨rfl, hu9⟩
    have t9 := t8.upd hu9
    clear t8 k2 k3
    obtain ⟨k2, k3⟩ := t9.cells
    go_wp2_with fail
    refine (everify_is _ _ _ _ _ _ false _ ⟨by omega, by omega⟩ iA iH iB ic iz (htab.upd (u5.trans t9.up)) (verE_g V1.out)).mono ?_
    rintro e w10 ⟨rfl, hu10⟩
    have t10 := t9.upd hu10
    clear t9 k2 k3
    obtain ⟨k2, k3⟩ := t10.cells
    go_wp2_with fail
    refine (everify_is _ _ 0 _ _ _ false _ iG iA ⟨by omega, by omega⟩ iB ic iz (htab.upd (u5.trans t10.up)) (verE_h (memB_low (by omega)))).mono ?_
    rintro e w11 ⟨rfl, hu11⟩
    have t11 := t10.upd hu11
    clear t10 k2 k3
    obtain ⟨k2, k3⟩ := t11.cells
    go_wp2_with fail
    refine (everify_is _ _ _ _ _ _ false _ iG ⟨by omega, by omega⟩ iH iB ic iz (htab.upd (u5.trans t11.up)) (verE_a (memB_high (by omega)))).mono ?_
    rintro e w12 ⟨rfl, hu12⟩
    go_wp2_with fail
    go_ret
    exact ⟨rfl, u5.trans (t11.up.trans hu12)⟩
end Go.Proofs.YtkhodajdionaaaaDoor
