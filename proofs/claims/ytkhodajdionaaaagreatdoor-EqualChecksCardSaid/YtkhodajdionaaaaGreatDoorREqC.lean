/- sortesref06: Prove, side, Verify. -/
import Derived.Test.YtkhodajdionaaaaGreatDoorREqB
import Derived.Test.YtkhodajdionaaaaGreatDoorEqD
namespace Go.Proofs.YtkhodajdionaaaaGreatDoor
open Go.RowKit
set_option maxRecDepth 100000

set_option maxHeartbeats 1000000 in
theorem rprove_mem (x : Int) (g h : Nat) (w : World) (hx : -9223372036854775808 ≤ x ∧ x ≤ 9223372036854775807) (hg : memN g) (hh : memN h) :
    Calls Tryz.prog 12 #[.int .i64 x, .int .i64 (g : Int), .int .i64 (h : Int)] w (MkPrf (cWith (expN x) g h (nonceE (expN x) g h)) (zWith (expN x) g h (nonceE (expN x) g h)) w) := by
  have hg2 : g < 2305843009213691579 := hg.2.1
  have hh2 : h < 2305843009213691579 := hh.2.1
  have HG := Lib.hid ((memB_cast g).2 hg)
  have HH := Lib.hid ((memB_cast h).2 hh)
  clear hg hh
  have h0 := ProofAt.start w 0 0
  go_enter Tryz.func12, Tryz.ntmps12
  go_wp2_with fail
  refine (rmember_is g true _ (ipE hg2) HG.out).mono ?_
  rintro e w1 ⟨rfl, rfl⟩
  go_wp2_with fail
  refine (rmember_is h true _ (ipE hh2) HH.out).mono ?_
  rintro e w1 ⟨rfl, rfl⟩
  go_wp2_with fail
  refine (exponent6_any x _ hx).mono ?_
  rintro e w1 ⟨X, HX, hX, rfl, rfl⟩
  have hi := ints3 (w.alloc (.cells #[.int .i64 0, .int .i64 0] 25)) X g h 3 (iqE hX) (ipE hg2) (ipE hh2)
  have e1 : (w.alloc (.cells #[.int .i64 0, .int .i64 0] 25)).heap.size = w.heap.size + 1 := by simp
  rw [e1] at hi
  have HI := Lib.hid hi
  have h1 := h0.upd ((Upd.refl _ _).alloc (.cells #[.int .i64 (X : Int), .int .i64 (g : Int), .int .i64 (h : Int)] 3))
  clear hi h0 e1
  have h6 : (ByteArray.mk #[110, 111, 110, 99, 101, 47]).size = 6 := rfl
  go_wp2_with fail
  refine (joined_any [(X : Int), (g : Int), (h : Int)] _ _ 3 _ HI.out rfl (by omega)).mono ?_
  rintro e w2 ⟨y, HY, hy, rfl, hu2⟩
  have h2 := h1.upd hu2
  have hln := joined_len HI.out.2.2 3
  have hy2 : y.size ≤ 63 := by
    have e3 : [(X : Int), (g : Int), (h : Int)].take 3 = [(X : Int), (g : Int), (h : Int)] := rfl
    rw [e3] at hln
    simp only [List.length_cons, List.length_nil] at hln
    omega
  clear h1 hln HI hy
  go_wp2_with fail
  refine (rScalar_any _ w2 (by rw [ByteArray.size_append, h6]; omega)).mono ?_
  rintro e w3 ⟨k, HK, hk, rfl, hu3⟩
  have hkk : k = nonceE (expN x) g h := by
    rw [HK.out, bs_append, HY.out, nonceE, eqScal, eqText, HX.out]
    rfl
  have HKK := Lib.hid hkk
  have h3 := h2.upd hu3
  clear hkk HK h2
  go_wp2_with fail
  refine (proveWith_any x g h k w3 hx hg2 hh2 hk).mono ?_
  rintro e w4 ⟨c, z, HC, HZ, hc, hz, rfl, hu4⟩
  have h4 := h3.upd hu4
  obtain ⟨k0, k1⟩ := h4.cells
  obtain ⟨f0, f1⟩ := h4.free
  go_wp2_with fail
  refine bodyPost_ret (v := .agg #[.int .i64 (c : Int), .int .i64 (z : Int)]) (by simp [results, Tryz.results12, go_sem, k0, k1]) rfl ⟨c, z, ?_, ?_, hc, hz, rfl, ?_⟩
  · show _ = _
    rw [HC.out, HKK.out]
  · show _ = _
    rw [HZ.out, HKK.out]
  · exact (h4.up.setNew (p := ⟨_, _, none⟩) (Nat.le_refl _) _).setNew (p := ⟨_, _, none⟩) (Nat.le_refl _) _

set_option maxHeartbeats 1000000 in
theorem rprove_no (x g h : Int) (w : World) (hg : i64in g) (hh : i64in h) (hm : memB g = false ∨ memB h = false) :
    Calls Tryz.prog 12 #[.int .i64 x, .int .i64 g, .int .i64 h] w (MkPrf 0 0 w) := by
  have h0 := ProofAt.start w 0 0
  obtain ⟨a, ha⟩ : ∃ a, memB g = a := ⟨_, rfl⟩
  obtain ⟨b, hb⟩ : ∃ b, memB h = b := ⟨_, rfl⟩
  rw [ha, hb] at hm
  have HA := Lib.hid ha
  have HB := Lib.hid hb
  clear ha hb
  have hab : a = false ∨ (a = true ∧ b = false) := by cases a <;> simp_all
  clear hm
  obtain ⟨z0, z1⟩ := h0.cells
  obtain ⟨f0, f1⟩ := h0.free
  rcases hab with rfl | ⟨rfl, rfl⟩
  all_goals
    go_enter Tryz.func12, Tryz.ntmps12
    go_wp2_with fail
    refine (rmember_is g _ _ hg HA.out).mono ?_
    rintro e w1 ⟨rfl, rfl⟩
    go_wp2_with fail
    refine (rmember_is h _ _ hh HB.out).mono ?_
    rintro e w1 ⟨rfl, rfl⟩
    go_wp2_with fail
    refine bodyPost_ret (v := .agg #[.int .i64 0, .int .i64 0]) (by simp [results, Tryz.results12, go_sem, z0, z1]) rfl ⟨0, 0, rfl, rfl, by omega, by omega, rfl, ?_⟩
    exact h0.up

set_option maxHeartbeats 1000000 in
theorem side6_any (b a c z : Nat) (w : World) (hb : b ≤ 9223372036854775807) (ha : a ≤ 9223372036854775807) (hc : c < 1152921504606845789) (hz : z < 1152921504606845789) :
    Calls Tryz.prog 47 #[.int .i64 (b : Int), .int .i64 (a : Int), .agg #[.int .i64 (c : Int), .int .i64 (z : Int)]] w (MkN 2305843009213691579 (sideE b a c z) w) := by
  have h4 := (ProofAt.start w c z).upd (Upd.refl _ _).drew
  have k4 := h4.cells
  have hq1 := nat_sub_q c hc
  obtain ⟨m, hm⟩ : ∃ m, m = Qn - c := ⟨_, rfl⟩
  have hml : m ≤ 1152921504606845789 := by rw [hm]; exact Nat.sub_le _ _
  rw [← hm] at hq1
  have HM := Lib.hid hm
  clear hm
  go_enter Tryz.func47, Tryz.ntmps47
  go_wp2_with fail
  go_region_held3 (fun wp => wp.cell? ⟨w.heap.size, 0, none⟩ = some (.int .i64 (c : Int)) ∧ wp.cell? ⟨w.heap.size, 1, none⟩ = some (.int .i64 (z : Int))) (first | exact k4 | assumption)
    (first
      | (go_at_call 40; ((with_reducible refine (power6_any b z _ hb (by omega)).mono ?_); rintro e wq ⟨y1, HY1, hy1, rfl, rfl⟩))
      | (go_at_call 40; ((with_reducible refine (power6_any a m _ ha (by omega)).mono ?_); rintro e wq ⟨y2, HY2, hy2, rfl, rfl⟩))
      | (go_at_call 32; ((with_reducible refine (rMulP_n y1 y2 _ (by omega) (by omega)).mono ?_); rintro e wq ⟨y3, HY3, hy3, rfl, rfl⟩)))
  go_wp2_with fail
  go_ret
  refine ⟨y3, ?_, hy3, rfl, h4.up⟩
  show _ = _
  rw [HY3.out, HY1.out, HY2.out, HM.out, sideE]

theorem verE_gF {g a h b c z : Int} (m : memB g = false) : verE g a h b c z = false := by simp [verE, m]
theorem verE_aF {g a h b c z : Int} (m : memB a = false) : verE g a h b c z = false := by simp [verE, m]
theorem verE_hF {g a h b c z : Int} (m : memB h = false) : verE g a h b c z = false := by simp [verE, m]
theorem verE_bF {g a h b c z : Int} (m : memB b = false) : verE g a h b c z = false := by simp [verE, m]
theorem ints4 (w : World) (a b c d : Int) (t : TypeId) (ha : i64in a) (hb : i64in b) (hc : i64in c) (hd : i64in d) : IntsIn (w.alloc (.cells #[.int .i64 a, .int .i64 b, .int .i64 c, .int .i64 d] t)) w.heap.size [a, b, c, d] := by
  refine ⟨by simp, fun j x h => ?_, fun x hx => ?_⟩
  · rw [cell_of_row _ w.heap.size _ #[.int .i64 a, .int .i64 b, .int .i64 c, .int .i64 d] t (0, 0) (heap_alloc_new _ _)]
    match j, h with
    | 0, h => simp at h; subst h; rfl
    | 1, h => simp at h; subst h; rfl
    | 2, h => simp at h; subst h; rfl
    | 3, h => simp at h; subst h; rfl
    | n + 4, h => simp at h
  · simp at hx
    rcases hx with rfl | rfl | rfl | rfl <;> assumption
theorem verE_one {g a h b c z x : Int} {k : Nat} (hk : [g, a, h, b][k]? = some x) (hx : memB x = false) : verE g a h b c z = false := by
  match k, hk with
  | 0, hk => simp at hk; subst hk; exact verE_gF hx
  | 1, hk => simp at hk; subst hk; exact verE_aF hx
  | 2, hk => simp at hk; subst hk; exact verE_hF hx
  | 3, hk => simp at hk; subst hk; exact verE_bF hx
  | n + 4, hk => simp at hk

set_option maxHeartbeats 4000000 in
theorem rverify_any (g a h b c z : Int) (w : World) (hg : i64in g) (ha : i64in a) (hh : i64in h) (hb : i64in b) (hc : i64in c) (hz : i64in z) :
    Calls Tryz.prog 18 #[.int .i64 g, .int .i64 a, .int .i64 h, .int .i64 b, .agg #[.int .i64 c, .int .i64 z]] w (MkB (verE g a h b c z) w) := by
  have h0 := ProofAt.start w c z
  have hc1 := hc.1
  have hc2 := hc.2
  have hz1 := hz.1
  have hz2 := hz.2
  have hi := ints4 (w.alloc (.cells #[.int .i64 c, .int .i64 z] 25)) g a h b 3 hg ha hh hb
  have e1 : (w.alloc (.cells #[.int .i64 c, .int .i64 z] 25)).heap.size = w.heap.size + 1 := by simp
  rw [e1] at hi
  have HI := Lib.hid hi
  have h1 := h0.upd ((Upd.refl _ _).alloc (.cells #[.int .i64 g, .int .i64 a, .int .i64 h, .int .i64 b] 3))
  clear hi h0 e1
  go_enter Tryz.func18, Tryz.ntmps18
  go_wp2_with fail
  generalize hww : ((w.alloc (.cells #[.int .i64 c, .int .i64 z] 25)).alloc (.cells #[.int .i64 g, .int .i64 a, .int .i64 h, .int .i64 b] 3)) = ww at *
  clear hww
  go_loop [12] (fun i => ∃ k : Nat, i = .int .i64 (k : Int) ∧ k ≤ 4 ∧ Hid (∀ j x, [g, a, h, b][j]? = some x → j < k → memB x = true)) (fun i => 4 - (intOf i).toNat)
  case atStart => exact ⟨0, rfl, Nat.zero_le _, fun j x _ hj => by omega⟩
  case round =>
    obtain ⟨k, rfl, hk, HK⟩ := hrel
    by_cases hlt : k < 4
    · obtain ⟨x, hx⟩ : ∃ x, [g, a, h, b][k]? = some x := ⟨_, List.getElem?_eq_getElem (by simpa using hlt)⟩
      have q1 := HI.out.2.1 k x hx
      have hxi : i64in x := HI.out.2.2 x (List.mem_of_getElem? hx)
      have HX := Lib.hid hx
      obtain ⟨m, hm⟩ : ∃ m, memB x = m := ⟨_, rfl⟩
      have HM := Lib.hid hm
      have p0 : (0 : Int) ≤ (k : Int) := by omega
      have p1 : (k : Int) < 4 := by omega
      clear hx hm
      go_wp2_with fail
      refine (rmember_is x m _ hxi HM.out).mono ?_
      rintro e w1 ⟨rfl, rfl⟩
      cases m with
      | true =>
        have hst : ∀ j y, [g, a, h, b][j]? = some y → j < k + 1 → memB y = true := by
          intro j y hy hj
          by_cases hjk : j = k
          · subst hjk
            have := HX.out
            rw [hy] at this
            injection this with this
            rw [this]; exact HM.out
          · exact HK.out j y hy (by omega)
        have HST := Lib.hid hst
        clear hst
        go_wp2_with fail
        exact ⟨⟨k + 1, by go_num, by omega, HST.out⟩, by simp [intOf]; omega⟩
      | false =>
        have HV := Lib.hid (verE_one (c := c) (z := z) HX.out HM.out)
        go_wp2_with fail
        go_ret
        exact ⟨_, HV.out.symm, rfl, h1.up⟩
    · obtain rfl : k = 4 := by omega
      have m0 := HK.out 0 g rfl (by omega)
      have m1 := HK.out 1 a rfl (by omega)
      have m2 := HK.out 2 h rfl (by omega)
      have m3 := HK.out 3 b rfl (by omega)
      have HMM := Lib.hid (And.intro m0 (And.intro m1 (And.intro m2 m3)))
      clear m0 m1 m2 m3 HK HI hk hlt
      obtain ⟨k0, k1⟩ := h1.cells
      by_cases c0 : c < 0
      · have HV : Hid (verE g a h b c z = false) := by
          show _ = _
          have : decide (0 ≤ c) = false := by rw [decide_eq_false_iff_not]; omega
          simp [verE, this]
        go_wp2_with fail
        go_ret
        exact ⟨_, HV.out.symm, rfl, h1.up⟩
      by_cases c9 : 1152921504606845789 ≤ c
      · have HV : Hid (verE g a h b c z = false) := by
          show _ = _
          have : decide (c < 1152921504606845789) = false := by rw [decide_eq_false_iff_not]; omega
          simp [verE, this]
        go_wp2_with fail
        go_ret
        exact ⟨_, HV.out.symm, rfl, h1.up⟩
      by_cases z0 : z < 0
      · have HV : Hid (verE g a h b c z = false) := by
          show _ = _
          have : decide (0 ≤ z) = false := by rw [decide_eq_false_iff_not]; omega
          simp [verE, this]
        go_wp2_with fail
        go_ret
        exact ⟨_, HV.out.symm, rfl, h1.up⟩
      by_cases z9 : 1152921504606845789 ≤ z
      · have HV : Hid (verE g a h b c z = false) := by
          show _ = _
          have : decide (z < 1152921504606845789) = false := by rw [decide_eq_false_iff_not]; omega
          simp [verE, this]
        go_wp2_with fail
        go_ret
        exact ⟨_, HV.out.symm, rfl, h1.up⟩
      obtain ⟨⟨G, rfl, hG⟩, ⟨A, rfl, hA⟩, ⟨H, rfl, hH⟩, ⟨B, rfl, hB⟩⟩ : (∃ n : Nat, g = (n : Int) ∧ memN n) ∧ (∃ n : Nat, a = (n : Int) ∧ memN n) ∧ (∃ n : Nat, h = (n : Int) ∧ memN n) ∧ (∃ n : Nat, b = (n : Int) ∧ memN n) :=
        ⟨memB_pos HMM.out.1, memB_pos HMM.out.2.1, memB_pos HMM.out.2.2.1, memB_pos HMM.out.2.2.2⟩
      obtain ⟨C, rfl⟩ : ∃ n : Nat, c = (n : Int) := ⟨c.toNat, by omega⟩
      obtain ⟨Z, rfl⟩ : ∃ n : Nat, z = (n : Int) := ⟨z.toNat, by omega⟩
      have lG : G < 2305843009213691579 := hG.2.1
      have lA : A < 2305843009213691579 := hA.2.1
      have lH : H < 2305843009213691579 := hH.2.1
      have lB : B < 2305843009213691579 := hB.2.1
      have lC : C < 1152921504606845789 := by omega
      have lZ : Z < 1152921504606845789 := by omega
      have HLC := Lib.hid (And.intro lC lZ)
      have h5 := h1.upd (Upd.refl _ _).drew
      have k5 := h5.cells
      clear hG hA hH hB k0 k1 lC lZ
      obtain ⟨k0, k1⟩ := h1.cells
      go_wp2_with fail
      clear k0 k1 h1
      go_region_held3 (fun wp => wp.cell? ⟨w.heap.size, 0, none⟩ = some (.int .i64 (C : Int)) ∧ wp.cell? ⟨w.heap.size, 1, none⟩ = some (.int .i64 (Z : Int))) (first | exact k5 | assumption | go_keep)
        (first
          | (go_at_call 47; ((with_reducible refine (side6_any G A C Z _ (by omega) (by omega) HLC.out.1 HLC.out.2).mono ?_); rintro e wq ⟨r, HR, hr, rfl, hq⟩; have g1 := h5.upd hq; have kq := g1.cells; clear hq))
          | (go_at_call 47; ((with_reducible refine (side6_any H B C Z _ (by omega) (by omega) HLC.out.1 HLC.out.2).mono ?_); rintro e wq ⟨s, HS, hs, rfl, hq⟩; have g2 := g1.upd hq; have kq := g2.cells; have i2 := ints6 wq G A H B r s 3 (ipE lG) (ipE lA) (ipE lH) (ipE lB) (ipE hr) (ipE hs); have u2 := (Upd.refl [] wq).alloc (.cells #[.int .i64 (G : Int), .int .i64 (A : Int), .int .i64 (H : Int), .int .i64 (B : Int), .int .i64 (r : Int), .int .i64 (s : Int)] 3); have g3 := g2.upd u2; have kq3 := g3.cells; clear hq))
          | (go_at_call 19; ((with_reducible refine (rchal_any [(G : Int), (A : Int), (H : Int), (B : Int), (r : Int), (s : Int)] _ _ 6 _ i2 rfl (by omega)).mono ?_); rintro e wz ⟨y, HY, hy, rfl, hq⟩; have g4 := g3.upd hq; have kq := g4.cells; clear hq)))
      go_wp2_with fail
      go_ret
      refine ⟨_, ?_, rfl, g4.up⟩
      show _ = _
      have hy2 : y = chalE G A H B (sideE G A C Z) (sideE H B C Z) := by rw [HY.out, HR.out, HS.out]; rfl
      have e1 : decide (0 ≤ (C : Int)) = true := by rw [decide_eq_true_iff]; omega
      have e2 : decide (0 ≤ (Z : Int)) = true := by rw [decide_eq_true_iff]; omega
      have e3 : decide ((C : Int) < 1152921504606845789) = true := by have := HLC.out.1; rw [decide_eq_true_iff]; omega
      have e4 : decide ((Z : Int) < 1152921504606845789) = true := by have := HLC.out.2; rw [decide_eq_true_iff]; omega
      unfold verE
      rw [HMM.out.1, HMM.out.2.1, HMM.out.2.2.1, HMM.out.2.2.2, e1, e2, e3, e4]
      simp only [Int.toNat_natCast, Bool.true_and]
      rw [Bool.eq_iff_iff, decide_eq_true_iff, ← hy2]
      show ((C : Int) == (y : Int)) = true ↔ _
      rw [beq_iff_eq]
      omega

theorem rverify_is (g a h b c z : Int) (v : Bool) (w : World) (hg : i64in g) (ha : i64in a) (hh : i64in h) (hb : i64in b) (hc : i64in c) (hz : i64in z) (hv : verE g a h b c z = v) :
    Calls Tryz.prog 18 #[.int .i64 g, .int .i64 a, .int .i64 h, .int .i64 b, .agg #[.int .i64 c, .int .i64 z]] w (fun e w' => e = .returned (.bool v) ∧ Upd [] [] w w') := by
  refine (rverify_any g a h b c z w hg ha hh hb hc hz).mono ?_
  rintro e w' ⟨x, HX, rfl, hu⟩
  exact ⟨by rw [HX.out, hv], hu⟩
end Go.Proofs.YtkhodajdionaaaaGreatDoor
