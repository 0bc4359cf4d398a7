/- sortesref05.Verify. -/
import Derived.Test.YtkhodajdionaaaaGreatDoorRSgnB
import Derived.Test.YtkhodajdionaaaaGreatDoorREqB
import Derived.Test.YtkhodajdionaaaaGreatDoorSanS
namespace Go.Proofs.YtkhodajdionaaaaGreatDoor
open Go.RowKit
set_option maxRecDepth 100000

theorem rpow4_any (n : Nat) (w : World) (hn : n ≤ 9223372036854775807) :
    Calls Tryz.prog 51 #[.int .i64 4, .int .i64 (n : Int), .int .i64 2305843009213691579] w (fun e w' => ∃ r : Nat, Hid (r = 4 ^ n % Pn) ∧ r < 2305843009213691579 ∧ e = .returned (.int .i64 (r : Int)) ∧ w = w') := rPow_n 4 n _ w (by omega) hn rfl
set_option maxHeartbeats 2000000 in
theorem rverify5_any (p : Int) (t : ByteArray) (r s : Int) (w : World) (hp0 : -9223372036854775808 ≤ p ∧ p ≤ 9223372036854775807) (hr0 : -9223372036854775808 ≤ r ∧ r ≤ 9223372036854775807) (hs : -9223372036854775808 ≤ s ∧ s ≤ 9223372036854775807) (ht : t.size ≤ 140737488355000) :
    Calls Tryz.prog 24 #[.int .i64 p, .string t, .agg #[.int .i64 r, .int .i64 s]] w (MkB (verB p (bs t) r s) w) := by
  have hp : i64in p := hp0
  have hr : i64in r := hr0
  clear hp0 hr0
  have h0 := SigAt.start w r s
  obtain ⟨a, ha⟩ : ∃ a, memB p = a := ⟨_, rfl⟩
  obtain ⟨b, hb⟩ : ∃ b, memB r = b := ⟨_, rfl⟩
  have HA := Lib.hid ha
  have HB := Lib.hid hb
  by_cases hab : a = true ∧ b = true
  case neg =>
    have HV : Hid (verB p (bs t) r s = false) := by
      show _ = _
      cases a <;> cases b <;> simp_all [verB]
    have hab2 : a = false ∨ (a = true ∧ b = false) := by cases a <;> cases b <;> simp_all
    clear ha hb hab
    obtain ⟨k0, k1⟩ := h0.cells
    rcases hab2 with rfl | ⟨rfl, rfl⟩
    all_goals
      go_enter Tryz.func24, Tryz.ntmps24
      go_wp2_with fail
      refine (rmember_is p _ _ hp HA.out).mono ?_
      rintro e w1 ⟨rfl, rfl⟩
      go_wp2_with fail
      refine (rmember_is r _ _ hr HB.out).mono ?_
      rintro e w1 ⟨rfl, rfl⟩
      go_wp2_with fail
      go_ret
      exact ⟨_, HV.out.symm, rfl, h0.up⟩
  case pos =>
    obtain ⟨rfl, rfl⟩ := hab
    obtain ⟨P, rfl, hP⟩ := memB_pos ha
    obtain ⟨R, rfl, hR⟩ := memB_pos hb
    have hP2 : P < 2305843009213691579 := hP.2.1
    have hR2 : R < 2305843009213691579 := hR.2.1
    clear ha hb hP hR
    obtain ⟨k0, k1⟩ := h0.cells
    by_cases hs0 : s < 0
    · have HV : Hid (verB (P : Int) (bs t) (R : Int) s = false) := by
        show _ = _
        have : decide (0 ≤ s) = false := by rw [decide_eq_false_iff_not]; omega
        simp [verB, this]
      go_enter Tryz.func24, Tryz.ntmps24
      go_wp2_with fail
      refine (rmember_is P _ _ hp HA.out).mono ?_
      rintro e w1 ⟨rfl, rfl⟩
      go_wp2_with fail
      refine (rmember_is R _ _ hr HB.out).mono ?_
      rintro e w1 ⟨rfl, rfl⟩
      go_wp2_with fail
      go_ret
      exact ⟨_, HV.out.symm, rfl, h0.up⟩
    by_cases hs1 : 1152921504606845789 ≤ s
    · have HV : Hid (verB (P : Int) (bs t) (R : Int) s = false) := by
        show _ = _
        have : decide (s < 1152921504606845789) = false := by rw [decide_eq_false_iff_not]; omega
        simp [verB, this]
      go_enter Tryz.func24, Tryz.ntmps24
      go_wp2_with fail
      refine (rmember_is P _ _ hp HA.out).mono ?_
      rintro e w1 ⟨rfl, rfl⟩
      go_wp2_with fail
      refine (rmember_is R _ _ hr HB.out).mono ?_
      rintro e w1 ⟨rfl, rfl⟩
      go_wp2_with fail
      go_ret
      exact ⟨_, HV.out.symm, rfl, h0.up⟩
    go_enter Tryz.func24, Tryz.ntmps24
    go_wp2_with fail
    refine (rmember_is P _ _ hp HA.out).mono ?_
    rintro e w1 ⟨rfl, rfl⟩
    go_wp2_with fail
    refine (rmember_is R _ _ hr HB.out).mono ?_
    rintro e w1 ⟨rfl, rfl⟩
    go_wp2_with fail
    obtain ⟨T, rfl⟩ : ∃ T : Nat, s = (T : Int) := ⟨s.toNat, by omega⟩
    have HS1 := Lib.hid hs1
    have HSS := Lib.hid hs
    clear hs hs1 hs0
    refine (rchallenge_any R P t _ (by omega) (by omega) ht).mono ?_
    rintro e w3 ⟨c, HC, hc, rfl, hu3⟩
    have h4 := (h0.upd hu3).upd (Upd.refl _ _).drew
    have k4 := h4.cells
    have hTb : T ≤ 9223372036854775807 := by have := HSS.out.2; omega
    clear h0 k0 k1
    go_wp2_with fail
    go_region_held3 (fun wp => wp.cell? ⟨w.heap.size, 0, none⟩ = some (.int .i64 (R : Int)) ∧ wp.cell? ⟨w.heap.size, 1, none⟩ = some (.int .i64 (T : Int))) (first | exact k4 | assumption)
      (first
        | (go_at_call 51; ((with_reducible refine (rpow4_any T _ hTb).mono ?_); rintro e wq ⟨y1, HY1, hy1, rfl, rfl⟩))
        | (go_at_call 51; ((with_reducible refine (rPow_n P c _ _ (by omega) (by omega) rfl).mono ?_); rintro e wq ⟨y2, HY2, hy2, rfl, rfl⟩))
        | (go_at_call 32; ((with_reducible refine (rMulP_n R y2 _ (by omega) (by omega)).mono ?_); rintro e wq ⟨y3, HY3, hy3, rfl, rfl⟩)))
    go_wp2_with fail
    go_ret
    refine ⟨_, ?_, rfl, h4.up⟩
    show _ = _
    have e1 : y1 = gP T := HY1.out
    have e3 : y3 = R * P ^ chalN R P (bs t) % Pn := by rw [HY3.out, HY2.out, HC.out, Nat.mul_mod_mod]
    have mP : memN P := (memB_cast P).1 HA.out
    have mR : memN R := (memB_cast R).1 HB.out
    have hT : T < Qn := by
      have : Qn = 1152921504606845789 := rfl
      have := HS1.out
      omega
    show ((y1 : Int) == (y3 : Int)) = _
    rw [Bool.eq_iff_iff, verB_cast, beq_iff_eq, ← e1, ← e3]
    exact ⟨fun h => ⟨mP, mR, hT, by omega⟩, fun h => by have := h.2.2.2; omega⟩
theorem rverify5_is (p : Int) (t : ByteArray) (r s : Int) (b : Bool) (w : World) (hp : i64in p) (hr : i64in r) (hs : i64in s) (ht : t.size ≤ 140737488355000) (h : verB p (bs t) r s = b) :
    Calls Tryz.prog 24 #[.int .i64 p, .string t, .agg #[.int .i64 r, .int .i64 s]] w (fun e w' => e = .returned (.bool b) ∧ Upd [] [] w w') := by
  refine (rverify5_any p t r s w hp hr hs ht).mono ?_
  rintro e w' ⟨x, HX, rfl, hu⟩
  exact ⟨by rw [HX.out, h], hu⟩
end Go.Proofs.YtkhodajdionaaaaGreatDoor
