/- The walks of EqualHolds, EqualOnly, EqualRange. -/
import Derived.Test.YtkhodajdionaaaaDoorEqF
namespace Go.Proofs.YtkhodajdionaaaaDoor
open Go.RowKit
set_option maxRecDepth 100000

theorem eAdd0_any (x : Int) (w : World) (hx : -9223372036854775808 ≤ x ∧ x ≤ 9223372036854775807) :
    Calls Tryd.prog 16 #[.int .i64 x, .int .i64 0, .int .i64 1152921504606845789] w (fun e w' => ∃ r : Nat, Hid (r = expN x) ∧ r < 1152921504606845789 ∧ e = .returned (.int .i64 (r : Int)) ∧ w = w') := by
  refine (add_any x 0 1152921504606845789 _ hx (by omega) (by omega)).mono ?_
  rintro e w3 ⟨x1, HX1, x10, x11, rfl, rfl⟩
  refine ⟨expN x, rfl, expN_lt x, ?_, rfl⟩
  have : x1 = (expN x : Int) := by rw [HX1.out, expN_cast, Int.add_zero]
  rw [this]

set_option maxHeartbeats 1000000 in
theorem equalHolds_walk (x g h : Int) (w : World) (hx : -9223372036854775808 ≤ x ∧ x ≤ 9223372036854775807) (hg : -9223372036854775808 ≤ g ∧ g ≤ 9223372036854775807) (hh : -9223372036854775808 ≤ h ∧ h ≤ 9223372036854775807) (htab : Tabs w) :
    Calls Tryd.prog 3 #[.int .i64 x, .int .i64 g, .int .i64 h] w (TrueMk w) := by
  go_enter Tryd.func3, Tryd.ntmps3
  go_wp2_with fail
  refine (sanityE_any w htab).mono ?_
  rintro e w1 ⟨rfl, hu1⟩
  go_wp2_with fail
  refine (element_any g w1 hg).mono ?_
  rintro e w2 ⟨G, HG, hG, rfl, rfl⟩
  go_wp2_with fail
  refine (element_any h w1 hh).mono ?_
  rintro e w2 ⟨H, HH, hH, rfl, rfl⟩
  go_wp2_with fail
  refine (eAdd0_any x w1 hx).mono ?_
  rintro e w2 ⟨X, HX, hX, rfl, rfl⟩
  have mG : memN G := by rw [HG.out]; exact elemN_mem (expN_lt g)
  have mH : memN H := by rw [HH.out]; exact elemN_mem (expN_lt h)
  have HM := Lib.hid (And.intro mG mH)
  clear mG mH
  go_wp2_with fail
  refine (gPow_n G X _ w1 (by omega) (by omega) rfl).mono ?_
  rintro e w2 ⟨A, HA, hA, rfl, hu2⟩
  have u2 := hu1.trans hu2
  go_wp2_with fail
  refine (gPow_n H X _ w2 (by omega) (by omega) rfl).mono ?_
  rintro e w3 ⟨B, HB, hB, rfl, hu3⟩
  have u3 := u2.trans hu3
  go_wp2_with fail
  refine (prove_mem x G H w3 hx HM.out.1 HM.out.2 (htab.upd u3)).mono ?_
  rintro e w4 ⟨c, z, HC, HZ, hc, hz, rfl, hu4⟩
  have u4 := u3.trans hu4
  have hv : verE (G : Int) (A : Int) (H : Int) (B : Int) (c : Int) (z : Int) = true := by
    rw [HC.out, HZ.out, HA.out, HB.out, HX.out]
    exact verE_with HM.out.1 HM.out.2 _ _
  have HV := Lib.hid hv
  clear hv
  go_wp2_with fail
  refine (everify_is _ _ _ _ _ _ true w4 (ipE hG) (ipE hA) (ipE hH) (ipE hB) (iqE hc) (iqE hz) (htab.upd u4) HV.out).mono ?_
  rintro e w5 ⟨rfl, hu5⟩
  go_wp2_with fail
  go_ret
  exact ⟨rfl, u4.trans hu5⟩
end Go.Proofs.YtkhodajdionaaaaDoor
