/- group.Member. -/
import Derived.Test.YtkhodajdionaaaaGreatDoorGrpA
namespace Go.Proofs.YtkhodajdionaaaaGreatDoor
open Go.RowKit
set_option maxRecDepth 100000

/-- It returns a bool that is b; only new blocks have come. -/
def MkB (b : Bool) (w : World) (e : Ending) (w' : World) : Prop := ∃ r : Bool, Hid (r = b) ∧ e = .returned (.bool r) ∧ Upd [] [] w w'
def RetB (b : Bool) (w : World) (e : Ending) (w' : World) : Prop := ∃ r : Bool, Hid (r = b) ∧ e = .returned (.bool r) ∧ w = w'

/-- a is a member of the group. -/
def memB (a : Int) : Bool := decide (1 ≤ a) && decide (a < 2305843009213691579) && decide (powZ a 1152921504606845789 2305843009213691579 = 1)

theorem pow_at (a n m : Int) (N : Nat) (hN : n = (N : Int)) (w : World) (ha : -9223372036854775808 ≤ a ∧ a ≤ 9223372036854775807) (hn : n ≤ 9223372036854775807) (hm : 1 ≤ m ∧ m ≤ 9223372036854775807) :
    Calls Tryz.prog 16 #[.int .i64 a, .int .i64 n, .int .i64 m] w (MkZ .i64 m (powZ a N m) w) := by
  subst hN
  exact pow_any a m N w ha (by omega) hm

theorem qCast : (1152921504606845789 : Int) = ((1152921504606845789 : Nat) : Int) := rfl
theorem memB_low {a : Int} (h : a < 1) : memB a = false := by
  have : decide (1 ≤ a) = false := by simpa using h
  simp [memB, this]
theorem memB_high {a : Int} (h : 2305843009213691578 < a) : memB a = false := by
  have : decide (a < 2305843009213691579) = false := by rw [decide_eq_false_iff_not]; omega
  simp [memB, this]
theorem memB_mid {a : Int} (h1 : 1 ≤ a) (h2 : a ≤ 2305843009213691578) : memB a = decide (powZ a 1152921504606845789 2305843009213691579 = 1) := by
  have e1 : decide (1 ≤ a) = true := by simpa using h1
  have e2 : decide (a < 2305843009213691579) = true := by rw [decide_eq_true_iff]; omega
  rw [memB, e1, e2]; rfl

theorem member_any (a : Int) (w : World) (ha : -9223372036854775808 ≤ a ∧ a ≤ 9223372036854775807) :
    Calls Tryz.prog 33 #[.int .i64 a] w (MkB (memB a) w) := by
  by_cases h1 : 1 ≤ a
  · by_cases h2 : a ≤ 2305843009213691578
    · have HM := Lib.hid (memB_mid h1 h2)
      go_enter Tryz.func33, Tryz.ntmps33
      go_wp2_with (go_at_call 16; ((with_reducible refine (pow_at a _ _ 1152921504606845789 qCast _ (by omega) (by omega) (by omega)).mono ?_); rintro e w' ⟨r, HR, r0, r1, rfl, hu⟩))
      go_ret
      refine ⟨_, ?_, rfl, hu⟩
      show _ = _
      rw [HM.out, ← HR.out]
      rfl
    · have h3 : 2305843009213691578 < a := by omega
      have HM := Lib.hid (memB_high h3)
      clear h2
      go_enter Tryz.func33, Tryz.ntmps33
      go_wp2_with fail
      go_ret
      exact ⟨_, HM.out.symm, rfl, Upd.refl _ _⟩
  · have h3 : a < 1 := by omega
    have HM := Lib.hid (memB_low h3)
    clear h1
    go_enter Tryz.func33, Tryz.ntmps33
    go_wp2_with fail
    go_ret
    exact ⟨_, HM.out.symm, rfl, Upd.refl _ _⟩
end Go.Proofs.YtkhodajdionaaaaGreatDoor
