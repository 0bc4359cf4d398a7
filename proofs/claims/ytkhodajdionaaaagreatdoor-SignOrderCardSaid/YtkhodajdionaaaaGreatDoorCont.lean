/- Forms of contracts. Over any program. -/
import Derived.Test.YtkhodajdionaaaaGreatDoorBytes
import Derived.IntWalk
namespace Go.Proofs.YtkhodajdionaaaaGreatDoor
open Go.RowKit

/-- It returns v; the world is as it was. -/
def Ret (v : Value) (w : World) (e : Ending) (w' : World) : Prop := e = .returned v ∧ w = w'
/-- It returns v; only new blocks have come. -/
def Mk (v : Value) (w : World) (e : Ending) (w' : World) : Prop := e = .returned v ∧ Upd [] [] w w'
theorem Ret.mk {v : Value} {w : World} {e : Ending} {w' : World} (h : Ret v w e w') : Mk v w e w' := ⟨h.1, h.2 ▸ Upd.refl _ _⟩

/-- It returns a number below m that is v; the world is as it was. -/
def RetZ (k : IntKind) (m v : Int) (w : World) (e : Ending) (w' : World) : Prop := ∃ r : Int, Hid (r = v) ∧ 0 ≤ r ∧ r < m ∧ e = .returned (.int k r) ∧ w = w'
/-- The same; only new blocks have come. -/
def MkZ (k : IntKind) (m v : Int) (w : World) (e : Ending) (w' : World) : Prop := ∃ r : Int, Hid (r = v) ∧ 0 ≤ r ∧ r < m ∧ e = .returned (.int k r) ∧ Upd [] [] w w'
theorem quiet_ret {P : Program} {f : FuncId} {args : Array Value} {w : World} {n : Nat} {v : Value} (h : Calls P f args (w.drewN n) (Ret v (w.drewN n))) :
    Calls P f args (w.drewN n) fun e w'' => e = .returned v ∧ ∃ m, w'' = w.drewN m :=
  h.mono fun _ _ ⟨he, hm⟩ => ⟨he, n, hm.symm⟩
theorem retZ_mod {k : IntKind} {m v r : Int} {w : World} (hm : 0 < m) (h : r = v % m) : RetZ k m (v % m) w (.returned (.int k r)) w :=
  ⟨r, h, by rw [h]; exact Int.emod_nonneg _ (by omega), by rw [h]; exact Int.emod_lt_of_pos _ hm, rfl, rfl⟩

theorem wrap_in {n : Int} (h1 : -9223372036854775808 ≤ n) (h2 : n ≤ 9223372036854775807) : IntKind.i64.wrap n = n := IntWalk.i64_in n ⟨h1, h2⟩
theorem ret_i64 {k : IntKind} {a b : Int} (h : a = b) : Ending.returned (.int k a) = .returned (.int k b) := by rw [h]
end Go.Proofs.YtkhodajdionaaaaGreatDoor
