/- For every input sorteslaw33.CourtForged returns true, and each argument reads afterwards as it read before; the listed package variables are tied to the program's text. Conditions: none beyond the card's own. -/
import Derived.Lay
import Derived.Test.YtmjlkkbbnkanpaaGreatDoorHAE
import Derived.Test.YtmjlkkbbnkanpaaGreatDoorHAD
import Derived.Test.YtmjlkkbbnkanpaaGreatDoorHBL
namespace Go.Proofs.YtmjlkkbbnkanpaaGreatDoor
open Go.ChangeShapes Go.WideShapes Go.ChangeAt Go.RowKit
open Go.ChangeMaps (open_string shut_string)
set_option maxRecDepth 100000

theorem met_CourtForged (os : Os) : laidMet Tryz.prog Rows.courtForgedRow.laid ((World.laidAll Tryz.prog os Rows.courtForgedRow.laid).forCall (fun _ _ => 0) ⟨#[], #[.slice none 0 0, .int .u8 0, .agg #[.int .i64 0, .int .i64 0, .int .i64 0, .int .i64 0]], []⟩).memory :=
  laidMet_laidAll _ (by kernel_rfl) (by kernel_rfl)
theorem reads_CourtForged (os : Os) {H : Type} (enc : TypeId × Value → H) : ∃ places, DataW.whole enc Tryz.prog ((World.laidAll Tryz.prog os Rows.courtForgedRow.laid).forCall (fun _ _ => 0) ⟨#[], #[.slice none 0 0, .int .u8 0, .agg #[.int .i64 0, .int .i64 0, .int .i64 0, .int .i64 0]], []⟩).memory Tryz.f3.params.toList Rows.courtForgedSpec.vars false (#[.slice none 0 0, .int .u8 0, .agg #[.int .i64 0, .int .i64 0, .int .i64 0, .int .i64 0]] : Array Value).toList 8 = some ([.nil, .lit (.int .u8 0), .agg [.lit (.int .i64 0), .lit (.int .i64 0), .lit (.int .i64 0), .lit (.int .i64 0)]], [], places) :=
  ⟨[], by kernel_rfl⟩

theorem closed_CourtForged : joinedFacts Tryz.checked.prog 3 Tryz.f3 (OpenSpec.ofChange Rows.courtForgedSpec).bare Rows.courtForgedRow = true := by kernel_rfl
theorem plain_CourtForged (f : FuncId) (fn : Func) (hf : Tryz.pinned.checked.prog.funcNamed "sortes/sorteslaw33.CourtForged" = some f) (hfn : Tryz.pinned.checked.prog.funcs[f]? = some fn) :
    Rows.courtForgedCard.stood.looks = Tryz.pinned.checked.prog.looks [] ∧ ∀ (j : Nat) t, fn.params[j]? = some t → Tryz.pinned.checked.prog.wantsStandIn t = false := by
  obtain rfl : f = 3 := Option.some.inj ((show Tryz.prog.funcNamed "sortes/sorteslaw33.CourtForged" = some 3 by kernel_rfl).symm.trans hf) |>.symm
  obtain rfl : fn = Tryz.f3 := (Option.some.inj (Tryz.func3.symm.trans hfn)).symm
  refine ⟨by kernel_rfl, fun j t ht => ?_⟩
  rw [Tryz.params3] at ht
  have hm := Array.mem_of_getElem? ht
  have hall : ∀ t ∈ [22, 5, 23], Tryz.prog.wantsStandIn t = false := by
    intro t ht
    have : ([22, 5, 23].all fun t => Tryz.prog.wantsStandIn t == false) = true := by kernel_rfl
    have := List.all_eq_true.1 this t ht
    simpa using this
  exact hall t (by simpa using hm)

#print axioms proved_CourtForged
end Go.Proofs.YtmjlkkbbnkanpaaGreatDoor
