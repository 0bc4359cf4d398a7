/- Three ints, opened. -/
import Derived.Test.YtmnmhhbldbdpfaaGreatDoorGK
namespace Go.Proofs.YtmnmhhbldbdpfaaGreatDoor
open Go.ChangeShapes Go.WideShapes Go.ChangeAt Go.RowKit Go.Deep Go.Joins
set_option maxRecDepth 100000
section
variable {H : Type} {enc : TypeId × Value → H} {P : Program} {w : World} {base : Nat} {sp : Nat → Bool} {hd : Bool}
/-- Three ints. -/
theorem open_ints3 {t : TypeId} {v : Value} {d : DataW H} {p : List MemPlace} {r : Reach} {b0 : Nat} (f : Nat) (hk : flatK P f t = some [.i .i64, .i .i64, .i .i64]) (hv : Value.okWide P w r b0 t v) (h : DataW.Trod enc P w base sp hd t v d p) (ha : (∃ n e, P.underlying t = some (.array n e)) ∨ ∃ fs, P.underlying t = some (.struct fs)) :
    ∃ a b c : Int, v = .agg #[.int .i64 a, .int .i64 b, .int .i64 c] ∧ (-9223372036854775808 ≤ a ∧ a ≤ 9223372036854775807) ∧ (-9223372036854775808 ≤ b ∧ b ≤ 9223372036854775807) ∧ (-9223372036854775808 ≤ c ∧ c ≤ 9223372036854775807) := by
  obtain ⟨cs, rfl, hm⟩ := open_flat f hk hv h ha
  obtain ⟨a, ha, wa⟩ := hm.i64 (i := 0) rfl
  obtain ⟨b, hb, wb⟩ := hm.i64 (i := 1) rfl
  obtain ⟨c, hc, wc⟩ := hm.i64 (i := 2) rfl
  have hl : cs.toList.length = 3 := hm.1
  refine ⟨a, b, c, ?_, wa, wb, wc⟩
  congr 1
  apply Array.ext'
  match h : cs.toList, hl with
  | [x0, x1, x2], _ =>
    rw [h] at ha hb hc
    simp at ha hb hc
    rw [ha, hb, hc]
end
end Go.Proofs.YtmnmhhbldbdpfaaGreatDoor
