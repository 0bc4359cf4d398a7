/- Small things that the rows share. -/
import Derived.Test.YtkhodajdionaaaaDoorLaidS
namespace Go.Proofs.YtkhodajdionaaaaDoor
open Go.RowKit
theorem below_of_upd {w w' : World} (h : Upd [] [] w w') : Below w.heap.size w w' := ⟨h.os, h.tape, h.output, h.size, fun k hk => h.block k hk (by simp)⟩
end Go.Proofs.YtkhodajdionaaaaDoor
