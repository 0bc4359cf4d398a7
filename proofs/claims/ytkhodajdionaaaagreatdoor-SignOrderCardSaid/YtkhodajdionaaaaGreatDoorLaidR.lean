/- Small things that the rows share. -/
import Derived.Test.YtkhodajdionaaaaGreatDoorLaidS
namespace Go.Proofs.YtkhodajdionaaaaGreatDoor
open Go.RowKit
theorem below_of_upd {w w' : World} (h : Upd [] [] w w') : Below w.heap.size w w' := ⟨h.os, h.tape, h.output, h.size, fun k hk => h.block k hk (by simp)⟩
end Go.Proofs.YtkhodajdionaaaaGreatDoor
