/- One byte as a text. -/
import Derived.Test.YtkhodajdionaaaaGreatDoorRows
import Derived.Test.YtkhodajdionaaaaGreatDoorCont
namespace Go.Proofs.YtkhodajdionaaaaGreatDoor
open Go.RowKit
set_option maxRecDepth 100000

/-- One byte as a text: the new row, and its conversion. -/
theorem byte_str (wr : World) (b : UInt8) : (convert 100 9 (.slice (some ⟨wr.heap.size, 0, none⟩) 1 1)).run Tryz.prog (wr.alloc (.cells #[.int .u8 (b.toNat : Int)] 5)) = .ok (.string ⟨#[b]⟩) (wr.alloc (.cells #[.int .u8 (b.toNat : Int)] 5)) :=
  conv_bytes (P := Tryz.prog) (wr.alloc (.cells #[.int .u8 (b.toNat : Int)] 5)) 100 9 5 Tryz.underlying100 Tryz.underlying5 Tryz.underlying9 wr.heap.size _ _ _ (heap_alloc_new _ _) [b] rfl 0 1 1 (by simp)

end Go.Proofs.YtkhodajdionaaaaGreatDoor
