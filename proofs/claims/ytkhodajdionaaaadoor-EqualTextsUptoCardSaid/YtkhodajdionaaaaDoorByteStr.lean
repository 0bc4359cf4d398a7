/- One byte as a text. -/
import Derived.Test.YtkhodajdionaaaaDoorRows
import Derived.Test.YtkhodajdionaaaaDoorCont
namespace Go.Proofs.YtkhodajdionaaaaDoor
open Go.RowKit
set_option maxRecDepth 100000

/-- One byte as a text: the new row, and its conversion. -/
theorem byte_str (wr : World) (b : UInt8) : (convert 37 9 (.slice (some ⟨wr.heap.size, 0, none⟩) 1 1)).run Tryd.prog (wr.alloc (.cells #[.int .u8 (b.toNat : Int)] 5)) = .ok (.string ⟨#[b]⟩) (wr.alloc (.cells #[.int .u8 (b.toNat : Int)] 5)) :=
  conv_bytes (P := Tryd.prog) (wr.alloc (.cells #[.int .u8 (b.toNat : Int)] 5)) 37 9 5 Tryd.underlying37 Tryd.underlying5 Tryd.underlying9 wr.heap.size _ _ _ (heap_alloc_new _ _) [b] rfl 0 1 1 (by simp)

end Go.Proofs.YtkhodajdionaaaaDoor
