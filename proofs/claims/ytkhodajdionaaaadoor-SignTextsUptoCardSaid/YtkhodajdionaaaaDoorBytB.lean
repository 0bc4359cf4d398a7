/- Bytes of a text in a block of their own: what []byte(s) lays; a store into it; the text again. -/
import Derived.Test.YtkhodajdionaaaaDoorRows
import Derived.Test.YtkhodajdionaaaaDoorCont
import Derived.Laws.IdiomStrings
namespace Go.Proofs.YtkhodajdionaaaaDoor
open Go.RowKit
set_option maxRecDepth 100000

/-- The block holds the bytes c, and perhaps more behind them. -/
def BB (w : World) (g : Nat) (c : List UInt8) : Prop := ∃ cur fr, w.heap[g]? = some (.cells cur 5 fr) ∧ c.length ≤ fr.1 ∧ cur.toList.take c.length = byteVals c
theorem BB.upd {w w' : World} {g : Nat} {c : List UInt8} (h : BB w g c) (u : Upd [] [] w w') : BB w' g c := by
  obtain ⟨cur, fr, h1, h2, h3⟩ := h
  exact ⟨cur, fr, by rw [u.block _ (Array.getElem?_eq_some_iff.1 h1).1 (by simp)]; exact h1, h2, h3⟩
theorem BB.frozen {w : World} {g : Nat} {c : List UInt8} (h : BB w g c) {j : Nat} (hj : j < c.length) : w.frozen? ⟨g, j, none⟩ = false := by
  obtain ⟨cur, fr, h1, h2, h3⟩ := h
  simp [World.frozen?, h1]
  omega
theorem BB.cell {w : World} {g : Nat} {c : List UInt8} (h : BB w g c) {j : Nat} {b : UInt8} (hj : c[j]? = some b) : w.cell? ⟨g, j, none⟩ = some (.int .u8 (b.toNat : Int)) := by
  obtain ⟨cur, fr, h1, h2, h3⟩ := h
  have hjl := (List.getElem?_eq_some_iff.1 hj).1
  rw [cell_of_row w g j _ _ _ h1]
  have e : (byteVals c)[j]? = some (byteV b) := by simp [byteVals, hj]
  rw [← h3, List.getElem?_take_of_lt hjl] at e
  simpa [byteV] using e
theorem BB.set {w : World} {g : Nat} {c : List UInt8} (h : BB w g c) {j : Nat} (hj : j < c.length) (b : UInt8) : BB (w.setCell ⟨g, j, none⟩ (.int .u8 (b.toNat : Int))) g (c.set j b) := by
  obtain ⟨cur, fr, h1, h2, h3⟩ := h
  refine ⟨cur.setIfInBounds j (.int .u8 (b.toNat : Int)), fr, by simp [World.setCell, Array.getElem?_modify, h1], by simpa using h2, ?_⟩
  have e : byteVals (c.set j b) = (byteVals c).set j (.int .u8 (b.toNat : Int)) := by simp [byteVals, List.map_set, byteV]
  rw [e, ← h3, List.length_set, Array.toList_setIfInBounds]
  apply List.ext_getElem?
  intro i
  simp only [List.getElem?_take, List.getElem?_set, List.length_take]
  by_cases hi : i < c.length
  · rw [if_pos hi]
    by_cases hji : j = i
    · subst hji
      simp only [if_true]
      have h4 := congrArg List.length h3
      simp only [List.length_take, byteVals_length] at h4
      rw [if_pos (by omega), if_pos (by omega)]
    · rw [if_neg hji, if_neg hji, if_pos hi]
  · rw [if_neg hi]
    by_cases hji : j = i
    · omega
    · rw [if_neg hji, if_neg hi]
/-- The text of the bytes. -/
theorem BB.text {w : World} {g : Nat} {c : List UInt8} (h : BB w g c) (dst : TypeId) (hd : Tryd.prog.underlying dst = some .string) (k : Nat) : (convert 37 dst (.slice (some ⟨g, 0, none⟩) c.length k)).run Tryd.prog w = .ok (strV c) w := by
  obtain ⟨cur, fr, h1, h2, h3⟩ := h
  have := conv_bytes (P := Tryd.prog) w 37 dst 5 Tryd.underlying37 Tryd.underlying5 hd g cur fr 5 h1 c h3 0 c.length k (by omega)
  simpa using this
/-- []byte(s). -/
theorem BB.make (w : World) (src : TypeId) (s : ByteArray) (hs : Tryd.prog.underlying src = some .string) (hm : s.size ≤ maxLen) : ∃ k w', (convert src 37 (.string s)).run Tryd.prog w = .ok (.slice (some ⟨w.heap.size, 0, none⟩) s.size k) w' ∧ s.size ≤ k ∧ k ≤ maxLen ∧ BB w' w.heap.size (bs s) ∧ Upd [] [] w w' := by
  refine ⟨_, _, run_bytes_of_string (P := Tryd.prog) w src 37 5 s hs Tryd.underlying37 Tryd.underlying5, ?_, ?_, ⟨_, _, heap_alloc_new _ _, ?_, ?_⟩, (Upd.refl _ _).drew.alloc _⟩
  · exact grownCap_ge w s.size 0 _
  · exact grownCap_le_maxLen w s.size 0 _ hm
  · simp [bytesRow, bs]
  · simp [bytesRow, bs, byteVals]
    intro a _
    rfl
end Go.Proofs.YtkhodajdionaaaaDoor
