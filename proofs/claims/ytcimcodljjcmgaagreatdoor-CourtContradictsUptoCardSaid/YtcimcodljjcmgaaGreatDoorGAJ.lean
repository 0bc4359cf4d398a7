/- entry.body. Receipts built out of their parts. entry.Text, entry.Verify, entry.Hash, entry.Print. entry.Hash, entry.Print. entry.Print. strings.Builder's WriteString, out of what strings.Join's laying names. -/
import Derived.Test.YtcimcodljjcmgaaGreatDoorGAI
import Derived.Great.BuildSlice
namespace Go.Proofs.YtcimcodljjcmgaaGreatDoor
open Go.RowKit
set_option maxRecDepth 100000

def rcS (g : Nat) (x : Rc) (w : World) : Prop := w.cell? ⟨g, 0, none⟩ = some (.int .i64 x.kiosk) ∧ w.cell? ⟨g, 1, none⟩ = some (.int .i64 x.serial) ∧ w.cell? ⟨g, 2, none⟩ = some (.string x.draw) ∧ w.cell? ⟨g, 3, none⟩ = some (.int .i64 x.seen) ∧ w.rangeAt g 4 (byteVals x.out) ∧ w.rangeAt g 36 (byteVals x.hash) ∧ w.rangeAt g 68 (byteVals x.prev)
theorem RcAt.s {w : World} {g : Nat} {x : Rc} (h : RcAt w g x) (hx : x.ok) : rcS g x w := ⟨h.head.1, h.head.2.1, h.head.2.2.1, h.head.2.2.2, (h.ranges hx).1, (h.ranges hx).2.1, (h.ranges hx).2.2⟩
theorem strsIn_new (w : World) (xs : List ByteArray) (T : TypeId) : StrsIn (w.alloc (.cells (xs.map Value.string).toArray T)) w.heap.size xs := by
  refine ⟨by rw [World.size_alloc]; omega, fun j x hx => ?_⟩
  rw [cell_of_row _ _ _ _ _ _ (heap_alloc_new w _), List.getElem?_toArray, Nat.zero_add, List.getElem?_map, hx]
  rfl

end Go.Proofs.YtcimcodljjcmgaaGreatDoor

namespace Go.Proofs.YtcimcodljjcmgaaGreatDoor
open Go.RowKit
set_option maxRecDepth 100000

theorem fold_set (off : Nat) : ∀ (V : List Value) (s : Nat) (A B C : List Value), A.length = off + s → B.length = V.length → (V.zipIdx s).foldl (fun (cs : Array Value) (p : Value × Nat) => cs.setIfInBounds (off + p.2) p.1) (A ++ (B ++ C)).toArray = (A ++ (V ++ C)).toArray
  | [], s, A, B, C, hA, hB => by
    have : B = [] := List.eq_nil_of_length_eq_zero (by simpa using hB)
    subst this
    rfl
  | v :: V, s, A, [], C, hA, hB => by simp at hB
  | v :: V, s, A, b :: B, C, hA, hB => by
    rw [List.zipIdx_cons, List.foldl_cons]
    have e : ((A ++ (b :: B ++ C)).toArray.setIfInBounds (off + s) v) = ((A ++ [v]) ++ (B ++ C)).toArray := by
      apply Array.ext'
      rw [Array.toList_setIfInBounds]
      show (A ++ (b :: B ++ C)).set (off + s) v = (A ++ [v]) ++ (B ++ C)
      rw [List.set_append_right _ _ (by omega), ← hA, Nat.sub_self]
      simp
    show (V.zipIdx (s + 1)).foldl _ ((A ++ (b :: B ++ C)).toArray.setIfInBounds (off + s) v) = _
    rw [e, fold_set off V (s + 1) (A ++ [v]) B C (by simp; omega) (by simpa using hB)]
    simp
theorem fold_arr (off : Nat) (V A B C : List Value) (hA : A.length = off) (hB : B.length = V.length) : V.toArray.zipIdx.foldl (fun (cs : Array Value) (p : Value × Nat) => cs.setIfInBounds (off + p.2) p.1) (A ++ (B ++ C)).toArray = (A ++ (V ++ C)).toArray := by
  have h := fold_set off V 0 A B C (by omega) hB
  rw [← Array.foldl_toList, Array.toList_zipIdx]
  exact h
theorem fill_mid {pl : Nat → Option (Nat × Nat)} {i off n : Nat} {v : Value} {V A B C : List Value} {r : List (Nat × Value)} (hp : pl i = some (off, n)) (hv : v.cells = V.toArray) (hV : V.length = n) (hA : A.length = off) (hB : B.length = n) : Instr.fill pl (A ++ (B ++ C)).toArray ((i, v) :: r) = Instr.fill pl (A ++ (V ++ C)).toArray r := by
  rw [Instr.fill, hp]
  have hs : v.cells.size = n := by rw [hv]; simpa using hV
  have hc : ¬ (decide (v.cells.size ≠ n) || decide (off + v.cells.size > (A ++ (B ++ C)).toArray.size)) = true := by
    rw [hs]
    simp
    omega
  show (if (decide (v.cells.size ≠ n) || decide (off + v.cells.size > (A ++ (B ++ C)).toArray.size)) = true then none else _) = _
  rw [if_neg hc, hv]
  exact congrArg (fun z => Instr.fill pl z r) (fold_arr off V A B C hA (by omega))
end Go.Proofs.YtcimcodljjcmgaaGreatDoor

namespace Go.Proofs.YtcimcodljjcmgaaGreatDoor
open Go.RowKit
set_option maxRecDepth 100000

theorem RcAt.two {w : World} {g : Nat} {x : Rc} (h : RcAt w g x) (hx : x.ok) : w.cell? ⟨g, 100, none⟩ = some (.int .i64 x.r) ∧ w.cell? ⟨g, 101, none⟩ = some (.int .i64 x.s) ∧ w.rangeAt g 0 (rcV x) := ⟨(h.sig hx).1, (h.sig hx).2, h.all⟩
end Go.Proofs.YtcimcodljjcmgaaGreatDoor

namespace Go.Proofs.YtcimcodljjcmgaaGreatDoor
open Go.RowKit
set_option maxRecDepth 100000

end Go.Proofs.YtcimcodljjcmgaaGreatDoor

namespace Go.Proofs.YtcimcodljjcmgaaGreatDoor
open Go.RowKit
set_option maxRecDepth 100000

theorem RcAt.frozen {w : World} {g : Nat} {x : Rc} (h : RcAt w g x) (j : Nat) : w.frozen? ⟨g, j, none⟩ = false := frozen_of_row _ _ _ _ _ h
theorem RcAt.setRow {w : World} {g : Nat} {x : Rc} (h : RcAt w g x) (y : Rc) : RcAt (w.setRow g (rcV y).toArray) g y := setRow_heap w g _ _ _ _ h

theorem row_otherE {w : World} {g L j : Nat} {o : Obj} (h : w.heap[g]? = some o) (n : g ≠ L) (v : Value) : (w.setCell ⟨L, j, none⟩ v).heap[g]? = some o := by
  rw [((Upd.refl [L] w).setCell (p := ⟨L, j, none⟩) (by simp) v).block g (Array.getElem?_eq_some_iff.1 h).1 (by simpa using n)]
  exact h

end Go.Proofs.YtcimcodljjcmgaaGreatDoor

namespace Go.Proofs.YtcimcodljjcmgaaGreatDoor
open Go.RowKit
set_option maxRecDepth 100000

end Go.Proofs.YtcimcodljjcmgaaGreatDoor
