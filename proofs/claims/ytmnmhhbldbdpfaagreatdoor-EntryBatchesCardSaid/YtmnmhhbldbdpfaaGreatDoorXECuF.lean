/- sortesref22.ReadBatch: its blocks, and what its words say. -/
import Derived.Test.YtmnmhhbldbdpfaaGreatDoorXECuE
import Derived.Test.YtmnmhhbldbdpfaaGreatDoorGH
namespace Go.Proofs.YtmnmhhbldbdpfaaGreatDoor
open Go.RowKit
set_option maxRecDepth 100000

theorem tailT_app : ∀ a b : List Rc, tailT (a ++ b) = tailT a ++ tailT b
  | [], b => rfl
  | x :: r, b => by
    rw [List.cons_append, tailT, tailT, tailT_app r b]
    simp
/-- The blocks of the reference's ReadBatch. -/
structure QbSt (w wr : World) (S : ByteArray) (a : Nat) (bad : Bool) (k : Int) (v : Value) (l : List Rc) (B : Nat) : Prop where
  rz : wr.heap[w.heap.size]? = some (.cells #[.int .i64 0, .slice none 0 0] 46 (0, 0))
  cu : CuAt wr (w.heap.size + 1) S a bad
  bb : wr.heap[B]? = some (.cells #[.int .i64 k, v] 46 (0, 0))
  own : wr.ownsRow 0 33 102 v l.length (rcVals l)
  fo : ∀ x, x ∈ foot v → w.heap.size + 1 < x ∧ x ≠ B
  hB : w.heap.size + 1 < B
  up : Upd [] [] w wr
  oks : ∀ x ∈ l, x.ok ∧ x.draw.size ≤ 1000000
theorem QbSt.upd {w wr wj : World} {S : ByteArray} {a : Nat} {bad : Bool} {k : Int} {v : Value} {l : List Rc} {B : Nat} (h : QbSt w wr S a bad k v l B) (u : Upd [] [] wr wj) : QbSt w wj S a bad k v l B :=
  ⟨row_updH h.rz u, h.cu.upd u, row_updH h.bb u, row_same h.own (fun j hj => u.block j (row_foot_lt h.own j hj) (by simp)), h.fo, h.hB, h.up.trans u, h.oks⟩
theorem QbSt.step {w wr wj : World} {S : ByteArray} {a a' : Nat} {bad b' : Bool} {k : Int} {v : Value} {l : List Rc} {B : Nat} (h : QbSt w wr S a bad k v l B) (u : Upd [w.heap.size + 1] [] wr wj) (d : CuAt wj (w.heap.size + 1) S a' b') : QbSt w wj S a' b' k v l B :=
  ⟨row_updG h.rz u (by omega), d, row_updG h.bb u (by have := h.hB; omega), row_same h.own (fun j hj => u.block j (row_foot_lt h.own j hj) (by have := (h.fo j hj).1; simp; omega)), h.fo, h.hB, h.up.own2 u (by omega), h.oks⟩
theorem QbSt.setA {w wr : World} {S : ByteArray} {a : Nat} {bad : Bool} {k : Int} {v : Value} {l : List Rc} {B : Nat} (h : QbSt w wr S a bad k v l B) (a' : Nat) (z : Int) (hz : z = (a' : Int)) : QbSt w (wr.setCell ⟨w.heap.size + 1, 1, none⟩ (.int .i64 z)) S a' bad k v l B :=
  h.step ((Upd.refl [] wr).wide.setOld 1 _) (h.cu.setA a' z hz)
theorem QbSt.append {w wr wj : World} {S : ByteArray} {a : Nat} {bad : Bool} {k : Int} {v v' : Value} {l : List Rc} {x : Rc} {B : Nat} (h : QbSt w wr S a bad k v l B) (hx : x.ok ∧ x.draw.size ≤ 1000000) (u : Upd (foot v) (foot v') wr wj) (ho : wj.ownsRow 0 33 102 v' (l ++ [x]).length (rcVals (l ++ [x]))) :
    QbSt w (wj.setCell ⟨B, 1, none⟩ v') S a bad k v' (l ++ [x]) B := by
  have hf : ∀ y, y ∈ foot v' → w.heap.size + 1 < y ∧ y ≠ B := by
    intro y hy
    rcases u.new y hy with h1 | h1
    · exact h.fo y h1
    · have h2 := (Array.getElem?_eq_some_iff.1 h.bb).1
      have := h.hB
      omega
  have keep : ∀ (g : Nat) (o : Obj), g ≤ w.heap.size + 1 ∨ g = B → wr.heap[g]? = some o → wj.heap[g]? = some o := by
    intro g o hg ho
    rw [u.block g (Array.getElem?_eq_some_iff.1 ho).1 (fun hm => by
      have := h.fo g hm
      rcases hg with hg | hg
      · omega
      · exact this.2 hg)]
    exact ho
  have hu : Upd [] [] w wj := ⟨u.os.trans h.up.os, u.tape.trans h.up.tape, u.output.trans h.up.output, Nat.le_trans h.up.size u.size, fun i hi _ => (u.block i (Nat.lt_of_lt_of_le hi h.up.size) (fun hm => by have := (h.fo i hm).1; omega)).trans (h.up.block i hi (by simp)), fun _ hk => absurd hk (by simp)⟩
  have hB := h.hB
  refine ⟨row_otherE (keep _ _ (.inl (by omega)) h.rz) (by omega) _, row_otherE (keep _ _ (.inl (Nat.le_refl _)) h.cu) (by omega) _, heap_setCell_same _ B 1 _ _ v' (keep _ _ (.inr rfl) h.bb), row_same ho (fun j hj => ?_), hf, hB, hu.setNew (p := ⟨B, 1, none⟩) (by show w.heap.size ≤ B; omega) _, fun y hy => ?_⟩
  · obtain ⟨o, ho⟩ : ∃ o, wj.heap[j]? = some o := ⟨_, Array.getElem?_eq_getElem (row_foot_lt ho j hj)⟩
    rw [ho, row_otherE ho (hf j hj).2 v']
  · rcases List.mem_append.1 hy with hy | hy
    · exact h.oks y hy
    · rw [List.mem_singleton] at hy
      rw [hy]
      exact hx
/-- How far a cursor has still to go. -/
def cuM (w : World) (g : Nat) : Nat := match w.cell? ⟨g, 1, none⟩ with
  | some (.int .i64 z) => 10000 - z.toNat
  | _ => 0
theorem cuM_at {w : World} {g : Nat} {s : ByteArray} {a : Nat} {bad : Bool} (h : CuAt w g s a bad) : cuM w g = 10000 - a := by
  unfold cuM
  rw [h.cells.2.1]
  simp
/-- One receipt has been read: what stands ahead of it. -/
theorem stepB {S t : ByteArray} {a a1 : Nat} {sz : Int} {m : Nat} {b1 : Bool} {x : Rc} (H : cuNum 58 S a false sz a1 b1) (hb : b1 = false) (hm : sz = (m : Int)) (ht : bs t = ((bs S).drop a1).take m) (hx : bs t = textL x) (h32 : (bs S)[a1 + m]? = some 32) :
    (bs S).drop a = tailT [x] ++ (bs S).drop (a1 + m + 1) := by
  obtain ⟨_, e⟩ := H.1 hb
  have hlen : a1 + m < (bs S).length := (List.getElem?_eq_some_iff.1 h32).1
  have hm' : (textL x).length = m := by rw [← hx, ht, List.length_take, List.length_drop]; omega
  have h1 : (bs S).drop a1 = textL x ++ 32 :: (bs S).drop (a1 + m + 1) := by
    have h2 : (bs S).drop a1 = ((bs S).drop a1).take m ++ ((bs S).drop a1).drop m := (List.take_append_drop _ _).symm
    rw [List.drop_drop, ← ht, hx, List.drop_eq_getElem_cons hlen] at h2
    rw [h2, (List.getElem?_eq_some_iff.1 h32).2]
  rw [e, h1, tailT, hm', hm]
  simp [tailT]
theorem stepF {S : ByteArray} {a a1 : Nat} {sz : Int} {b b1 : Bool} {x : Rc} {R : List UInt8} (H : cuNum 58 S a b sz a1 b1) (hl : (textL x).length ≤ 9223372036854775807) (e : (bs S).drop a = Lib.itoa ((textL x).length : Int) ++ 58 :: (textL x ++ 32 :: R)) :
    sz = ((textL x).length : Int) ∧ b1 = b ∧ (bs S).drop a1 = textL x ++ 32 :: R ∧ a1 + (textL x).length < (bs S).length ∧ ((bs S).drop a1).take (textL x).length = textL x ∧ (bs S)[a1 + (textL x).length]? = some 32 ∧ (bs S).drop (a1 + (textL x).length + 1) = R := by
  obtain ⟨e1, e2, e3⟩ := H.2 _ _ (by unfold i64in; omega) (itoa_no58 _) e
  have hl2 := congrArg List.length e2
  simp only [List.length_drop, List.length_append, List.length_cons] at hl2
  refine ⟨e1, e3, e2, by omega, by rw [e2]; exact List.take_left, ?_, ?_⟩
  · rw [← List.getElem?_drop, e2, List.getElem?_append_right (Nat.le_refl _), Nat.sub_self]
    rfl
  · rw [show a1 + (textL x).length + 1 = a1 + ((textL x).length + 1) by omega, ← List.drop_drop, e2, ← List.drop_drop, List.drop_left]
    rfl
end Go.Proofs.YtmnmhhbldbdpfaaGreatDoor
