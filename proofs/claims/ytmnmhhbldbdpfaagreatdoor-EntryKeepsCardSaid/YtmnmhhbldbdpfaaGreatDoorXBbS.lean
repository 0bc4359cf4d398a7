/- Batches that a law builds out of forms. -/
import Derived.Test.YtmnmhhbldbdpfaaGreatDoorXLawP1
import Derived.Test.YtmnmhhbldbdpfaaGreatDoorXChain
import Derived.Test.YtmnmhhbldbdpfaaGreatDoorXSame
import Derived.Test.YtmnmhhbldbdpfaaGreatDoorXOpnG
namespace Go.Proofs.YtmnmhhbldbdpfaaGreatDoor
open Go.RowKit
set_option maxRecDepth 100000

theorem FmsIn.upd {w w' : World} {ao : Option Addr} {l : List Fm} (h : FmsIn w ao l) (u : Upd [] [] w w') : FmsIn w' ao l := by
  intro k f hk
  obtain ⟨h1, g, o, h2, h3, h4⟩ := h k f hk
  exact ⟨h1, g, o, h2, Nat.lt_of_lt_of_le h3 u.size, rangeAt_upd h4 h3 u⟩
/-- A batch under way. -/
structure BbSt (w wr : World) (B : Nat) (k : Int) (v : Value) (l : List Rc) : Prop where
  bb : wr.heap[B]? = some (.cells #[.int .i64 k, v] 46 (0, 0))
  own : wr.ownsRow 0 33 102 v l.length (rcVals l)
  fo : ∀ x, x ∈ foot v → w.heap.size ≤ x ∧ x ≠ B
  hB : w.heap.size ≤ B
  up : Upd [] [] w wr
  oks : ∀ x ∈ l, x.ok ∧ x.draw.size ≤ 100
theorem BbSt.upd {w wr wj : World} {B : Nat} {k : Int} {v : Value} {l : List Rc} (h : BbSt w wr B k v l) (u : Upd [] [] wr wj) : BbSt w wj B k v l :=
  ⟨row_updH h.bb u, row_same h.own (fun j hj => u.block j (row_foot_lt h.own j hj) (by simp)), h.fo, h.hB, h.up.trans u, h.oks⟩
theorem BbSt.append {w wr wj : World} {B : Nat} {k : Int} {v v' : Value} {l : List Rc} {x : Rc} (h : BbSt w wr B k v l) (hx : x.ok ∧ x.draw.size ≤ 100) (u : Upd (foot v) (foot v') wr wj) (ho : wj.ownsRow 0 33 102 v' (l ++ [x]).length (rcVals (l ++ [x]))) :
    BbSt w (wj.setCell ⟨B, 1, none⟩ v') B k v' (l ++ [x]) := by
  have hB := h.hB
  have hf : ∀ y, y ∈ foot v' → w.heap.size ≤ y ∧ y ≠ B := by
    intro y hy
    rcases u.new y hy with h1 | h1
    · exact h.fo y h1
    · have h2 := (Array.getElem?_eq_some_iff.1 h.bb).1
      have := h.up.size
      omega
  have kb : wj.heap[B]? = some (.cells #[.int .i64 k, v] 46 (0, 0)) := by
    rw [u.block B (Array.getElem?_eq_some_iff.1 h.bb).1 (fun hm => (h.fo B hm).2 rfl)]
    exact h.bb
  have hu : Upd [] [] w wj := ⟨u.os.trans h.up.os, u.tape.trans h.up.tape, u.output.trans h.up.output, Nat.le_trans h.up.size u.size, fun i hi _ => (u.block i (Nat.lt_of_lt_of_le hi h.up.size) (fun hm => by have := (h.fo i hm).1; omega)).trans (h.up.block i hi (by simp)), fun _ hk => absurd hk (by simp)⟩
  refine ⟨heap_setCell_same _ B 1 _ _ v' kb, row_same ho (fun j hj => ?_), hf, hB, hu.setNew (p := ⟨B, 1, none⟩) (by show w.heap.size ≤ B; omega) _, fun y hy => ?_⟩
  · obtain ⟨o, ho⟩ : ∃ o, wj.heap[j]? = some o := ⟨_, Array.getElem?_eq_getElem (row_foot_lt ho j hj)⟩
    rw [ho, row_otherE ho (hf j hj).2 v']
  · rcases List.mem_append.1 hy with hy | hy
    · exact h.oks y hy
    · rw [List.mem_singleton] at hy
      rw [hy]
      exact hx
theorem BbSt.cells {w wr : World} {B : Nat} {k : Int} {v : Value} {l : List Rc} (h : BbSt w wr B k v l) : wr.cell? ⟨B, 0, none⟩ = some (.int .i64 k) ∧ wr.cell? ⟨B, 1, none⟩ = some v ∧ wr.frozen? ⟨B, 1, none⟩ = false :=
  ⟨by rw [cell_of_row _ _ _ _ _ _ h.bb]; rfl, by rw [cell_of_row _ _ _ _ _ _ h.bb]; rfl, frozen_of_row _ _ _ _ _ h.bb⟩
/-- The append of a receipt that lies in a block. -/
theorem BbSt.step {w wr : World} {B : Nat} {k : Int} {v : Value} {l : List Rc} (h : BbSt w wr B k v l) (x : Rc) (hx : x.ok ∧ x.draw.size ≤ 100) (hl : l.length ≤ 1000) (C : Array Value) (hC : C = (rcV x).toArray) :
    ∃ (a' : Option Addr) (n' c' : Nat) (wF : World), Hid ((Builtin.append_ #[44, 44] 44 #[v, .slice (some ⟨wr.heap.size, 0, none⟩) 1 1]).run Tryz.prog (wr.alloc (.cells C 33)) = .ok (.slice a' n' c') wF) ∧
      Hid (BbSt w (wF.setCell ⟨B, 1, none⟩ (.slice a' n' c')) B k (.slice a' n' c') (l ++ [x])) ∧ Hid (wF.cell? ⟨B, 1, none⟩ = some v ∧ wF.frozen? ⟨B, 1, none⟩ = false) ∧ Hid ((Instr.buildSlice 44 1 #[(0, .agg C)]).run Tryz.prog wr = .ok (.slice (some ⟨wr.heap.size, 0, none⟩) 1 1) (wr.alloc (.cells C 33))) := by
  subst hC
  obtain ⟨v', wF, hrun, hown, hup⟩ := append_rc wr v l x hx.1 h.own (by omega)
  obtain ⟨a', n', c', rfl⟩ : ∃ a' n' c', v' = .slice a' n' c' := by
    rcases hown.2 with ⟨h, _⟩ | ⟨g, cap, cur, h, _⟩
    · exact ⟨_, _, _, h⟩
    · exact ⟨_, _, _, h⟩
  have hb : wF.heap[B]? = some (.cells #[.int .i64 k, v] 46 (0, 0)) := by
    rw [hup.block B (Array.getElem?_eq_some_iff.1 h.bb).1 (fun hm => (h.fo B hm).2 rfl)]
    exact h.bb
  exact ⟨a', n', c', wF, hrun, h.append hx hup hown, ⟨by rw [cell_of_row _ _ _ _ _ _ hb]; rfl, frozen_of_row _ _ _ _ _ hb⟩, rc_build x hx.1 wr⟩
/-- The receipts of the first forms. -/
def fmsR (fs : List Fm) (j : Nat) : List Rc := (fs.take j).map fmR
theorem fmsR_step {fs : List Fm} {j : Nat} {f : Fm} (h : fs[j]? = some f) : fmsR fs (j + 1) = fmsR fs j ++ [fmR f] := by
  unfold fmsR
  rw [List.take_add_one, h]
  simp
theorem fmsR_len {fs : List Fm} {j : Nat} (h : j ≤ fs.length) : (fmsR fs j).length = j := by
  unfold fmsR
  rw [List.length_map, List.length_take]
  omega
theorem recsT_short : ∀ l : List Rc, (∀ x ∈ l, x.ok ∧ x.draw.size ≤ 100) → (recsT l).length ≤ 530 * l.length
  | [], _ => by simp [recsT]
  | x :: r, h => by
    have ih := recsT_short r (fun y hy => h y (by simp [hy]))
    have h1 := textL_len (h x (by simp)).1
    have h2 := (h x (by simp)).2
    have h3 := itoa_len ((textL x).length : Int) (by unfold i64in; omega)
    rw [recsT, List.length_cons, List.length_append, List.length_cons, List.length_append, List.length_cons]
    omega
theorem batchL_short {k : Int} {l : List Rc} (hk : i64in k) (hl : l.length ≤ 4) (h : ∀ x ∈ l, x.ok ∧ x.draw.size ≤ 100) : (batchL k l).length ≤ 2200 ∧ 0 < (batchL k l).length := by
  have h1 := recsT_short l h
  have h2 := itoa_len k hk
  have h3 := itoa_len (l.length : Int) (by unfold i64in; omega)
  unfold batchL
  simp only [List.length_append, List.length_cons, wBa, List.length_nil]
  omega
theorem btOk_of {s : ByteArray} {k : Int} {l : List Rc} (hs : bs s = batchL k l) (hk : i64in k) (ho : ∀ x ∈ l, x.ok) : btOk (bs s) k l true := ⟨hk, ho, fun _ => hs, fun h => by cases h⟩
theorem btOk_len {s : ByteArray} {k : Int} {l : List Rc} {ok : Bool} (h : btOk (bs s) k l ok) (hs : s.size ≤ 5000) : l.length ≤ 6000 := by
  cases ok
  · rw [(h.2.2.2 rfl).2.1]
    exact Nat.zero_le _
  · have e := congrArg List.length (h.2.2.1 rfl)
    have h1 := recsT_many l
    rw [bs_length] at e
    unfold batchL at e
    simp only [List.length_append, List.length_cons] at e
    omega
theorem beq_str {a b : ByteArray} (h : bs a = bs b) : (a.toList == b.toList) = true := by
  rw [bs_injE h, beq_self_eq_true]
end Go.Proofs.YtmnmhhbldbdpfaaGreatDoor
