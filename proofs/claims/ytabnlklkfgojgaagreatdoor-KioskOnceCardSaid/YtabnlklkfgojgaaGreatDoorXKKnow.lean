/- The receipts that are known by their numbers: a map of ints to receipts. -/
import Derived.Test.YtabnlklkfgojgaaGreatDoorGO
namespace Go.Proofs.YtabnlklkfgojgaaGreatDoor
open Go.RowKit Go.Maps
set_option maxRecDepth 100000

/-- Block b of the world is a map that holds f, of z entries. -/
def MapN (w : World) (b n : Nat) (f : Int → Option Value) (z : Nat) : Prop :=
  ∃ D : DataW Value, w.ownsMap Tryz.prog 3 RV b n D ∧ Tidy D ∧ size D = z ∧ ∀ x : Int, Maps.has D (.int .i64 x) = (f x).isSome ∧ ∀ v, f x = some v → ∀ z, D.atKey (.int .i64 x) z = .held v
theorem MapN.mapF {w : World} {b n z : Nat} {f : Int → Option Value} (h : MapN w b n f z) : MapF w b n f := by
  obtain ⟨D, h1, h2, _, h3⟩ := h
  exact ⟨D, h1, h2.isMap, h3⟩
theorem MapN.made (w : World) : MapN (w.alloc (.map #[] 0)) w.heap.size 0 (fun _ => none) 0 :=
  ⟨.map [], World.ownsMap_made _ _ _ _, tidy_empty, rfl, fun _ => ⟨rfl, fun _ h => by cases h⟩⟩
theorem MapN.lt {w : World} {b n z : Nat} {f : Int → Option Value} (h : MapN w b n f z) : b < w.heap.size := h.mapF.lt
theorem MapN.upd {w w' : World} {S S' : List Nat} {b n z : Nat} {f : Int → Option Value} (h : MapN w b n f z) (u : Upd S S' w w') (hb : b ∉ S) : MapN w' b n f z := by
  have hlt := h.lt
  obtain ⟨D, ⟨es, clock, hg, F, hs, hD⟩, hm, hf⟩ := h
  exact ⟨D, ⟨es, clock, (u.block b hlt hb).trans hg, F, hs, hD⟩, hm, hf⟩
theorem MapN.mono {w : World} {b n m z : Nat} {f : Int → Option Value} (h : MapN w b n f z) (hn : n ≤ m) : MapN w b m f z := by
  obtain ⟨D, ho, hm, hf⟩ := h
  exact ⟨D, ho.mono hn, hm, hf⟩
/-- It is no row of cells. -/
theorem MapN.no_cells {w : World} {b n z : Nat} {f : Int → Option Value} (h : MapN w b n f z) {g : Nat} {cs : Array Value} {t : TypeId} {q : Nat × Nat} (hg : w.heap[g]? = some (.cells cs t q)) : g ≠ b := by
  obtain ⟨D, ⟨es, clock, hb, _⟩, _⟩ := h
  intro e
  rw [e, hb] at hg
  cases hg
theorem MapN.no_cell {w : World} {b n z : Nat} {f : Int → Option Value} (h : MapN w b n f z) {g o : Nat} {v : Value} (hg : w.cell? ⟨g, o, none⟩ = some v) : g ≠ b := by
  obtain ⟨D, ⟨es, clock, hb, _⟩, _⟩ := h
  intro e
  rw [e] at hg
  unfold World.cell? at hg
  simp [hb] at hg
theorem MapN.put {w : World} {b n z : Nat} {f : Int → Option Value} {t e : TypeId} {x : Int} {v : Value} (h : MapN w b n f z) (ht : Tryz.prog.underlying t = some (.map 3 e)) (hn : n < maxLen) (hx : -9223372036854775808 ≤ x ∧ x ≤ 9223372036854775807) :
    ∃ w', (Instr.mapUpdate t (.map (some b)) (.int .i64 x) v).run Tryz.prog w = .ok () w' ∧ MapN w' b (n + 1) (fun y => if y = x then some v else f y) (if (f x).isSome then z else z + 1) ∧ Upd [b] [b] w w' := by
  obtain ⟨D, ho, hm, hz, hf⟩ := h
  obtain ⟨w', hrun, ho', hg⟩ := ho.update keyI ht hn (d := .held v) (ps := []) (keyI_mk hx) rfl
  refine ⟨w', hrun, ⟨_, ho', hm.put (by trivial) _, ?_, fun y => ?_⟩, ⟨hg.os, hg.tape, hg.output, hg.size, fun k hk hne => hg.block k hk (fun e => hne (by cases e; exact List.mem_cons_self)), fun k hk => .inl hk⟩⟩
  · rw [size_put hm, (hf x).1, hz]
  show has _ _ = (if y = x then some v else f y).isSome ∧ ∀ v', (if y = x then some v else f y) = some v' → _
  by_cases hy : y = x
  · subst hy
    rw [if_pos rfl]
    exact ⟨has_put_same (k := .int .i64 y) hm.isMap trivial _, fun v' hv' z => by cases hv'; exact atKey_put_same (k := .int .i64 y) hm.isMap trivial _ _⟩
  · rw [if_neg hy]
    have hne : (Lit.int .i64 y) ≠ Lit.int .i64 x := fun e => hy (by cases e; rfl)
    exact ⟨(has_put_other hne _).trans (hf y).1, fun v' hv' z => (atKey_put_other hne _ _).trans ((hf y).2 v' hv' z)⟩
/-- The store at the operation. -/
theorem wp_put_N (w : World) {o : Oper} {a : Act} {K : Act → World → Prop} {Q : Exit → Act → World → Prop}
    (m x v : Operand) (t : TypeId) (hop : o.op = Op.mapUpdate t m x v) (e : TypeId) (ht : Tryz.prog.underlying t = some (.map 3 e)) (b n z : Nat) (f : Int → Option Value)
    (hm : a.eval m = .map (some b)) (h : MapN w b n f z) (hn : n < maxLen) (key : Int) (val : Value) (hx : a.eval x = .int .i64 key) (hv : a.eval v = val) (hk : -9223372036854775808 ≤ key ∧ key ≤ 9223372036854775807)
    (hK : ∀ w', MapN w' b (n + 1) (fun y => if y = key then some val else f y) (if (f key).isSome then z else z + 1) → Upd [b] [b] w w' → K (a.put o.dst undef) w') :
    o.wp Tryz.prog a w K Q := by
  obtain ⟨w', hrun, r1, r2⟩ := h.put (x := key) (v := val) ht hn hk
  unfold Oper.wp
  simp [execOp, hop, hm, hx, hv, hrun, Result.andThen]
  exact hK w' r1 r2
theorem wpList_put_N (w : World) {ops : Array Oper} {rest : List Oper} {o : Oper} {a : Act} {Q : Exit → Act → World → Prop}
    (hg : o.guard = none) (m x v : Operand) (t : TypeId) (hop : o.op = Op.mapUpdate t m x v) (e : TypeId) (ht : Tryz.prog.underlying t = some (.map 3 e)) (b n z : Nat) (f : Int → Option Value)
    (hm : a.eval m = .map (some b)) (h : MapN w b n f z) (hn : n < maxLen) (key : Int) (val : Value) (hx : a.eval x = .int .i64 key) (hv : a.eval v = val) (hk : -9223372036854775808 ≤ key ∧ key ≤ 9223372036854775807)
    (hK : ∀ w', MapN w' b (n + 1) (fun y => if y = key then some val else f y) (if (f key).isSome then z else z + 1) → Upd [b] [b] w w' → wpList Tryz.prog ops Q rest (a.put o.dst undef) w') :
    wpList Tryz.prog ops Q (o :: rest) a w :=
  wpList_plain hg fun _ hK' => wp_put_N w m x v t hop e ht b n z f hm h hn key val hx hv hk (fun w' r1 r2 => hK' _ _ (hK w' r1 r2))
theorem und64 : Tryz.prog.underlying 64 = some (.map 3 37) := by kernel_rfl
theorem zeroRc_run (w : World) : (zeroValue 37).run Tryz.prog w = .ok (.agg (rcV Rc.zero).toArray) w := by kernel_rfl
/-- 'v, ok := m[x]'. -/
theorem MapN.look {w : World} {b n z : Nat} {f : Int → Option Value} {x : Int} (h : MapN w b n f z) (hx : -9223372036854775808 ≤ x ∧ x ≤ 9223372036854775807) :
    (Instr.lookup 64 (.map (some b)) (.int .i64 x) true).run Tryz.prog w = .ok (.tuple #[(f x).getD (.agg (rcV Rc.zero).toArray), .bool (f x).isSome]) w := h.mapF.look_ok und64 (zeroRc_run w) hx
/-- Receipts by their numbers. -/
def fK (l : List Rc) : Int → Option Value := fun i => if 1 ≤ i then (l[(i - 1).toNat]?).map (fun x => .agg (rcV x).toArray) else none
theorem fK_nil : fK [] = fun _ => none := by
  funext i
  unfold fK
  split <;> simp
theorem fK_get (l : List Rc) (j : Nat) : fK l ((j : Int) + 1) = (l[j]?).map (fun x => .agg (rcV x).toArray) := by
  unfold fK
  rw [if_pos (by omega), show ((j : Int) + 1 - 1).toNat = j by omega]
theorem fK_old {l : List Rc} {j : Nat} {x : Rc} (h : l[j]? = some x) : (fun y => if y = (j : Int) + 1 then some (.agg (rcV x).toArray) else fK l y) = fK l := by
  funext y
  split
  · rename_i e
    rw [e, fK_get, h]
    rfl
  · rfl
theorem fK_new (l : List Rc) (x : Rc) : (fun y => if y = (l.length : Int) + 1 then some (.agg (rcV x).toArray) else fK l y) = fK (l ++ [x]) := by
  funext y
  split
  · rename_i e
    rw [e, fK_get]
    simp
  · rename_i e
    unfold fK
    split
    · by_cases h : (y - 1).toNat < l.length
      · rw [List.getElem?_append_left h]
      · have : l.length + 1 ≤ (y - 1).toNat := by omega
        rw [List.getElem?_eq_none (by omega), List.getElem?_eq_none (by simp; omega)]
    · rfl
end Go.Proofs.YtabnlklkfgojgaaGreatDoor
