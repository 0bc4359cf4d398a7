/- Pairs of receipts. -/
import Derived.Test.YtmnmhhbldbdpfaaGreatDoorXChain
import Derived.Test.YtmnmhhbldbdpfaaGreatDoorXLawP2
namespace Go.Proofs.YtmnmhhbldbdpfaaGreatDoor
open Go.RowKit
set_option maxRecDepth 100000

/-- Rows of one length, laid one behind the other. -/
theorem fill_rows (n : Nat) : ∀ (vs : List (List Value)) (A Z : List Value) (k : Nat), A.length = k * n → Z.length = vs.length * n → (∀ v ∈ vs, v.length = n) →
    Instr.fill (fun i => some (i * n, n)) (A ++ Z).toArray ((vs.zipIdx k).map (fun p => (p.2, Value.agg p.1.toArray))) = some (A ++ vs.flatten).toArray
  | [], A, Z, k, hA, hZ, h => by
    have : Z = [] := List.eq_nil_of_length_eq_zero (by simpa using hZ)
    subst this
    rfl
  | v :: vs, A, Z, k, hA, hZ, h => by
    have hv := h v (by simp)
    rw [List.length_cons, Nat.add_mul, Nat.one_mul] at hZ
    rw [List.zipIdx_cons, List.map_cons]
    have e : A ++ Z = A ++ (Z.take n ++ Z.drop n) := by rw [List.take_append_drop]
    rw [e, fill_mid (pl := fun i => some (i * n, n)) (off := k * n) (n := n) (V := v) rfl rfl hv hA (by rw [List.length_take]; omega), ← List.append_assoc]
    rw [fill_rows n vs (A ++ v) (Z.drop n) (k + 1) (by rw [List.length_append, hA, hv, Nat.add_mul, Nat.one_mul]) (by rw [List.length_drop]; omega) (fun x hx => h x (by simp [hx]))]
    simp
/-- A slice literal whose run is known, as one operation. -/
theorem wp_buildRun {P : Program} {o : Oper} {a : Act} {w : World} {K : Act → World → Prop} {Q : Exit → Act → World → Prop} (t : TypeId) (len : Nat) (parts : Array (Nat × Operand)) (ho : o.op = .buildSlice t len parts)
    (v : Value) (w' : World) (hr : (Instr.buildSlice t len (parts.map fun (i, x) => (i, a.eval x))).run P w = .ok v w') (h : K (a.put o.dst v) w') : o.wp P a w K Q := by
  unfold Oper.wp execOp
  simp only [ho, Sem.run_bind, hr, Result.andThen_ok]
  exact h
theorem rc_eq_run2 {x y : Rc} (hx : x.ok) (hy : y.ok) (b : Bool) (hb : eqRc x y = b) (A B : Array Value) (hA : A = (rcV x).toArray) (hB : B = (rcV y).toArray) (W : World) : (Op.equalIn 10000 33 (.agg A) (.agg B)).run Tryz.prog W = .ok b W := by
  rw [hA, hB, show (10000 : Nat) = 9997 + 3 from rfl, eqRc_run 9997 _ _ hx hy W, hb]
def pairV (x y : Rc) : List Value := rcV x ++ rcV y
theorem pairV_len {x y : Rc} (hx : x.ok) (hy : y.ok) : (pairV x y).length = 204 := by simp [pairV, rcV_len hx, rcV_len hy]
theorem pairV_one (x y : Rc) : (pairV x y).toArray.all (·.oneCell') = true := by
  rw [Array.all_eq_true_iff_forall_mem]
  intro v hv
  simp only [pairV, List.mem_toArray, List.mem_append] at hv
  rcases hv with hv | hv
  · exact rcV_one x v hv
  · exact rcV_one y v hv
theorem built_two (ps : List (Nat × Value)) : Tryz.prog.built 54 ps = Instr.fill (fun i => some (i * 102, 102)) (rcV Rc.zero ++ rcV Rc.zero).toArray ps := by kernel_rfl
theorem built_pair {x y : Rc} (hx : x.ok) (hy : y.ok) (X Y P : Array Value) (hX : X = (rcV x).toArray) (hY : Y = (rcV y).toArray) (hP : P = (pairV x y).toArray) : Tryz.prog.built 54 [(0, .agg X), (1, .agg Y)] = some P := by
  rw [built_two, hX, hY, hP]
  have h := fill_rows 102 [rcV x, rcV y] [] (rcV Rc.zero ++ rcV Rc.zero) 0 rfl (by simp [rcV_len Rc.zero_ok]) (by
    intro v hv
    simp only [List.mem_cons, List.not_mem_nil, or_false] at hv
    rcases hv with rfl | rfl
    · exact rcV_len hx
    · exact rcV_len hy)
  simp only [List.nil_append, List.flatten_cons, List.flatten_nil, List.append_nil] at h
  exact h
theorem pairInfo {x y : Rc} (hx : x.ok) (hy : y.ok) : (Tryz.prog.info? 54).map (·.size) = some (pairV x y).length := by
  rw [pairV_len hx hy]
  kernel_rfl
/-- Pairs in a block. -/
def psV (ps : List (Rc × Rc)) : List Value := ps.flatMap (fun p => pairV p.1 p.2)
def PsAt (w : World) (g : Nat) (ps : List (Rc × Rc)) : Prop := w.heap[g]? = some (.cells (psV ps).toArray 54 (0, 0))
theorem PsAt.upd {w w' : World} {g : Nat} {ps : List (Rc × Rc)} (h : PsAt w g ps) (u : Upd [] [] w w') : PsAt w' g ps := row_updH h u
theorem psV_get : ∀ (l : List (Rc × Rc)) (k : Nat) (p : Rc × Rc), (∀ y ∈ l, y.1.ok ∧ y.2.ok) → l[k]? = some p → ∀ j v, (pairV p.1 p.2)[j]? = some v → (psV l)[k * 204 + j]? = some v
  | [], k, p, _, h, _, _, _ => by simp at h
  | a :: r, 0, p, ho, h, j, v, hv => by
    simp at h
    subst h
    unfold psV
    rw [List.flatMap_cons, List.getElem?_append_left (by have := (List.getElem?_eq_some_iff.1 hv).1; omega)]
    simpa using hv
  | a :: r, k + 1, p, ho, h, j, v, hv => by
    have la := pairV_len (ho a (by simp)).1 (ho a (by simp)).2
    have ih := psV_get r k p (fun y hy => ho y (by simp [hy])) (by simpa using h) j v hv
    unfold psV at ih ⊢
    rw [List.flatMap_cons, List.getElem?_append_right (by omega), la, show (k + 1) * 204 + j - 204 = k * 204 + j by omega]
    exact ih
theorem PsAt.load {w : World} {g : Nat} {ps : List (Rc × Rc)} (h : PsAt w g ps) (ho : ∀ y ∈ ps, y.1.ok ∧ y.2.ok) {k : Nat} {p : Rc × Rc} (hk : ps[k]? = some p) (P : Array Value) (hP : P = (pairV p.1 p.2).toArray) :
    (Instr.loadAt 54 (.pointer (some ⟨g, k * 204, none⟩))).run Tryz.prog w = .ok (.agg P) w := by
  have hp := ho p (List.mem_of_getElem? hk)
  rw [hP]
  refine run_loadAt_mid w g (k * 204) _ _ _ (fun j v hv => ?_) Tryz.underlying54 rfl (pairInfo hp.1 hp.2)
  rw [cell_of_row _ _ _ _ _ _ h, List.getElem?_toArray]
  exact psV_get ps k p ho hk j v hv
/-- A pair in a block of its own. -/
def PrAt (w : World) (g : Nat) (x y : Rc) : Prop := w.heap[g]? = some (.cells (pairV x y).toArray 54 (0, 0))
theorem PrAt.upd {w w' : World} {g : Nat} {x y : Rc} (h : PrAt w g x y) (u : Upd [] [] w w') : PrAt w' g x y := row_updH h u
theorem PrAt.load0 {w : World} {g : Nat} {x y : Rc} (h : PrAt w g x y) (hx : x.ok) (X : Array Value) (hX : X = (rcV x).toArray) : (Instr.loadAt 33 (.pointer (some ⟨g, 0, none⟩))).run Tryz.prog w = .ok (.agg X) w := by
  rw [hX]
  refine run_loadAt_mid w g 0 _ _ _ (fun j v hv => ?_) Tryz.underlying33 rfl (rcInfo hx)
  rw [cell_of_row _ _ _ _ _ _ h, List.getElem?_toArray, Nat.zero_add]
  unfold pairV
  rw [List.getElem?_append_left (List.getElem?_eq_some_iff.1 hv).1]
  exact hv
theorem PrAt.load1 {w : World} {g : Nat} {x y : Rc} (h : PrAt w g x y) (hx : x.ok) (hy : y.ok) (Y : Array Value) (hY : Y = (rcV y).toArray) : (Instr.loadAt 33 (.pointer (some ⟨g, 102, none⟩))).run Tryz.prog w = .ok (.agg Y) w := by
  rw [hY]
  refine run_loadAt_mid w g 102 _ _ _ (fun j v hv => ?_) Tryz.underlying33 rfl (rcInfo hy)
  rw [cell_of_row _ _ _ _ _ _ h, List.getElem?_toArray]
  unfold pairV
  rw [List.getElem?_append_right (by rw [rcV_len hx]; omega), rcV_len hx, show 102 + j - 102 = j by omega]
  exact hv
theorem rcs_two {w : World} {g : Nat} {T : TypeId} {x y : Rc} (h : w.heap[g]? = some (.cells (rcV x ++ rcV y).toArray T (0, 0))) (hx : x.ok) (hy : y.ok) (dx : x.draw.size ≤ 1000000) (dy : y.draw.size ≤ 1000000) : RcsIn w (some ⟨g, 0, none⟩) [x, y] := by
  have hg := (Array.getElem?_eq_some_iff.1 h).1
  intro k z hk
  match k, hk with
  | 0, hk =>
    simp at hk
    subst hk
    refine ⟨hx, dx, g, 0, rfl, hg, fun j v hv => ?_⟩
    rw [cell_of_row _ _ _ _ _ _ h, List.getElem?_toArray]
    simp only [Nat.zero_mul, Nat.zero_add]
    rw [List.getElem?_append_left (List.getElem?_eq_some_iff.1 hv).1]
    exact hv
  | 1, hk =>
    simp at hk
    subst hk
    refine ⟨hy, dy, g, 0, rfl, hg, fun j v hv => ?_⟩
    rw [cell_of_row _ _ _ _ _ _ h, List.getElem?_toArray]
    simp only [Nat.one_mul, Nat.zero_add]
    rw [List.getElem?_append_right (by rw [rcV_len hx]; omega), rcV_len hx, show 102 + j - 102 = j by omega]
    exact hv
theorem PrAt.rcs {w : World} {g : Nat} {x y : Rc} (h : PrAt w g x y) (hx : x.ok) (hy : y.ok) (dx : x.draw.size ≤ 1000000) (dy : y.draw.size ≤ 1000000) : RcsIn w (some ⟨g, 0, none⟩) [x, y] := rcs_two h hx hy dx dy
theorem RcAt.rcs {w : World} {g : Nat} {x : Rc} (h : RcAt w g x) (hx : x.ok) (dx : x.draw.size ≤ 1000000) : RcsIn w (some ⟨g, 0, none⟩) [x] := by
  have hg := (Array.getElem?_eq_some_iff.1 h).1
  intro k z hk
  match k, hk with
  | 0, hk =>
    simp at hk
    subst hk
    refine ⟨hx, dx, g, 0, rfl, hg, fun j v hv => ?_⟩
    rw [cell_of_row _ _ _ _ _ _ h, List.getElem?_toArray]
    simp only [Nat.zero_mul, Nat.zero_add]
    exact hv
theorem range_rows (z : List Value) (hz : 0 < z.length) : ∀ k, (List.range (k * z.length)).map (fun i => z.toArray[i % z.toArray.size]!) = (List.replicate k z).flatten
  | 0 => by simp
  | k + 1 => by
    have ih := range_rows z hz k
    rw [List.replicate_succ, List.flatten_cons, ← ih, show (k + 1) * z.length = z.length + k * z.length by rw [Nat.add_mul, Nat.one_mul, Nat.add_comm], List.range_add, List.map_append, List.map_map]
    congr 1
    · apply List.ext_getElem
      · simp
      · intro i h1 h2
        simp only [List.getElem_map, List.getElem_range, List.size_toArray]
        rw [Nat.mod_eq_of_lt h2]
        simp [h2]
    · apply List.map_congr_left
      intro i _
      simp only [Function.comp, List.size_toArray]
      rw [Nat.add_mod_left]
theorem range_rowsA (z : List Value) (hz : 0 < z.length) (k : Nat) : (Array.range (k * z.length)).map (fun i => z.toArray[i % z.toArray.size]!) = (List.replicate k z).flatten.toArray := by
  apply Array.ext'
  rw [Array.toList_map, Array.toList_range, range_rows z hz k]
/-- A slice literal of four pairs. -/
theorem pr_build (ps : List (Rc × Rc)) (ho : ∀ y ∈ ps, y.1.ok ∧ y.2.ok) (a b c d : Rc × Rc) (hp : ps = [a, b, c, d]) (A B C D : Array Value) (hA : A = (pairV a.1 a.2).toArray) (hB : B = (pairV b.1 b.2).toArray) (hC : C = (pairV c.1 c.2).toArray) (hD : D = (pairV d.1 d.2).toArray) (w : World) :
    (Instr.buildSlice 55 4 #[(0, .agg A), (1, .agg B), (2, .agg C), (3, .agg D)]).run Tryz.prog w = .ok (.slice (some ⟨w.heap.size, 0, none⟩) 4 4) (w.alloc (.cells (psV ps).toArray 54)) := by
  obtain ⟨ie, hi, hz, hs⟩ : ∃ i, Tryz.prog.info? 54 = some i ∧ i.zero = some (.agg (rcV Rc.zero ++ rcV Rc.zero).toArray) ∧ i.size = 204 := by
    have h : (Tryz.prog.info? 54).map (fun i => (i.zero, i.size)) = some (some (.agg (rcV Rc.zero ++ rcV Rc.zero).toArray), 204) := by kernel_rfl
    obtain ⟨i, hi, he⟩ := Option.map_eq_some_iff.1 h
    simp only [Prod.mk.injEq] at he
    exact ⟨i, hi, he.1, he.2⟩
  refine run_buildSlice w 55 54 4 _ (psV ps).toArray ie _ Tryz.underlying55 hi hz (by rw [hs]; omega) (by rw [hs]; omega) ?_
  rw [hs]
  have hl : (rcV Rc.zero ++ rcV Rc.zero).length = 204 := by simp [rcV_len Rc.zero_ok]
  have hr := range_rowsA (rcV Rc.zero ++ rcV Rc.zero) (by rw [hl]; omega) 4
  rw [hl] at hr
  have e : (Value.agg (rcV Rc.zero ++ rcV Rc.zero).toArray).cells = (rcV Rc.zero ++ rcV Rc.zero).toArray := rfl
  rw [e]
  refine Eq.trans (congrArg (fun q => Instr.fill _ q _) hr) ?_
  rw [hA, hB, hC, hD]
  have h := fill_rows 204 [pairV a.1 a.2, pairV b.1 b.2, pairV c.1 c.2, pairV d.1 d.2] [] (List.replicate 4 (rcV Rc.zero ++ rcV Rc.zero)).flatten 0 rfl (by simp [rcV_len Rc.zero_ok]) (by
    intro v hv
    simp only [List.mem_cons, List.not_mem_nil, or_false] at hv
    rcases hv with rfl | rfl | rfl | rfl
    · exact pairV_len (ho a (by rw [hp]; simp)).1 (ho a (by rw [hp]; simp)).2
    · exact pairV_len (ho b (by rw [hp]; simp)).1 (ho b (by rw [hp]; simp)).2
    · exact pairV_len (ho c (by rw [hp]; simp)).1 (ho c (by rw [hp]; simp)).2
    · exact pairV_len (ho d (by rw [hp]; simp)).1 (ho d (by rw [hp]; simp)).2)
  rw [hp]
  simp only [psV, List.flatMap_cons, List.flatMap_nil, List.append_nil]
  simp only [List.flatten_cons, List.flatten_nil, List.append_nil, List.nil_append] at h ⊢
  exact h
/-- What the texts of two receipts, and of batches of them, say. -/
theorem textL_iff {x y : Rc} (hx : x.ok) (hy : y.ok) : textL x = textL y ↔ eqRc x y = true := by
  rw [eqRc_iff]
  exact ⟨fun h => textL_inj hx hy h, fun h => by rw [h]⟩
theorem batchL_iff {a b : List Rc} (la : a.length ≤ 4) (lb : b.length ≤ 4) (ha : ∀ x ∈ a, x.ok ∧ x.draw.size ≤ 1000000) (hb : ∀ x ∈ b, x.ok ∧ x.draw.size ≤ 1000000) : batchL 1 a = batchL 1 b ↔ a = b := by
  have k : i64in 1 := by unfold i64in; omega
  have t : ∀ x : Rc, x.ok ∧ x.draw.size ≤ 1000000 → x.ok ∧ (textL x).length ≤ 9223372036854775807 := fun x h => ⟨h.1, by have h1 := textL_len h.1; have h2 := h.2; omega⟩
  exact ⟨fun h => (batchL_inj k k (by omega) (by omega) (fun x hx => t x (ha x hx)) (fun x hx => t x (hb x hx)) h).2, fun h => by rw [h]⟩
theorem beq_dec {s t : ByteArray} {a b : List UInt8} {e : Bool} (hs : bs s = a) (ht : bs t = b) (h : a = b ↔ e = true) : (s.toList == t.toList) = e := by
  subst hs ht
  cases e
  · rw [beq_eq_false_iff_ne]
    intro q
    have : bs s = bs t := by rw [ByteArray.toList_eq, ByteArray.toList_eq] at q; exact q
    exact absurd (h.1 this) (by decide)
  · rw [bs_injE (h.2 rfl), beq_self_eq_true]
theorem bat1 {x y : Rc} (hx : x.ok ∧ x.draw.size ≤ 1000000) (hy : y.ok ∧ y.draw.size ≤ 1000000) : batchL 1 [x] = batchL 1 [y] ↔ eqRc x y = true := by
  rw [batchL_iff (by simp) (by simp) (by simpa using hx) (by simpa using hy), eqRc_iff]
  simp
theorem bat2 {x y : Rc} (hx : x.ok ∧ x.draw.size ≤ 1000000) (hy : y.ok ∧ y.draw.size ≤ 1000000) : batchL 1 [x, y] = batchL 1 [y, x] ↔ eqRc x y = true := by
  have h1 : ∀ z ∈ [x, y], z.ok ∧ z.draw.size ≤ 1000000 := by
    intro z hz
    simp only [List.mem_cons, List.not_mem_nil, or_false] at hz
    rcases hz with rfl | rfl <;> assumption
  have h2 : ∀ z ∈ [y, x], z.ok ∧ z.draw.size ≤ 1000000 := by
    intro z hz
    simp only [List.mem_cons, List.not_mem_nil, or_false] at hz
    rcases hz with rfl | rfl <;> assumption
  rw [batchL_iff (by simp) (by simp) h1 h2, eqRc_iff]
  simp only [List.cons.injEq, and_true]
  exact ⟨fun h => h.1, fun h => ⟨h, h.symm⟩⟩
theorem bat3 {x y : Rc} (hx : x.ok ∧ x.draw.size ≤ 1000000) (hy : y.ok ∧ y.draw.size ≤ 1000000) : batchL 1 [x] = batchL 1 [x, y] ↔ false = true := by
  have h1 : ∀ z ∈ [x, y], z.ok ∧ z.draw.size ≤ 1000000 := by
    intro z hz
    simp only [List.mem_cons, List.not_mem_nil, or_false] at hz
    rcases hz with rfl | rfl <;> assumption
  rw [batchL_iff (by simp) (by simp) (by simpa using hx) h1]
  simp
end Go.Proofs.YtmnmhhbldbdpfaaGreatDoor
