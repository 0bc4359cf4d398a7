/- A range over journal.records: the law of the loop. -/
import Derived.Test.YtbpbmigdfjnneaaJOpen
namespace Go.Proofs.Ytbpbmigdfjnneaa
open Go.RowKit
set_option maxRecDepth 100000

/-- How the body of a round over a whole record is left. -/
def RoundOn (bx l D : Nat) (I : List (List UInt8) → World → Prop) (pre : List (List UInt8)) (W : World) : Exit → Act → World → Prop
  | .normal, _, W' => I pre W' ∧ W'.heap[bx]? = W.heap[bx]? ∧ W'.heap[l]? = W.heap[l]? ∧ W'.heap[D]? = W.heap[D]?
  | _, _, _ => False
/-- How it is left over a broken one. -/
def RoundOut (l D : Nat) (Ix : World → Prop) (W : World) : Exit → Act → World → Prop
  | .ret, _, W' => Ix W' ∧ W'.heap[l]? = W.heap[l]? ∧ W'.heap[D]? = W.heap[D]?
  | _, _, _ => False

theorem putObj_alloc_lt (w : World) (o : Obj) (r k : Nat) (h : k ≠ r) : (w.putObj r o).heap[k]? = w.heap[k]? := World.putObj_heap_other h

theorem wp_range_records {g : Operand} {t1 t2 : Tmp} {assign body : Code} {Q : Exit → Act → World → Prop} {a : Act} {w : World} (bx : Nat) (fr : ByteArray)
    (hg : a.eval g = .func (.func 63) #[] #[.pointer (some ⟨bx, 0, none⟩)]) (hbx : w.heap[bx]? = some (.cells #[.string fr] 9 (0, 0))) (hsz : fr.size ≤ 16777216)
    (I : List (List UInt8) → World → Prop) (Ix : World → Prop)
    (hIset : ∀ pre W u, I pre W → I pre (W.setCell ⟨bx, 0, none⟩ u)) (hIput : ∀ pre W o, I pre W → I pre (W.putObj (w.heap.size + 1) o)) (hXput : ∀ W o, Ix W → Ix (W.putObj (w.heap.size + 1) o))
    (h0 : ∀ o, I [] ((w.alloc (.deferred (some []))).alloc o)) (a1 : Value → Value → Act)
    (hassign : ∀ (x y : Value) (W : World) (K : Act → World → Prop), K (a1 x y) W → assign.wpIn (Fence.wide.inRound (w.heap.size + 1)) (0 - 1 - 1) Try.prog (Exit.then K (fun _ _ _ => False)) { tmps := (#[t1, t2].zip #[x, y]).foldl (fun t (p, v) => t.setIfInBounds p v) a.tmps, defers := [] } W)
    (hon : ∀ pre (r : ByteArray) W, I pre W → r.size ≤ 16777216 → (∃ t, (recsL (bs fr)).1 = pre ++ [bs r] ++ t) → body.wpIn (Fence.wide.inRound (w.heap.size + 1)) (0 - 1 - 1) Try.prog (RoundOn bx (w.heap.size + 1) w.heap.size I (pre ++ [bs r]) W) (a1 (.string r) (.bool true)) W)
    (hout : ∀ pre W, I pre W → body.wpIn (Fence.wide.inRound (w.heap.size + 1)) (0 - 1 - 1) Try.prog (RoundOut (w.heap.size + 1) w.heap.size Ix W) (a1 (.string ⟨#[]⟩) (.bool false)) W)
    (hdone : ∀ W, (recsL (bs fr)).2 = true → I (recsL (bs fr)).1 W → W.heap[w.heap.size]? = some (.deferred (some [])) → Q .normal { a with defers := { target := .collected w.heap.size, args := #[] } :: a.defers } W)
    (hstop : ∀ W, (recsL (bs fr)).2 = false → Ix W → W.heap[w.heap.size]? = some (.deferred (some [])) → Q .ret { a with defers := { target := .collected w.heap.size, args := #[] } :: a.defers } W) :
    (Code.rangeFunc g #[t1, t2] assign body).wp Try.prog Q a w := by
  refine (wpIn_wide (n := 0)).1 (wpIn_rangeFunc ?_)
  intro fn hfn
  have hbl := blk_lt hbx
  obtain ⟨rec, hrec⟩ : ∃ rec : LoopState → Option Code → Loop, rec = fun st pe => { state := st, pending := pe, fn, tmps := a.tmps, params := #[t1, t2], assign, body, defers := w.heap.size } := ⟨_, rfl⟩
  obtain ⟨W1, hW1⟩ : ∃ W1, (w.alloc (.deferred (some []))).alloc (.loop (rec .ready none)) = W1 := ⟨_, rfl⟩
  have hL1 : W1.heap[w.heap.size + 1]? = some (.loop (rec .ready none)) := by
    rw [← hW1]; have := World.alloc_heap_new (w.alloc (.deferred (some []))) (.loop (rec .ready none)); rwa [World.size_alloc] at this
  have hK1 : W1.heap[w.heap.size]? = some (.deferred (some [])) := by
    rw [← hW1]; exact (Below.heap_alloc _ _ _ (by simp)).trans (World.alloc_heap_new w _)
  have hI1 : I [] W1 := by rw [← hW1]; exact h0 _
  have hb1 : W1.heap[bx]? = some (.cells #[.string fr] 9 (0, 0)) := by
    rw [← hW1]; exact (Below.heap_alloc _ _ _ (by simp; omega)).trans ((Below.heap_alloc _ _ _ hbl).trans hbx)
  -- the end of a round
  have fin : ∀ (jump : Option Code) (W W3 : World), W.heap[w.heap.size + 1]? = some (.loop (rec .ready none)) → W.heap[w.heap.size]? = some (.deferred (some [])) →
      W3.heap[w.heap.size + 1]? = (W.putObj (w.heap.size + 1) (.loop { rec .ready none with state := .busy })).heap[w.heap.size + 1]? →
      W3.heap[w.heap.size]? = (W.putObj (w.heap.size + 1) (.loop { rec .ready none with state := .busy })).heap[w.heap.size]? →
      (Instr.endRound (w.heap.size + 1) jump).run Try.prog W3 = .ok (.bool jump.isNone) (W3.putObj (w.heap.size + 1) (.loop (rec (if jump.isNone then .ready else .done) jump))) ∧
      (W3.putObj (w.heap.size + 1) (.loop (rec (if jump.isNone then .ready else .done) jump))).heap[w.heap.size + 1]? = some (.loop (rec (if jump.isNone then .ready else .done) jump)) ∧
      (W3.putObj (w.heap.size + 1) (.loop (rec (if jump.isNone then .ready else .done) jump))).heap[w.heap.size]? = some (.deferred (some [])) := fun jump W W3 hl hk hl3 hk3 => by
    have hlt : w.heap.size + 1 < W.heap.size := (Array.getElem?_eq_some_iff.1 hl).1
    rw [World.putObj_heap_same hlt] at hl3
    rw [World.putObj_heap_other (by omega), hk] at hk3
    have := run_endRound (P := Try.prog) jump hl3
    rw [hrec] at this ⊢
    exact ⟨this, World.putObj_heap_same (Array.getElem?_eq_some_iff.1 hl3).1, (World.putObj_heap_other (by omega)).trans hk3⟩
  refine ⟨w.heap.size + 1, [{ target := .collected w.heap.size, args := #[] }], W1, { target := .fn (.func 63) #[.pointer (some ⟨bx, 0, none⟩)], args := #[.func (.yield (w.heap.size + 1)) #[] #[]] }, W1, 63,
    #[.func (.yield (w.heap.size + 1)) #[] #[]] ++ #[.pointer (some ⟨bx, 0, none⟩)], W1, ?_, ?_, ?_, ?_, (fun h => by cases h), ?_⟩
  · rw [← hW1, hrec]; exact run_enterLoop_outer _ _ _ _ _
  · simp only [resolve, hg]
    simp [go_sem]
  · intro f' hf'; trivial
  · simp [invoke, go_sem]
  · refine (records1_in (0 - 1) (w.heap.size + 1) bx fr
      (fun pre W => I pre W ∧ W.heap[w.heap.size + 1]? = some (.loop (rec .ready none)) ∧ W.heap[w.heap.size]? = some (.deferred (some [])))
      (fun W => Ix W ∧ W.heap[w.heap.size + 1]? = some (.loop (rec .done (some .ret))) ∧ W.heap[w.heap.size]? = some (.deferred (some [])))
      ?_ ?_ ?_ W1 hb1 hsz ⟨hI1, hL1, hK1⟩).mono ?_
    · rintro pre W u ⟨hi, hl, hk⟩
      exact ⟨hIset pre W u hi, (heap_setCell_other W _ _ u (by simp; omega)).trans hl, (heap_setCell_other W _ _ u (by simp; omega)).trans hk⟩
    · rintro pre r W ⟨hi, hl, hk⟩ hr ht
      have hy := run_yield (P := Try.prog) (args := #[.string r, .bool true]) hl (by rw [hrec]; rfl)
      rw [hrec] at hy
      refine ⟨fn, _, assign, body, hy, roundIn_of_wpIn hfn (hassign _ _ W _ ⟨_, run_beginRound hl (by rw [hrec]), ?_⟩)⟩
      refine wpIn_mono (hon pre r _ (hIput pre W _ hi) hr ht) ?_
      rintro e a3 W3 hp
      cases e with
      | normal =>
        obtain ⟨hi3, hb3, hl3, hk3⟩ := hp
        obtain ⟨hr3, hl4, hk4⟩ := fin none W W3 hl hk hl3 hk3
        refine ⟨_, _, hr3, rfl, ⟨hIput _ _ _ hi3, hl4, hk4⟩, ?_⟩
        rw [World.putObj_heap_other (by omega), hb3, World.putObj_heap_other (by omega)]
      | ret => exact hp.elim
      | exit id => exact hp.elim
      | goto t => exact hp.elim
      | panic ch => exact hp.elim
      | outgrown => exact hp.elim
    · rintro pre W ⟨hi, hl, hk⟩
      have hy := run_yield (P := Try.prog) (args := #[.string ⟨#[]⟩, .bool false]) hl (by rw [hrec]; rfl)
      rw [hrec] at hy
      refine ⟨fn, _, assign, body, hy, roundIn_of_wpIn hfn (hassign _ _ W _ ⟨_, run_beginRound hl (by rw [hrec]), ?_⟩)⟩
      refine wpIn_mono (hout pre _ (hIput pre W _ hi)) ?_
      rintro e a3 W3 hp
      cases e with
      | ret =>
        obtain ⟨hi3, hl3, hk3⟩ := hp
        obtain ⟨hr3, hl4, hk4⟩ := fin (some .ret) W W3 hl hk hl3 hk3
        exact ⟨_, _, hr3, rfl, hXput _ _ hi3, hl4, hk4⟩
      | normal => exact hp.elim
      | exit id => exact hp.elim
      | goto t => exact hp.elim
      | panic ch => exact hp.elim
      | outgrown => exact hp.elim
    · rintro e W2 ⟨⟨v, rfl⟩, (⟨ht, hi, hl, hk⟩ | ⟨ht, hi, hl, hk⟩)⟩
      · exact ⟨none, _, by have := run_endLoop (P := Try.prog) hl (by rw [hrec]; simp); rw [hrec] at this; exact this, hdone _ ht (hIput _ _ _ hi) ((World.putObj_heap_other (by omega)).trans hk)⟩
      · refine ⟨some .ret, _, by have := run_endLoop (P := Try.prog) hl (by rw [hrec]; simp); rw [hrec] at this; exact this, ?_⟩
        exact wpIn_ret (hstop _ ht (hXput _ _ hi) ((World.putObj_heap_other (by omega)).trans hk))
end Go.Proofs.Ytbpbmigdfjnneaa
