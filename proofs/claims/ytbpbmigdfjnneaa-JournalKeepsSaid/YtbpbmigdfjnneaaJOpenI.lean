/- What the loop of journal.Open keeps. -/
import Derived.Test.YtbpbmigdfjnneaaJRange
namespace Go.Proofs.Ytbpbmigdfjnneaa
open Go.RowKit
set_option maxRecDepth 100000

theorem DiskAt.nodup {w : World} {b : Nat} {D : DiskM} {S : List Nat} (h : DiskAt w b D S) : S.Nodup := by
  obtain ⟨vc, vs, vp, hb, hc, hy, hp, rfl, hn⟩ := h; exact hn

structure OpenI (w5 : World) (jb b va E : Nat) (pre : List (List UInt8)) (W : World) (v : Value) : Prop where
  j : JAt W jb b ⟨E, pre.length, spaceL pre, false⟩
  a : W.heap[va]? = some (.cells #[v] 61 (0, 0))
  row : StrRow W v pre
  fresh : ∀ k, k ∈ foot v → w5.heap.size + 2 ≤ k
  keep : ∀ k, k < w5.heap.size → k ≠ jb → k ≠ va → k ≠ va + 1 → W.heap[k]? = w5.heap[k]?
  os : W.os = w5.os
  tape : W.tape = w5.tape
  output : W.output = w5.output
  size : w5.heap.size + 2 ≤ W.heap.size

/-- The numbers of the blocks. -/
structure OpenN (w5 : World) (jb va : Nat) : Prop where
  at_ : va = jb + 2
  n : w5.heap.size = va + 2

theorem OpenI.other {w5 W W' : World} {jb b va E : Nat} {pre : List (List UInt8)} {v : Value} (hn : OpenN w5 jb va) (h : OpenI w5 jb b va E pre W v) (r : Nat) (hr : r = va + 1 ∨ r = w5.heap.size + 1)
    (hk : ∀ k, k ≠ r → W'.heap[k]? = W.heap[k]?) (h1 : W'.os = W.os) (h2 : W'.tape = W.tape) (h3 : W'.output = W.output) (h4 : W'.heap.size = W.heap.size) : OpenI w5 jb b va E pre W' v := by
  have e1 := hn.at_
  have e2 := hn.n
  exact ⟨h.j.same (hk _ (by omega)), (hk _ (by omega)).trans h.a, h.row.same (fun k hm => hk k (by have := h.fresh k hm; omega)), h.fresh,
    fun k hl n1 n2 n3 => (hk k (by omega)).trans (h.keep k hl n1 n2 n3), h1.trans h.os, h2.trans h.tape, h3.trans h.output, by rw [h4]; exact h.size⟩

theorem OpenI.set {w5 W : World} {jb b va E : Nat} {pre : List (List UInt8)} {v : Value} (hn : OpenN w5 jb va) (h : OpenI w5 jb b va E pre W v) (u : Value) : OpenI w5 jb b va E pre (W.setCell ⟨va + 1, 0, none⟩ u) v :=
  h.other hn (va + 1) (.inl rfl) (fun k hk => heap_setCell_other _ _ _ _ hk) rfl rfl rfl (by simp)
theorem OpenI.put {w5 W : World} {jb b va E : Nat} {pre : List (List UInt8)} {v : Value} (hn : OpenN w5 jb va) (h : OpenI w5 jb b va E pre W v) (o : Obj) : OpenI w5 jb b va E pre (W.putObj (w5.heap.size + 1) o) v :=
  h.other hn (w5.heap.size + 1) (.inr rfl) (fun _ hk => World.putObj_heap_other hk) rfl rfl rfl (by simp)

theorem OpenI.start {w5 : World} {jb b va E : Nat} (hn : OpenN w5 jb va) (hj : JAt w5 jb b ⟨E, 0, 0, false⟩) (ha : w5.heap[va]? = some (.cells #[.slice none 0 0] 61 (0, 0))) (o1 o2 : Obj) :
    OpenI w5 jb b va E [] ((w5.alloc o1).alloc o2) (.slice none 0 0) := by
  have e1 := hn.at_
  have e2 := hn.n
  have hk : ∀ k, k < w5.heap.size → ((w5.alloc o1).alloc o2).heap[k]? = w5.heap[k]? := fun k hk => (Below.heap_alloc _ _ _ (by simp; omega)).trans (Below.heap_alloc _ _ _ hk)
  exact ⟨hj.same (hk _ (by omega)), (hk _ (by omega)).trans ha, strRow_nil _, fun k h => by simp [foot, Value.ownBlock] at h, fun k h _ _ _ => hk k h, rfl, rfl, rfl, by simp⟩

/-- One record more. -/
theorem OpenI.step {w5 W w1 W' : World} {jb b va E : Nat} {pre : List (List UInt8)} {v v' : Value} {r : ByteArray} (hn : OpenN w5 jb va) (h : OpenI w5 jb b va E pre W v)
    (hrow : StrRow w1 v' (pre ++ [bs r])) (hu : Upd (foot v) (foot v') W w1) (hj : JAt W' jb b ⟨E, pre.length + 1, spaceL pre + r.size + 16, false⟩) (hu' : Upd [jb] [jb] (w1.setCell ⟨va, 0, none⟩ v') W') :
    OpenI w5 jb b va E (pre ++ [bs r]) W' v' ∧ W'.heap[va + 1]? = W.heap[va + 1]? ∧ W'.heap[w5.heap.size + 1]? = W.heap[w5.heap.size + 1]? ∧ W'.heap[w5.heap.size]? = W.heap[w5.heap.size]? := by
  have e1 := hn.at_
  have e2 := hn.n
  have es := h.size
  have fr' : ∀ k, k ∈ foot v' → w5.heap.size + 2 ≤ k := fun k hk => by
    rcases hu.new k hk with g | g
    · exact h.fresh k g
    · omega
  have hs1 : w1.heap.size ≤ W'.heap.size := by have := hu'.size; simpa using this
  have hk : ∀ k, k < w5.heap.size + 2 → k ≠ jb → k ≠ va → W'.heap[k]? = W.heap[k]? := fun k hl n1 n2 => by
    have h1 : k < W.heap.size := by omega
    have h2 : k < w1.heap.size := Nat.lt_of_lt_of_le h1 hu.size
    rw [hu'.block k (by simpa using h2) (by simpa using n1), heap_setCell_other _ _ _ _ (by simpa using n2)]
    exact hu.block k h1 (fun m => by have := h.fresh k m; omega)
  have hva1 : w1.heap[va]? = some (.cells #[v] 61 (0, 0)) := (hu.block va (blk_lt h.a) (fun m => by have := h.fresh va m; omega)).trans h.a
  have hva : (w1.setCell ⟨va, 0, none⟩ v').heap[va]? = some (.cells #[v'] 61 (0, 0)) := by rw [heap_setCell_same w1 va 0 _ _ _ hva1]; rfl
  refine ⟨⟨?_, ?_, ?_, fr', ?_, ?_, ?_, ?_, ?_⟩, hk _ (by omega) (by omega) (by omega), hk _ (by omega) (by omega) (by omega), hk _ (by omega) (by omega) (by omega)⟩
  · have : (⟨E, (pre ++ [bs r]).length, spaceL (pre ++ [bs r]), false⟩ : JM) = ⟨E, pre.length + 1, spaceL pre + r.size + 16, false⟩ := by
      rw [spaceL_snoc, bs_length, List.length_append]; rfl
    rw [this]; exact hj
  · rw [hu'.block va (blk_lt hva) (by simp; omega)]; exact hva
  · refine hrow.same (fun k hm => ?_)
    have g := fr' k hm
    rw [hu'.block k (by simpa using hrow.lt k hm) (by simp; omega), heap_setCell_other _ _ _ _ (by simp; omega)]
  · intro k hl n1 n2 n3
    exact (hk k (by omega) n1 n2).trans (h.keep k hl n1 n2 n3)
  · exact hu'.os.trans (hu.os.trans h.os)
  · exact hu'.tape.trans (hu.tape.trans h.tape)
  · exact hu'.output.trans (hu.output.trans h.output)
  · have := hu.size; omega

/-- A broken record: the results say so. -/
structure OpenX (w5 : World) (jb va B : Nat) (W : World) : Prop where
  res : ResAt W B (.pointer none) (.slice none 0 0) 11
  keep : ∀ k, k < w5.heap.size → k ≠ jb → k ≠ va → k ≠ va + 1 → (k < B ∨ B + 1 + 1 < k) → W.heap[k]? = w5.heap[k]?
  os : W.os = w5.os
  tape : W.tape = w5.tape
  output : W.output = w5.output
  size : w5.heap.size + 2 ≤ W.heap.size

theorem OpenX.put {w5 W : World} {jb va B : Nat} (hn : OpenN w5 jb va) (hB : B + 1 + 1 < jb) (h : OpenX w5 jb va B W) (o : Obj) : OpenX w5 jb va B (W.putObj (w5.heap.size + 1) o) := by
  have e1 := hn.at_
  have e2 := hn.n
  exact ⟨h.res.same (World.putObj_heap_other (by omega)) (World.putObj_heap_other (by omega)) (World.putObj_heap_other (by omega)),
    fun k hl n1 n2 n3 n4 => (World.putObj_heap_other (by omega)).trans (h.keep k hl n1 n2 n3 n4), h.os, h.tape, h.output, by simpa using h.size⟩

theorem OpenI.broken {w5 W : World} {jb b va E B : Nat} {pre : List (List UInt8)} {v : Value} (_hn : OpenN w5 jb va) (_hB : B + 1 + 1 < jb) (h : OpenI w5 jb b va E pre W v) (hr : ResAt W B (.pointer none) (.slice none 0 0) 0) :
    OpenX w5 jb va B (((W.setCell ⟨B, 0, none⟩ (.pointer none)).setCell ⟨B + 1, 0, none⟩ (.slice none 0 0)).setCell ⟨B + 1 + 1, 0, none⟩ (.int .i64 11)) := by
  obtain ⟨h1, h2⟩ := hr.set (.pointer none) (.slice none 0 0) 11
  exact ⟨h1, fun k hl n1 n2 n3 n4 => (h2 k n4).trans (h.keep k hl n1 n2 n3), h.os, h.tape, h.output, by simpa using h.size⟩

theorem OpenI.res {w5 W : World} {jb b va E B : Nat} {pre : List (List UInt8)} {v : Value} (hn : OpenN w5 jb va) (hB : B + 1 + 1 < jb) (h : OpenI w5 jb b va E pre W v) (hr : ResAt w5 B (.pointer none) (.slice none 0 0) 0) : ResAt W B (.pointer none) (.slice none 0 0) 0 := by
  have e1 := hn.at_
  have e2 := hn.n
  exact hr.same (h.keep _ (by omega) (by omega) (by omega) (by omega)) (h.keep _ (by omega) (by omega) (by omega) (by omega)) (h.keep _ (by omega) (by omega) (by omega) (by omega))

def OpenPost (b : Nat) (D : DiskM) (S : List Nat) (w : World) (e : Ending) (w' : World) : Prop :=
  (∀ F rs, openR D.now = some (F, rs) → ∃ jb v S', e = .returned (.tuple #[.pointer (some ⟨jb, 0, none⟩), v, .int .i64 0]) ∧ DiskAt w' b D.syncS S' ∧ JAt w' jb b ⟨F.length, rs.length, spaceL rs, false⟩ ∧ StrRow w' v rs ∧
    Upd S (jb :: (foot v ++ S')) w w' ∧ (jb :: (foot v ++ S')).Nodup) ∧
  (openR D.now = none → ∃ S', e = .returned (.tuple #[.pointer none, .slice none 0 0, .int .i64 11]) ∧ DiskAt w' b D.syncS S' ∧ Upd S S' w w')

/-- The end of Open, the journal whole. -/
theorem open_done {w w5 W W4 : World} {jb b va E B : Nat} {rs : List (List UInt8)} {v : Value} {D : DiskM} {S S1 : List Nat} (hn : OpenN w5 jb va) (hB : B = w.heap.size) (hBj : B + 1 + 1 < jb) (h : OpenI w5 jb b va E rs W v)
    (hu : Upd S S1 w w5) (hd : DiskAt w5 b D S1) (hS : ∀ k, k ∈ S1 → k < jb) (hf : ∀ k, k ∈ S1 → k < B ∨ B + 1 + 1 < k)
    (hk : ∀ k, (k < B ∨ B + 1 + 1 < k) → k ≠ w5.heap.size → W4.heap[k]? = W.heap[k]?) (h1 : W4.os = W.os) (h2 : W4.tape = W.tape) (h3 : W4.output = W.output) (h4 : W.heap.size ≤ W4.heap.size) :
    DiskAt W4 b D S1 ∧ JAt W4 jb b ⟨E, rs.length, spaceL rs, false⟩ ∧ StrRow W4 v rs ∧ Upd S (jb :: (foot v ++ S1)) w W4 ∧ (jb :: (foot v ++ S1)).Nodup := by
  have e1 := hn.at_
  have e2 := hn.n
  have es := h.size
  refine ⟨hd.same (fun k hm => ?_), h.j.same (hk _ (by omega) (by omega)), h.row.same (fun k hm => hk k (by have := h.fresh k hm; omega) (by have := h.fresh k hm; omega)), ⟨h1.trans (h.os.trans hu.os), h2.trans (h.tape.trans hu.tape), h3.trans (h.output.trans hu.output), ?_, ?_, ?_⟩, ?_⟩
  · have := hS k hm
    rw [hk k (hf k hm) (by omega), h.keep k (by omega) (by omega) (by omega) (by omega)]
  · have := hu.size; omega
  · intro k hl hm
    rw [hk k (by omega) (by omega), h.keep k (by omega) (by omega) (by omega) (by omega)]
    exact hu.block k hl hm
  · intro k hm
    simp only [List.mem_cons, List.mem_append] at hm
    rcases hm with rfl | hm | hm
    · right; omega
    · right; have := h.fresh k hm; omega
    · exact hu.new k hm
  · rw [List.nodup_cons, List.nodup_append]
    refine ⟨?_, foot_nodup v, hd.nodup, ?_⟩
    · simp only [List.mem_append, not_or]
      exact ⟨fun m => by have := h.fresh _ m; omega, fun m => by have := hS _ m; omega⟩
    · intro x hx y hy e
      subst e
      have := h.fresh x hx
      have := hS x hy
      omega

/-- The end of Open, a record broken. -/
theorem open_broken {w w5 W W4 : World} {jb b va B : Nat} {D : DiskM} {S S1 : List Nat} (hn : OpenN w5 jb va) (hB : B = w.heap.size) (hBj : B + 1 + 1 < jb) (h : OpenX w5 jb va B W)
    (hu : Upd S S1 w w5) (hd : DiskAt w5 b D S1) (hS : ∀ k, k ∈ S1 → k < jb) (hf : ∀ k, k ∈ S1 → k < B ∨ B + 1 + 1 < k)
    (hk : ∀ k, k ≠ w5.heap.size → W4.heap[k]? = W.heap[k]?) (h1 : W4.os = W.os) (h2 : W4.tape = W.tape) (h3 : W4.output = W.output) (h4 : W.heap.size ≤ W4.heap.size) :
    ResAt W4 B (.pointer none) (.slice none 0 0) 11 ∧ DiskAt W4 b D S1 ∧ Upd S S1 w W4 := by
  have e1 := hn.at_
  have e2 := hn.n
  have es := h.size
  refine ⟨h.res.same (hk _ (by omega)) (hk _ (by omega)) (hk _ (by omega)), hd.same (fun k hm => ?_), ⟨h1.trans (h.os.trans hu.os), h2.trans (h.tape.trans hu.tape), h3.trans (h.output.trans hu.output), ?_, ?_, fun k hm => hu.new k hm⟩⟩
  · have := hS k hm
    rw [hk k (by omega), h.keep k (by omega) (by omega) (by omega) (by omega) (hf k hm)]
  · have := hu.size; omega
  · intro k hl hm
    rw [hk k (by omega), h.keep k (by omega) (by omega) (by omega) (by omega) (by omega)]
    exact hu.block k hl hm
end Go.Proofs.Ytbpbmigdfjnneaa
