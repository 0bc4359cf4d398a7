/- sortesref01: Quo, Text. -/
import Derived.Test.YtkhodajdionaaaaGreatDoorBigD
import Derived.Test.YtkhodajdionaaaaGreatDoorDecB
namespace Go.Proofs.YtkhodajdionaaaaGreatDoor
open Go.RowKit
set_option maxRecDepth 100000

theorem digVals_append (a b : List Nat) : digVals (a ++ b) = digVals a ++ digVals b := by simp [digVals]
theorem run_append_nilsrc {P : Program} (w : World) (base : Nat) (t ty e : TypeId) (i : TypeInfo) (size : Nat) (ht : P.underlying t = some (.slice e)) (hi : P.info? e = some i)
    (v : Value) (n : Nat) (xs : List Value) (hown : w.ownsRow base e size v n xs) (c : Nat) : (Builtin.append_ #[t, t] ty #[v, .slice none 0 c]).run P w = .ok v w := by
  rcases hown.2 with ⟨rfl, rfl⟩ | ⟨g, cap, cur, rfl, _, _, hnc, _⟩
  · simp [Builtin.append_, run_underlying ht, sizeOf, typeInfo, hi, Builtin.lenOf, Builtin.firstCells]
  · simp [Builtin.append_, run_underlying ht, sizeOf, typeInfo, hi, Builtin.lenOf, Builtin.firstCells, hnc, storeCells]
/-- append(v, rest...), digits. -/
theorem append_sl (X : World) (v : Value) (k : Nat) (l0 : List Nat) (hown : X.ownsRow 0 3 1 v k (digVals l0)) (rest : Value) (l : List Nat) (h : Sl X rest l) (hk : k + l.length ≤ 1099511627776) :
    ∃ v' w', (Builtin.append_ #[38, 38] 38 #[v, rest]).run Tryz.prog X = .ok v' w' ∧ w'.ownsRow 0 3 1 v' (k + l.length) (digVals (l0 ++ l)) ∧ Upd (foot v) (foot v') X w' := by
  obtain ⟨ao, cap, rfl, h1, h2, h3⟩ := h
  obtain ⟨iu, u1, u2, u3, u4⟩ := int_parts
  cases ao with
  | none =>
    have h0 : l.length = 0 := by
      rcases h3 with h3 | ⟨b, e, _⟩
      · exact h3
      · cases e
    have hl : l = [] := List.eq_nil_of_length_eq_zero h0
    subst hl
    refine ⟨v, X, run_append_nilsrc X 0 _ _ 3 iu 1 Tryz.underlying38 u1 v k _ hown cap, ?_, ?_⟩
    · simpa using hown
    · exact Upd.refl _ _
  | some ad =>
    obtain ⟨v', w', hrun, hown', hup'⟩ := append_block (P := Tryz.prog) X 38 38 3 iu (.int .i64 0) 1 8 Tryz.underlying38 u1 u2 u3 u4 rfl (by omega) v k _ hown ad l.length cap (digVals l) (by simp [digVals]) (by
      intro j u hj
      have hjl : j < l.length := by
        have := (List.getElem?_eq_some_iff.1 hj).1
        simpa [digVals] using this
      rcases h3 with h3 | ⟨b, e, hb, hc⟩
      · omega
      · injection e with e
        subst e
        have e2 : (⟨b, 0, none⟩ : Addr).add j = ⟨b, j, none⟩ := by unfold Addr.add; split <;> simp_all
        rw [e2, hc j l[j] (List.getElem?_eq_getElem hjl)]
        have : (digVals l)[j]? = some (digV l[j]) := by simp [digVals, hjl]
        rw [this] at hj
        exact hj) (by
      intro u hu
      simp only [digVals, List.mem_map] at hu
      obtain ⟨d, _, rfl⟩ := hu
      rfl) (by omega) (by simp only [maxLen]; omega)
    exact ⟨v', w', hrun, by rw [digVals_append]; exact hown', hup'⟩

theorem made_digs (k : Nat) : madeCells (Value.int .i64 0).cells k = (digVals (List.replicate k 0)).toArray := by
  apply Array.ext
  · simp [madeCells, digVals]
  · intro i h1 h2
    simp [madeCells, digVals, digV, Value.cells, Nat.mod_one]
theorem make_digs (w : World) (n : Nat) (hn : n ≤ 1000000000) : (Instr.makeSlice 38 (.int .i64 (n : Int)) (.int .i64 (n : Int))).run Tryz.prog w = .ok (.slice (some ⟨w.heap.size, 0, none⟩) n n) (w.alloc (.cells (digVals (List.replicate n 0)).toArray 3)) := by
  obtain ⟨i0, hi, hz0, hz1, hz2⟩ := int_parts
  have := run_make (P := Tryz.prog) w 38 3 i0 (.int .i64 0) Tryz.underlying38 hi hz0 .i64 .i64 n n (by omega) (by omega) (by rw [hz2]; omega) (by omega)
  rw [this, hz1]
  simp only [Int.toNat_natCast, Nat.mul_one, made_digs]
theorem digVals_set (l : List Nat) (k x : Nat) : (digVals l).toArray.setIfInBounds k (.int .i64 (x : Int)) = (digVals (l.set k x)).toArray := by
  simp [digVals, List.map_set, digV]
theorem Sl.set {w : World} {v : Value} {l : List Nat} (h : Sl w v l) {g j : Nat} {x : Value} (hg : ∀ b ∈ foot v, b ≠ g) : Sl (w.setCell ⟨g, j, none⟩ x) v l := by
  obtain ⟨ao, cap, rfl, h1, h2, h3⟩ := h
  refine ⟨ao, cap, rfl, h1, h2, ?_⟩
  rcases h3 with h3 | ⟨b, rfl, hb, hc⟩
  · exact .inl h3
  · refine .inr ⟨b, rfl, by simpa using hb, fun i d hi => ?_⟩
    have hne : b ≠ g := hg b (by simp [foot, Value.ownBlock])
    rw [World.cell?_setCell_other _ _ _ _ (fun e => hne (Addr.mk.inj e).1.symm)]
    exact hc i d hi
/-- A slice over a whole block. -/
theorem Sl.of_block {w : World} {g : Nat} {l : List Nat} {t : TypeId} (h : w.heap[g]? = some (.cells (digVals l).toArray t (0, 0))) (hl : l.length ≤ maxLen) : Sl w (.slice (some ⟨g, 0, none⟩) l.length l.length) l := by
  refine ⟨_, _, rfl, Nat.le_refl _, hl, .inr ⟨g, rfl, (Array.getElem?_eq_some_iff.1 h).1, fun j d hj => ?_⟩⟩
  rw [cell_of_row w g j _ _ _ h]
  simp [digVals, hj, digV]
theorem valL_zeros : ∀ k, valL (List.replicate k 0) = 0
  | 0 => rfl
  | k + 1 => by rw [List.replicate_succ, valL, valL_zeros k]
theorem okL_zeros (k : Nat) : okL (List.replicate k 0) := fun d hd => by rw [List.mem_replicate] at hd; omega
theorem okL_set {l : List Nat} (h : okL l) {k x : Nat} (hx : x < 16777216) : okL (l.set k x) := by
  intro d hd
  rcases List.mem_or_eq_of_mem_set hd with h1 | h1
  · exact h d h1
  · omega
end Go.Proofs.YtkhodajdionaaaaGreatDoor
