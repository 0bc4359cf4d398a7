/- Slices of rows of plain cells, opened. -/
import Derived.Test.YtabnlklkfgojgaaGreatDoorGM
import Derived.Deep.Slices
namespace Go.Proofs.YtabnlklkfgojgaaGreatDoor
open Go.ChangeShapes Go.WideShapes Go.ChangeAt Go.RowKit Go.Deep Go.Joins
set_option maxRecDepth 100000

theorem addG_plain (b off j : Nat) : (⟨b, off, none⟩ : Addr).add j = ⟨b, off + j, none⟩ := by unfold Addr.add; split <;> simp_all
theorem cell_spotG {w : World} {a : Addr} {v : Value} (h : w.cell? (a.add 0) = some v) : a.spot = none := by
  have e : a.add 0 = a := by simp [Addr.add]
  rw [e] at h
  unfold World.cell? at h
  cases hs : a.spot with
  | none => rfl
  | some s =>
    rw [hs] at h
    split at h <;> simp at h
theorem cell_inG {w : World} {g o : Nat} {v : Value} (h : w.cell? ⟨g, o, none⟩ = some v) : g < w.heap.size := by
  unfold World.cell? at h
  by_cases hg : g < w.heap.size
  · exact hg
  · rw [Array.getElem?_eq_none (by show w.heap.size ≤ g; omega)] at h
    simp at h
section
variable {H : Type} {enc : TypeId × Value → H} {w : World}
theorem open_rows {t e : TypeId} {ks : List Kd} {v : Value} {d : DataW H} {p : List MemPlace} {r : Reach} {b0 : Nat} (hu : Tryz.prog.underlying t = some (.slice e)) (hk : flatK Tryz.prog 8 e = some ks) (hks : 0 < ks.length) (hc : Tryz.prog.cellsOf e = ks.length) (hv : Value.okWide Tryz.prog w r b0 t v) (h : DataW.Trod enc Tryz.prog w 0 (fun _ => true) true t v d p) :
    ∃ ao len cap, v = .slice ao len cap ∧ len ≤ cap ∧ cap ≤ 9223372036854775807 ∧ (len = 0 ∨ ∃ b off, ao = some ⟨b, off, none⟩ ∧ b < w.heap.size ∧ ∀ i, i < len → ∃ cs : List Value, Mt ks cs ∧ ∀ j u, cs[j]? = some u → w.cell? ⟨b, off + i * ks.length + j, none⟩ = some u) := by
  obtain ⟨a, len, cap, rfl⟩ := okWide_slice hu hv
  obtain ⟨fuel, hf⟩ := h
  rcases open_slice hu hf with ⟨hcs, _⟩ | ⟨x, l, c, m, n, D, Pl, hcs, _, hl, hm, hmm, _, hi⟩
  · simp [Value.cells] at hcs
    obtain ⟨rfl, rfl, rfl⟩ := hcs
    exact ⟨none, 0, 0, rfl, by simp, by simp, .inl rfl⟩
  · simp [Value.cells] at hcs
    obtain ⟨rfl, rfl, rfl⟩ := hcs
    simp only [if_true] at hmm
    rw [hmm] at hi
    refine ⟨some x, len, cap, rfl, hl, hm, ?_⟩
    by_cases h0 : len = 0
    · exact .inl h0
    · right
      have hA : ∀ i, i < len → ∃ cs : List Value, Mt ks cs ∧ ∀ j u, cs[j]? = some u → w.cell? (x.add (i * ks.length + j)) = some u := by
        intro i hil
        obtain ⟨cs', hcc, ht⟩ := hi i (by omega)
        rw [hc] at hcc
        have hM := flatK_ok 8 e ks _ _ _ hk ht
        refine ⟨cs', hM, fun j u hj => ?_⟩
        obtain ⟨_, _, hat⟩ := World.cells?_some hcc
        have hjl : j < ks.length := by
          have := (List.getElem?_eq_some_iff.1 hj).1
          rw [hM.1] at this
          exact this
        have g0 := hat j hjl
        rw [add_add] at g0
        exact g0.trans hj
      obtain ⟨cs0, hm0, hc0⟩ := hA 0 (by omega)
      obtain ⟨u0, hu0⟩ : ∃ u, cs0[0]? = some u := ⟨_, List.getElem?_eq_getElem (by rw [hm0.1]; exact hks)⟩
      have z0 := hc0 0 u0 hu0
      rw [Nat.zero_mul] at z0
      have hs := cell_spotG z0
      obtain ⟨b, off, s⟩ := x
      simp only at hs
      subst hs
      simp only [addG_plain] at hA z0
      refine ⟨b, off, rfl, cell_inG z0, fun i hi2 => ?_⟩
      obtain ⟨cs, h1, h2⟩ := hA i hi2
      exact ⟨cs, h1, fun j u hj => by rw [Nat.add_assoc]; exact h2 j u hj⟩
end
end Go.Proofs.YtabnlklkfgojgaaGreatDoor
