/- Slices of pairs of ints, opened. -/
import Derived.Test.YtkhodajdionaaaaGreatDoorOpn
import Derived.Test.YtkhodajdionaaaaGreatDoorWgtC
import Derived.Deep.Slices
namespace Go.Proofs.YtkhodajdionaaaaGreatDoor
open Go.ChangeShapes Go.WideShapes Go.ChangeAt Go.RowKit Go.Deep Go.Joins
set_option maxRecDepth 100000

theorem add_plain (b off j : Nat) : (⟨b, off, none⟩ : Addr).add j = ⟨b, off + j, none⟩ := by unfold Addr.add; split <;> simp_all
/-- A cell that is there lies at a plain address. -/
theorem cell_spot {w : World} {a : Addr} {v : Value} (h : w.cell? (a.add 0) = some v) : a.spot = none := by
  have e : a.add 0 = a := by simp [Addr.add]
  rw [e] at h
  unfold World.cell? at h
  cases hs : a.spot with
  | none => rfl
  | some s =>
    rw [hs] at h
    split at h <;> simp at h
theorem cell_in {w : World} {g o : Nat} {v : Value} (h : w.cell? ⟨g, o, none⟩ = some v) : g < w.heap.size := by
  unfold World.cell? at h
  by_cases hg : g < w.heap.size
  · exact hg
  · rw [Array.getElem?_eq_none (by show w.heap.size ≤ g; omega)] at h
    simp at h
section
variable {H : Type} {enc : TypeId × Value → H} {w : World}
theorem open_pairs {v : Value} {d : DataW H} {p : List MemPlace} {r : Reach} {b0 : Nat} (hv : Value.okWide Tryz.prog w r b0 47 v) (h : DataW.Trod enc Tryz.prog w 0 (fun _ => true) true 47 v d p) : ∃ ao l cap, v = .slice ao l.length cap ∧ l.length ≤ cap ∧ cap ≤ 9223372036854775807 ∧ PairsIn w ao l := by
  obtain ⟨a, len, cap, rfl⟩ := okWide_slice Tryz.underlying47 hv
  obtain ⟨fuel, hf⟩ := h
  have c4 : Tryz.prog.cellsOf 28 = 2 := by kernel_rfl
  rcases open_slice Tryz.underlying47 hf with ⟨hcs, _⟩ | ⟨x, l, c, m, n, D, Pl, hcs, _, hl, hm, hmm, _, hi⟩
  · simp [Value.cells] at hcs
    obtain ⟨rfl, rfl, rfl⟩ := hcs
    exact ⟨none, [], 0, by simp, by simp, by simp, fun k p h => by simp at h⟩
  · simp [Value.cells] at hcs
    obtain ⟨rfl, rfl, rfl⟩ := hcs
    simp only [if_true] at hmm
    rw [hmm] at hi
    have hA : ∀ i, i < len → ∃ q : Int × Int, i64in q.1 ∧ i64in q.2 ∧ w.cell? (x.add (i * 2)) = some (.int .i64 q.1) ∧ w.cell? (x.add (i * 2 + 1)) = some (.int .i64 q.2) := by
      intro i hil
      obtain ⟨cs', hc, ht⟩ := hi i (by omega)
      rw [c4] at hc
      have hM := flatK_ok 8 28 [.i .i64, .i .i64] _ _ _ (by kernel_rfl) ht
      obtain ⟨q0, e0, i0⟩ := hM.i64 (i := 0) rfl
      obtain ⟨q1, e1, i1⟩ := hM.i64 (i := 1) rfl
      obtain ⟨_, _, hat⟩ := World.cells?_some hc
      have g0 := hat 0 (by omega)
      have g1 := hat 1 (by omega)
      rw [add_add] at g0 g1
      refine ⟨(q0, q1), i0, i1, ?_, ?_⟩
      · exact g0.trans e0
      · exact g1.trans e1
    haveI : Inhabited (Int × Int) := ⟨(0, 0)⟩
    obtain ⟨f, hfA⟩ := choose_lt hA
    refine ⟨some x, (List.range len).map f, cap, by simp, by simp; exact hl, hm, ?_⟩
    intro j q hj
    have hjl : j < len := by
      have := (List.getElem?_eq_some_iff.1 hj).1
      simpa using this
    simp only [List.getElem?_map, List.getElem?_range hjl, Option.map_some, Option.some.injEq] at hj
    subst hj
    obtain ⟨i0, i1, g0, g1⟩ := hfA j hjl
    obtain ⟨_, _, z0, _⟩ := hfA 0 (by omega)
    rw [Nat.zero_mul] at z0
    have hs := cell_spot z0
    obtain ⟨b, off, s⟩ := x
    simp only at hs
    subst hs
    simp only [add_plain] at g0 g1
    exact ⟨i0, i1, b, off, rfl, cell_in g0, g0, g1⟩
end
end Go.Proofs.YtkhodajdionaaaaGreatDoor
