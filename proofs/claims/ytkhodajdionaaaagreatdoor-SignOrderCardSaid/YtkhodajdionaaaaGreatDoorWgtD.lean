/- sorteslaw05.members. -/
import Derived.Test.YtkhodajdionaaaaGreatDoorWgtC
namespace Go.Proofs.YtkhodajdionaaaaGreatDoor
open Go.RowKit Go.Maps
set_option maxRecDepth 100000

/-- The rows as lists. -/
theorem mems_of_row {w : World} {v : Value} {l : List Mem} (h : w.ownsRow 0 81 3 v l.length (memVals l)) (ho : ∀ m ∈ l, m.ok) : ∃ ao cap, v = .slice ao l.length cap ∧ l.length ≤ cap ∧ MemsIn w ao l := by
  rcases h.2 with ⟨rfl, hn⟩ | ⟨g, cap, cur, rfl, _, hg, hc, _, hcs, ht⟩
  · refine ⟨none, 0, by rw [hn], by omega, fun k m hk => ?_⟩
    have := (List.getElem?_eq_some_iff.1 hk).1
    omega
  · refine ⟨_, cap, rfl, hc, fun k m hk => ⟨ho m (List.mem_of_getElem? hk), g, rfl, (Array.getElem?_eq_some_iff.1 hg).1, ?_⟩⟩
    have hkl := (List.getElem?_eq_some_iff.1 hk).1
    have cell : ∀ j, j < 3 → w.cell? ⟨g, k * 3 + j, none⟩ = (memVals l)[k * 3 + j]? := by
      intro j hj
      rw [cell_of_row _ _ _ _ _ _ hg, ← ht, List.getElem?_take, if_pos (by omega), Array.getElem?_toList]
    have at3 : ∀ (l : List Mem) (k : Nat) (m : Mem), l[k]? = some m → (memVals l)[k * 3]? = some (.int .i64 m.id) ∧ (memVals l)[k * 3 + 1]? = some (.int .i64 m.weight) ∧ (memVals l)[k * 3 + 2]? = some (.int .i64 m.pub) := by
      intro l
      induction l with
      | nil => intro k m h; simp at h
      | cons a r ih =>
        intro k m h
        unfold memVals at ih ⊢
        rw [List.flatMap_cons]
        cases k with
        | zero => simp at h; subst h; exact ⟨rfl, rfl, rfl⟩
        | succ k =>
          have := ih k m (by simpa using h)
          rw [show (k + 1) * 3 = k * 3 + 3 from by omega]
          exact this
    obtain ⟨e0, e1, e2⟩ := at3 l k m hk
    exact ⟨(cell 0 (by omega)).trans e0, (cell 1 (by omega)).trans e1, (cell 2 (by omega)).trans e2⟩
theorem votes_of_row {w : World} {v : Value} {l : List VtV} (h : w.ownsRow 0 54 4 v l.length (voteVals l)) (ho : ∀ m ∈ l, m.ok) : ∃ ao cap, v = .slice ao l.length cap ∧ l.length ≤ cap ∧ VotesIn w ao l := by
  rcases h.2 with ⟨rfl, hn⟩ | ⟨g, cap, cur, rfl, _, hg, hc, _, hcs, ht⟩
  · refine ⟨none, 0, by rw [hn], by omega, fun k m hk => ?_⟩
    have := (List.getElem?_eq_some_iff.1 hk).1
    omega
  · refine ⟨_, cap, rfl, hc, fun k m hk => ⟨ho m (List.mem_of_getElem? hk), g, rfl, (Array.getElem?_eq_some_iff.1 hg).1, ?_⟩⟩
    have hkl := (List.getElem?_eq_some_iff.1 hk).1
    have cell : ∀ j, j < 4 → w.cell? ⟨g, k * 4 + j, none⟩ = (voteVals l)[k * 4 + j]? := by
      intro j hj
      rw [cell_of_row _ _ _ _ _ _ hg, ← ht, List.getElem?_take, if_pos (by omega), Array.getElem?_toList]
    have at4 : ∀ (l : List VtV) (k : Nat) (m : VtV), l[k]? = some m → (voteVals l)[k * 4]? = some (.int .i64 m.who) ∧ (voteVals l)[k * 4 + 1]? = some (.string m.text) ∧ (voteVals l)[k * 4 + 2]? = some (.int .i64 m.r) ∧ (voteVals l)[k * 4 + 3]? = some (.int .i64 m.s) := by
      intro l
      induction l with
      | nil => intro k m h; simp at h
      | cons a r ih =>
        intro k m h
        unfold voteVals at ih ⊢
        rw [List.flatMap_cons]
        cases k with
        | zero => simp at h; subst h; exact ⟨rfl, rfl, rfl, rfl⟩
        | succ k =>
          have := ih k m (by simpa using h)
          rw [show (k + 1) * 4 = k * 4 + 4 from by omega]
          exact this
    obtain ⟨e0, e1, e2, e3⟩ := at4 l k m hk
    exact ⟨(cell 0 (by omega)).trans e0, (cell 1 (by omega)).trans e1, (cell 2 (by omega)).trans e2, (cell 3 (by omega)).trans e3⟩
end Go.Proofs.YtkhodajdionaaaaGreatDoor
