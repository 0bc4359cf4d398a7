/- Lists of strings and of small numbers, opened. -/
import Derived.Test.YtbpbmigdfjnneaaOpens
import Derived.Test.YtbpbmigdfjnneaaJ25A
namespace Go.Proofs.Ytbpbmigdfjnneaa
open Go.ChangeShapes Go.WideShapes Go.ChangeAt Go.RowKit Go.Deep Go.Joins
set_option maxRecDepth 100000

/-- v is a slice of numbers of one kind, wherever it lies. -/
def NumsAt (kd : IntKind) (w : World) (v : Value) (zs : List Int) : Prop :=
  ∃ cap, cap ≤ 9223372036854775807 ∧ zs.length ≤ cap ∧ ((zs = [] ∧ ∃ ao, v = .slice ao 0 cap) ∨ ∃ b off, v = .slice (some ⟨b, off, none⟩) zs.length cap ∧ ∀ j z, zs[j]? = some z → w.cell? ⟨b, off + j, none⟩ = some (.int kd z))
theorem NumsAt.below {kd : IntKind} {w w' : World} {v : Value} {zs : List Int} (h : NumsAt kd w v zs) (hb : Below w.heap.size w w') : NumsAt kd w' v zs := by
  obtain ⟨cap, h1, h2, h3 | ⟨b, off, rfl, hc⟩⟩ := h
  · exact ⟨cap, h1, h2, .inl h3⟩
  · exact ⟨cap, h1, h2, .inr ⟨b, off, rfl, fun j s hj => by
      have h4 := hc j s hj
      rw [World.cell?_of_block (a := ⟨b, off + j, none⟩) (hb.block b (World.block_lt_of_cell? _ _ h4))]
      exact h4⟩⟩
theorem NumsAt.slice {kd : IntKind} {w : World} {v : Value} {zs : List Int} (h : NumsAt kd w v zs) : ∃ ao cap, v = .slice ao zs.length cap ∧ zs.length ≤ cap ∧ cap ≤ 9223372036854775807 := by
  obtain ⟨cap, h1, h2, ⟨rfl, ao, rfl⟩ | ⟨b, off, rfl, _⟩⟩ := h
  · exact ⟨ao, cap, rfl, h2, h1⟩
  · exact ⟨_, cap, rfl, h2, h1⟩

section
variable {H : Type} {enc : TypeId × Value → H} {w : World}

theorem open_row1 {α : Type} [Inhabited α] {tS tE : TypeId} (f : α → Value) (Pv : α → Prop) (hu : Try.prog.underlying tS = some (.slice tE)) (hc1 : Try.prog.cellsOf tE = 1)
    (hel : ∀ n v x, DataW.trod enc Try.prog w 0 (fun _ => true) true n tE [v] = some x → ∃ a, Pv a ∧ v = f a)
    {v : Value} {d : DataW H} {p : List MemPlace} {r : Reach} {b0 : Nat} (hv : Value.okWide Try.prog w r b0 tS v) (h : DataW.Trod enc Try.prog w 0 (fun _ => true) true tS v d p) :
    ∃ (xs : List α) (cap : Nat), cap ≤ 9223372036854775807 ∧ xs.length ≤ cap ∧ (∀ a ∈ xs, Pv a) ∧ ((xs = [] ∧ ∃ ao, v = .slice ao 0 cap) ∨ ∃ b off, v = .slice (some ⟨b, off, none⟩) xs.length cap ∧ ∀ j a, xs[j]? = some a → w.cell? ⟨b, off + j, none⟩ = some (f a)) := by
  obtain ⟨a, len, cap, rfl⟩ := okWide_slice hu hv
  obtain ⟨fuel, hf⟩ := h
  rcases open_slice1 hu hc1 hf with ⟨hcs, _⟩ | ⟨x, l, c, m, n, V, D, Pl, hcs, _, hl, hm, hmm, _, hi⟩
  · simp [Value.cells] at hcs
    obtain ⟨rfl, rfl, rfl⟩ := hcs
    exact ⟨[], 0, by omega, by simp, by simp, .inl ⟨rfl, _, rfl⟩⟩
  · simp [Value.cells] at hcs
    obtain ⟨rfl, rfl, rfl⟩ := hcs
    simp only [if_true] at hmm
    rw [hmm] at hi
    have hA : ∀ i, i < len → ∃ a : α, Pv a ∧ w.cell? (x.add i) = some (f a) := by
      intro i hil
      obtain ⟨h1, h2⟩ := hi i (by omega)
      obtain ⟨a, h3, h4⟩ := hel _ _ _ h2
      exact ⟨a, h3, by rw [h1, h4]⟩
    obtain ⟨g, hg⟩ := choose_lt hA
    have hm' : cap ≤ 9223372036854775807 := hm
    refine ⟨(List.range len).map g, cap, hm', by simp; exact hl, ?_, ?_⟩
    · intro a ha
      simp only [List.mem_map, List.mem_range] at ha
      obtain ⟨i, hil, rfl⟩ := ha
      exact (hg i hil).1
    · by_cases h0 : len = 0
      · left; subst h0; exact ⟨by simp, _, rfl⟩
      · right
        have hs := cell_spot (hg 0 (by omega)).2
        obtain ⟨b, off, s⟩ := x
        simp only at hs
        subst hs
        refine ⟨b, off, by simp, ?_⟩
        intro j a hj
        have hjl : j < len := by have := (List.getElem?_eq_some_iff.1 hj).1; simpa using this
        simp only [List.getElem?_map, List.getElem?_range hjl, Option.map_some, Option.some.injEq] at hj
        subst hj
        have := (hg j hjl).2
        rw [add_plain] at this
        exact this

theorem open_strs_at {v : Value} {d : DataW H} {p : List MemPlace} {r : Reach} {b0 : Nat} (hv : Value.okWide Try.prog w r b0 61 v) (h : DataW.Trod enc Try.prog w 0 (fun _ => true) true 61 v d p) : ∃ ss, StrsAt w v ss ∧ ∀ s ∈ ss, s.length ≤ 9223372036854775807 := by
  obtain ⟨xs, cap, h1, h2, h3, h4⟩ := open_row1 (α := List UInt8) strV (fun s => s.length ≤ 9223372036854775807) Try.underlying61 (by kernel_rfl) (fun n v x hx => by
    obtain ⟨s, e, _, hs⟩ := DataW.trod_string Try.underlying9 hx
    simp only [List.cons.injEq, and_true] at e
    exact ⟨bs s, hs, by rw [e, strV_bs]⟩) hv h
  exact ⟨xs, ⟨cap, h1, h2, h4⟩, h3⟩

theorem open_u32s {v : Value} {d : DataW H} {p : List MemPlace} {r : Reach} {b0 : Nat} (hv : Value.okWide Try.prog w r b0 79 v) (h : DataW.Trod enc Try.prog w 0 (fun _ => true) true 79 v d p) : ∃ zs, NumsAt .u32 w v zs ∧ ∀ z ∈ zs, 0 ≤ z ∧ z ≤ 4294967295 := by
  obtain ⟨xs, cap, h1, h2, h3, h4⟩ := open_row1 (α := Int) (fun z => .int .u32 z) (fun z => 0 ≤ z ∧ z ≤ 4294967295) Try.underlying79 (by kernel_rfl) (fun n v x hx => by
    obtain ⟨s, e, _, hs⟩ := DataW.trod_int Try.underlying62 hx
    simp only [List.cons.injEq, and_true] at e
    exact ⟨s, bounds_u32 hs, e⟩) hv h
  exact ⟨xs, ⟨cap, h1, h2, h4⟩, h3⟩

theorem open_u8s {v : Value} {d : DataW H} {p : List MemPlace} {r : Reach} {b0 : Nat} (hv : Value.okWide Try.prog w r b0 52 v) (h : DataW.Trod enc Try.prog w 0 (fun _ => true) true 52 v d p) : ∃ zs, NumsAt .u8 w v zs ∧ ∀ z ∈ zs, 0 ≤ z ∧ z ≤ 255 := by
  obtain ⟨xs, cap, h1, h2, h3, h4⟩ := open_row1 (α := Int) (fun z => .int .u8 z) (fun z => 0 ≤ z ∧ z ≤ 255) Try.underlying52 (by kernel_rfl) (fun n v x hx => by
    obtain ⟨s, e, _, hs⟩ := DataW.trod_int Try.underlying5 hx
    simp only [List.cons.injEq, and_true] at e
    exact ⟨s, bounds_u8 hs, e⟩) hv h
  exact ⟨xs, ⟨cap, h1, h2, h4⟩, h3⟩
end
end Go.Proofs.Ytbpbmigdfjnneaa
