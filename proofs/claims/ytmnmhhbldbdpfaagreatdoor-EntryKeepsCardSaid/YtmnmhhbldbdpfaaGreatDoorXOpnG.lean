/- Slices of rows of plain cells, opened: hashes, forms. -/
import Derived.Test.YtmnmhhbldbdpfaaGreatDoorGK
import Derived.Test.YtmnmhhbldbdpfaaGreatDoorXChain
namespace Go.Proofs.YtmnmhhbldbdpfaaGreatDoor
open Go.ChangeShapes Go.WideShapes Go.ChangeAt Go.RowKit Go.Deep Go.Joins
set_option maxRecDepth 100000

theorem addG_plain (b off j : Nat) : (⟨b, off, none⟩ : Addr).add j = ⟨b, off + j, none⟩ := by unfold Addr.add; split <;> simp_all
theorem cell_spotG {w : World} {a : Addr} {v : Value} (h : w.cell? (a.add 0) = some v) : a.spot = none := by
  have e : a.add 0 = a := by simp [Addr.add]
  rw [e] at h
  unfold World.cell? at h
  cases hs : a.spot with
  | none => rfl
  | some s =>
    rw [hs] at h
    split at h <;> simp at h
theorem cell_inG {w : World} {g o : Nat} {v : Value} (h : w.cell? ⟨g, o, none⟩ = some v) : g < w.heap.size := by
  unfold World.cell? at h
  by_cases hg : g < w.heap.size
  · exact hg
  · rw [Array.getElem?_eq_none (by show w.heap.size ≤ g; omega)] at h
    simp at h
section
variable {H : Type} {enc : TypeId × Value → H} {w : World}
/-- A slice of rows of plain cells. -/
theorem open_rows {t e : TypeId} {ks : List Kd} {v : Value} {d : DataW H} {p : List MemPlace} {r : Reach} {b0 : Nat} (hu : Tryz.prog.underlying t = some (.slice e)) (hk : flatK Tryz.prog 8 e = some ks) (hks : 0 < ks.length) (hc : Tryz.prog.cellsOf e = ks.length) (hv : Value.okWide Tryz.prog w r b0 t v) (h : DataW.Trod enc Tryz.prog w 0 (fun _ => true) true t v d p) :
    ∃ ao len cap, v = .slice ao len cap ∧ len ≤ cap ∧ cap ≤ 9223372036854775807 ∧ (len = 0 ∨ ∃ b off, ao = some ⟨b, off, none⟩ ∧ b < w.heap.size ∧ ∀ i, i < len → ∃ cs : List Value, Mt ks cs ∧ ∀ j u, cs[j]? = some u → w.cell? ⟨b, off + i * ks.length + j, none⟩ = some u) := by
  obtain ⟨a, len, cap, rfl⟩ := okWide_slice hu hv
  obtain ⟨fuel, hf⟩ := h
  rcases open_slice hu hf with ⟨hcs, _⟩ | ⟨x, l, c, m, n, D, Pl, hcs, _, hl, hm, hmm, _, hi⟩
  · simp [Value.cells] at hcs
    obtain ⟨rfl, rfl, rfl⟩ := hcs
    exact ⟨none, 0, 0, rfl, by simp, by simp, .inl rfl⟩
  · simp [Value.cells] at hcs
    obtain ⟨rfl, rfl, rfl⟩ := hcs
    simp only [if_true] at hmm
    rw [hmm] at hi
    refine ⟨some x, len, cap, rfl, hl, hm, ?_⟩
    by_cases h0 : len = 0
    · exact .inl h0
    · right
      have hA : ∀ i, i < len → ∃ cs : List Value, Mt ks cs ∧ ∀ j u, cs[j]? = some u → w.cell? (x.add (i * ks.length + j)) = some u := by
        intro i hil
        obtain ⟨cs', hcc, ht⟩ := hi i (by omega)
        rw [hc] at hcc
        have hM := flatK_ok 8 e ks _ _ _ hk ht
        refine ⟨cs', hM, fun j u hj => ?_⟩
        obtain ⟨_, _, hat⟩ := World.cells?_some hcc
        have hjl : j < ks.length := by
          have := (List.getElem?_eq_some_iff.1 hj).1
          rw [hM.1] at this
          exact this
        have g0 := hat j hjl
        rw [add_add] at g0
        exact g0.trans hj
      obtain ⟨cs0, hm0, hc0⟩ := hA 0 (by omega)
      obtain ⟨u0, hu0⟩ : ∃ u, cs0[0]? = some u := ⟨_, List.getElem?_eq_getElem (by rw [hm0.1]; exact hks)⟩
      have z0 := hc0 0 u0 hu0
      rw [Nat.zero_mul] at z0
      have hs := cell_spotG z0
      obtain ⟨b, off, s⟩ := x
      simp only at hs
      subst hs
      simp only [addG_plain] at hA z0
      refine ⟨b, off, rfl, cell_inG z0, fun i hi2 => ?_⟩
      obtain ⟨cs, h1, h2⟩ := hA i hi2
      exact ⟨cs, h1, fun j u hj => by rw [Nat.add_assoc]; exact h2 j u hj⟩
theorem hashK : flatK Tryz.prog 8 24 = some (List.replicate 32 (.i .u8)) := by kernel_rfl
theorem open_hashes {v : Value} {d : DataW H} {p : List MemPlace} {r : Reach} {b0 : Nat} (hv : Value.okWide Tryz.prog w r b0 63 v) (h : DataW.Trod enc Tryz.prog w 0 (fun _ => true) true 63 v d p) : ∃ ao l cap, v = .slice ao l.length cap ∧ l.length ≤ cap ∧ cap ≤ 9223372036854775807 ∧ HsIn w ao l := by
  obtain ⟨ao, len, cap, rfl, hl, hm, hr⟩ := open_rows Tryz.underlying63 hashK (by simp) (by rw [List.length_replicate]; kernel_rfl) hv h
  rcases hr with rfl | ⟨b, off, rfl, hb, hi⟩
  · exact ⟨ao, [], cap, rfl, by simp, hm, fun k x hx => by simp at hx⟩
  · have hA : ∀ i, i < len → ∃ l : List UInt8, l.length = 32 ∧ w.rangeAt b (off + i * 32) (byteVals l) := by
      intro i hil
      obtain ⟨cs, hM, hat⟩ := hi i hil
      obtain ⟨l, hl32, hcs⟩ := hM.bytes 0 32 (fun j hj => by rw [Nat.zero_add, List.getElem?_replicate, if_pos hj])
      refine ⟨l, hl32, fun j v hv => ?_⟩
      have hlen : cs.length = 32 := by rw [hM.1, List.length_replicate]
      rw [List.drop_zero, List.take_of_length_le (by omega)] at hcs
      have := hat j v (by rw [hcs]; exact hv)
      rw [List.length_replicate] at this
      exact this
    obtain ⟨f, hfA⟩ := choose_lt hA
    refine ⟨some ⟨b, off, none⟩, (List.range len).map f, cap, by simp, by simp; exact hl, hm, fun k x hx => ?_⟩
    have hkl : k < len := by
      have := (List.getElem?_eq_some_iff.1 hx).1
      simpa using this
    simp only [List.getElem?_map, List.getElem?_range hkl, Option.map_some, Option.some.injEq] at hx
    subst hx
    exact ⟨(hfA k hkl).1, b, off, rfl, hb, (hfA k hkl).2⟩
/-- Forms in a slice. -/
def FmsIn (w : World) (ao : Option Addr) (l : List Fm) : Prop := ∀ (k : Nat) f, l[k]? = some f → f.ok ∧ ∃ g o, ao = some ⟨g, o, none⟩ ∧ g < w.heap.size ∧ w.rangeAt g (o + k * 101) (fmV f)
theorem fmK_len : fmK.length = 101 := by simp [fmK]
theorem open_forms {v : Value} {d : DataW H} {p : List MemPlace} {r : Reach} {b0 : Nat} (hv : Value.okWide Tryz.prog w r b0 43 v) (h : DataW.Trod enc Tryz.prog w 0 (fun _ => true) true 43 v d p) : ∃ ao l cap, v = .slice ao l.length cap ∧ l.length ≤ cap ∧ cap ≤ 9223372036854775807 ∧ FmsIn w ao l := by
  have hk : flatK Tryz.prog 8 27 = some fmK := by kernel_rfl
  obtain ⟨ao, len, cap, rfl, hl, hm, hr⟩ := open_rows Tryz.underlying43 hk (by rw [fmK_len]; omega) (by rw [fmK_len]; kernel_rfl) hv h
  rcases hr with rfl | ⟨b, off, rfl, hb, hi⟩
  · exact ⟨ao, [], cap, rfl, by simp, hm, fun k x hx => by simp at hx⟩
  · have hA : ∀ i, i < len → ∃ f : Fm, f.ok ∧ w.rangeAt b (off + i * 101) (fmV f) := by
      intro i hil
      obtain ⟨cs, hM, hat⟩ := hi i hil
      obtain ⟨f, hf, ho⟩ := fm_of_cells hM
      refine ⟨f, ho, fun j v hv => ?_⟩
      have := hat j v (by rw [hf]; exact hv)
      rw [fmK_len] at this
      exact this
    haveI : Inhabited Fm := ⟨⟨0, 0, 0, 0, ByteArray.empty, [], [], []⟩⟩
    obtain ⟨f, hfA⟩ := choose_lt hA
    refine ⟨some ⟨b, off, none⟩, (List.range len).map f, cap, by simp, by simp; exact hl, hm, fun k x hx => ?_⟩
    have hkl : k < len := by
      have := (List.getElem?_eq_some_iff.1 hx).1
      simpa using this
    simp only [List.getElem?_map, List.getElem?_range hkl, Option.map_some, Option.some.injEq] at hx
    subst hx
    exact ⟨(hfA k hkl).1, b, off, rfl, hb, (hfA k hkl).2⟩
end
end Go.Proofs.YtmnmhhbldbdpfaaGreatDoor
