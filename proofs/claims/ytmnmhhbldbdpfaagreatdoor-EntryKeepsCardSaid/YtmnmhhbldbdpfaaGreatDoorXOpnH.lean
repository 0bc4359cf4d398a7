/- A person, opened. -/
import Derived.Test.YtmnmhhbldbdpfaaGreatDoorGK
import Derived.Test.YtmnmhhbldbdpfaaGreatDoorXPsnA
namespace Go.Proofs.YtmnmhhbldbdpfaaGreatDoor
open Go.ChangeShapes Go.WideShapes Go.ChangeAt Go.RowKit Go.Deep Go.Joins
set_option maxRecDepth 100000

theorem addH_plain (b off j : Nat) : (⟨b, off, none⟩ : Addr).add j = ⟨b, off + j, none⟩ := by unfold Addr.add; split <;> simp_all
theorem cell_spotH {w : World} {a : Addr} {v : Value} (h : w.cell? (a.add 0) = some v) : a.spot = none := by
  have e : a.add 0 = a := by simp [Addr.add]
  rw [e] at h
  unfold World.cell? at h
  cases hs : a.spot with
  | none => rfl
  | some s =>
    rw [hs] at h
    split at h <;> simp at h
theorem cell_inH {w : World} {g o : Nat} {v : Value} (h : w.cell? ⟨g, o, none⟩ = some v) : g < w.heap.size := by
  unfold World.cell? at h
  by_cases hg : g < w.heap.size
  · exact hg
  · rw [Array.getElem?_eq_none (by show w.heap.size ≤ g; omega)] at h
    simp at h
section
variable {H : Type} {enc : TypeId × Value → H} {w : World}
/-- A slice of ints in a cell. -/
theorem open_intsC {fuel : Nat} {cs : List Value} {x : DataW H × List MemPlace} (hf : DataW.trod enc Tryz.prog w 0 (fun _ => true) true fuel 65 cs = some x) : ∃ ao l cap, cs = [.slice ao l.length cap] ∧ l.length ≤ cap ∧ cap ≤ 9223372036854775807 ∧ IntsSl w ao l := by
  rcases open_slice Tryz.underlying65 hf with ⟨hcs, _⟩ | ⟨y, len, cap, m, n, D, Pl, hcs, _, hl, hm, hmm, _, hi⟩
  · exact ⟨none, [], 0, hcs, by simp, by simp, intsSl_nil _ _⟩
  · have hc : Tryz.prog.cellsOf 3 = 1 := by kernel_rfl
    have hk : flatK Tryz.prog 8 3 = some [.i .i64] := by kernel_rfl
    simp only [if_true] at hmm
    rw [hmm, hc] at hi
    have hA : ∀ i, i < len → ∃ z : Int, i64in z ∧ w.cell? (y.add i) = some (.int .i64 z) := by
      intro i hil
      obtain ⟨cs', hcc, ht⟩ := hi i (by omega)
      have hM := flatK_ok 8 3 [.i .i64] _ _ _ hk ht
      obtain ⟨z, hz, iz⟩ := hM.i64 (i := 0) rfl
      obtain ⟨_, _, hat⟩ := World.cells?_some hcc
      have g0 := hat 0 (by omega)
      rw [add_add, hz] at g0
      exact ⟨z, iz, by simpa using g0⟩
    by_cases h0 : len = 0
    · subst h0
      exact ⟨some y, [], cap, hcs, by simp, hm, intsSl_nil _ _⟩
    · obtain ⟨f, hf⟩ := choose_lt hA
      have z0 := (hf 0 (by omega)).2
      have hs := cell_spotH z0
      obtain ⟨b, off, s⟩ := y
      simp only at hs
      subst hs
      refine ⟨some ⟨b, off, none⟩, (List.range len).map f, cap, by rw [hcs]; simp, by simp; exact hl, hm, fun k z hz => ?_⟩
      have hkl : k < len := by
        have := (List.getElem?_eq_some_iff.1 hz).1
        simpa using this
      simp only [List.getElem?_map, List.getElem?_range hkl, Option.map_some, Option.some.injEq] at hz
      subst hz
      obtain ⟨h1, h2⟩ := hf k hkl
      rw [addH_plain] at h2
      rw [addH_plain] at z0
      exact ⟨h1, b, off, rfl, cell_inH z0, h2⟩
theorem open_person {v : Value} {d : DataW H} {p : List MemPlace} {r : Reach} {b0 : Nat} (hv : Value.okWide Tryz.prog w r b0 69 v) (h : DataW.Trod enc Tryz.prog w 0 (fun _ => true) true 69 v d p) : ∃ q : Psn, v = .agg q.V ∧ q.ok w := by
  obtain ⟨cs, rfl⟩ : ∃ cs, v = .agg cs := by
    simp only [Value.okWide, Tryz.underlying69] at hv
    obtain ⟨cs, rfl, _⟩ := hv
    exact ⟨cs, rfl⟩
  obtain ⟨fuel, hf⟩ := h
  obtain ⟨xs, n, _, _, hl, hlen, hx⟩ := DataW.trod_struct Tryz.underlying69 hf
  have c0 : Tryz.prog.cellsOf 28 = 3 := by kernel_rfl
  have c1 : Tryz.prog.cellsOf 65 = 1 := by kernel_rfl
  have c2 : Tryz.prog.cellsOf 9 = 1 := by kernel_rfl
  have c5 : Tryz.prog.cellsOf 69 = 5 := by kernel_rfl
  have hx0 : DataW.trod enc Tryz.prog w 0 (fun _ => true) true n 28 (((Value.agg cs).cells.toList.drop 0).take (Tryz.prog.cellsOf 28)) = xs[0]? := hx 0 _ rfl
  have hx1 : DataW.trod enc Tryz.prog w 0 (fun _ => true) true n 65 (((Value.agg cs).cells.toList.drop 3).take (Tryz.prog.cellsOf 65)) = xs[1]? := hx 1 _ rfl
  have hx2 : DataW.trod enc Tryz.prog w 0 (fun _ => true) true n 9 (((Value.agg cs).cells.toList.drop 4).take (Tryz.prog.cellsOf 9)) = xs[2]? := hx 2 _ rfl
  have hn3 : xs.length = 3 := by rw [hlen]; rfl
  rw [List.getElem?_eq_getElem (by omega)] at hx0 hx1 hx2
  rw [c0] at hx0
  rw [c1] at hx1
  rw [c2] at hx2
  have hl5 : cs.toList.length = 5 := by rw [← c5]; exact hl
  have m0 := flatK_ok 8 28 [.i .i64, .i .i64, .i .i64] _ _ _ (by kernel_rfl) hx0
  have m2 := flatK_ok 8 9 [.s] _ _ _ (by kernel_rfl) hx2
  obtain ⟨ao, l, cap, h1, hlc, hcm, hI⟩ := open_intsC hx1
  obtain ⟨a, ha, ia⟩ := m0.i64 (i := 0) rfl
  obtain ⟨b, hb, ib⟩ := m0.i64 (i := 1) rfl
  obtain ⟨c, hc, ic⟩ := m0.i64 (i := 2) rfl
  obtain ⟨s, hs, is⟩ := m2.str (i := 0) rfl
  refine ⟨⟨a, b, c, l, ao, cap, s⟩, ?_, ia, ib, ic, hlc, hcm, hI, is⟩
  congr 1
  apply Array.ext'
  have hcs : (Value.agg cs).cells.toList = cs.toList := rfl
  rw [hcs] at h1 ha hb hc hs
  match h : cs.toList, hl5 with
  | [x0, x1, x2, x3, x4], _ =>
    rw [h] at h1 ha hb hc hs
    simp at h1 ha hb hc hs
    rw [ha, hb, hc, h1, hs]
    rfl
end
end Go.Proofs.YtmnmhhbldbdpfaaGreatDoor
