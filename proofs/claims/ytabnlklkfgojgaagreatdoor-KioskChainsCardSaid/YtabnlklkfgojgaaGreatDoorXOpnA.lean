/- Slices of acts, opened. -/
import Derived.Test.YtabnlklkfgojgaaGreatDoorXOpnW
import Derived.Test.YtabnlklkfgojgaaGreatDoorGO
namespace Go.Proofs.YtabnlklkfgojgaaGreatDoor
open Go.ChangeShapes Go.WideShapes Go.ChangeAt Go.RowKit Go.Deep Go.Joins
set_option maxRecDepth 100000

theorem act_of_cells {cs : List Value} (hm : Mt [.i .i64, .i .i64, .b] cs) : ∃ a : Act27, a.ok ∧ cs = a.cs.toList := by
  obtain ⟨a, ha, wa⟩ := hm.i64 (i := 0) rfl
  obtain ⟨b, hb, wb⟩ := hm.i64 (i := 1) rfl
  obtain ⟨z, hz⟩ := hm.bool (i := 2) rfl
  have hl : cs.length = 3 := hm.1
  refine ⟨⟨a, b, z⟩, ⟨wa, wb⟩, ?_⟩
  match cs, hl with
  | [x0, x1, x2], _ =>
    simp at ha hb hz
    rw [ha, hb, hz]
    rfl
section
variable {H : Type} {enc : TypeId × Value → H} {w : World}
theorem open_acts {v : Value} {d : DataW H} {p : List MemPlace} {r : Reach} {b0 : Nat} (hv : Value.okWide Tryz.prog w r b0 61 v) (h : DataW.Trod enc Tryz.prog w 0 (fun _ => true) true 61 v d p) : ∃ ao l cap, v = .slice ao l.length cap ∧ l.length ≤ cap ∧ cap ≤ 9223372036854775807 ∧ AcsIn w ao l := by
  have hk : flatK Tryz.prog 8 66 = some [.i .i64, .i .i64, .b] := by kernel_rfl
  obtain ⟨ao, len, cap, rfl, hl, hm, hr⟩ := open_rows Tryz.underlying61 hk (by simp) (by kernel_rfl) hv h
  rcases hr with rfl | ⟨b, off, rfl, hb, hi⟩
  · exact ⟨ao, [], cap, rfl, by simp, hm, fun k x hx => by simp at hx⟩
  · have hA : ∀ i, i < len → ∃ a : Act27, a.ok ∧ w.rangeAt b (off + i * 3) a.cs.toList := by
      intro i hil
      obtain ⟨cs, hM, hat⟩ := hi i hil
      obtain ⟨a, ho, ha⟩ := act_of_cells hM
      exact ⟨a, ho, fun j v hv => hat j v (by rw [ha]; exact hv)⟩
    haveI : Inhabited Act27 := ⟨⟨0, 0, false⟩⟩
    obtain ⟨f, hfA⟩ := choose_lt hA
    refine ⟨some ⟨b, off, none⟩, (List.range len).map f, cap, by simp, by simp; exact hl, hm, fun k x hx => ?_⟩
    have hkl : k < len := by
      have := (List.getElem?_eq_some_iff.1 hx).1
      simpa using this
    simp only [List.getElem?_map, List.getElem?_range hkl, Option.map_some, Option.some.injEq] at hx
    subst hx
    exact ⟨(hfA k hkl).1, b, off, rfl, hb, (hfA k hkl).2⟩
end
end Go.Proofs.YtabnlklkfgojgaaGreatDoor
