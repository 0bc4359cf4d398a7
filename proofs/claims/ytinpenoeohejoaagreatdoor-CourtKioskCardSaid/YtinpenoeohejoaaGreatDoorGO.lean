/- Acts in a slice. Slices of acts, opened. Pairs of bytes, opened. -/
import Derived.Test.YtinpenoeohejoaaGreatDoorGN
import Derived.Test.YtinpenoeohejoaaGreatDoorGB
namespace Go.Proofs.YtinpenoeohejoaaGreatDoor
open Go.RowKit
set_option maxRecDepth 100000

def AcsIn (w : World) (ao : Option Addr) (l : List Act27) : Prop := ∀ (j : Nat) a, l[j]? = some a → a.ok ∧ ∃ g o, ao = some ⟨g, o, none⟩ ∧ g < w.heap.size ∧ w.rangeAt g (o + j * 3) a.cs.toList
theorem AcsIn.upd {w w' : World} {ao : Option Addr} {l : List Act27} (h : AcsIn w ao l) (u : Upd [] [] w w') : AcsIn w' ao l := by
  intro j a hj
  obtain ⟨h1, g, o, h3, h4, h5⟩ := h j a hj
  exact ⟨h1, g, o, h3, Nat.lt_of_lt_of_le h4 u.size, rangeAt_upd h5 h4 u⟩
theorem act_cells {w : World} {g o : Nat} {a : Act27} (h : w.rangeAt g o a.cs.toList) : w.cell? ⟨g, o, none⟩ = some (.int .i64 a.what) ∧ w.cell? ⟨g, o + 1, none⟩ = some (.int .i64 a.n) ∧ (Instr.loadAt 35 (.pointer (some ⟨g, o, none⟩))).run Tryz.prog w = .ok (.agg a.cs) w :=
  ⟨h 0 _ rfl, h 1 _ rfl, run_loadAt_mid w g o _ _ _ h Tryz.underlying35 rfl (by kernel_rfl)⟩
end Go.Proofs.YtinpenoeohejoaaGreatDoor

namespace Go.Proofs.YtinpenoeohejoaaGreatDoor
open Go.ChangeShapes Go.WideShapes Go.ChangeAt Go.RowKit Go.Deep Go.Joins
set_option maxRecDepth 100000

theorem act_of_cells {cs : List Value} (hm : Mt [.i .i64, .i .i64, .b] cs) : ∃ a : Act27, a.ok ∧ cs = a.cs.toList := by
  obtain ⟨a, ha, wa⟩ := hm.i64 (i := 0) rfl
  obtain ⟨b, hb, wb⟩ := hm.i64 (i := 1) rfl
  obtain ⟨z, hz⟩ := hm.bool (i := 2) rfl
  have hl : cs.length = 3 := hm.1
  refine ⟨⟨a, b, z⟩, ⟨wa, wb⟩, ?_⟩
  match cs, hl with
  | [x0, x1, x2], _ =>
    simp at ha hb hz
    rw [ha, hb, hz]
    rfl
section
variable {H : Type} {enc : TypeId × Value → H} {w : World}
theorem open_acts {v : Value} {d : DataW H} {p : List MemPlace} {r : Reach} {b0 : Nat} (hv : Value.okWide Tryz.prog w r b0 22 v) (h : DataW.Trod enc Tryz.prog w 0 (fun _ => true) true 22 v d p) : ∃ ao l cap, v = .slice ao l.length cap ∧ l.length ≤ cap ∧ cap ≤ 9223372036854775807 ∧ AcsIn w ao l := by
  have hk : flatK Tryz.prog 8 35 = some [.i .i64, .i .i64, .b] := by kernel_rfl
  obtain ⟨ao, len, cap, rfl, hl, hm, hr⟩ := open_rows Tryz.underlying22 hk (by simp) (by kernel_rfl) hv h
  rcases hr with rfl | ⟨b, off, rfl, hb, hi⟩
  · exact ⟨ao, [], cap, rfl, by simp, hm, fun k x hx => by simp at hx⟩
  · have hA : ∀ i, i < len → ∃ a : Act27, a.ok ∧ w.rangeAt b (off + i * 3) a.cs.toList := by
      intro i hil
      obtain ⟨cs, hM, hat⟩ := hi i hil
      obtain ⟨a, ho, ha⟩ := act_of_cells hM
      exact ⟨a, ho, fun j v hv => hat j v (by rw [ha]; exact hv)⟩
    haveI : Inhabited Act27 := ⟨⟨0, 0, false⟩⟩
    obtain ⟨f, hfA⟩ := choose_lt hA
    refine ⟨some ⟨b, off, none⟩, (List.range len).map f, cap, by simp, by simp; exact hl, hm, fun k x hx => ?_⟩
    have hkl : k < len := by
      have := (List.getElem?_eq_some_iff.1 hx).1
      simpa using this
    simp only [List.getElem?_map, List.getElem?_range hkl, Option.map_some, Option.some.injEq] at hx
    subst hx
    exact ⟨(hfA k hkl).1, b, off, rfl, hb, (hfA k hkl).2⟩
end
end Go.Proofs.YtinpenoeohejoaaGreatDoor

namespace Go.Proofs.YtinpenoeohejoaaGreatDoor
open Go.ChangeShapes Go.WideShapes Go.ChangeAt Go.RowKit Go.Deep Go.Joins
set_option maxRecDepth 100000

section
variable {H : Type} {enc : TypeId × Value → H} {P : Program} {w : World} {base : Nat} {sp : Nat → Bool} {hd : Bool}
theorem open_u8s2 {t : TypeId} {v : Value} {d : DataW H} {p : List MemPlace} {r : Reach} {b0 : Nat} (f : Nat) (hk : flatK P f t = some [.i .u8, .i .u8]) (hv : Value.okWide P w r b0 t v) (h : DataW.Trod enc P w base sp hd t v d p) (ha : (∃ n e, P.underlying t = some (.array n e)) ∨ ∃ fs, P.underlying t = some (.struct fs)) :
    ∃ a b : Int, v = .agg #[.int .u8 a, .int .u8 b] ∧ (0 ≤ a ∧ a ≤ 255) ∧ (0 ≤ b ∧ b ≤ 255) := by
  obtain ⟨cs, rfl, hm⟩ := open_flat f hk hv h ha
  obtain ⟨a, ha, wa⟩ := hm.u8 (i := 0) rfl
  obtain ⟨b, hb, wb⟩ := hm.u8 (i := 1) rfl
  have hl : cs.toList.length = 2 := hm.1
  refine ⟨a, b, ?_, wa, wb⟩
  congr 1
  apply Array.ext'
  match h : cs.toList, hl with
  | [x, y], _ =>
    rw [h] at ha hb
    simp at ha hb
    rw [ha, hb]
end
end Go.Proofs.YtinpenoeohejoaaGreatDoor
