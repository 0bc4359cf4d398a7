/- What a row's listed variables give the walks; a world for the witnesses. -/
import Derived.Test.YtkhodajdionaaaaGreatDoorCards
import Derived.Test.YtkhodajdionaaaaGreatDoorTie
import Derived.Test.YtkhodajdionaaaaGreatDoorSgnC
import Derived.ProofKit
import Derived.OpenShut
import Derived.ShutString
import Derived.ChangeOld
import Derived.Lib.SmallJoins
import Derived.Deep.Slices
import Derived.Deep.DeepHandedRow
import Derived.Deep.DeepWitnessRowRef
import Derived.Lib.LaidTab
import Derived.Stop.LaidErr
import Derived.LaidMore
import Derived.HandedShaped
namespace Go.Proofs.YtkhodajdionaaaaGreatDoor
open Go.ChangeShapes Go.WideShapes Go.ChangeAt Go.RowKit
set_option maxRecDepth 100000

theorem own_knob : ownKnob Tryz.prog.godebug = none := by kernel_rfl
theorem laid_out : laidOutB Tryz.prog = true := by kernel_rfl

/-- The list that every row of this seat bears. -/
def laidL : List (String × DataW Unit) := Rows.equalProvesRow.laid

theorem gP10 : Tryz.prog.globalNamed "internal/strconv.uint64pow10" = some 4 := by kernel_rfl
theorem gER : Tryz.prog.globalNamed "strconv.ErrRange" = some 2 := by kernel_rfl
theorem gES : Tryz.prog.globalNamed "strconv.ErrSyntax" = some 1 := by kernel_rfl
theorem starE : ("*" ++ "errors.errorString" : String) = "*errors.errorString" := by decide
theorem rowE (u : TypeId) (h : Tryz.prog.typeName? 3 u = some "*errors.errorString") : u = 158 :=
  typeName_ptr_named (nm := "errors.errorString") (by rw [starE]; kernel_rfl) (by kernel_rfl) (by decide) u (by rw [starE]; exact h)

theorem tabs_of_laid {W : World} (h : laidMetH Tryz.prog laidL W) (hsh : W.ShapedOpen Tryz.prog) : Tabs W := by
  have h0 : laidMet Tryz.prog laidL W := h
  have h3 := h0.tail.tail
  have h4 := h3.tail
  have h5 := h4.tail
  have h6 := h5.tail
  have h7 := h6.tail
  obtain ⟨a1, s1, hv1, _⟩ := laid_sentinel h4 gER (by kernel_rfl) Tryz.underlying91 rowE Tryz.underlying158 Tryz.underlying160 rfl rfl Tryz.underlying9 (by kernel_rfl) (by kernel_rfl)
  obtain ⟨a2, s2, hv2, _⟩ := laid_sentinel h5 gES (by kernel_rfl) Tryz.underlying91 rowE Tryz.underlying158 Tryz.underlying160 rfl rfl Tryz.underlying9 (by kernel_rfl) (by kernel_rfl)
  refine ⟨?_, ?_, ?_, ⟨_, _, hv1⟩, ⟨_, _, hv2⟩, ?_⟩
  · exact Lib.tabIs_of_head (rest := _) gK (by kernel_rfl) Tryz.underlying124 Tryz.underlying107 (by kernel_rfl) (by kernel_rfl) h7
  · exact Lib.tabIs_of_head (rest := _) gF (by kernel_rfl) Tryz.underlying108 Tryz.underlying107 (by kernel_rfl) (by kernel_rfl) h6
  · exact Lib.tabIs_of_head (rest := _) gP10 (by kernel_rfl) Tryz.underlying162 Tryz.underlying70 (by kernel_rfl) (by kernel_rfl) h3
  · exact Go.Proofs.cell_of_shapedOpen_int (zero := #[.int .i64 0]) (t := 3) hsh (of_decide_eq_true (by kernel_rfl)) (by kernel_rfl) rfl (by kernel_rfl) (by kernel_rfl) Tryz.underlying3
end Go.Proofs.YtkhodajdionaaaaGreatDoor
