/- The variables that the program's text lays, as a premise on the world. -/
import Derived.Test.YtkhodajdionaaaaGreatDoorRows
import Derived.Test.YtkhodajdionaaaaGreatDoorCont
import Derived.Test.YtkhodajdionaaaaGreatDoorShaS
import Derived.Lib.LaidTab
import Derived.Lib.ItoaNum
import Derived.Shelf.Strconv.Itoa3
namespace Go.Proofs.YtkhodajdionaaaaGreatDoor
open Go.RowKit
set_option maxRecDepth 100000

structure Tabs (w : World) : Prop where
  k : Lib.TabIs Tryz.prog w "sortes/digest.constants" .u32 (kN.map fun (n : Nat) => (n : Int))
  f : Lib.TabIs Tryz.prog w "sortes/digest.first" .u32 (iN.map fun (n : Nat) => (n : Int))
  p : Lib.TabIs Tryz.prog w "internal/strconv.uint64pow10" .u64 Lib.pow10Tab
  er : ∃ tp p, w.var? Tryz.prog "strconv.ErrRange" = some #[.iface tp p]
  es : ∃ tp p, w.var? Tryz.prog "strconv.ErrSyntax" = some #[.iface tp p]
  m : ∃ m, w.cell? ⟨0, 0, none⟩ = some (.int .i64 m)

theorem var_upd {P : Program} {w w' : World} {n : String} {cs : Array Value} (h : Upd [] [] w w') (hv : w.var? P n = some cs) : w'.var? P n = some cs := by
  unfold World.var? at hv ⊢
  cases hg : P.globalNamed n with
  | none => rw [hg] at hv; cases hv
  | some g =>
    rw [hg] at hv
    simp only [Option.bind_some] at hv ⊢
    cases hh : w.heap[g]? with
    | none => rw [hh] at hv; cases hv
    | some o =>
      rw [h.block g (by have := (Array.getElem?_eq_some_iff.1 hh).1; exact this) (by simp), hh]
      rw [hh] at hv
      exact hv

theorem Tabs.upd {w w' : World} (h : Tabs w) (u : Upd [] [] w w') : Tabs w' :=
  ⟨var_upd u h.k, var_upd u h.f, var_upd u h.p, h.er.imp fun _ => Exists.imp fun _ hv => var_upd u hv, h.es.imp fun _ => Exists.imp fun _ hv => var_upd u hv, h.m.imp fun _ hv => (u.cell (World.block_lt_of_cell? _ _ hv) (by simp)).trans hv⟩

theorem gK : Tryz.prog.globalNamed "sortes/digest.constants" = some 5 := by kernel_rfl
theorem gF : Tryz.prog.globalNamed "sortes/digest.first" = some 3 := by kernel_rfl
theorem gM : Tryz.prog.globalNamed "internal/bytealg.MaxLen" = some 0 := by kernel_rfl

theorem kW_at (i : Nat) (h : i < 64) : (kN.map fun (n : Nat) => (n : Int)).getD i 0 = ((kW i).toNat : Int) := by
  have hl : kN.length = 64 := rfl
  have h1 : ∀ j : Fin 64, kN.getD j.val 0 < 4294967296 := by decide
  have h2 := h1 ⟨i, h⟩
  simp only at h2
  rw [kW, BitVec.toNat_ofNat, Nat.mod_eq_of_lt h2]
  simp [List.getD, hl, h]

theorem Tabs.kc {w : World} (h : Tabs w) (i : Nat) (hi : i < 64) : w.cell? ⟨5, i, none⟩ = some (.int .u32 ((kW i).toNat : Int)) := by
  have e := h.k.cell gK i (by rw [List.length_map]; exact hi)
  rw [kW_at i hi] at e
  exact e
theorem Tabs.fc {w : World} (h : Tabs w) (i : Nat) (hi : i < 8) : w.cell? ⟨3, i, none⟩ = some (.int .u32 ((firstS.l.getD i 0).toNat : Int)) := by
  have e := h.f.cell gF i (by rw [List.length_map]; exact hi)
  rw [e]
  have h1 : ∀ j : Fin 8, (iN.map fun (n : Nat) => (n : Int)).getD j.val 0 = ((firstS.l.getD j.val 0).toNat : Int) := by decide
  rw [h1 ⟨i, hi⟩]
theorem Tabs.mc {w : World} (h : Tabs w) : ∃ m, w.cell? ⟨0, 0, none⟩ = some (.int .i64 m) := h.m
end Go.Proofs.YtkhodajdionaaaaGreatDoor
