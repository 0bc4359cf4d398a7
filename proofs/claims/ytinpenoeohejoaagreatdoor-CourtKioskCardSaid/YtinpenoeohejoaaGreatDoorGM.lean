/- sorteslaw27.sanity. Slices of pairs of numbers, opened. For the laws of the kiosk: masks, hashes of two bytes, Learn of any round. -/
import Derived.Test.YtinpenoeohejoaaGreatDoorGL
import Derived.Test.YtinpenoeohejoaaGreatDoorGB
import Derived.Deep.Slices
import Derived.Deep.DeepCutAuto
namespace Go.Proofs.YtinpenoeohejoaaGreatDoor
open Go.RowKit
set_option maxRecDepth 100000

def hashB (l : List UInt8) : List UInt8 := l ++ List.replicate (32 - l.length) 0
theorem hash_let {l : List UInt8} (hl : l.length = 32) (H : Array Value) (hH : H = (byteVals l).toArray) : Hid ((Tryz.prog.info? 37).map (·.size) = some H.size) ∧ Hid (H.all (·.oneCell') = true) ∧ Hid ((byteVals zero32).toArray.size = H.size) := by
  subst hH
  exact ⟨hashInfo hl, hashOne _, by show _ = _; rw [hashSz hl]; rfl⟩
structure SanS (w : World) (gA gB A g o : Nat) (R1 R2 H1 H2 P : Array Value) : Prop where
  c1 : w.cell? ⟨gB, 1, none⟩ = some (.int .i64 2)
  c3 : w.cell? ⟨gB, 3, none⟩ = some (.int .i64 4)
  out1 : (Instr.loadAt 37 (.pointer (some ⟨gB, 4, none⟩))).run Tryz.prog w = .ok (.agg H2) w
  prev : (Instr.loadAt 37 (.pointer (some ⟨gB, 68, none⟩))).run Tryz.prog w = .ok (.agg P) w
  h2 : (Instr.loadAt 37 (.pointer (some ⟨A + 1, 0, none⟩))).run Tryz.prog w = .ok (.agg H2) w
  h1 : (Instr.loadAt 37 (.pointer (some ⟨A, 0, none⟩))).run Tryz.prog w = .ok (.agg H1) w
  r1 : (Instr.loadAt 41 (.pointer (some ⟨gA, 0, none⟩))).run Tryz.prog w = .ok (.agg R1) w
  r2 : (Instr.loadAt 41 (.pointer (some ⟨gB, 0, none⟩))).run Tryz.prog w = .ok (.agg R2) w
  el : (Instr.loadAt 41 (.pointer (some ⟨g, o, none⟩))).run Tryz.prog w = .ok (.agg R2) w
theorem field_bat (i : Int) (a : Option Addr) (n c : Nat) (W : World) : (Instr.field 50 (.agg #[.int .i64 i, .slice a n c]) 1).run Tryz.prog W = .ok (.slice a n c) W := by kernel_rfl
theorem eqRc_self (x : Rc) : eqRc x x = true := (eqRc_iff x x).2 rfl
theorem eqR_self {x : Rc} {R : Array Value} (hR : R = (rcV x).toArray) (hx : x.ok) (W : World) : (Op.equalIn 10000 41 (.agg R) (.agg R)).run Tryz.prog W = .ok true W := by
  rw [hR, show (10000 : Nat) = 9997 + 3 from rfl, eqRc_run 9997 _ _ hx hx W, eqRc_self]
theorem row_range {w : World} {g : Nat} {l : List Value} {t : TypeId} {R : Array Value} (hR : R = l.toArray) (h : w.heap[g]? = some (.cells R t (0, 0))) : w.rangeAt g 0 l := by
  intro j v hv
  rw [Nat.zero_add, cell_of_row _ _ _ _ _ _ h, hR, List.getElem?_toArray]
  exact hv
end Go.Proofs.YtinpenoeohejoaaGreatDoor

namespace Go.Proofs.YtinpenoeohejoaaGreatDoor
open Go.ChangeShapes Go.WideShapes Go.ChangeAt Go.RowKit Go.Deep Go.Joins
set_option maxRecDepth 100000

def PrsIn (k : IntKind) (lo hi : Int) (w : World) (ao : Option Addr) (l : List (Int × Int)) : Prop :=
  ∀ (j : Nat) q, l[j]? = some q → (lo ≤ q.1 ∧ q.1 ≤ hi) ∧ (lo ≤ q.2 ∧ q.2 ≤ hi) ∧ ∃ g o, ao = some ⟨g, o, none⟩ ∧ g < w.heap.size ∧ w.cell? ⟨g, o + j * 2, none⟩ = some (.int k q.1) ∧ w.cell? ⟨g, o + j * 2 + 1, none⟩ = some (.int k q.2)
theorem PrsIn.upd {k : IntKind} {lo hi : Int} {w w' : World} {ao : Option Addr} {l : List (Int × Int)} (h : PrsIn k lo hi w ao l) (u : Upd [] [] w w') : PrsIn k lo hi w' ao l := by
  intro j q hj
  obtain ⟨h1, h2, g, o, h3, h4, h5, h6⟩ := h j q hj
  exact ⟨h1, h2, g, o, h3, Nat.lt_of_lt_of_le h4 u.size, (u.cell (p := ⟨g, o + j * 2, none⟩) h4 (by simp)).trans h5, (u.cell (p := ⟨g, o + j * 2 + 1, none⟩) h4 (by simp)).trans h6⟩
section
variable {H : Type} {enc : TypeId × Value → H} {w : World}
end
end Go.Proofs.YtinpenoeohejoaaGreatDoor

namespace Go.Proofs.YtinpenoeohejoaaGreatDoor
open Go.RowKit
set_option maxRecDepth 100000

theorem wpList_build_want {P : Program} {ops : Array Oper} {rest : List Oper} {o : Oper} {a : Act} {w : World} {Q : Exit → Act → World → Prop} (hw : Region.wanted o (yielded ops a.tmps) = true) (t : TypeId) (parts : Array (Nat × Operand)) (ho : o.op = .build t parts)
    (cells : Array Value) (hf : P.built t (parts.map fun (i, x) => (i, a.eval x)).toList = some cells) (h : wpList P ops Q rest (a.put o.dst (.agg cells)) w) : wpList P ops Q (o :: rest) a w := by
  refine wpList_step fun K hK => ?_
  rw [if_pos hw]
  refine wp_build t parts ho (by rw [hf]; rfl) ?_
  rw [hf]
  exact hK _ _ h
theorem Upd.quietTo {w w' : World} {K : List Nat} (h : Upd [] [] w w') : Upd K K w w' := ⟨h.os, h.tape, h.output, h.size, fun k hk _ => h.block k hk (by simp), fun _ hk => .inl hk⟩
end Go.Proofs.YtinpenoeohejoaaGreatDoor
