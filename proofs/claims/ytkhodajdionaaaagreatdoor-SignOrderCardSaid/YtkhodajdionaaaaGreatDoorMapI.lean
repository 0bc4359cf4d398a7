/- A map of the call's own with ints as keys: what it holds, as a function. -/
import Derived.Maps.OwnSet
import Derived.Test.YtkhodajdionaaaaGreatDoorSPlain
import Derived.Test.YtkhodajdionaaaaGreatDoorBase
namespace Go.Proofs.YtkhodajdionaaaaGreatDoor
open Go.Maps
set_option maxRecDepth 100000

/-- An element reads as itself. -/
def RV (v : Value) : Option (DataW Value × List MemPlace) := some (.held v, [])
/-- Block b of the world is a map that holds f, of at most n entries. -/
def MapF (w : World) (b n : Nat) (f : Int → Option Value) : Prop :=
  ∃ D : DataW Value, w.ownsMap Tryz.prog 3 RV b n D ∧ IsMap D ∧ ∀ x : Int, Maps.has D (.int .i64 x) = (f x).isSome ∧ ∀ v, f x = some v → ∀ z, D.atKey (.int .i64 x) z = .held v

theorem keyI : Keyed Tryz.prog 3 := int_keyed Tryz.underlying3
theorem keyI_mk {x : Int} (hx : -9223372036854775808 ≤ x ∧ x ≤ 9223372036854775807) : keyOf Tryz.prog 3 (.int .i64 x) = some (.int .i64 x) := keyOf_int_mk Tryz.underlying3 (WalkArith.wf_i64 hx)

theorem MapF.made (w : World) : MapF (w.alloc (.map #[] 0)) w.heap.size 0 (fun _ => none) :=
  ⟨.map [], World.ownsMap_made _ _ _ _, isMap_empty, fun _ => ⟨rfl, fun _ h => by cases h⟩⟩
theorem MapF.lt {w : World} {b n : Nat} {f : Int → Option Value} (h : MapF w b n f) : b < w.heap.size := by
  obtain ⟨D, ho, _⟩ := h
  exact ho.lt
theorem MapF.upd {w w' : World} {S S' : List Nat} {b n : Nat} {f : Int → Option Value} (h : MapF w b n f) (u : Upd S S' w w') (hb : b ∉ S) : MapF w' b n f := by
  have hlt := h.lt
  obtain ⟨D, ⟨es, clock, hg, F, hs, hD⟩, hm, hf⟩ := h
  exact ⟨D, ⟨es, clock, (u.block b hlt hb).trans hg, F, hs, hD⟩, hm, hf⟩
theorem MapF.mono {w : World} {b n m : Nat} {f : Int → Option Value} (h : MapF w b n f) (hn : n ≤ m) : MapF w b m f := by
  obtain ⟨D, ho, hm, hf⟩ := h
  exact ⟨D, ho.mono hn, hm, hf⟩

/-- 'v, ok := m[x]'. -/
theorem MapF.look_ok {w : World} {b n : Nat} {f : Int → Option Value} {t e : TypeId} {x : Int} {z : Value} (h : MapF w b n f) (ht : Tryz.prog.underlying t = some (.map 3 e)) (hz : (zeroValue e).run Tryz.prog w = .ok z w) (hx : -9223372036854775808 ≤ x ∧ x ≤ 9223372036854775807) :
    (Instr.lookup t (.map (some b)) (.int .i64 x) true).run Tryz.prog w = .ok (.tuple #[(f x).getD z, .bool (f x).isSome]) w := by
  obtain ⟨D, ho, _, hf⟩ := h
  obtain ⟨v, ps, hrun, hv⟩ := ho.look_ok keyI ht hz (zd := .held z) (zp := []) rfl (keyI_mk hx)
  obtain ⟨h1, h2⟩ := hf x
  rw [hrun, h1]
  unfold RV at hv
  cases hfx : f x with
  | none =>
    rw [hfx] at h1
    rw [atKey_of_not_has h1] at hv
    cases hv
    rfl
  | some y =>
    rw [h2 y hfx] at hv
    cases hv
    rfl
/-- 'm[x]'. -/
theorem MapF.look {w : World} {b n : Nat} {f : Int → Option Value} {t e : TypeId} {x : Int} {z : Value} (h : MapF w b n f) (ht : Tryz.prog.underlying t = some (.map 3 e)) (hz : (zeroValue e).run Tryz.prog w = .ok z w) (hx : -9223372036854775808 ≤ x ∧ x ≤ 9223372036854775807) :
    (Instr.lookup t (.map (some b)) (.int .i64 x) false).run Tryz.prog w = .ok ((f x).getD z) w := by
  obtain ⟨D, ho, _, hf⟩ := h
  obtain ⟨v, ps, hrun, hv⟩ := ho.lookup keyI ht hz (zd := .held z) (zp := []) rfl (keyI_mk hx)
  obtain ⟨h1, h2⟩ := hf x
  rw [hrun]
  unfold RV at hv
  cases hfx : f x with
  | none =>
    rw [hfx] at h1
    rw [atKey_of_not_has h1] at hv
    cases hv
    rfl
  | some y =>
    rw [h2 y hfx] at hv
    cases hv
    rfl
/-- 'm[x] = v'. -/
theorem MapF.put {w : World} {b n : Nat} {f : Int → Option Value} {t e : TypeId} {x : Int} {v : Value} (h : MapF w b n f) (ht : Tryz.prog.underlying t = some (.map 3 e)) (hn : n < maxLen) (hx : -9223372036854775808 ≤ x ∧ x ≤ 9223372036854775807) :
    ∃ w', (Instr.mapUpdate t (.map (some b)) (.int .i64 x) v).run Tryz.prog w = .ok () w' ∧ MapF w' b (n + 1) (fun y => if y = x then some v else f y) ∧ Upd [b] [b] w w' := by
  obtain ⟨D, ho, hm, hf⟩ := h
  obtain ⟨w', hrun, ho', hg⟩ := ho.update keyI ht hn (d := .held v) (ps := []) (keyI_mk hx) rfl
  refine ⟨w', hrun, ⟨_, ho', hm.put _ _, fun y => ?_⟩, ⟨hg.os, hg.tape, hg.output, hg.size, fun k hk hne => hg.block k hk (fun e => hne (by cases e; exact List.mem_cons_self)), fun k hk => .inl hk⟩⟩
  show has _ _ = (if y = x then some v else f y).isSome ∧ ∀ v', (if y = x then some v else f y) = some v' → _
  by_cases hy : y = x
  · subst hy
    rw [if_pos rfl]
    exact ⟨has_put_same (k := .int .i64 y) hm trivial _, fun v' hv' z => by cases hv'; exact atKey_put_same (k := .int .i64 y) hm trivial _ _⟩
  · rw [if_neg hy]
    have hne : (Lit.int .i64 y) ≠ Lit.int .i64 x := fun e => hy (by cases e; rfl)
    exact ⟨(has_put_other hne _).trans (hf y).1, fun v' hv' z => (atKey_put_other hne _ _).trans ((hf y).2 v' hv' z)⟩

/-- The store at the operation, for the walk. -/
theorem wpList_put_F (w : World) {ops : Array Oper} {rest : List Oper} {o : Oper} {a : Act} {Q : Exit → Act → World → Prop}
    (hg : o.guard = none) (m x v : Operand) (t : TypeId) (hop : o.op = Op.mapUpdate t m x v) (e : TypeId) (ht : Tryz.prog.underlying t = some (.map 3 e)) (b n : Nat) (f : Int → Option Value)
    (hm : a.eval m = .map (some b)) (h : MapF w b n f) (hn : n < maxLen) (key : Int) (val : Value) (hx : a.eval x = .int .i64 key) (hv : a.eval v = val) (hk : -9223372036854775808 ≤ key ∧ key ≤ 9223372036854775807)
    (hK : ∀ w', MapF w' b (n + 1) (fun y => if y = key then some val else f y) → Upd [b] [b] w w' → wpList Tryz.prog ops Q rest (a.put o.dst undef) w') :
    wpList Tryz.prog ops Q (o :: rest) a w := by
  refine wpList_plain hg fun K' hK' => ?_
  obtain ⟨w', hrun, r1, r2⟩ := h.put (x := key) (v := val) ht hn hk
  unfold Oper.wp
  simp [execOp, hop, hm, hx, hv, hrun, Result.andThen]
  exact hK' _ _ (hK w' r1 r2)
end Go.Proofs.YtkhodajdionaaaaGreatDoor
