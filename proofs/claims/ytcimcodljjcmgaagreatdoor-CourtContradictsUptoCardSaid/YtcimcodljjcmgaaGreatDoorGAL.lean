/- Builders: what stays, what grows; receipts one behind the other. Receipts and hashes compared. Receipts: new blocks, rows, append. A slice literal in a region that draws. Loads, stores and copies of receipts and hashes. day: number, word, cutWord, Text, Encode at the events of court's example. -/
import Derived.Test.YtcimcodljjcmgaaGreatDoorGAK
import Derived.Test.YtcimcodljjcmgaaGreatDoorGAI
import Derived.ChangeKeysEq
import Derived.Test.YtcimcodljjcmgaaGreatDoorGAJ
import Derived.Deep.Upon
namespace Go.Proofs.YtcimcodljjcmgaaGreatDoor
open Go.RowKit
set_option maxRecDepth 100000

theorem builder_upd {T e : TypeId} {B b : Nat} {p : Value} {l : List Value} {w w' : World} (h : Lib.BuilderAt T e B b p l w) (u : Upd [] [] w w') : Lib.BuilderAt T e B b p l w' := by
  obtain ⟨h1, v, hb, ho, hn⟩ := h
  refine ⟨h1, v, row_updH hb u, ⟨ho.1, ?_⟩, hn⟩
  rcases ho.2 with h2 | ⟨g, cap, cur, hv, hg, hh, r⟩
  · exact .inl h2
  · exact .inr ⟨g, cap, cur, hv, hg, row_updH hh u, r⟩
structure BtSt (W0 wi : World) (acc : List UInt8) : Prop where
  bd : Lib.IsBuilder 101 5 W0.heap.size W0.heap.size (Lib.byteCells acc) wi
  up : Upd [] [] W0 wi
theorem BtSt.upd {W0 wi wj : World} {acc : List UInt8} (h : BtSt W0 wi acc) (u : Upd [] [] wi wj) : BtSt W0 wj acc :=
  ⟨h.bd.imp (fun k => builder_upd k u) (fun k => builder_upd k u), h.up.trans u⟩
theorem BtSt.start (W0 : World) : BtSt W0 (W0.alloc (.cells #[.pointer none, .slice none 0 0] 101)) [] := ⟨Lib.fresh_isBuilder _ _ W0, (Upd.refl _ _).alloc _⟩
def RcsIn (w : World) (ao : Option Addr) (l : List Rc) : Prop :=
  ∀ (k : Nat) x, l[k]? = some x → x.ok ∧ x.draw.size ≤ 1000000 ∧ ∃ g o, ao = some ⟨g, o, none⟩ ∧ g < w.heap.size ∧ w.rangeAt g (o + k * 102) (rcV x)
theorem rangeAt_upd {w w' : World} {g o : Nat} {V : List Value} (h : w.rangeAt g o V) (hg : g < w.heap.size) (u : Upd [] [] w w') : w'.rangeAt g o V := by
  intro j v hv
  rw [World.cell?_of_block (a := ⟨g, o + j, none⟩) (u.block g hg (by simp))]
  exact h j v hv
theorem RcsIn.upd {w w' : World} {ao : Option Addr} {l : List Rc} (h : RcsIn w ao l) (u : Upd [] [] w w') : RcsIn w' ao l := by
  intro k x hx
  obtain ⟨h1, h2, g, o, e, hg, hr⟩ := h k x hx
  exact ⟨h1, h2, g, o, e, Nat.lt_of_lt_of_le hg u.size, rangeAt_upd hr hg u⟩
end Go.Proofs.YtcimcodljjcmgaaGreatDoor

namespace Go.Proofs.YtcimcodljjcmgaaGreatDoor
open Go.RowKit
set_option maxRecDepth 100000

end Go.Proofs.YtcimcodljjcmgaaGreatDoor

namespace Go.Proofs.YtcimcodljjcmgaaGreatDoor
open Go.RowKit
set_option maxRecDepth 100000

theorem wpList_load_atW {P : Program} {ops : Array Oper} {rest : List Oper} {o : Oper} {a : Act} {w : World} {Q : Exit → Act → World → Prop} (hw : Region.wanted o (yielded ops a.tmps) = true) (ty : TypeId) (x : Operand) (ho : o.op = .load ty x)
    (b of : Nat) (hx : a.eval x = .pointer (some ⟨b, of, none⟩)) (C : Array Value) (hr : (Instr.loadAt ty (.pointer (some ⟨b, of, none⟩))).run P w = .ok (.agg C) w)
    (h : wpList P ops Q rest (a.put o.dst (.agg C)) w) : wpList P ops Q (o :: rest) a w := by
  refine wpList_step fun K hK => ?_
  rw [if_pos hw]
  unfold Oper.wp execOp
  simp only [ho, hx, Sem.run_bind, hr, Result.andThen_ok]
  exact hK _ _ h

end Go.Proofs.YtcimcodljjcmgaaGreatDoor

namespace Go.Proofs.YtcimcodljjcmgaaGreatDoor
open Go.RowKit
set_option maxRecDepth 100000

end Go.Proofs.YtcimcodljjcmgaaGreatDoor

namespace Go.Proofs.YtcimcodljjcmgaaGreatDoor
open Go.RowKit
set_option maxRecDepth 100000

theorem yieldsIf_loadW {P : Program} {ops : Array Oper} {S : World → Prop} {op : Oper} {a : Act} (hw : Region.wanted op (yielded ops a.tmps) = true) (ty : TypeId) (x : Operand) (ho : op.op = .load ty x) (v : Value) (hx : a.eval x = v) (C : Array Value)
    (hS : ∀ w, S w → (Instr.loadAt ty v).run P w = .ok (.agg C) w) : YieldsIf P ops S op (.agg C) a :=
  .inl ⟨hw, fun w hw' => by
    unfold execOp
    simp only [ho, hx, Sem.run_bind, Sem.run_pure, Result.andThen_ok, hS w hw']⟩
theorem blk_new (wB : World) (T : TypeId) (Z C : Array Value) : ∃ wC : World, Hid ((wB.alloc (.cells Z T)).heap[wB.heap.size]? = some (.cells Z T (0, 0))) ∧ Hid ((wB.alloc (.cells Z T)).setRow wB.heap.size C = wC) ∧ Hid (wC.heap[wB.heap.size]? = some (.cells C T (0, 0))) ∧ Upd [] [] wB wC := by
  have h := heap_alloc_new wB (.cells Z T)
  exact ⟨_, h, rfl, setRow_heap _ _ _ _ _ _ h, ((Upd.refl _ _).alloc _).setRowNew (Nat.le_refl _) _⟩
theorem alloc_let (W : World) (ob : Obj) : ∃ (g : Nat) (W' : World), g = W.heap.size ∧ W' = W.alloc ob ∧ Hid (W'.heap[g]? = some ob) ∧ Upd [] [] W W' := ⟨_, _, rfl, rfl, heap_alloc_new _ _, (Upd.refl _ _).alloc _⟩
theorem alloc_letD (W : World) (ob : Obj) : ∃ (g : Nat) (W' : World), g = W.heap.size ∧ W' = (W.alloc ob).drew ∧ Hid (W'.heap[g]? = some ob) ∧ Upd [] [] W W' := ⟨_, _, rfl, rfl, heap_alloc_new _ _, ((Upd.refl _ _).alloc _).drew⟩
theorem RcAt.load {w : World} {g : Nat} {x : Rc} (h : RcAt w g x) (hx : x.ok) (R : Array Value) (hR : R = (rcV x).toArray) : (Instr.loadAt 185 (.pointer (some ⟨g, 0, none⟩))).run Tryz.prog w = .ok (.agg R) w := by
  rw [hR]
  exact run_loadAt_mid w g 0 _ _ _ h.all Tryz.underlying185 rfl (rcInfo hx)
end Go.Proofs.YtcimcodljjcmgaaGreatDoor

namespace Go.Proofs.YtcimcodljjcmgaaGreatDoor
open Go.RowKit
set_option maxRecDepth 100000

set_option maxHeartbeats 1000000 in
theorem dNumber_any (s : ByteArray) (n : Int) (hn : i64in n) (hs : bs s = Lib.itoa n) (w : World) (htab : Tabs w) : Calls Tryz.prog 101 #[.string s] w (Mk (.tuple #[.int .i64 n, .bool true]) w) := by
  have hsz : s.size ≤ 30 := by rw [← bs_length, hs]; have := itoa_len n hn; omega
  have HA := Lib.hid (atoi_ok s n w (by omega) (by rw [hs]; exact atoi_itoa n hn))
  have HI : Hid (∀ W, Upd [] [] w W → Calls Tryz.prog 19 #[.int .i64 n] W (fun e w' => e = .returned (.string s) ∧ Upd [] [] W w')) := by
    intro W u
    refine (itoa_any n W hn (htab.upd u)).mono ?_
    rintro e w' ⟨y, HY, _, rfl, hq⟩
    obtain rfl : y = s := bs_inj (HY.out.trans hs.symm)
    exact ⟨rfl, hq⟩
  clear hs hsz hn
  go_enter Tryz.func101, Tryz.ntmps101
  go_wp2_with fail
  refine HA.out.mono ?_
  rintro e w1 ⟨rfl, hu⟩
  have HU := Lib.hid hu
  clear hu HA
  go_wp2_with fail
  refine (HI.out w1 HU.out).mono ?_
  rintro e w2 ⟨rfl, hu⟩
  have HU2 := Lib.hid (HU.out.trans hu)
  clear hu HI HU
  go_wp2_with fail
  go_ret2
  exact ⟨rfl, HU2.out⟩
theorem dWord_any (c : UInt8) (w : World) (htab : Tabs w) : Calls Tryz.prog 21 #[.string ⟨#[c]⟩] w (fun e w' => e = .returned (.string ⟨#[49, 58, c]⟩) ∧ Upd [] [] w w') := by
  have HI : Hid (Calls Tryz.prog 19 #[.int .i64 1] w (fun e w' => e = .returned (.string ⟨#[49]⟩) ∧ Upd [] [] w w')) := by
    refine (itoa_any 1 w (by unfold i64in; omega) htab).mono ?_
    rintro e w' ⟨y, HY, _, rfl, hq⟩
    obtain rfl : y = ⟨#[49]⟩ := bs_inj (HY.out.trans itoa_1)
    exact ⟨rfl, hq⟩
  go_enter Tryz.func21, Tryz.ntmps21
  go_wp2_with fail
  refine HI.out.mono ?_
  rintro e w1 ⟨rfl, hu⟩
  have HU := Lib.hid hu
  clear hu HI
  go_wp2_with fail
  go_ret
  exact ⟨rfl, HU.out⟩
theorem dCut_any (c : UInt8) (w : World) (htab : Tabs w) : Calls Tryz.prog 103 #[.string ⟨#[49, 58, c]⟩] w (fun e w' => e = .returned (.tuple #[.string ⟨#[c]⟩, .string ⟨#[]⟩, .bool true]) ∧ Upd [] [] w w') := by
  have hcut : Lib.cut (bs ⟨#[49, 58, c]⟩) [58] = ([49], [c], true) := cut_hit 58 [49] [c] (by decide)
  have HCUT := Lib.hid hcut
  have HC := Lib.hid (cutByte_any ⟨#[49, 58, c]⟩ 58 w (by show 3 ≤ _; decide) htab)
  have HN := Lib.hid (fun W (u : Upd [] [] w W) => dNumber_any ⟨#[49]⟩ 1 (by unfold i64in; omega) itoa_1.symm W (htab.upd u))
  clear hcut
  go_enter Tryz.func103, Tryz.ntmps103
  go_wp2_with fail
  refine HC.out.mono ?_
  rintro e w1 ⟨l, r, q, HL, HR, HQ, hl, hr, rfl, hu⟩
  rw [HCUT.out] at HL HR HQ
  obtain rfl : l = ⟨#[49]⟩ := bs_inj HL.out
  obtain rfl : r = ⟨#[c]⟩ := bs_inj HR.out
  obtain rfl : q = true := HQ.out
  have HU := Lib.hid hu
  clear hu HC HCUT HL HQ HR hl hr
  go_wp2_with fail
  refine (HN.out w1 HU.out).mono ?_
  rintro e w2 ⟨rfl, hu⟩
  have HU2 := Lib.hid (HU.out.trans hu)
  clear hu HN HU
  go_wp2_with fail
  go_quiet (fail)
  go_wp2_with fail
  go_ret3
  exact ⟨rfl, HU2.out.drewN _⟩
end Go.Proofs.YtcimcodljjcmgaaGreatDoor
