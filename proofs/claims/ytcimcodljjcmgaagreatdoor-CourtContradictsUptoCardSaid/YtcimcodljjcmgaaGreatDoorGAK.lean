/- entry.reader: until, word, number. entry.reader: number, sig. entry.reader: hash. entry.Read: what it keeps. entry.Read: the walk. -/
import Derived.Test.YtcimcodljjcmgaaGreatDoorGAJ
namespace Go.Proofs.YtcimcodljjcmgaaGreatDoor
open Go.RowKit
set_option maxRecDepth 100000

def RdAt (w : World) (g : Nat) (rest : ByteArray) (wrong : Bool) : Prop := w.heap[g]? = some (.cells #[.string rest, .bool wrong] 249 (0, 0))
theorem RdAt.upd {w w' : World} {g : Nat} {r : ByteArray} {q : Bool} (h : RdAt w g r q) (u : Upd [] [] w w') : RdAt w' g r q := row_updH h u
theorem RdAt.cells {w : World} {g : Nat} {r : ByteArray} {q : Bool} (h : RdAt w g r q) : w.cell? ⟨g, 0, none⟩ = some (.string r) ∧ w.cell? ⟨g, 1, none⟩ = some (.bool q) ∧ w.frozen? ⟨g, 0, none⟩ = false ∧ w.frozen? ⟨g, 1, none⟩ = false :=
  ⟨by rw [cell_of_row _ _ _ _ _ _ h]; rfl, by rw [cell_of_row _ _ _ _ _ _ h]; rfl, frozen_of_row _ _ _ _ _ h, frozen_of_row _ _ _ _ _ h⟩
theorem RdAt.set {w : World} {g : Nat} {r : ByteArray} {q : Bool} (h : RdAt w g r q) (r' : ByteArray) (q' : Bool) : RdAt ((w.setCell ⟨g, 0, none⟩ (.string r')).setCell ⟨g, 1, none⟩ (.bool q')) g r' q' :=
  heap_setCell_same _ g 1 _ _ (.bool q') (heap_setCell_same w g 0 _ _ (.string r') h)
theorem cutByte_any (s : ByteArray) (c : UInt8) (w : World) (hs : s.size ≤ 4000000000) (htab : Tabs w) :
    Calls Tryz.prog 152 #[.string s, .string (ByteArray.mk #[c])] w (fun e w' => ∃ (l r : ByteArray) (b : Bool), Hid (bs l = (Lib.cut (bs s) [c]).1) ∧ Hid (bs r = (Lib.cut (bs s) [c]).2.1) ∧ Hid (b = (Lib.cut (bs s) [c]).2.2) ∧ l.size ≤ s.size ∧ r.size ≤ s.size ∧ e = .returned (.tuple #[.string l, .string r, .bool b]) ∧ Upd [] [] w w') := by
  obtain ⟨m, hm⟩ := htab.mc
  refine (Tryz.strings_Cut s (ByteArray.mk #[c]) m w (by omega) hm).mono ?_
  rintro e w' ⟨rfl, n, rfl⟩
  have h : (Lib.cut (bs s) [c]).1.length ≤ s.size ∧ (Lib.cut (bs s) [c]).2.1.length ≤ s.size := by
    unfold Lib.cut
    split
    · simp [bs_length]; omega
    · simp [bs_length]
  exact ⟨⟨(Lib.cut (bs s) [c]).1.toArray⟩, ⟨(Lib.cut (bs s) [c]).2.1.toArray⟩, _, rfl, rfl, rfl, h.1, h.2, rfl, (Upd.refl _ _).drewN n⟩
end Go.Proofs.YtcimcodljjcmgaaGreatDoor

namespace Go.Proofs.YtcimcodljjcmgaaGreatDoor
open Go.RowKit
set_option maxRecDepth 100000

theorem Upd.own2 {g : Nat} {a b c : World} (h : Upd [] [] a b) (k : Upd [g] [] b c) (hB : a.heap.size ≤ g) : Upd [] [] a c :=
  ⟨k.os.trans h.os, k.tape.trans h.tape, k.output.trans h.output, Nat.le_trans h.size k.size, fun i hi _ => (k.block i (Nat.lt_of_lt_of_le hi h.size) (by simp; omega)).trans (h.block i hi (by simp)), fun _ hk => absurd hk (by simp)⟩
theorem row_updG {w w' : World} {B g : Nat} {o : Obj} (h : w.heap[B]? = some o) (u : Upd [g] [] w w') (n : B ≠ g) : w'.heap[B]? = some o := by
  rw [u.block _ (Array.getElem?_eq_some_iff.1 h).1 (by simpa using n)]; exact h
end Go.Proofs.YtcimcodljjcmgaaGreatDoor

namespace Go.Proofs.YtcimcodljjcmgaaGreatDoor
open Go.RowKit
set_option maxRecDepth 100000

theorem row_setRowO {w : World} {g L : Nat} {o : Obj} (h : w.heap[g]? = some o) (n : g ≠ L) (cs : Array Value) : (w.setRow L cs).heap[g]? = some o := by
  unfold World.setRow
  rw [Array.getElem?_modify, if_neg (fun e => n e.symm)]
  exact h
theorem wpList_store_rowAs {P : Program} {ops : Array Oper} {rest : List Oper} {o : Oper} {a : Act} {w : World} {Q : Exit → Act → World → Prop} (hgd : o.guard = none) (ty : TypeId) (x y : Operand) (ho : o.op = .store ty x y)
    (g : Nat) (cells : Array Value) (hx : a.eval x = .pointer (some ⟨g, 0, none⟩)) (hy : a.eval y = .agg cells)
    (t : TypeId) (old : Array Value) (hg : w.heap[g]? = some (.cells old t (0, 0))) (hi : (P.info? ty).map (·.size) = some cells.size)
    (hold : old.size = cells.size) (h1 : cells.all (·.oneCell') = true) (w' : World) (hw : w.setRow g cells = w')
    (h : wpList P ops Q rest (a.put o.dst undef) w') : wpList P ops Q (o :: rest) a w := by
  subst hw
  exact wpList_store_row hgd ty x y ho g cells hx hy t old hg hi hold h1 h

end Go.Proofs.YtcimcodljjcmgaaGreatDoor

namespace Go.Proofs.YtcimcodljjcmgaaGreatDoor
open Go.RowKit
set_option maxRecDepth 100000

theorem row_setCells {g : Nat} {T : TypeId} : ∀ (V : List Value) (o : Nat) (w : World) (A B C : List Value), w.heap[g]? = some (.cells (A ++ (B ++ C)).toArray T (0, 0)) → A.length = o → B.length = V.length → (w.setCells g o V).heap[g]? = some (.cells (A ++ (V ++ C)).toArray T (0, 0))
  | [], o, w, A, B, C, h, hA, hB => by
    have : B = [] := List.eq_nil_of_length_eq_zero (by simpa using hB)
    subst this
    exact h
  | v :: V, o, w, A, [], C, h, hA, hB => by simp at hB
  | v :: V, o, w, A, b :: B, C, h, hA, hB => by
    have h1 := heap_setCell_same w g o _ _ v h
    have e : ((A ++ (b :: B ++ C)).toArray.setIfInBounds o v) = ((A ++ [v]) ++ (B ++ C)).toArray := by
      apply Array.ext'
      rw [Array.toList_setIfInBounds]
      show (A ++ (b :: B ++ C)).set o v = (A ++ [v]) ++ (B ++ C)
      rw [List.set_append_right _ _ (by omega), ← hA, Nat.sub_self]
      simp
    rw [e] at h1
    have h2 := row_setCells V (o + 1) (w.setCell ⟨g, o, none⟩ v) (A ++ [v]) B C h1 (by simp; omega) (by simpa using hB)
    rw [World.setCells, h2]
    simp
theorem Upd.setCellsNew {S S' : List Nat} {a : World} {g : Nat} (hg : a.heap.size ≤ g) : ∀ (V : List Value) (o : Nat) (b : World), Upd S S' a b → Upd S S' a (b.setCells g o V)
  | [], _, _, h => h
  | v :: V, o, b, h => by
    rw [World.setCells]
    exact Upd.setCellsNew hg V (o + 1) _ (h.setNew (p := ⟨g, o, none⟩) hg v)
theorem row_setCellsO {g L : Nat} {ob : Obj} (n : g ≠ L) : ∀ (V : List Value) (o : Nat) (w : World), w.heap[g]? = some ob → (w.setCells L o V).heap[g]? = some ob
  | [], _, _, h => h
  | v :: V, o, w, h => by
    rw [World.setCells]
    exact row_setCellsO n V (o + 1) _ (row_otherE h n v)
theorem RcAt.there {w : World} {g : Nat} {x : Rc} (h : RcAt w g x) (hx : x.ok) (o n : Nat) (hn : o + n ≤ 102) : w.there g o n := fun j hj => by
  refine ⟨?_, h.frozen _⟩
  rw [h.cell, List.getElem?_eq_getElem (by rw [rcV_len hx]; omega)]
  rfl
theorem RcAt.kiosk {w : World} {g : Nat} {x : Rc} (h : RcAt w g x) (k : Int) : RcAt (w.setCell ⟨g, 0, none⟩ (.int .i64 k)) g { x with kiosk := k } := heap_setCell_same w g 0 _ _ (.int .i64 k) h
theorem RcAt.serial {w : World} {g : Nat} {x : Rc} (h : RcAt w g x) (k : Int) : RcAt (w.setCell ⟨g, 1, none⟩ (.int .i64 k)) g { x with serial := k } := heap_setCell_same w g 1 _ _ (.int .i64 k) h
theorem RcAt.draw {w : World} {g : Nat} {x : Rc} (h : RcAt w g x) (k : ByteArray) : RcAt (w.setCell ⟨g, 2, none⟩ (.string k)) g { x with draw := k } := heap_setCell_same w g 2 _ _ (.string k) h
theorem RcAt.seen {w : World} {g : Nat} {x : Rc} (h : RcAt w g x) (k : Int) : RcAt (w.setCell ⟨g, 3, none⟩ (.int .i64 k)) g { x with seen := k } := heap_setCell_same w g 3 _ _ (.int .i64 k) h
theorem RcAt.out {w : World} {g : Nat} {x : Rc} (h : RcAt w g x) (hx : x.ok) {k : List UInt8} (hk : k.length = 32) : RcAt (w.setCells g 4 (byteVals k)) g { x with out := k } :=
  row_setCells (byteVals k) 4 w [.int .i64 x.kiosk, .int .i64 x.serial, .string x.draw, .int .i64 x.seen] (byteVals x.out) _ h rfl (by rw [byteVals_length, byteVals_length, hx.2.2.2.1, hk])
theorem RcAt.hash {w : World} {g : Nat} {x : Rc} (h : RcAt w g x) (hx : x.ok) {k : List UInt8} (hk : k.length = 32) : RcAt (w.setCells g 36 (byteVals k)) g { x with hash := k } := by
  have e : ∀ k : List UInt8, rcV { x with hash := k } = ([.int .i64 x.kiosk, .int .i64 x.serial, .string x.draw, .int .i64 x.seen] ++ byteVals x.out) ++ (byteVals k ++ (byteVals x.prev ++ [.int .i64 x.r, .int .i64 x.s])) := by intro k; simp [rcV]
  have h' := h
  unfold RcAt at h' ⊢
  rw [show rcV x = rcV { x with hash := x.hash } from rfl, e] at h'
  rw [e]
  exact row_setCells (byteVals k) 36 w _ _ _ h' (by simp [byteVals_length, hx.2.2.2.1]) (by rw [byteVals_length, byteVals_length, hx.2.2.2.2.1, hk])
theorem RcAt.prev {w : World} {g : Nat} {x : Rc} (h : RcAt w g x) (hx : x.ok) {k : List UInt8} (hk : k.length = 32) : RcAt (w.setCells g 68 (byteVals k)) g { x with prev := k } := by
  have e : ∀ k : List UInt8, rcV { x with prev := k } = ([.int .i64 x.kiosk, .int .i64 x.serial, .string x.draw, .int .i64 x.seen] ++ byteVals x.out ++ byteVals x.hash) ++ (byteVals k ++ [.int .i64 x.r, .int .i64 x.s]) := by intro k; simp [rcV]
  have h' := h
  unfold RcAt at h' ⊢
  rw [show rcV x = rcV { x with prev := x.prev } from rfl, e] at h'
  rw [e]
  exact row_setCells (byteVals k) 68 w _ _ _ h' (by simp [byteVals_length, hx.2.2.2.1, hx.2.2.2.2.1]) (by rw [byteVals_length, byteVals_length, hx.2.2.2.2.2.1, hk])

end Go.Proofs.YtcimcodljjcmgaaGreatDoor

namespace Go.Proofs.YtcimcodljjcmgaaGreatDoor
open Go.RowKit
set_option maxRecDepth 100000

structure RdSt (w wi : World) (rest : ByteArray) (q : Bool) (x : Rc) : Prop where
  rz : RcAt wi w.heap.size Rc.zero
  rd : RdAt wi (w.heap.size + 1) rest q
  rc : RcAt wi (w.heap.size + 1 + 1) x
  up : Upd [] [] w wi
  ok : x.ok
theorem RdSt.step {w wi wj : World} {r r' : ByteArray} {q q' : Bool} {x : Rc} (h : RdSt w wi r q x) (u : Upd [w.heap.size + 1] [] wi wj) (d : RdAt wj (w.heap.size + 1) r' q') : RdSt w wj r' q' x :=
  ⟨row_updG h.rz u (by omega), d, row_updG h.rc u (by omega), h.up.own2 u (by omega), h.ok⟩
theorem RdSt.cell {w wi : World} {r : ByteArray} {q : Bool} {x y : Rc} (h : RdSt w wi r q x) (j : Nat) (v : Value) (hy : RcAt (wi.setCell ⟨w.heap.size + 1 + 1, j, none⟩ v) (w.heap.size + 1 + 1) y) (ho : y.ok) : RdSt w (wi.setCell ⟨w.heap.size + 1 + 1, j, none⟩ v) r q y :=
  ⟨row_otherE h.rz (by omega) v, row_otherE h.rd (by omega) v, hy, h.up.setNew (p := ⟨w.heap.size + 1 + 1, j, none⟩) (by show w.heap.size ≤ w.heap.size + 1 + 1; omega) v, ho⟩
theorem RdSt.cells {w wi : World} {r : ByteArray} {q : Bool} {x y : Rc} (h : RdSt w wi r q x) (j : Nat) (V : List Value) (hy : RcAt (wi.setCells (w.heap.size + 1 + 1) j V) (w.heap.size + 1 + 1) y) (ho : y.ok) : RdSt w (wi.setCells (w.heap.size + 1 + 1) j V) r q y :=
  ⟨row_setCellsO (by omega) V j _ h.rz, row_setCellsO (by omega) V j _ h.rd, hy, Upd.setCellsNew (by omega) V j _ h.up, ho⟩
theorem RdSt.start (w : World) (s : ByteArray) : RdSt w (((w.alloc (.cells Tryz.zeroCells185 185)).alloc (.cells #[.string s, .bool false] 249)).alloc (.cells Tryz.zeroCells185 185)) s false Rc.zero := by
  have hz : Tryz.zeroCells185 = (rcV Rc.zero).toArray := rfl
  refine ⟨?_, ?_, ?_, (((Upd.refl _ _).alloc _).alloc _).alloc _, Rc.zero_ok⟩
  · rw [hz]
    exact row_updH (heap_alloc_new w _) (((Upd.refl [] _).alloc _).alloc _)
  · have h := row_updH (heap_alloc_new (w.alloc (.cells Tryz.zeroCells185 185)) (.cells #[.string s, .bool false] 249)) ((Upd.refl [] _).alloc (.cells Tryz.zeroCells185 185))
    rw [World.size_alloc] at h
    exact h
  · have h := heap_alloc_new ((w.alloc (.cells Tryz.zeroCells185 185)).alloc (.cells #[.string s, .bool false] 249)) (.cells Tryz.zeroCells185 185)
    rw [World.size_alloc, World.size_alloc] at h
    unfold RcAt
    rw [← hz]
    exact h

theorem wpList_store_midAs {P : Program} {ops : Array Oper} {rest : List Oper} {op : Oper} {a : Act} {w : World} {Q : Exit → Act → World → Prop} (hgd : op.guard = none) (ty : TypeId) (x y : Operand) (ho : op.op = .store ty x y)
    (b o : Nat) (cells : Array Value) (hx : a.eval x = .pointer (some ⟨b, o, none⟩)) (hy : a.eval y = .agg cells)
    (ht : w.there b o cells.size) (hi : (P.info? ty).map (·.size) = some cells.size) (h1 : cells.all (·.oneCell') = true) (w' : World) (hw : w.setCells b o cells.toList = w')
    (h : wpList P ops Q rest (a.put op.dst undef) w') : wpList P ops Q (op :: rest) a w := by
  subst hw
  exact wpList_store_mid hgd ty x y ho b o cells hx hy ht hi h1 h
theorem wpList_load_want {P : Program} {ops : Array Oper} {rest : List Oper} {o : Oper} {a : Act} {w : World} {Q : Exit → Act → World → Prop} (hw : Region.wanted o (yielded ops a.tmps) = true) (ty : TypeId) (x : Operand) (ho : o.op = .load ty x)
    (b : Nat) (hx : a.eval x = .pointer (some ⟨b, 0, none⟩)) (C : Array Value) (hr : (Instr.loadAt ty (.pointer (some ⟨b, 0, none⟩))).run P w = .ok (.agg C) w)
    (h : wpList P ops Q rest (a.put o.dst (.agg C)) w) : wpList P ops Q (o :: rest) a w := by
  refine wpList_step fun K hK => ?_
  rw [if_pos hw]
  unfold Oper.wp execOp
  simp only [ho, hx, Sem.run_bind, hr, Result.andThen_ok]
  exact hK _ _ h
end Go.Proofs.YtcimcodljjcmgaaGreatDoor
