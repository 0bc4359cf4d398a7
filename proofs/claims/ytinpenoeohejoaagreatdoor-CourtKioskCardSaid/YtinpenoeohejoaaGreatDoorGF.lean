/- strings.Builder's WriteString, out of what strings.Join's laying names. entry.reader: until, word, number. entry.reader: number, sig. entry.reader: hash. entry.Read: what it keeps. entry.Read: the walk. Builders: what stays, what grows; receipts one behind the other. Receipts and hashes compared. Receipts: new blocks, rows, append. A kiosk, plainly: what it keeps, and what its records say. -/
import Derived.Test.YtinpenoeohejoaaGreatDoorGE
import Derived.ChangeKeysEq
namespace Go.Proofs.YtinpenoeohejoaaGreatDoor
open Go.RowKit
set_option maxRecDepth 100000

theorem wstr_any (B b : Nat) (bs : List Value) (s : ByteArray) (w : World) (h : Lib.IsBuilder 166 5 B b bs w) (hlen : bs.length + s.size ≤ 140737488355328) (hBw : B ≤ w.heap.size) :
    Calls Tryz.prog 100 #[.pointer (some ⟨b, 0, none⟩), .string s] w fun e w' => e = .returned (.tuple #[.int .i64 s.size, .nilIface]) ∧ (Lib.BuilderAt 166 5 B b (.pointer (some ⟨b, 0, none⟩)) (bs ++ Lib.strCells s) w' ∧ Below B w w') :=
  Any.Builder_WriteString { Tryz.lays156 with } Tryz.Builder_Extra_156 B b bs s w h hlen hBw
end Go.Proofs.YtinpenoeohejoaaGreatDoor

namespace Go.Proofs.YtinpenoeohejoaaGreatDoor
open Go.RowKit
set_option maxRecDepth 100000

def RdAt (w : World) (g : Nat) (rest : ByteArray) (wrong : Bool) : Prop := w.heap[g]? = some (.cells #[.string rest, .bool wrong] 219 (0, 0))
theorem RdAt.upd {w w' : World} {g : Nat} {r : ByteArray} {q : Bool} (h : RdAt w g r q) (u : Upd [] [] w w') : RdAt w' g r q := row_updH h u
theorem RdAt.cells {w : World} {g : Nat} {r : ByteArray} {q : Bool} (h : RdAt w g r q) : w.cell? ⟨g, 0, none⟩ = some (.string r) ∧ w.cell? ⟨g, 1, none⟩ = some (.bool q) ∧ w.frozen? ⟨g, 0, none⟩ = false ∧ w.frozen? ⟨g, 1, none⟩ = false :=
  ⟨by rw [cell_of_row _ _ _ _ _ _ h]; rfl, by rw [cell_of_row _ _ _ _ _ _ h]; rfl, frozen_of_row _ _ _ _ _ h, frozen_of_row _ _ _ _ _ h⟩
theorem RdAt.set {w : World} {g : Nat} {r : ByteArray} {q : Bool} (h : RdAt w g r q) (r' : ByteArray) (q' : Bool) : RdAt ((w.setCell ⟨g, 0, none⟩ (.string r')).setCell ⟨g, 1, none⟩ (.bool q')) g r' q' :=
  heap_setCell_same _ g 1 _ _ (.bool q') (heap_setCell_same w g 0 _ _ (.string r') h)
theorem RdAt.setQ {w : World} {g : Nat} {r : ByteArray} {q : Bool} (h : RdAt w g r q) (q' : Bool) : RdAt (w.setCell ⟨g, 1, none⟩ (.bool q')) g r q' :=
  heap_setCell_same _ g 1 _ _ (.bool q') h
theorem cutByte_any (s : ByteArray) (c : UInt8) (w : World) (hs : s.size ≤ 4000000000) (htab : Tabs w) :
    Calls Tryz.prog 61 #[.string s, .string (ByteArray.mk #[c])] w (fun e w' => ∃ (l r : ByteArray) (b : Bool), Hid (bs l = (Lib.cut (bs s) [c]).1) ∧ Hid (bs r = (Lib.cut (bs s) [c]).2.1) ∧ Hid (b = (Lib.cut (bs s) [c]).2.2) ∧ l.size ≤ s.size ∧ r.size ≤ s.size ∧ e = .returned (.tuple #[.string l, .string r, .bool b]) ∧ Upd [] [] w w') := by
  obtain ⟨m, hm⟩ := htab.mc
  refine (Tryz.strings_Cut s (ByteArray.mk #[c]) m w (by omega) hm).mono ?_
  rintro e w' ⟨rfl, n, rfl⟩
  have h : (Lib.cut (bs s) [c]).1.length ≤ s.size ∧ (Lib.cut (bs s) [c]).2.1.length ≤ s.size := by
    unfold Lib.cut
    split
    · simp [bs_length]; omega
    · simp [bs_length]
  exact ⟨⟨(Lib.cut (bs s) [c]).1.toArray⟩, ⟨(Lib.cut (bs s) [c]).2.1.toArray⟩, _, rfl, rfl, rfl, h.1, h.2, rfl, (Upd.refl _ _).drewN n⟩
def MkUntil (c : UInt8) (g : Nat) (rest : ByteArray) (wrong : Bool) (w : World) (e : Ending) (w' : World) : Prop :=
  ∃ (l r : ByteArray) (q : Bool), Hid (∀ A R, c ∉ A → bs rest = A ++ c :: R → bs l = A ∧ bs r = R ∧ q = wrong) ∧ l.size ≤ rest.size ∧ r.size ≤ rest.size ∧ e = .returned (.string l) ∧ Hid (RdAt w' g r q) ∧ Upd [g] [] w w'
theorem Upd.wide {S : List Nat} {a b : World} (h : Upd [] [] a b) : Upd S [] a b := ⟨h.os, h.tape, h.output, h.size, fun i hi _ => h.block i hi (by simp), fun _ hk => absurd hk (by simp)⟩

set_option maxHeartbeats 1000000 in
theorem until_any (g : Nat) (rest : ByteArray) (wrong : Bool) (c : UInt8) (w : World) (hr : RdAt w g rest wrong) (hs : rest.size ≤ 4000000000) (htab : Tabs w) :
    Calls Tryz.prog 196 #[.pointer (some ⟨g, 0, none⟩), .string (ByteArray.mk #[c])] w (MkUntil c g rest wrong w) := by
  obtain ⟨k0, k1, f0, f1⟩ := hr.cells
  have HR := Lib.hid hr
  clear hr
  go_enter Tryz.func196, Tryz.ntmps196
  go_wp2_with fail
  refine (cutByte_any rest c w hs htab).mono ?_
  rintro e w1 ⟨l, r, b, HL, HRR, HB, hl, hrr, rfl, hu⟩
  have h1 := HR.out.upd hu
  clear k0 k1 f0 f1
  obtain ⟨k0, k1, f0, f1⟩ := h1.cells
  have HH : Hid (∀ A R, c ∉ A → bs rest = A ++ c :: R → bs l = A ∧ bs r = R ∧ b = true) := by
    intro A R hA e
    rw [HL.out, HRR.out, HB.out, e, cut_hit c A R hA]
    exact ⟨rfl, rfl, rfl⟩
  have HU := Lib.hid (Upd.wide (S := [g]) hu)
  cases wrong <;> cases b
  · have H2 := Lib.hid (h1.set r true)
    clear h1
    go_wp2_with fail
    go_ret
    exact ⟨l, r, true, fun A R hA e => (by have := (HH.out A R hA e).2.2; cases this), hl, hrr, rfl, H2.out, (HU.out.setCell (p := ⟨g, 0, none⟩) (by simp) _).setCell (p := ⟨g, 1, none⟩) (by simp) _⟩
  · have H2 := Lib.hid (h1.set r false)
    clear h1
    go_wp2_with fail
    go_ret
    exact ⟨l, r, false, fun A R hA e => ⟨(HH.out A R hA e).1, (HH.out A R hA e).2.1, rfl⟩, hl, hrr, rfl, H2.out, (HU.out.setCell (p := ⟨g, 0, none⟩) (by simp) _).setCell (p := ⟨g, 1, none⟩) (by simp) _⟩
  · have H2 := Lib.hid (h1.set r true)
    clear h1
    go_wp2_with fail
    go_ret
    exact ⟨l, r, true, fun A R hA e => ⟨(HH.out A R hA e).1, (HH.out A R hA e).2.1, rfl⟩, hl, hrr, rfl, H2.out, (HU.out.setCell (p := ⟨g, 0, none⟩) (by simp) _).setCell (p := ⟨g, 1, none⟩) (by simp) _⟩
  · have H2 := Lib.hid (h1.set r true)
    clear h1
    go_wp2_with fail
    go_ret
    exact ⟨l, r, true, fun A R hA e => ⟨(HH.out A R hA e).1, (HH.out A R hA e).2.1, rfl⟩, hl, hrr, rfl, H2.out, (HU.out.setCell (p := ⟨g, 0, none⟩) (by simp) _).setCell (p := ⟨g, 1, none⟩) (by simp) _⟩

theorem word_any (g : Nat) (rest : ByteArray) (wrong : Bool) (w : World) (hr : RdAt w g rest wrong) (hs : rest.size ≤ 4000000000) (htab : Tabs w) :
    Calls Tryz.prog 149 #[.pointer (some ⟨g, 0, none⟩)] w (MkUntil 32 g rest wrong w) := by
  go_enter Tryz.func149, Tryz.ntmps149
  go_wp2_with fail
  refine (until_any g rest wrong 32 w hr hs htab).mono ?_
  rintro e w1 ⟨l, r, q, HH, hl, hrr, rfl, HR, hu⟩
  go_wp2_with fail
  go_ret
  exact ⟨l, r, q, HH, hl, hrr, rfl, HR, hu⟩
end Go.Proofs.YtinpenoeohejoaaGreatDoor

namespace Go.Proofs.YtinpenoeohejoaaGreatDoor
open Go.RowKit
set_option maxRecDepth 100000

theorem Upd.own2 {g : Nat} {a b c : World} (h : Upd [] [] a b) (k : Upd [g] [] b c) (hB : a.heap.size ≤ g) : Upd [] [] a c :=
  ⟨k.os.trans h.os, k.tape.trans h.tape, k.output.trans h.output, Nat.le_trans h.size k.size, fun i hi _ => (k.block i (Nat.lt_of_lt_of_le hi h.size) (by simp; omega)).trans (h.block i hi (by simp)), fun _ hk => absurd hk (by simp)⟩
theorem Upd.then2 {g : Nat} {a b c : World} (h : Upd [g] [] a b) (k : Upd [] [] b c) : Upd [g] [] a c :=
  ⟨k.os.trans h.os, k.tape.trans h.tape, k.output.trans h.output, Nat.le_trans h.size k.size, fun i hi hn => (k.block i (Nat.lt_of_lt_of_le hi h.size) (by simp)).trans (h.block i hi hn), fun _ hk => absurd hk (by simp)⟩
theorem Upd.first2 {g : Nat} {a b c : World} (h : Upd [] [] a b) (k : Upd [g] [] b c) : Upd [g] [] a c :=
  ⟨k.os.trans h.os, k.tape.trans h.tape, k.output.trans h.output, Nat.le_trans h.size k.size, fun i hi hn => (k.block i (Nat.lt_of_lt_of_le hi h.size) hn).trans (h.block i hi (by simp)), fun _ hk => absurd hk (by simp)⟩
theorem row_updG {w w' : World} {B g : Nat} {o : Obj} (h : w.heap[B]? = some o) (u : Upd [g] [] w w') (n : B ≠ g) : w'.heap[B]? = some o := by
  rw [u.block _ (Array.getElem?_eq_some_iff.1 h).1 (by simpa using n)]; exact h
theorem Upd.setOld {g : Nat} {a b : World} (h : Upd [g] [] a b) (j : Nat) (v : Value) : Upd [g] [] a (b.setCell ⟨g, j, none⟩ v) := h.setCell (p := ⟨g, j, none⟩) (by simp) v
def MkRdNum (g : Nat) (rest : ByteArray) (wrong : Bool) (w : World) (e : Ending) (w' : World) : Prop :=
  ∃ (n : Int) (r : ByteArray) (q : Bool), Hid (∀ k R, i64in k → bs rest = Lib.itoa k ++ 32 :: R → n = k ∧ bs r = R ∧ q = wrong) ∧ i64in n ∧ r.size ≤ rest.size ∧ e = .returned (.int .i64 n) ∧ Hid (RdAt w' g r q) ∧ Upd [g] [] w w'

set_option maxHeartbeats 1000000 in
theorem rdNum_any (g : Nat) (rest : ByteArray) (wrong : Bool) (w W0 : World) (h0 : Upd [] [] W0 w) (hg : W0.heap.size ≤ g) (hr : RdAt w g rest wrong) (hs : rest.size ≤ 4000000000) (htab : Tabs W0) :
    Calls Tryz.prog 150 #[.pointer (some ⟨g, 0, none⟩)] w (MkRdNum g rest wrong w) := by
  go_enter Tryz.func150, Tryz.ntmps150
  go_wp2_with fail
  refine (word_any g rest wrong w hr hs (htab.upd h0)).mono ?_
  rintro e w1 ⟨l, r, q, HH, hl, hrr, rfl, HR, hu⟩
  have h1 := h0.own2 hu hg
  have HU := Lib.hid hu
  clear hu hr
  go_wp2_with fail
  by_cases hv : ∃ v, Lib.atoiAll (bs l) = .ok v
  · obtain ⟨v, hv⟩ := hv
    have hvi : i64in v := Lib.atoiAll_bounds hv
    have HV := Lib.hid hv
    clear hv
    refine (atoi_ok l v w1 (by omega) HV.out).mono ?_
    rintro e w2 ⟨rfl, hu2⟩
    have r2 := HR.out.upd hu2
    have HU2 := Lib.hid (HU.out.then2 hu2)
    obtain ⟨k0, k1, f0, f1⟩ := r2.cells
    have HF : Hid (∀ k R, i64in k → bs rest = Lib.itoa k ++ 32 :: R → v = k ∧ bs r = R ∧ q = wrong) := by
      intro k R hk e
      obtain ⟨e1, e2, e3⟩ := HH.out _ R (itoa_no32 k) e
      refine ⟨?_, e2, e3⟩
      have h := HV.out
      rw [e1, atoi_itoa k hk] at h
      injection h with h
      exact h.symm
    clear hu2 h1
    cases q
    · have R3 := Lib.hid (r2.setQ false)
      clear r2
      go_wp2_with fail
      go_ret
      exact ⟨v, r, false, HF, hvi, hrr, rfl, R3, HU2.out.setOld 1 _⟩
    · have R3 := Lib.hid (r2.setQ true)
      clear r2
      go_wp2_with fail
      go_ret
      exact ⟨v, r, true, HF, hvi, hrr, rfl, R3, HU2.out.setOld 1 _⟩
  · have hv' : ∀ v, Lib.atoiAll (bs l) ≠ .ok v := fun v e => hv ⟨v, e⟩
    have HV := Lib.hid hv'
    clear hv hv'
    refine (atoi_bad l w1 (by omega) HV.out (htab.upd h1)).mono ?_
    rintro e w2 ⟨v, N, rfl, hvi, hu2⟩
    have r2 := HR.out.upd hu2
    have HU2 := Lib.hid (HU.out.then2 hu2)
    obtain ⟨k0, k1, f0, f1⟩ := r2.cells
    have HF : Hid (∀ k R, i64in k → bs rest = Lib.itoa k ++ 32 :: R → v = k ∧ bs r = R ∧ true = wrong) := by
      intro k R hk e
      obtain ⟨e1, e2, e3⟩ := HH.out _ R (itoa_no32 k) e
      exact absurd (by rw [e1]; exact atoi_itoa k hk) (HV.out k)
    have R3 := Lib.hid (r2.setQ true)
    clear hu2 h1 r2
    cases q
    · go_wp2_with fail
      go_ret
      exact ⟨v, r, true, HF, hvi, hrr, rfl, R3, HU2.out.setOld 1 _⟩
    · go_wp2_with fail
      go_ret
      exact ⟨v, r, true, HF, hvi, hrr, rfl, R3, HU2.out.setOld 1 _⟩
def MkSigW (g : Nat) (rest : ByteArray) (wrong : Bool) (w : World) (e : Ending) (w' : World) : Prop :=
  ∃ (a b : Int) (r : ByteArray) (q : Bool), Hid (∀ x y R, i64in x → i64in y → bs rest = pairL x y ++ 32 :: R → a = x ∧ b = y ∧ bs r = R ∧ q = wrong) ∧ i64in a ∧ i64in b ∧ r.size ≤ rest.size ∧ e = .returned (.agg #[.int .i64 a, .int .i64 b]) ∧ Hid (RdAt w' g r q) ∧ Upd [g] [] w w'

set_option maxHeartbeats 1000000 in
theorem sigW_any (g : Nat) (rest : ByteArray) (wrong : Bool) (w W0 : World) (h0 : Upd [] [] W0 w) (hg : W0.heap.size ≤ g) (hr : RdAt w g rest wrong) (hs : rest.size ≤ 4000000000) (htab : Tabs W0) :
    Calls Tryz.prog 152 #[.pointer (some ⟨g, 0, none⟩)] w (MkSigW g rest wrong w) := by
  have s0 := SigAt.start w 0 0
  have r0 := hr.upd s0.up
  have hgw : g < w.heap.size := (Array.getElem?_eq_some_iff.1 hr).1
  go_enter Tryz.func152, Tryz.ntmps152
  go_wp2_with fail
  refine (word_any g rest wrong _ r0 hs (htab.upd (h0.trans s0.up))).mono ?_
  rintro e w1 ⟨l, r, q, HH, hl, hrr, rfl, HR, hu⟩
  have h1 := (h0.trans s0.up).own2 hu hg
  have HU := Lib.hid (s0.up.first2 hu)
  have z1 := row_updG s0.row hu (by omega)
  clear hr r0 hu
  go_wp2_with fail
  refine (read_any l w1 (by omega) (htab.upd h1)).mono ?_
  rintro e w2 ⟨a, b, ok, HV, ha, hb, rfl, hu2⟩
  have r2 := HR.out.upd hu2
  have z2 := row_updH z1 hu2
  have s2 := SigAt.start w2 a b
  have r3 := r2.upd s2.up
  have z3 := row_updH z2 s2.up
  have HU3 := Lib.hid ((HU.out.then2 hu2).then2 s2.up)
  have hg3 : w.heap.size < w2.heap.size := by
    have := (Array.getElem?_eq_some_iff.1 z2).1
    exact this
  have HF : Hid (∀ x y R, i64in x → i64in y → bs rest = pairL x y ++ 32 :: R → a = x ∧ b = y ∧ bs r = R ∧ q = wrong ∧ ok = true) := by
    intro x y R hx hy e
    obtain ⟨e1, e2, e3⟩ := HH.out _ R (pairL_no32 x y) e
    have h := HV.out
    rw [e1, readV, readL_pair hx hy] at h
    simp only [Prod.mk.injEq] at h
    exact ⟨h.1.symm, h.2.1.symm, e2, e3, h.2.2.symm⟩
  obtain ⟨k0, k1, f0, f1⟩ := r3.cells
  obtain ⟨c0, c1⟩ := s2.cells
  have y0 : (w2.alloc (.cells #[.int .i64 a, .int .i64 b] 39)).cell? ⟨w.heap.size, 0, none⟩ = some (.int .i64 0) := by rw [cell_of_row _ _ _ _ _ _ z3]; rfl
  have y1 : (w2.alloc (.cells #[.int .i64 a, .int .i64 b] 39)).cell? ⟨w.heap.size, 1, none⟩ = some (.int .i64 0) := by rw [cell_of_row _ _ _ _ _ _ z3]; rfl
  have y2 : (w2.alloc (.cells #[.int .i64 a, .int .i64 b] 39)).frozen? ⟨w.heap.size, 0, none⟩ = false := frozen_of_row _ _ _ _ _ z3
  have y3 : (w2.alloc (.cells #[.int .i64 a, .int .i64 b] 39)).frozen? ⟨w.heap.size, 1, none⟩ = false := frozen_of_row _ _ _ _ _ z3
  have n0 : ¬ g = w.heap.size := by omega
  have n1 : ¬ w.heap.size = g := by omega
  have n2 : ¬ g = w2.heap.size := by omega
  have n3 : ¬ w2.heap.size = g := by omega
  have hl2 : ¬ w.heap.size = w2.heap.size := by omega
  have hl3 : ¬ w2.heap.size = w.heap.size := by omega
  clear hu2 h1 z1 z2 r2
  cases q <;> cases ok
  all_goals
    go_wp2_with fail
    refine bodyPost_ret (v := .agg #[.int .i64 a, .int .i64 b]) (by simp [results, Tryz.results152, go_sem, y0, y1]) rfl ⟨a, b, r, _, ?_, ha, hb, by omega, rfl, row_otherE (row_otherE (r3.setQ _) n0 _) n0 _, ((HU3.out.setOld 1 _).setNew (p := ⟨w.heap.size, 0, none⟩) (Nat.le_refl _) _).setNew (p := ⟨w.heap.size, 1, none⟩) (Nat.le_refl _) _⟩
    intro x y R hx hy e
    obtain ⟨p1, p2, p3, p4, p5⟩ := HF.out x y R hx hy e
    first
      | exact absurd p5 (by decide)
      | exact ⟨p1, p2, p3, p4⟩
end Go.Proofs.YtinpenoeohejoaaGreatDoor

namespace Go.Proofs.YtinpenoeohejoaaGreatDoor
open Go.RowKit
set_option maxRecDepth 100000

def MkHashW (g : Nat) (rest : ByteArray) (wrong : Bool) (w : World) (e : Ending) (w' : World) : Prop :=
  ∃ (h : List UInt8) (r : ByteArray) (q : Bool), Hid (∀ k R, k.length = 32 → bs rest = hexL k ++ 32 :: R → h = k ∧ bs r = R ∧ q = wrong) ∧ h.length = 32 ∧ r.size ≤ rest.size ∧ e = .returned (.agg (byteVals h).toArray) ∧ Hid (RdAt w' g r q) ∧ Upd [g] [] w w'
theorem row_setRowO {w : World} {g L : Nat} {o : Obj} (h : w.heap[g]? = some o) (n : g ≠ L) (cs : Array Value) : (w.setRow L cs).heap[g]? = some o := by
  unfold World.setRow
  rw [Array.getElem?_modify, if_neg (fun e => n e.symm)]
  exact h
theorem wpList_store_rowAs {P : Program} {ops : Array Oper} {rest : List Oper} {o : Oper} {a : Act} {w : World} {Q : Exit → Act → World → Prop} (hgd : o.guard = none) (ty : TypeId) (x y : Operand) (ho : o.op = .store ty x y)
    (g : Nat) (cells : Array Value) (hx : a.eval x = .pointer (some ⟨g, 0, none⟩)) (hy : a.eval y = .agg cells)
    (t : TypeId) (old : Array Value) (hg : w.heap[g]? = some (.cells old t (0, 0))) (hi : (P.info? ty).map (·.size) = some cells.size)
    (hold : old.size = cells.size) (h1 : cells.all (·.oneCell') = true) (w' : World) (hw : w.setRow g cells = w')
    (h : wpList P ops Q rest (a.put o.dst undef) w') : wpList P ops Q (o :: rest) a w := by
  subst hw
  exact wpList_store_row hgd ty x y ho g cells hx hy t old hg hi hold h1 h

set_option maxHeartbeats 1000000 in
theorem hashW_any (g : Nat) (rest : ByteArray) (wrong : Bool) (w W0 : World) (h0 : Upd [] [] W0 w) (_hg : W0.heap.size ≤ g) (hr : RdAt w g rest wrong) (hs : rest.size ≤ 4000000000) (htab : Tabs W0) :
    Calls Tryz.prog 151 #[.pointer (some ⟨g, 0, none⟩)] w (MkHashW g rest wrong w) := by
  have a0 : AB 37 (w.alloc (.cells (byteVals zero32).toArray 37)) w.heap.size zero32 := heap_alloc_new _ _
  have u0 : Upd [] [] w (w.alloc (.cells (byteVals zero32).toArray 37)) := (Upd.refl _ _).alloc _
  have r0 := hr.upd u0
  have hgw : g < w.heap.size := (Array.getElem?_eq_some_iff.1 hr).1
  have hz : zero32.length = 32 := by simp [zero32]
  have HZ := Lib.hid hz
  clear hz
  go_enter Tryz.func151, Tryz.ntmps151
  go_wp2_with fail
  refine (word_any g rest wrong _ r0 hs (htab.upd (h0.trans u0))).mono ?_
  rintro e w1 ⟨l, r, q, HH, hl, hrr, rfl, HR, hu⟩
  have HU := Lib.hid (u0.first2 hu)
  have a1 : AB 37 w1 w.heap.size zero32 := row_updG a0 hu (by omega)
  clear hr r0 hu a0 u0
  go_wp2_with fail
  refine (hexRead_any l w1).mono ?_
  rintro e w2 ⟨h, ok, HO, rfl, hu2⟩
  have hh := HO.out.1
  have HL := Lib.hid hh
  have r2 := HR.out.upd hu2
  have a2 := a1.upd hu2
  have HU2 := Lib.hid (HU.out.then2 hu2)
  have hg3 : w.heap.size < w2.heap.size := (Array.getElem?_eq_some_iff.1 a2).1
  have HF : Hid (∀ k R, k.length = 32 → bs rest = hexL k ++ 32 :: R → h = k ∧ bs r = R ∧ q = wrong ∧ ok = true) := by
    intro k R hk e
    obtain ⟨e1, e2, e3⟩ := HH.out _ R (hexL_no32 k) e
    have ho := HO.out
    rw [e1] at ho
    obtain ⟨p1, p2⟩ := hexOk_hex hk ho
    exact ⟨p1, e2, e3, p2⟩
  have z2 : Hid (AB 37 (w2.alloc (.cells (byteVals zero32).toArray 37)) w2.heap.size zero32) := heap_alloc_new _ _
  have u3 : Upd [] [] w2 ((w2.alloc (.cells (byteVals zero32).toArray 37)).setRow w2.heap.size (byteVals h).toArray) := ((Upd.refl _ _).alloc _).setRowNew (Nat.le_refl _) _
  have b3 := z2.out.setRow h
  obtain ⟨w3, hw3⟩ : ∃ w3, (w2.alloc (.cells (byteVals zero32).toArray 37)).setRow w2.heap.size (byteVals h).toArray = w3 := ⟨_, rfl⟩
  rw [hw3] at u3 b3
  have HW3 := Lib.hid hw3
  have r3 := r2.upd u3
  have a3 := a2.upd u3
  have HU3 := Lib.hid (HU2.out.then2 u3)
  obtain ⟨k0, k1, f0, f1⟩ := r3.cells
  have n0 : g ≠ w.heap.size := by omega
  have n1 : w.heap.size ≠ g := by omega
  have n3 : w2.heap.size ≠ g := by omega
  clear hw3
  clear hu2 a1 a2 r2 u3 hh
  cases q <;> cases ok
  all_goals
    go_wp2_with (first | (refine wpList_store_rowAs rfl 37 _ _ rfl w2.heap.size (byteVals h).toArray rfl rfl _ _ z2.out (hashInfo HL.out) (by simp [byteVals, HL.out, HZ.out]) (hashOne _) w3 HW3.out ?_) | (refine wpList_load_row rfl 37 _ rfl w2.heap.size rfl _ (byteVals h).toArray _ _ (AB.other b3 n3 _) Tryz.underlying37 rfl (hashInfo HL.out) ?_) | (refine wpList_store_row rfl 37 _ _ rfl w.heap.size (byteVals h).toArray rfl rfl _ _ (AB.other a3 n1 _) (hashInfo HL.out) (by simp [byteVals, HL.out, HZ.out]) (hashOne _) ?_))
    refine bodyPost_ret (results_cell_row rfl _ _ w.heap.size _ (byteVals h).toArray _ _ rfl ((AB.other a3 n1 _).setRow h) Tryz.underlying37 rfl (hashInfo HL.out)) rfl ⟨h, r, _, ?_, HL.out, by omega, rfl, row_setRowO (r3.setQ _) n0 _, (HU3.out.setOld 1 _).setRowNew (Nat.le_refl _) _⟩
    intro k R hk e
    obtain ⟨p1, p2, p3, p4⟩ := HF.out k R hk e
    first
      | exact absurd p4 (by decide)
      | exact ⟨p1, p2, p3⟩
end Go.Proofs.YtinpenoeohejoaaGreatDoor

namespace Go.Proofs.YtinpenoeohejoaaGreatDoor
open Go.RowKit
set_option maxRecDepth 100000

theorem row_setCells {g : Nat} {T : TypeId} : ∀ (V : List Value) (o : Nat) (w : World) (A B C : List Value), w.heap[g]? = some (.cells (A ++ (B ++ C)).toArray T (0, 0)) → A.length = o → B.length = V.length → (w.setCells g o V).heap[g]? = some (.cells (A ++ (V ++ C)).toArray T (0, 0))
  | [], o, w, A, B, C, h, hA, hB => by
    have : B = [] := List.eq_nil_of_length_eq_zero (by simpa using hB)
    subst this
    exact h
  | v :: V, o, w, A, [], C, h, hA, hB => by simp at hB
  | v :: V, o, w, A, b :: B, C, h, hA, hB => by
    have h1 := heap_setCell_same w g o _ _ v h
    have e : ((A ++ (b :: B ++ C)).toArray.setIfInBounds o v) = ((A ++ [v]) ++ (B ++ C)).toArray := by
      apply Array.ext'
      rw [Array.toList_setIfInBounds]
      show (A ++ (b :: B ++ C)).set o v = (A ++ [v]) ++ (B ++ C)
      rw [List.set_append_right _ _ (by omega), ← hA, Nat.sub_self]
      simp
    rw [e] at h1
    have h2 := row_setCells V (o + 1) (w.setCell ⟨g, o, none⟩ v) (A ++ [v]) B C h1 (by simp; omega) (by simpa using hB)
    rw [World.setCells, h2]
    simp
theorem Upd.setCellsNew {S S' : List Nat} {a : World} {g : Nat} (hg : a.heap.size ≤ g) : ∀ (V : List Value) (o : Nat) (b : World), Upd S S' a b → Upd S S' a (b.setCells g o V)
  | [], _, _, h => h
  | v :: V, o, b, h => by
    rw [World.setCells]
    exact Upd.setCellsNew hg V (o + 1) _ (h.setNew (p := ⟨g, o, none⟩) hg v)
theorem row_setCellsO {g L : Nat} {ob : Obj} (n : g ≠ L) : ∀ (V : List Value) (o : Nat) (w : World), w.heap[g]? = some ob → (w.setCells L o V).heap[g]? = some ob
  | [], _, _, h => h
  | v :: V, o, w, h => by
    rw [World.setCells]
    exact row_setCellsO n V (o + 1) _ (row_otherE h n v)
theorem RcAt.there {w : World} {g : Nat} {x : Rc} (h : RcAt w g x) (hx : x.ok) (o n : Nat) (hn : o + n ≤ 102) : w.there g o n := fun j hj => by
  refine ⟨?_, h.frozen _⟩
  rw [h.cell, List.getElem?_eq_getElem (by rw [rcV_len hx]; omega)]
  rfl
theorem RcAt.kiosk {w : World} {g : Nat} {x : Rc} (h : RcAt w g x) (k : Int) : RcAt (w.setCell ⟨g, 0, none⟩ (.int .i64 k)) g { x with kiosk := k } := heap_setCell_same w g 0 _ _ (.int .i64 k) h
theorem RcAt.serial {w : World} {g : Nat} {x : Rc} (h : RcAt w g x) (k : Int) : RcAt (w.setCell ⟨g, 1, none⟩ (.int .i64 k)) g { x with serial := k } := heap_setCell_same w g 1 _ _ (.int .i64 k) h
theorem RcAt.draw {w : World} {g : Nat} {x : Rc} (h : RcAt w g x) (k : ByteArray) : RcAt (w.setCell ⟨g, 2, none⟩ (.string k)) g { x with draw := k } := heap_setCell_same w g 2 _ _ (.string k) h
theorem RcAt.seen {w : World} {g : Nat} {x : Rc} (h : RcAt w g x) (k : Int) : RcAt (w.setCell ⟨g, 3, none⟩ (.int .i64 k)) g { x with seen := k } := heap_setCell_same w g 3 _ _ (.int .i64 k) h
theorem RcAt.out {w : World} {g : Nat} {x : Rc} (h : RcAt w g x) (hx : x.ok) {k : List UInt8} (hk : k.length = 32) : RcAt (w.setCells g 4 (byteVals k)) g { x with out := k } :=
  row_setCells (byteVals k) 4 w [.int .i64 x.kiosk, .int .i64 x.serial, .string x.draw, .int .i64 x.seen] (byteVals x.out) _ h rfl (by rw [byteVals_length, byteVals_length, hx.2.2.2.1, hk])
theorem RcAt.hash {w : World} {g : Nat} {x : Rc} (h : RcAt w g x) (hx : x.ok) {k : List UInt8} (hk : k.length = 32) : RcAt (w.setCells g 36 (byteVals k)) g { x with hash := k } := by
  have e : ∀ k : List UInt8, rcV { x with hash := k } = ([.int .i64 x.kiosk, .int .i64 x.serial, .string x.draw, .int .i64 x.seen] ++ byteVals x.out) ++ (byteVals k ++ (byteVals x.prev ++ [.int .i64 x.r, .int .i64 x.s])) := by intro k; simp [rcV]
  have h' := h
  unfold RcAt at h' ⊢
  rw [show rcV x = rcV { x with hash := x.hash } from rfl, e] at h'
  rw [e]
  exact row_setCells (byteVals k) 36 w _ _ _ h' (by simp [byteVals_length, hx.2.2.2.1]) (by rw [byteVals_length, byteVals_length, hx.2.2.2.2.1, hk])
theorem RcAt.prev {w : World} {g : Nat} {x : Rc} (h : RcAt w g x) (hx : x.ok) {k : List UInt8} (hk : k.length = 32) : RcAt (w.setCells g 68 (byteVals k)) g { x with prev := k } := by
  have e : ∀ k : List UInt8, rcV { x with prev := k } = ([.int .i64 x.kiosk, .int .i64 x.serial, .string x.draw, .int .i64 x.seen] ++ byteVals x.out ++ byteVals x.hash) ++ (byteVals k ++ [.int .i64 x.r, .int .i64 x.s]) := by intro k; simp [rcV]
  have h' := h
  unfold RcAt at h' ⊢
  rw [show rcV x = rcV { x with prev := x.prev } from rfl, e] at h'
  rw [e]
  exact row_setCells (byteVals k) 68 w _ _ _ h' (by simp [byteVals_length, hx.2.2.2.1, hx.2.2.2.2.1]) (by rw [byteVals_length, byteVals_length, hx.2.2.2.2.2.1, hk])

theorem chainR {s r1 r2 r3 r4 r5 r6 r7 r8 l2 : ByteArray} {q1 q2 q3 q4 q5 q6 q7 q8 : Bool} {a b k m n : Int} {h1 h2 h3 : List UInt8}
    (H1 : ∀ x y R, i64in x → i64in y → bs s = pairL x y ++ 32 :: R → a = x ∧ b = y ∧ bs r1 = R ∧ q1 = false)
    (H2 : ∀ A R, (32 : UInt8) ∉ A → bs r1 = A ++ 32 :: R → bs l2 = A ∧ bs r2 = R ∧ q2 = q1)
    (H3 : ∀ x R, i64in x → bs r2 = Lib.itoa x ++ 32 :: R → k = x ∧ bs r3 = R ∧ q3 = q2)
    (H4 : ∀ x R, i64in x → bs r3 = Lib.itoa x ++ 32 :: R → m = x ∧ bs r4 = R ∧ q4 = q3)
    (H5 : ∀ x R, i64in x → bs r4 = Lib.itoa x ++ 32 :: R → n = x ∧ bs r5 = R ∧ q5 = q4)
    (H6 : ∀ x R, x.length = 32 → bs r5 = hexL x ++ 32 :: R → h1 = x ∧ bs r6 = R ∧ q6 = q5)
    (H7 : ∀ x R, x.length = 32 → bs r6 = hexL x ++ 32 :: R → h2 = x ∧ bs r7 = R ∧ q7 = q6)
    (H8 : ∀ x R, x.length = 32 → bs r7 = hexL x ++ 32 :: R → h3 = x ∧ bs r8 = R ∧ q8 = q7)
    {y : Rc} (hy : y.ok) (e : bs s = textL y) : (⟨k, m, n, r8, h1, h2, h3, a, b⟩ : Rc) = y ∧ q8 = false := by
  obtain ⟨y1, y2, y3, y4, y5, y6, y7, y8⟩ := hy
  unfold textL bodyL at e
  obtain ⟨e1, e2, e3, f1⟩ := H1 _ _ _ y7 y8 e
  obtain ⟨_, e4, f2⟩ := H2 _ _ (by decide) e3
  obtain ⟨e5, e6, f3⟩ := H3 _ _ y1 e4
  obtain ⟨e7, e8, f4⟩ := H4 _ _ y2 e6
  obtain ⟨e9, e10, f5⟩ := H5 _ _ y3 e8
  obtain ⟨e11, e12, f6⟩ := H6 _ _ y4 e10
  obtain ⟨e13, e14, f7⟩ := H7 _ _ y5 e12
  obtain ⟨e15, e16, f8⟩ := H8 _ _ y6 e14
  have e17 := bs_injE e16
  refine ⟨?_, by rw [f8, f7, f6, f5, f4, f3, f2, f1]⟩
  rw [e1, e2, e5, e7, e9, e11, e13, e15, e17]
end Go.Proofs.YtinpenoeohejoaaGreatDoor

namespace Go.Proofs.YtinpenoeohejoaaGreatDoor
open Go.RowKit
set_option maxRecDepth 100000

def MkRc (l : List UInt8) (w : World) (e : Ending) (w' : World) : Prop := ∃ (x : Rc) (ok : Bool), Hid (rcOk l x ok) ∧ e = .returned (.tuple #[.agg (rcV x).toArray, .bool ok]) ∧ Upd [] [] w w'
structure RdSt (w wi : World) (rest : ByteArray) (q : Bool) (x : Rc) : Prop where
  rz : RcAt wi w.heap.size Rc.zero
  rd : RdAt wi (w.heap.size + 1) rest q
  rc : RcAt wi (w.heap.size + 1 + 1) x
  up : Upd [] [] w wi
  ok : x.ok
theorem RdSt.step {w wi wj : World} {r r' : ByteArray} {q q' : Bool} {x : Rc} (h : RdSt w wi r q x) (u : Upd [w.heap.size + 1] [] wi wj) (d : RdAt wj (w.heap.size + 1) r' q') : RdSt w wj r' q' x :=
  ⟨row_updG h.rz u (by omega), d, row_updG h.rc u (by omega), h.up.own2 u (by omega), h.ok⟩
theorem RdSt.cell {w wi : World} {r : ByteArray} {q : Bool} {x y : Rc} (h : RdSt w wi r q x) (j : Nat) (v : Value) (hy : RcAt (wi.setCell ⟨w.heap.size + 1 + 1, j, none⟩ v) (w.heap.size + 1 + 1) y) (ho : y.ok) : RdSt w (wi.setCell ⟨w.heap.size + 1 + 1, j, none⟩ v) r q y :=
  ⟨row_otherE h.rz (by omega) v, row_otherE h.rd (by omega) v, hy, h.up.setNew (p := ⟨w.heap.size + 1 + 1, j, none⟩) (by show w.heap.size ≤ w.heap.size + 1 + 1; omega) v, ho⟩
theorem RdSt.cells {w wi : World} {r : ByteArray} {q : Bool} {x y : Rc} (h : RdSt w wi r q x) (j : Nat) (V : List Value) (hy : RcAt (wi.setCells (w.heap.size + 1 + 1) j V) (w.heap.size + 1 + 1) y) (ho : y.ok) : RdSt w (wi.setCells (w.heap.size + 1 + 1) j V) r q y :=
  ⟨row_setCellsO (by omega) V j _ h.rz, row_setCellsO (by omega) V j _ h.rd, hy, Upd.setCellsNew (by omega) V j _ h.up, ho⟩
theorem RdSt.start (w : World) (s : ByteArray) : RdSt w (((w.alloc (.cells Tryz.zeroCells41 41)).alloc (.cells #[.string s, .bool false] 219)).alloc (.cells Tryz.zeroCells41 41)) s false Rc.zero := by
  have hz : Tryz.zeroCells41 = (rcV Rc.zero).toArray := rfl
  refine ⟨?_, ?_, ?_, (((Upd.refl _ _).alloc _).alloc _).alloc _, Rc.zero_ok⟩
  · rw [hz]
    exact row_updH (heap_alloc_new w _) (((Upd.refl [] _).alloc _).alloc _)
  · have h := row_updH (heap_alloc_new (w.alloc (.cells Tryz.zeroCells41 41)) (.cells #[.string s, .bool false] 219)) ((Upd.refl [] _).alloc (.cells Tryz.zeroCells41 41))
    rw [World.size_alloc] at h
    exact h
  · have h := heap_alloc_new ((w.alloc (.cells Tryz.zeroCells41 41)).alloc (.cells #[.string s, .bool false] 219)) (.cells Tryz.zeroCells41 41)
    rw [World.size_alloc, World.size_alloc] at h
    unfold RcAt
    rw [← hz]
    exact h

theorem wpList_store_midAs {P : Program} {ops : Array Oper} {rest : List Oper} {op : Oper} {a : Act} {w : World} {Q : Exit → Act → World → Prop} (hgd : op.guard = none) (ty : TypeId) (x y : Operand) (ho : op.op = .store ty x y)
    (b o : Nat) (cells : Array Value) (hx : a.eval x = .pointer (some ⟨b, o, none⟩)) (hy : a.eval y = .agg cells)
    (ht : w.there b o cells.size) (hi : (P.info? ty).map (·.size) = some cells.size) (h1 : cells.all (·.oneCell') = true) (w' : World) (hw : w.setCells b o cells.toList = w')
    (h : wpList P ops Q rest (a.put op.dst undef) w') : wpList P ops Q (op :: rest) a w := by
  subst hw
  exact wpList_store_mid hgd ty x y ho b o cells hx hy ht hi h1 h
theorem wpList_load_want {P : Program} {ops : Array Oper} {rest : List Oper} {o : Oper} {a : Act} {w : World} {Q : Exit → Act → World → Prop} (hw : Region.wanted o (yielded ops a.tmps) = true) (ty : TypeId) (x : Operand) (ho : o.op = .load ty x)
    (b : Nat) (hx : a.eval x = .pointer (some ⟨b, 0, none⟩)) (C : Array Value) (hr : (Instr.loadAt ty (.pointer (some ⟨b, 0, none⟩))).run P w = .ok (.agg C) w)
    (h : wpList P ops Q rest (a.put o.dst (.agg C)) w) : wpList P ops Q (o :: rest) a w := by
  refine wpList_step fun K hK => ?_
  rw [if_pos hw]
  unfold Oper.wp execOp
  simp only [ho, hx, Sem.run_bind, hr, Result.andThen_ok]
  exact hK _ _ h
theorem hashSz {h : List UInt8} (l : h.length = 32) : (byteVals h).toArray.size = 32 := by simp [byteVals, l]

set_option maxHeartbeats 4000000 in
theorem read22_any (s : ByteArray) (w : World) (hs : s.size ≤ 1000000000) (htab : Tabs w) : Calls Tryz.prog 116 #[.string s] w (MkRc (bs s) w) := by
  have hmf : ∀ (fn : Fn) (first cap : Array Value) (w : World), (Instr.makeFunc fn first cap).run Tryz.prog w = .ok (.func fn first cap) w := fun _ _ _ _ => rfl
  have S0 := RdSt.start w s
  have g0 : w.heap.size ≤ w.heap.size + 1 := by omega
  go_enter Tryz.func116, Tryz.ntmps116
  go_wp2_with fail
  refine (sigW_any (w.heap.size + 1) s false _ w S0.up g0 S0.rd (by omega) htab).mono ?_
  rintro e w1 ⟨a, b, r1, q1, H1, ha, hb, l1, rfl, D1, hu⟩
  have S1 := S0.step hu D1
  clear hu S0
  have f0 := S1.rc.frozen 100
  have f1 := S1.rc.frozen 101
  obtain ⟨c0, c1⟩ := S1.rc.sig S1.ok
  have hx2 : ({ Rc.zero with r := a, s := b } : Rc).ok := ⟨S1.ok.1, S1.ok.2.1, S1.ok.2.2.1, S1.ok.2.2.2.1, S1.ok.2.2.2.2.1, S1.ok.2.2.2.2.2.1, ha, hb⟩
  have S2 : RdSt w ((w1.setCell ⟨w.heap.size + 1 + 1, 100, none⟩ (.int .i64 a)).setCell ⟨w.heap.size + 1 + 1, 101, none⟩ (.int .i64 b)) r1 q1 { Rc.zero with r := a, s := b } :=
    ⟨row_otherE (row_otherE S1.rz (by omega) _) (by omega) _, row_otherE (row_otherE S1.rd (by omega) _) (by omega) _, S1.rc.sigs S1.ok a b, (S1.up.setNew (p := ⟨w.heap.size + 1 + 1, 100, none⟩) (by show w.heap.size ≤ w.heap.size + 1 + 1; omega) _).setNew (p := ⟨w.heap.size + 1 + 1, 101, none⟩) (by show w.heap.size ≤ w.heap.size + 1 + 1; omega) _, hx2⟩
  clear S1 D1
  go_wp2_with fail
  clear c0 c1 f0 f1
  generalize ((w1.setCell ⟨w.heap.size + 1 + 1, 100, none⟩ (.int .i64 a)).setCell ⟨w.heap.size + 1 + 1, 101, none⟩ (.int .i64 b)) = w2 at *
  clear w1
  refine (word_any (w.heap.size + 1) r1 q1 w2 S2.rd (by omega) (htab.upd S2.up)).mono ?_
  rintro e w3 ⟨t2, r2, q2, H2, lt2, l2, rfl, D2, hu⟩
  have S3 := S2.step hu D2
  clear hu S2 D2
  go_wp2_with fail
  refine (rdNum_any (w.heap.size + 1) r2 q2 w3 w S3.up g0 S3.rd (by omega) htab).mono ?_
  rintro e w4 ⟨k, r3, q3, H3, ik, l3, rfl, D3, hu⟩
  have S4 := S3.step hu D3
  clear hu S3 D3
  have f0 := S4.rc.frozen 0
  have c0 := S4.rc.head.1
  have S5 := S4.cell 0 (.int .i64 k) (S4.rc.kiosk k) (⟨ik, S4.ok.2⟩)
  clear S4
  go_wp2_with fail
  clear f0 c0
  generalize (w4.setCell ⟨w.heap.size + 1 + 1, 0, none⟩ (.int .i64 k)) = w5 at *
  clear w4
  refine (rdNum_any (w.heap.size + 1) r3 q3 w5 w S5.up g0 S5.rd (by omega) htab).mono ?_
  rintro e w6 ⟨m, r4, q4, H4, im, l4, rfl, D4, hu⟩
  have S6 := S5.step hu D4
  clear hu S5 D4
  have f0 := S6.rc.frozen 1
  have c0 := S6.rc.head.2.1
  have S7 := S6.cell 1 (.int .i64 m) (S6.rc.serial m) (⟨S6.ok.1, im, S6.ok.2.2⟩)
  clear S6
  go_wp2_with fail
  clear f0 c0
  generalize (w6.setCell ⟨w.heap.size + 1 + 1, 1, none⟩ (.int .i64 m)) = w7 at *
  clear w6
  refine (rdNum_any (w.heap.size + 1) r4 q4 w7 w S7.up g0 S7.rd (by omega) htab).mono ?_
  rintro e w8 ⟨z, r5, q5, H5, iz, l5, rfl, D5, hu⟩
  have S8 := S7.step hu D5
  clear hu S7 D5
  have f0 := S8.rc.frozen 3
  have c0 := S8.rc.head.2.2.2
  have S9 := S8.cell 3 (.int .i64 z) (S8.rc.seen z) (⟨S8.ok.1, S8.ok.2.1, iz, S8.ok.2.2.2⟩)
  clear S8
  go_wp2_with fail
  clear f0 c0
  generalize (w8.setCell ⟨w.heap.size + 1 + 1, 3, none⟩ (.int .i64 z)) = w9 at *
  clear w8
  refine (hashW_any (w.heap.size + 1) r5 q5 w9 w S9.up g0 S9.rd (by omega) htab).mono ?_
  rintro e w10 ⟨h1, r6, q6, H6, lh1, l6, rfl, D6, hu⟩
  have S10 := S9.step hu D6
  clear hu S9 D6
  have S11 := S10.cells 4 (byteVals h1) (S10.rc.out S10.ok lh1) ⟨S10.ok.1, S10.ok.2.1, S10.ok.2.2.1, lh1, S10.ok.2.2.2.2⟩
  have TH := Lib.hid (S10.rc.there S10.ok 4 (byteVals h1).toArray.size (by rw [hashSz lh1]; omega))
  clear S10
  obtain ⟨w11, hw⟩ : ∃ w11, w10.setCells (w.heap.size + 1 + 1) 4 (byteVals h1) = w11 := ⟨_, rfl⟩
  rw [hw] at S11
  have HW := Lib.hid hw
  have LHh1 := Lib.hid lh1
  clear hw lh1
  go_wp2_with (first | (refine wpList_store_midAs rfl 37 _ _ rfl (w.heap.size + 1 + 1) 4 (byteVals h1).toArray rfl rfl TH.out (hashInfo LHh1.out) (hashOne _) w11 HW.out ?_))
  clear TH HW w10
  refine (hashW_any (w.heap.size + 1) r6 q6 w11 w S11.up g0 S11.rd (by omega) htab).mono ?_
  rintro e w12 ⟨h2, r7, q7, H7, lh2, l7, rfl, D7, hu⟩
  have S12 := S11.step hu D7
  clear hu S11 D7
  have S13 := S12.cells 36 (byteVals h2) (S12.rc.hash S12.ok lh2) ⟨S12.ok.1, S12.ok.2.1, S12.ok.2.2.1, S12.ok.2.2.2.1, lh2, S12.ok.2.2.2.2.2⟩
  have TH := Lib.hid (S12.rc.there S12.ok 36 (byteVals h2).toArray.size (by rw [hashSz lh2]; omega))
  clear S12
  obtain ⟨w13, hw⟩ : ∃ w13, w12.setCells (w.heap.size + 1 + 1) 36 (byteVals h2) = w13 := ⟨_, rfl⟩
  rw [hw] at S13
  have HW := Lib.hid hw
  have LHh2 := Lib.hid lh2
  clear hw lh2
  go_wp2_with (first | (refine wpList_store_midAs rfl 37 _ _ rfl (w.heap.size + 1 + 1) 36 (byteVals h2).toArray rfl rfl TH.out (hashInfo LHh2.out) (hashOne _) w13 HW.out ?_))
  clear TH HW w12
  refine (hashW_any (w.heap.size + 1) r7 q7 w13 w S13.up g0 S13.rd (by omega) htab).mono ?_
  rintro e w14 ⟨h3, r8, q8, H8, lh3, l8, rfl, D8, hu⟩
  have S14 := S13.step hu D8
  clear hu S13 D8
  have S15 := S14.cells 68 (byteVals h3) (S14.rc.prev S14.ok lh3) ⟨S14.ok.1, S14.ok.2.1, S14.ok.2.2.1, S14.ok.2.2.2.1, S14.ok.2.2.2.2.1, lh3, S14.ok.2.2.2.2.2.2⟩
  have TH := Lib.hid (S14.rc.there S14.ok 68 (byteVals h3).toArray.size (by rw [hashSz lh3]; omega))
  clear S14
  obtain ⟨w15, hw⟩ : ∃ w15, w14.setCells (w.heap.size + 1 + 1) 68 (byteVals h3) = w15 := ⟨_, rfl⟩
  rw [hw] at S15
  have HW := Lib.hid hw
  have LHh3 := Lib.hid lh3
  clear hw lh3
  go_upto_region 12 with (first | (refine wpList_store_midAs rfl 37 _ _ rfl (w.heap.size + 1 + 1) 68 (byteVals h3).toArray rfl rfl TH.out (hashInfo LHh3.out) (hashOne _) w15 HW.out ?_))
  clear TH HW w14
  obtain ⟨X, hX⟩ : ∃ X : Rc, X = ⟨k, m, z, r8, h1, h2, h3, a, b⟩ := ⟨_, rfl⟩
  have HCH : Hid (∀ y : Rc, y.ok → bs s = textL y → X = y ∧ q8 = false) := by
    intro y hy e
    rw [hX]
    exact chainR H1.out H2.out H3.out H4.out H5.out H6.out H7.out H8.out hy e
  have S16 := S15.cell 2 (.string r8) (S15.rc.draw r8) S15.ok
  have hX2 : ({ { { { { { { { Rc.zero with r := a, s := b } with kiosk := k } with serial := m } with seen := z } with out := h1 } with hash := h2 } with prev := h3 } with draw := r8 } : Rc) = X := hX.symm
  have S16' : RdSt w (w15.setCell ⟨w.heap.size + 1 + 1, 2, none⟩ (.string r8)) r8 q8 X := by
    rw [hX]
    exact S16
  have hXd : X.draw.size ≤ 1000000000 := by rw [hX]; show r8.size ≤ _; omega
  have HXO := Lib.hid S16'.ok
  have HXD := Lib.hid hXd
  clear hX hX2 S16 hXd H1 H2 H3 H4 H5 H6 H7 H8 hx2
  obtain ⟨k0, k1, k2, k3⟩ := S15.rd.cells
  have c2 := S15.rc.head.2.2.1
  have f2 := S15.rc.frozen 2
  clear S15
  go_upto_region 13 with (fail)
  clear k0 k1 k2 k3 c2 f2
  generalize (w15.setCell ⟨w.heap.size + 1 + 1, 2, none⟩ (.string r8)) = w16 at *
  clear w15
  obtain ⟨k0, k1, k2, k3⟩ := S16'.rd.cells
  have Z16 := Lib.hid S16'.rz
  have U16 := Lib.hid S16'.up
  have HZL := Lib.hid (rcSz Rc.zero_ok)
  cases q8 with
  | true =>
    have HB : Hid (rcOk (bs s) Rc.zero false) := ⟨Rc.zero_ok, (fun h => by cases h), fun _ => ⟨rfl, fun y hy e => by have := (HCH.out y hy e).2; cases this⟩⟩
    clear S16'
    go_wp2_with (first | (refine wpList_store_row rfl 41 _ _ rfl w.heap.size (rcV Rc.zero).toArray rfl rfl _ _ Z16.out HZL.out rfl (rcOne _) ?_))
    refine bodyPost_ret (results_row_tmp rfl _ _ w.heap.size _ (rcV Rc.zero).toArray _ _ rfl (Z16.out.setRow Rc.zero) Tryz.underlying41 rfl HZL.out) rfl ⟨Rc.zero, false, HB.out, rfl, U16.out.setRowNew (Nat.le_refl _) _⟩
  | false =>
    have HLD := run_loadAt_mid (P := Tryz.prog) w16 (w.heap.size + 1 + 1) 0 41 (rcV X) _ S16'.rc.all Tryz.underlying41 rfl (rcInfo HXO.out)
    have HCT := Lib.hid (text22_any X HXO.out HXD.out w16 (htab.upd S16'.up))
    have R16 := Lib.hid S16'.rc
    obtain ⟨C, hC⟩ : ∃ C, C = (rcV X).toArray := ⟨_, rfl⟩
    rw [← hC] at HLD HCT
    have HC := Lib.hid hC
    clear S16' hC
    have HLH := Lib.hid HLD
    clear HLD
    go_wp2_with (first | (refine wpList_load_want (by rfl) 41 _ rfl (w.heap.size + 1 + 1) rfl C HLH.out ?_))
    refine HCT.out.mono ?_
    rintro e w17 ⟨y, HY, hy, rfl, hq⟩
    have R17 := Lib.hid (R16.out.upd hq)
    have Z17 := Lib.hid (Z16.out.upd hq)
    have U17 := Lib.hid (U16.out.trans hq)
    have HCR : Hid (w17.heap[w.heap.size + 1 + 1]? = some (.cells C 41 (0, 0))) := by show _ = _; rw [HC.out]; exact R17.out
    have HCI : Hid ((Tryz.prog.info? 41).map (·.size) = some C.size) := by show _ = _; rw [HC.out]; exact rcSz HXO.out
    have HCO : Hid (C.all (·.oneCell') = true) := by show _ = _; rw [HC.out]; exact rcOne _
    have HCZ : Hid ((rcV Rc.zero).toArray.size = C.size) := by show _ = _; rw [HC.out]; simp [rcV_len HXO.out, rcV_len Rc.zero_ok]
    clear hq k0 k1 k2 k3 HCT HLH
    by_cases hys : y = s
    · subst hys
      have HB : Hid (rcOk (bs y) X true) := ⟨HXO.out, fun _ => HY.out, fun h => by cases h⟩
      go_wp2_with (first | (refine wpList_load_row rfl 41 _ rfl (w.heap.size + 1 + 1) rfl _ C _ _ HCR.out Tryz.underlying41 rfl HCI.out ?_) | (refine wpList_store_row rfl 41 _ _ rfl w.heap.size C rfl rfl _ _ Z17.out HCI.out HCZ.out HCO.out ?_))
      refine bodyPost_ret (results_row_tmp rfl _ _ w.heap.size _ C _ _ rfl (setRow_heap _ _ _ C _ _ Z17.out) Tryz.underlying41 rfl HCI.out) rfl ⟨X, true, HB.out, by rw [HC.out]; rfl, U17.out.setRowNew (Nat.le_refl _) _⟩
    · have HB : Hid (rcOk (bs s) Rc.zero false) := ⟨Rc.zero_ok, (fun h => by cases h), fun _ => ⟨rfl, fun y' hy' e => by
        have h := (HCH.out y' hy' e).1
        rw [← h, ← HY.out] at e
        exact hys (bs_injE e.symm)⟩⟩
      have h4 : ¬ y.toList = s.toList := fun e => hys (bs_injE (by rw [ByteArray.toList_eq, ByteArray.toList_eq] at e; exact e))
      have hb4 : (y.toList == s.toList) = false := beq_eq_false_iff_ne.2 h4
      clear h4
      go_wp2_with (first | (refine wpList_store_row rfl 41 _ _ rfl w.heap.size (rcV Rc.zero).toArray rfl rfl _ _ Z17.out HZL.out rfl (rcOne _) ?_))
      refine bodyPost_ret (results_row_tmp rfl _ _ w.heap.size _ (rcV Rc.zero).toArray _ _ rfl (Z17.out.setRow Rc.zero) Tryz.underlying41 rfl HZL.out) rfl ⟨Rc.zero, false, HB.out, rfl, U17.out.setRowNew (Nat.le_refl _) _⟩
end Go.Proofs.YtinpenoeohejoaaGreatDoor

namespace Go.Proofs.YtinpenoeohejoaaGreatDoor
open Go.RowKit
set_option maxRecDepth 100000

theorem builder_upd {T e : TypeId} {B b : Nat} {p : Value} {l : List Value} {w w' : World} (h : Lib.BuilderAt T e B b p l w) (u : Upd [] [] w w') : Lib.BuilderAt T e B b p l w' := by
  obtain ⟨h1, v, hb, ho, hn⟩ := h
  refine ⟨h1, v, row_updH hb u, ⟨ho.1, ?_⟩, hn⟩
  rcases ho.2 with h2 | ⟨g, cap, cur, hv, hg, hh, r⟩
  · exact .inl h2
  · exact .inr ⟨g, cap, cur, hv, hg, row_updH hh u, r⟩
theorem below_step {W0 w w' : World} (h : Upd [] [] W0 w) (k : Below W0.heap.size w w') : Upd [] [] W0 w' :=
  ⟨k.os.trans h.os, k.tape.trans h.tape, k.output.trans h.output, Nat.le_trans h.size k.size, fun i hi _ => (k.block i hi).trans (h.block i hi (by simp)), fun _ hk => absurd hk (by simp)⟩
structure BtSt (W0 wi : World) (acc : List UInt8) : Prop where
  bd : Lib.IsBuilder 166 5 W0.heap.size W0.heap.size (Lib.byteCells acc) wi
  up : Upd [] [] W0 wi
theorem BtSt.upd {W0 wi wj : World} {acc : List UInt8} (h : BtSt W0 wi acc) (u : Upd [] [] wi wj) : BtSt W0 wj acc :=
  ⟨h.bd.imp (fun k => builder_upd k u) (fun k => builder_upd k u), h.up.trans u⟩
theorem BtSt.start (W0 : World) : BtSt W0 (W0.alloc (.cells #[.pointer none, .slice none 0 0] 166)) [] := ⟨Lib.fresh_isBuilder _ _ W0, (Upd.refl _ _).alloc _⟩
theorem BtSt.write {W0 wi : World} {acc : List UInt8} (h : BtSt W0 wi acc) (s : ByteArray) (hl : acc.length + s.size ≤ 140737488355328) :
    Calls Tryz.prog 100 #[.pointer (some ⟨W0.heap.size, 0, none⟩), .string s] wi (fun e w' => e = .returned (.tuple #[.int .i64 s.size, .nilIface]) ∧ BtSt W0 w' (acc ++ bs s)) := by
  have hlen : (Lib.byteCells acc).length = acc.length := by simp [Lib.byteCells]
  refine (wstr_any W0.heap.size W0.heap.size (Lib.byteCells acc) s wi h.bd (by rw [hlen]; exact hl) h.up.size).mono ?_
  rintro e w' ⟨rfl, hb, hu⟩
  have e2 : Lib.byteCells acc ++ Lib.strCells s = Lib.byteCells (acc ++ bs s) := by simp [Lib.byteCells, Lib.strCells, bs]
  rw [e2] at hb
  exact ⟨rfl, .inr hb, below_step h.up hu⟩
def RcsIn (w : World) (ao : Option Addr) (l : List Rc) : Prop :=
  ∀ (k : Nat) x, l[k]? = some x → x.ok ∧ x.draw.size ≤ 1000000 ∧ ∃ g o, ao = some ⟨g, o, none⟩ ∧ g < w.heap.size ∧ w.rangeAt g (o + k * 102) (rcV x)
theorem rangeAt_upd {w w' : World} {g o : Nat} {V : List Value} (h : w.rangeAt g o V) (hg : g < w.heap.size) (u : Upd [] [] w w') : w'.rangeAt g o V := by
  intro j v hv
  rw [World.cell?_of_block (a := ⟨g, o + j, none⟩) (u.block g hg (by simp))]
  exact h j v hv
theorem RcsIn.upd {w w' : World} {ao : Option Addr} {l : List Rc} (h : RcsIn w ao l) (u : Upd [] [] w w') : RcsIn w' ao l := by
  intro k x hx
  obtain ⟨h1, h2, g, o, e, hg, hr⟩ := h k x hx
  exact ⟨h1, h2, g, o, e, Nat.lt_of_lt_of_le hg u.size, rangeAt_upd hr hg u⟩
end Go.Proofs.YtinpenoeohejoaaGreatDoor

namespace Go.Proofs.YtinpenoeohejoaaGreatDoor
open Go.RowKit
set_option maxRecDepth 100000

theorem eq_byte (d : Nat) (a b : UInt8) (w : World) : (Op.equalIn (d + 1) 5 (byteV a) (byteV b)).run Tryz.prog w = .ok (decide (a = b)) w := by
  unfold byteV
  rw [run_equalIn_int w d 5 .u8 .u8 _ _ Tryz.underlying5]
  congr 1
  by_cases h : a = b
  · rw [h]; simp
  · have : ¬ (a.toNat : Int) = b.toNat := fun e => h (UInt8.toNat_inj.1 (by omega))
    simp [h, this]
theorem eqItems_bytes (d : Nat) (l m : List UInt8) (w : World) (hl : l.length = m.length) : ∀ n k, k + n = l.length → (Op.eqItems (d + 1) 5 1 (byteVals l).toArray (byteVals m).toArray (List.range' k n)).run Tryz.prog w = .ok (decide (l.drop k = m.drop k)) w
  | 0, k, h => by
    have e1 : l.drop k = [] := List.drop_eq_nil_of_le (by omega)
    have e2 : m.drop k = [] := List.drop_eq_nil_of_le (by omega)
    simp [Op.eqItems, e1, e2]
  | n + 1, k, h => by
    have hk : k < l.length := by omega
    have hk' : k < m.length := by omega
    have p : ∀ (z : List UInt8) (hz : k < z.length), (part 5 (byteVals z).toArray (k * 1)).run Tryz.prog w = .ok (byteV z[k]) w := by
      intro z hz
      refine run_part_plain w (by kernel_rfl) ?_
      rw [Nat.mul_one, List.getElem?_toArray, byteVals, List.getElem?_map, List.getElem?_eq_getElem hz]
      rfl
    rw [List.range'_succ]
    simp only [Op.eqItems, Sem.run_bind, p l hk, p m hk', Result.andThen_ok, eq_byte]
    have h2 : (l.drop k = m.drop k) ↔ (l[k] = m[k] ∧ l.drop (k + 1) = m.drop (k + 1)) := by
      rw [List.drop_eq_getElem_cons hk, List.drop_eq_getElem_cons hk', List.cons.injEq]
    rw [show decide (l.drop k = m.drop k) = (decide (l[k] = m[k]) && decide (l.drop (k + 1) = m.drop (k + 1))) from by rw [Bool.eq_iff_iff]; simp only [decide_eq_true_eq, Bool.and_eq_true]; exact h2]
    have ih := eqItems_bytes d l m w hl n (k + 1) (by omega)
    cases decide (l[k] = m[k])
    · rfl
    · exact ih
theorem eqF_step (d : Nat) (xs ys : Array Value) (f : Field) (fs : List Field) (w : World) (a b : Value) (r rest : Bool) (hn : f.name ≠ "_") (ha : (part f.type xs f.offset).run Tryz.prog w = .ok a w) (hb : (part f.type ys f.offset).run Tryz.prog w = .ok b w)
    (hr : (Op.equalIn d f.type a b).run Tryz.prog w = .ok r w) (hq : (Op.eqFields d xs ys fs).run Tryz.prog w = .ok rest w) : (Op.eqFields d xs ys (f :: fs)).run Tryz.prog w = .ok (r && rest) w := by
  rw [Op.eqFields, if_pos hn]
  simp only [Sem.run_bind, ha, hb, hr, Result.andThen_ok]
  cases r
  · rfl
  · exact hq
theorem eqHash_run (d : Nat) (l m : List UInt8) (w : World) (hl : l.length = 32) (hm : m.length = 32) : (Op.equalIn (d + 2) 37 (.agg (byteVals l).toArray) (.agg (byteVals m).toArray)).run Tryz.prog w = .ok (decide (l = m)) w := by
  obtain ⟨i, hi⟩ : ∃ i, Tryz.prog.info? 5 = some i := by
    have h : (Tryz.prog.info? 5).isSome = true := by kernel_rfl
    exact Option.isSome_iff_exists.1 h
  have hc : Tryz.prog.cellsOf 5 = 1 := by kernel_rfl
  rw [run_equalIn_array w (d + 1) _ _ Tryz.underlying37 hi, hc, List.range_eq_range', eqItems_bytes d l m w (by omega) 32 0 (by omega)]
  simp
theorem eqSig_run (d : Nat) (a b a' b' : Int) (w : World) : (Op.equalIn (d + 2) 39 (.agg #[.int .i64 a, .int .i64 b]) (.agg #[.int .i64 a', .int .i64 b'])).run Tryz.prog w = .ok (decide (a = a' ∧ b = b')) w := by
  have hS : Tryz.prog.underlying 39 = some (.struct (Tryz.prog.fieldsOf 39)) := by kernel_rfl
  have p : ∀ (z : Array Value) (j : Nat) (v : Value), z[j]? = some v → (part 3 z j).run Tryz.prog w = .ok v w := fun z j v h => run_part_plain w (by kernel_rfl) h
  have q : ∀ (a b : Int), (Op.equalIn (d + 1) 3 (.int .i64 a) (.int .i64 b)).run Tryz.prog w = .ok (a == b) w := fun a b => run_equalIn_int w d 3 .i64 .i64 a b Tryz.underlying3
  rw [run_equalIn_struct w (d + 1) 39 _ _ hS (by kernel_rfl)]
  simp only [Program.fieldsOf, Tryz.underlying39]
  have e : decide (a = a' ∧ b = b') = ((a == a') && ((b == b') && true)) := by
    by_cases h1 : a = a' <;> by_cases h2 : b = b' <;> simp [h1, h2]
  rw [e]
  exact eqF_step (d + 1) #[.int .i64 a, .int .i64 b] #[.int .i64 a', .int .i64 b'] _ _ w _ _ _ _ (by simp) (p #[.int .i64 a, .int .i64 b] 0 (.int .i64 a) rfl) (p #[.int .i64 a', .int .i64 b'] 0 (.int .i64 a') rfl) (q a a') (eqF_step (d + 1) #[.int .i64 a, .int .i64 b] #[.int .i64 a', .int .i64 b'] _ _ w _ _ _ true (by simp) (p #[.int .i64 a, .int .i64 b] 1 (.int .i64 b) rfl) (p #[.int .i64 a', .int .i64 b'] 1 (.int .i64 b') rfl) (q b b') rfl)

def eqRc (x y : Rc) : Bool := decide (x.kiosk = y.kiosk) && (decide (x.serial = y.serial) && ((x.draw.toList == y.draw.toList) && (decide (x.seen = y.seen) && (decide (x.out = y.out) && (decide (x.hash = y.hash) && (decide (x.prev = y.prev) && decide (x.r = y.r ∧ x.s = y.s)))))))
theorem eqRc_iff (x y : Rc) : eqRc x y = true ↔ x = y := by
  unfold eqRc
  simp only [Bool.and_eq_true, decide_eq_true_eq, beq_iff_eq]
  constructor
  · rintro ⟨e1, e2, e3, e4, e5, e6, e7, e8, e9⟩
    have e3' : x.draw = y.draw := bs_injE (by rw [ByteArray.toList_eq, ByteArray.toList_eq] at e3; exact e3)
    cases x; cases y
    simp only at e1 e2 e3' e4 e5 e6 e7 e8 e9
    subst e1 e2 e3' e4 e5 e6 e7 e8 e9
    rfl
  · rintro rfl
    exact ⟨rfl, rfl, rfl, rfl, rfl, rfl, rfl, rfl, rfl⟩
theorem eqRc_refl (x : Rc) : eqRc x x = true := (eqRc_iff x x).2 rfl
theorem ext_mid {A B C : List Value} {o n : Nat} (hA : A.length = o) (hB : B.length = n) : (A ++ (B ++ C)).toArray.extract o (o + n) = B.toArray := by
  apply Array.ext'
  rw [Array.toList_extract]
  subst hA hB
  simp [List.extract]
theorem rc_parts {x : Rc} (hx : x.ok) : (rcV x).toArray.extract 4 (4 + 32) = (byteVals x.out).toArray ∧ (rcV x).toArray.extract 36 (36 + 32) = (byteVals x.hash).toArray ∧ (rcV x).toArray.extract 68 (68 + 32) = (byteVals x.prev).toArray ∧ (rcV x).toArray.extract 100 (100 + 2) = #[.int .i64 x.r, .int .i64 x.s] ∧ (rcV x).toArray[0]? = some (.int .i64 x.kiosk) ∧ (rcV x).toArray[1]? = some (.int .i64 x.serial) ∧ (rcV x).toArray[2]? = some (.string x.draw) ∧ (rcV x).toArray[3]? = some (.int .i64 x.seen) := by
  obtain ⟨_, _, _, h1, h2, h3, _⟩ := hx
  have l1 : (byteVals x.out).length = 32 := by rw [byteVals_length, h1]
  have l2 : (byteVals x.hash).length = 32 := by rw [byteVals_length, h2]
  have l3 : (byteVals x.prev).length = 32 := by rw [byteVals_length, h3]
  refine ⟨ext_mid (A := [.int .i64 x.kiosk, .int .i64 x.serial, .string x.draw, .int .i64 x.seen]) rfl l1, ?_, ?_, ?_, rfl, rfl, rfl, rfl⟩
  · have e : rcV x = ([.int .i64 x.kiosk, .int .i64 x.serial, .string x.draw, .int .i64 x.seen] ++ byteVals x.out) ++ (byteVals x.hash ++ (byteVals x.prev ++ [.int .i64 x.r, .int .i64 x.s])) := by simp [rcV]
    rw [e]
    exact ext_mid (by simp [l1]) l2
  · have e : rcV x = ([.int .i64 x.kiosk, .int .i64 x.serial, .string x.draw, .int .i64 x.seen] ++ byteVals x.out ++ byteVals x.hash) ++ (byteVals x.prev ++ [.int .i64 x.r, .int .i64 x.s]) := by simp [rcV]
    rw [e]
    exact ext_mid (by simp [l1, l2]) l3
  · have e : rcV x = ([.int .i64 x.kiosk, .int .i64 x.serial, .string x.draw, .int .i64 x.seen] ++ byteVals x.out ++ byteVals x.hash ++ byteVals x.prev) ++ ([.int .i64 x.r, .int .i64 x.s] ++ []) := by simp [rcV]
    rw [e]
    exact ext_mid (by simp [l1, l2, l3]) rfl
theorem eqRc_run (d : Nat) (x y : Rc) (hx : x.ok) (hy : y.ok) (w : World) : (Op.equalIn (d + 3) 41 (.agg (rcV x).toArray) (.agg (rcV y).toArray)).run Tryz.prog w = .ok (eqRc x y) w := by
  have hS : Tryz.prog.underlying 41 = some (.struct (Tryz.prog.fieldsOf 41)) := by kernel_rfl
  obtain ⟨x4, x36, x68, x100, x0, x1, x2, x3⟩ := rc_parts hx
  obtain ⟨y4, y36, y68, y100, y0, y1, y2, y3⟩ := rc_parts hy
  obtain ⟨_, _, _, hx1, hx2, hx3, _⟩ := hx
  obtain ⟨_, _, _, hy1, hy2, hy3, _⟩ := hy
  have p : ∀ (z : Array Value) (j : Nat) (v : Value), z[j]? = some v → (part 3 z j).run Tryz.prog w = .ok v w := fun z j v h => run_part_plain w (by kernel_rfl) h
  have ps : ∀ (z : Array Value) (j : Nat) (v : Value), z[j]? = some v → (part 9 z j).run Tryz.prog w = .ok v w := fun z j v h => run_part_plain w (by kernel_rfl) h
  have q : ∀ (a b : Int), (Op.equalIn (d + 2) 3 (.int .i64 a) (.int .i64 b)).run Tryz.prog w = .ok (decide (a = b)) w := fun a b => by
    rw [run_equalIn_int w (d + 1) 3 .i64 .i64 a b Tryz.underlying3]; congr 1
  have qs : ∀ (a b : ByteArray), (Op.equalIn (d + 2) 9 (.string a) (.string b)).run Tryz.prog w = .ok (a.toList == b.toList) w := fun a b => run_equalIn_string w (d + 1) 9 a b Tryz.underlying9
  have pH : ∀ (z : Array Value) (j : Nat), (part 37 z j).run Tryz.prog w = .ok (.agg (z.extract j (j + 32))) w := fun z j => by
    simp [part, isAgg, run_underlying Tryz.underlying37]
  have pS : ∀ (z : Array Value) (j : Nat), (part 39 z j).run Tryz.prog w = .ok (.agg (z.extract j (j + 2))) w := fun z j => by
    simp [part, isAgg, run_underlying Tryz.underlying39]
  rw [run_equalIn_struct w (d + 2) 41 _ _ hS (by kernel_rfl)]
  simp only [Program.fieldsOf, Tryz.underlying41]
  generalize (rcV x).toArray = C at *
  generalize (rcV y).toArray = D at *
  have z4 : (part 37 C 4).run Tryz.prog w = .ok (.agg (byteVals x.out).toArray) w := by rw [pH, x4]
  have z4' : (part 37 D 4).run Tryz.prog w = .ok (.agg (byteVals y.out).toArray) w := by rw [pH, y4]
  have z36 : (part 37 C 36).run Tryz.prog w = .ok (.agg (byteVals x.hash).toArray) w := by rw [pH, x36]
  have z36' : (part 37 D 36).run Tryz.prog w = .ok (.agg (byteVals y.hash).toArray) w := by rw [pH, y36]
  have z68 : (part 37 C 68).run Tryz.prog w = .ok (.agg (byteVals x.prev).toArray) w := by rw [pH, x68]
  have z68' : (part 37 D 68).run Tryz.prog w = .ok (.agg (byteVals y.prev).toArray) w := by rw [pH, y68]
  have z100 : (part 39 C 100).run Tryz.prog w = .ok (.agg #[.int .i64 x.r, .int .i64 x.s]) w := by rw [pS, x100]
  have z100' : (part 39 D 100).run Tryz.prog w = .ok (.agg #[.int .i64 y.r, .int .i64 y.s]) w := by rw [pS, y100]
  have h8 : ∀ f, f.name ≠ "_" → f.type = 39 → f.offset = 100 → (Op.eqFields (d + 2) C D [f]).run Tryz.prog w = .ok (decide (x.r = y.r ∧ x.s = y.s)) w := by
    rintro f hn ht ho
    have := eqF_step (d + 2) C D f [] w _ _ _ true hn (by rw [ht, ho]; exact z100) (by rw [ht, ho]; exact z100') (by rw [ht]; exact eqSig_run d _ _ _ _ w) rfl
    rw [Bool.and_true] at this
    exact this
  exact eqF_step (d + 2) C D _ _ w _ _ _ _ (by simp) (p C 0 _ x0) (p D 0 _ y0) (q _ _)
    (eqF_step (d + 2) C D _ _ w _ _ _ _ (by simp) (p C 1 _ x1) (p D 1 _ y1) (q _ _)
    (eqF_step (d + 2) C D _ _ w _ _ _ _ (by simp) (ps C 2 _ x2) (ps D 2 _ y2) (qs _ _)
    (eqF_step (d + 2) C D _ _ w _ _ _ _ (by simp) (p C 3 _ x3) (p D 3 _ y3) (q _ _)
    (eqF_step (d + 2) C D _ _ w _ _ _ _ (by simp) z4 z4' (eqHash_run d _ _ w hx1 hy1)
    (eqF_step (d + 2) C D _ _ w _ _ _ _ (by simp) z36 z36' (eqHash_run d _ _ w hx2 hy2)
    (eqF_step (d + 2) C D _ _ w _ _ _ _ (by simp) z68 z68' (eqHash_run d _ _ w hx3 hy3)
    (h8 _ (by simp) rfl rfl)))))))
end Go.Proofs.YtinpenoeohejoaaGreatDoor

namespace Go.Proofs.YtinpenoeohejoaaGreatDoor
open Go.RowKit
set_option maxRecDepth 100000

theorem RcsIn.mem {w : World} {ao : Option Addr} {l : List Rc} (h : RcsIn w ao l) : ∀ x ∈ l, x.ok ∧ x.draw.size ≤ 1000000 := by
  intro x hx
  obtain ⟨k, hk⟩ := List.getElem?_of_mem hx
  exact ⟨(h k x hk).1, (h k x hk).2.1⟩

theorem wpList_load_atW {P : Program} {ops : Array Oper} {rest : List Oper} {o : Oper} {a : Act} {w : World} {Q : Exit → Act → World → Prop} (hw : Region.wanted o (yielded ops a.tmps) = true) (ty : TypeId) (x : Operand) (ho : o.op = .load ty x)
    (b of : Nat) (hx : a.eval x = .pointer (some ⟨b, of, none⟩)) (C : Array Value) (hr : (Instr.loadAt ty (.pointer (some ⟨b, of, none⟩))).run P w = .ok (.agg C) w)
    (h : wpList P ops Q rest (a.put o.dst (.agg C)) w) : wpList P ops Q (o :: rest) a w := by
  refine wpList_step fun K hK => ?_
  rw [if_pos hw]
  unfold Oper.wp execOp
  simp only [ho, hx, Sem.run_bind, hr, Result.andThen_ok]
  exact hK _ _ h

theorem rcI : ∃ i, Tryz.prog.info? 41 = some i ∧ i.zero = some (.agg (rcV Rc.zero).toArray) ∧ i.size = 102 ∧ i.bytes = 152 := by
  have h : (Tryz.prog.info? 41).map (fun i => (i.zero, i.size, i.bytes)) = some (some (.agg (rcV Rc.zero).toArray), 102, 152) := by kernel_rfl
  obtain ⟨i, hi, he⟩ := Option.map_eq_some_iff.1 h
  simp only [Prod.mk.injEq] at he
  exact ⟨i, hi, he.1, he.2.1, he.2.2⟩
theorem rc_range : (Array.range (1 * 102)).map ((rcV Rc.zero).toArray[· % (rcV Rc.zero).toArray.size]!) = (rcV Rc.zero).toArray := by kernel_rfl
theorem rc_build (x : Rc) (hx : x.ok) (w : World) : (Instr.buildSlice 33 1 #[(0, .agg (rcV x).toArray)]).run Tryz.prog w = .ok (.slice (some ⟨w.heap.size, 0, none⟩) 1 1) (w.alloc (.cells (rcV x).toArray 41)) := by
  obtain ⟨ie, hi, hz, hs, _⟩ := rcI
  refine run_buildSlice w 33 41 1 _ (rcV x).toArray ie _ Tryz.underlying33 hi hz (by rw [hs]; omega) (by rw [hs]; omega) ?_
  rw [hs]
  show Instr.fill _ ((Array.range (1 * 102)).map ((rcV Rc.zero).toArray[· % (rcV Rc.zero).toArray.size]!)) [(0, Value.agg (rcV x).toArray)] = _
  rw [rc_range]
  have h := fill_mid (pl := fun i => some (i * 102, 102)) (i := 0) (off := 0) (n := 102) (v := .agg (rcV x).toArray) (V := rcV x) (A := []) (B := rcV Rc.zero) (C := []) (r := []) rfl rfl (rcV_len hx) rfl (rcV_len Rc.zero_ok)
  rw [List.nil_append, List.append_nil, List.nil_append, List.append_nil] at h
  rw [h]
  rfl
def rcVals (l : List Rc) : List Value := l.flatMap rcV
theorem rcVals_snoc (l : List Rc) (x : Rc) : rcVals (l ++ [x]) = rcVals l ++ rcV x := by simp [rcVals]
theorem append_rc (wr : World) (v : Value) (l : List Rc) (x : Rc) (hx : x.ok) (hown : wr.ownsRow 0 41 102 v l.length (rcVals l)) (hk : l.length ≤ 4000000000) :
    ∃ v' w', (Builtin.append_ #[33, 33] 33 #[v, .slice (some ⟨wr.heap.size, 0, none⟩) 1 1]).run Tryz.prog (wr.alloc (.cells (rcV x).toArray 41)) = .ok v' w' ∧ w'.ownsRow 0 41 102 v' (l ++ [x]).length (rcVals (l ++ [x])) ∧ Upd (foot v) (foot v') wr w' := by
  have hrow : (wr.alloc (.cells (rcV x).toArray 41)).ownsRow 0 41 102 v l.length (rcVals l) := row_same hown (fun j hj => Below.heap_alloc _ _ _ (row_foot_lt hown j hj))
  have hw1 : (wr.alloc (.cells (rcV x).toArray 41)).heap[wr.heap.size]? = some (.cells (rcV x).toArray 41 (0, 0)) := heap_alloc_new _ _
  obtain ⟨iu, u1, u2, u3', u4⟩ := rcI
  obtain ⟨v', w', hrun, hown', hup'⟩ := append_block (P := Tryz.prog) (wr.alloc (.cells (rcV x).toArray 41)) 33 33 41 iu _ 102 152 Tryz.underlying33 u1 u2 u3' u4 (by show (rcV Rc.zero).toArray.size = 102; simp [rcV_len Rc.zero_ok]) (by omega) v l.length _ hrow ⟨wr.heap.size, 0, none⟩ 1 1 (rcV x) (by rw [rcV_len hx]) (by
    intro j u hj
    have e : (⟨wr.heap.size, 0, none⟩ : Addr).add j = ⟨wr.heap.size, j, none⟩ := by simp [Addr.add]; exact fun h => h.symm
    rw [e, cell_of_row _ _ _ _ _ _ hw1, List.getElem?_toArray]
    exact hj) (rcV_one x) (by omega) (by simp only [maxLen]; omega)
  refine ⟨v', w', hrun, ?_, ((Upd.refl _ _).alloc _).trans hup'⟩
  rw [rcVals_snoc, List.length_append]
  exact hown'

theorem rcs_of_row {w : World} {v : Value} {l : List Rc} (h : w.ownsRow 0 41 102 v l.length (rcVals l)) (ho : ∀ x ∈ l, x.ok ∧ x.draw.size ≤ 1000000) : ∃ ao cap, v = .slice ao l.length cap ∧ l.length ≤ cap ∧ RcsIn w ao l := by
  rcases h.2 with ⟨rfl, hn⟩ | ⟨g, cap, cur, rfl, _, hg, hc, _, hcs, ht⟩
  · refine ⟨none, 0, by rw [hn], by omega, fun k m hk => ?_⟩
    have := (List.getElem?_eq_some_iff.1 hk).1
    omega
  · refine ⟨_, cap, rfl, hc, fun k x hk => ⟨(ho x (List.mem_of_getElem? hk)).1, (ho x (List.mem_of_getElem? hk)).2, g, 0, rfl, (Array.getElem?_eq_some_iff.1 hg).1, ?_⟩⟩
    have hkl := (List.getElem?_eq_some_iff.1 hk).1
    have atk : ∀ (l : List Rc) (k : Nat) (x : Rc), (∀ y ∈ l, y.ok) → l[k]? = some x → ∀ j v, (rcV x)[j]? = some v → (rcVals l)[k * 102 + j]? = some v := by
      intro l
      clear h ho hg ht hk hkl hc
      induction l with
      | nil => intro k x _ h; simp at h
      | cons a r ih =>
        intro k x hok h j v hv
        have la := rcV_len (hok a (by simp))
        unfold rcVals at ih ⊢
        rw [List.flatMap_cons]
        cases k with
        | zero =>
          simp at h
          subst h
          rw [List.getElem?_append_left (by have := (List.getElem?_eq_some_iff.1 hv).1; omega)]
          simpa using hv
        | succ k =>
          rw [List.getElem?_append_right (by omega), la, show (k + 1) * 102 + j - 102 = k * 102 + j by omega]
          exact ih k x (fun y hy => hok y (List.mem_cons_of_mem _ hy)) (by simpa using h) j v hv
    intro j v hv
    have hjl := (List.getElem?_eq_some_iff.1 hv).1
    rw [rcV_len (ho x (List.mem_of_getElem? hk)).1] at hjl
    have e := atk l k x (fun y hy => (ho y hy).1) hk j v hv
    rw [Nat.zero_add, cell_of_row _ _ _ _ _ _ hg]
    rw [← ht, List.getElem?_take, if_pos (by omega), Array.getElem?_toList] at e
    exact e
theorem printR_ok {k s n x : Int} {d : ByteArray} {a b c : List UInt8} (hk : i64in k) (hs : i64in s) (hn : i64in n) (ha : a.length = 32) (hb : b.length = 32) (hc : c.length = 32) : (printR k s n d a b c x).ok := by
  have h1 := gP_lt (nonceN (expN x) (bodyL ⟨k, s, n, d, a, b, c, 0, 0⟩))
  have h2 := sWith_lt (expN x) (nonceN (expN x) (bodyL ⟨k, s, n, d, a, b, c, 0, 0⟩)) (bodyL ⟨k, s, n, d, a, b, c, 0, 0⟩)
  have e1 : Pn = 2305843009213691579 := rfl
  have e2 : Qn = 1152921504606845789 := rfl
  refine ⟨hk, hs, hn, ha, hb, hc, ?_, ?_⟩ <;> unfold printR i64in <;> dsimp only <;> omega
end Go.Proofs.YtinpenoeohejoaaGreatDoor

namespace Go.Proofs.YtinpenoeohejoaaGreatDoor
open Go.RowKit
set_option maxRecDepth 100000

structure KM where
  id : Int
  sec : Int
  paper : Nat
  round : Nat
  out : List UInt8
  rs : List Rc
inductive Ev
  | pap (n : Nat)
  | lrn (r : Nat) (h : List UInt8)
  | sel (x : Rc)
def nameC (c : UInt8) : Bool := (decide (97 ≤ c.toNat) && decide (c.toNat ≤ 122)) || (decide (65 ≤ c.toNat) && decide (c.toNat ≤ 90)) || (decide (48 ≤ c.toNat) && decide (c.toNat ≤ 57)) || decide (c.toNat = 95)
def nameOk (s : List UInt8) : Bool := decide (1 ≤ s.length) && (decide (s.length ≤ 30) && s.all nameC)
def prevK (rs : List Rc) : List UInt8 := match rs.getLast? with
  | none => zero32
  | some x => sha (textL x)
def nextK (m : KM) (d : ByteArray) (h : List UInt8) : Rc := printR m.id ((m.rs.length + 1 : Nat) : Int) (m.round : Int) d m.out h (prevK m.rs) m.sec
def wPap : List UInt8 := [112, 97, 112, 101, 114, 32]
def wLrn : List UInt8 := [108, 101, 97, 114, 110, 32]
def wSel : List UInt8 := [115, 101, 108, 108, 32]
def recP (n : Nat) : List UInt8 := wPap ++ Lib.itoa (n : Int)
def recE : Ev → List UInt8
  | .pap n => recP n
  | .lrn r h => wLrn ++ (Lib.itoa (r : Int) ++ 32 :: hexL h)
  | .sel x => wSel ++ textL x
def KM.step (m : KM) : Ev → Option KM
  | .pap n => if 1 ≤ n ∧ n + m.paper ≤ 1000000000 then some { m with paper := m.paper + n } else none
  | .lrn r h => if m.round < r ∧ r ≤ 1000000000 ∧ h.length = 32 then some { m with round := r, out := h } else none
  | .sel x => if nameOk (bs x.draw) = true ∧ 0 < m.paper ∧ m.rs.length < 2000 ∧ x.hash.length = 32 ∧ eqRc (nextK m x.draw x.hash) x = true then some { m with rs := m.rs ++ [x], paper := m.paper - 1 } else none
def KM.new (id sec : Int) (paper : Nat) : KM := ⟨id, sec, paper, 0, zero32, []⟩
def KM.run (m : KM) : List Ev → Option KM
  | [] => some m
  | e :: r => (m.step e).bind (fun m' => m'.run r)
theorem KM.run_snoc : ∀ (l : List Ev) (m : KM) (e : Ev), m.run (l ++ [e]) = (m.run l).bind (fun m' => m'.step e)
  | [], m, e => by
    simp only [List.nil_append, KM.run, Option.bind_some]
    cases m.step e <;> rfl
  | x :: r, m, e => by
    simp only [List.cons_append, KM.run]
    cases h : m.step x with
    | none => rfl
    | some m' => exact KM.run_snoc r m' e
structure KM.ok (m : KM) : Prop where
  id : i64in m.id
  sec : i64in m.sec
  paper : m.paper ≤ 1000000000
  round : m.round ≤ 1000000000
  out : m.out.length = 32
  many : m.rs.length ≤ 2000
  each : ∀ x ∈ m.rs, x.ok ∧ x.draw.size ≤ 30 ∧ x.kiosk = m.id
  serial : ∀ k x, m.rs[k]? = some x → x.serial = ((k + 1 : Nat) : Int)
theorem nameOk_size {s : ByteArray} (h : nameOk (bs s) = true) : s.size ≤ 30 := by
  unfold nameOk at h
  simp only [Bool.and_eq_true, decide_eq_true_eq] at h
  have := h.2.1
  rw [bs_length] at this
  exact this
theorem prevK_len (rs : List Rc) : (prevK rs).length = 32 := by
  unfold prevK
  split
  · rfl
  · exact sha_len _
theorem nextK_ok {m : KM} (h : m.ok) {d : ByteArray} {s : List UInt8} (hs : s.length = 32) : (nextK m d s).ok :=
  printR_ok h.id (by unfold i64in; have := h.many; omega) (by unfold i64in; have := h.round; omega) h.out hs (prevK_len _)
theorem KM.ok_new {id sec : Int} {p : Nat} (hi : i64in id) (hs : i64in sec) (hp : p ≤ 1000000000) : (KM.new id sec p).ok :=
  ⟨hi, hs, hp, Nat.zero_le _, rfl, Nat.zero_le _, fun x h => (by simp [KM.new] at h), fun k x h => (by simp [KM.new] at h)⟩
theorem KM.ok_step {m m' : KM} {e : Ev} (h : m.ok) (hs : m.step e = some m') : m'.ok := by
  cases e with
  | pap n =>
    simp only [KM.step] at hs
    split at hs
    · rename_i hc
      injection hs with hs
      subst hs
      exact ⟨h.id, h.sec, by show m.paper + n ≤ _; omega, h.round, h.out, h.many, h.each, h.serial⟩
    · cases hs
  | lrn r s =>
    simp only [KM.step] at hs
    split at hs
    · rename_i hc
      injection hs with hs
      subst hs
      exact ⟨h.id, h.sec, h.paper, hc.2.1, hc.2.2, h.many, h.each, h.serial⟩
    · cases hs
  | sel x =>
    simp only [KM.step] at hs
    split at hs
    · rename_i hc
      obtain ⟨c1, c2, c3, c4, c5⟩ := hc
      rw [eqRc_iff] at c5
      injection hs with hs
      subst hs
      have hx : x.ok := by rw [← c5]; exact nextK_ok h c4
      have hk : x.kiosk = m.id := by rw [← c5]; rfl
      have hser : x.serial = ((m.rs.length + 1 : Nat) : Int) := by rw [← c5]; rfl
      refine ⟨h.id, h.sec, ?_, h.round, h.out, ?_, ?_, ?_⟩
      · show m.paper - 1 ≤ _
        have := h.paper
        omega
      · show (m.rs ++ [x]).length ≤ 2000
        rw [List.length_append, List.length_singleton]
        omega
      · intro y hy
        rcases List.mem_append.1 hy with hy | hy
        · exact h.each y hy
        · rw [List.mem_singleton] at hy
          subst hy
          exact ⟨hx, nameOk_size c1, hk⟩
      · intro k y hy
        rw [List.getElem?_append] at hy
        split at hy
        · exact h.serial k y hy
        · rename_i hkl
          have h0 := (List.getElem?_eq_some_iff.1 hy).1
          rw [List.length_singleton] at h0
          have hk0 : k = m.rs.length := by omega
          subst hk0
          simp at hy
          rw [← hy]
          exact hser
    · cases hs
end Go.Proofs.YtinpenoeohejoaaGreatDoor
