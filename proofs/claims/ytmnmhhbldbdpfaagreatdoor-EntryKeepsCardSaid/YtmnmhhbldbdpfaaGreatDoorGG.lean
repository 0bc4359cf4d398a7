/- entry.Print. strings.Builder's WriteString, out of what strings.Join's laying names. entry.reader: until, word, number. entry.reader: number, sig. entry.reader: hash. entry.Read: what it keeps. entry.Read: the walk. Builders: what stays, what grows; receipts one behind the other. entry.BatchText. -/
import Derived.Test.YtmnmhhbldbdpfaaGreatDoorGF
namespace Go.Proofs.YtmnmhhbldbdpfaaGreatDoor
open Go.RowKit
set_option maxRecDepth 100000

theorem rcV_sig {x : Rc} (h : x.ok) (r s : Int) : ((rcV x).set 100 (.int .i64 r)).set 101 (.int .i64 s) = rcV { x with r := r, s := s } := by
  obtain ⟨_, _, _, h1, h2, h3, _⟩ := h
  have l1 : (byteVals x.out).length = 32 := by rw [byteVals_length, h1]
  have l2 : (byteVals x.hash).length = 32 := by rw [byteVals_length, h2]
  have l3 : (byteVals x.prev).length = 32 := by rw [byteVals_length, h3]
  have e : ∀ (r s : Int), rcV { x with r := r, s := s } = ([.int .i64 x.kiosk, .int .i64 x.serial, .string x.draw, .int .i64 x.seen] ++ byteVals x.out ++ byteVals x.hash ++ byteVals x.prev) ++ [.int .i64 r, .int .i64 s] := by
    intro r s
    simp [rcV]
  have hl : ([.int .i64 x.kiosk, .int .i64 x.serial, .string x.draw, .int .i64 x.seen] ++ byteVals x.out ++ byteVals x.hash ++ byteVals x.prev : List Value).length = 100 := by simp [l1, l2, l3]
  have e0 := e x.r x.s
  rw [show ({ x with r := x.r, s := x.s } : Rc) = x from rfl] at e0
  rw [e0, e r s, List.set_append_right _ _ (by omega), hl, List.set_append_right _ _ (by omega), hl]
  rfl
/-- A printed receipt. -/
def printR (k s n : Int) (d : ByteArray) (a b c : List UInt8) (x : Int) : Rc :=
  ⟨k, s, n, d, a, b, c, (gP (nonceN (expN x) (bodyL ⟨k, s, n, d, a, b, c, 0, 0⟩)) : Int), (sWith (expN x) (nonceN (expN x) (bodyL ⟨k, s, n, d, a, b, c, 0, 0⟩)) (bodyL ⟨k, s, n, d, a, b, c, 0, 0⟩) : Int)⟩
theorem RcAt.sigs {w : World} {g : Nat} {x : Rc} (h : RcAt w g x) (hx : x.ok) (r s : Int) : RcAt ((w.setCell ⟨g, 100, none⟩ (.int .i64 r)).setCell ⟨g, 101, none⟩ (.int .i64 s)) g { x with r := r, s := s } := by
  have h1 := heap_setCell_same _ g 101 _ _ (.int .i64 s) (heap_setCell_same w g 100 _ _ (.int .i64 r) h)
  unfold RcAt
  rw [h1, ← rcV_sig hx r s]
  simp
theorem RcAt.frozen {w : World} {g : Nat} {x : Rc} (h : RcAt w g x) (j : Nat) : w.frozen? ⟨g, j, none⟩ = false := frozen_of_row _ _ _ _ _ h
theorem RcAt.setRow {w : World} {g : Nat} {x : Rc} (h : RcAt w g x) (y : Rc) : RcAt (w.setRow g (rcV y).toArray) g y := setRow_heap w g _ _ _ _ h

theorem row_otherE {w : World} {g L j : Nat} {o : Obj} (h : w.heap[g]? = some o) (n : g ≠ L) (v : Value) : (w.setCell ⟨L, j, none⟩ v).heap[g]? = some o := by
  rw [((Upd.refl [L] w).setCell (p := ⟨L, j, none⟩) (by simp) v).block g (Array.getElem?_eq_some_iff.1 h).1 (by simpa using n)]
  exact h

set_option maxHeartbeats 4000000 in
theorem print22_any (k x s n : Int) (d : ByteArray) (a b c : List UInt8) (hk : i64in k) (hx : i64in x) (hs : i64in s) (hn : i64in n) (hd : d.size ≤ 1000000000) (ha : a.length = 32) (hb : b.length = 32) (hc : c.length = 32) (w : World) (htab : Tabs w) :
    Calls Tryz.prog 40 #[.int .i64 k, .int .i64 x, .int .i64 s, .string d, .int .i64 n, .agg (byteVals a).toArray, .agg (byteVals b).toArray, .agg (byteVals c).toArray] w (Mk (.agg (rcV (printR k s n d a b c x)).toArray) w) := by
  obtain ⟨X, hX⟩ : ∃ X : Rc, X = ⟨k, s, n, d, a, b, c, 0, 0⟩ := ⟨_, rfl⟩
  have hXo : X.ok := by rw [hX]; exact ⟨hk, hs, hn, ha, hb, hc, ⟨show (-9223372036854775808 : Int) ≤ 0 by decide, show (0 : Int) ≤ 9223372036854775807 by decide⟩, ⟨show (-9223372036854775808 : Int) ≤ 0 by decide, show (0 : Int) ≤ 9223372036854775807 by decide⟩⟩
  have hXd : X.draw.size ≤ 1000000000 := by rw [hX]; exact hd
  have hP : printR k s n d a b c x = { X with r := (gP (nonceN (expN x) (bodyL X)) : Int), s := (sWith (expN x) (nonceN (expN x) (bodyL X)) (bodyL X) : Int) } := by rw [hX]; rfl
  have HP := Lib.hid hP
  clear hP
  have hbd := built_print k s n d a b c ha hb hc
  rw [← hX] at hbd
  obtain ⟨A, hA⟩ : ∃ A, A = (byteVals a).toArray := ⟨_, rfl⟩
  obtain ⟨B, hB⟩ : ∃ B, B = (byteVals b).toArray := ⟨_, rfl⟩
  obtain ⟨C, hC⟩ : ∃ C, C = (byteVals c).toArray := ⟨_, rfl⟩
  have hA0 : A.size = 32 := by rw [hA]; simp [byteVals, ha]
  have hB0 : B.size = 32 := by rw [hB]; simp [byteVals, hb]
  have hC0 : C.size = 32 := by rw [hC]; simp [byteVals, hc]
  rw [← hA, ← hB, ← hC] at hbd ⊢
  clear hA hB hC hX
  have IA : Hid ((Tryz.prog.info? 24).map (·.size) = some A.size) := by show _ = _; rw [hA0]; kernel_rfl
  have IB : Hid ((Tryz.prog.info? 24).map (·.size) = some B.size) := by show _ = _; rw [hB0]; kernel_rfl
  have IC : Hid ((Tryz.prog.info? 24).map (·.size) = some C.size) := by show _ = _; rw [hC0]; kernel_rfl
  clear hA0 hB0 hC0
  obtain ⟨Z, hZ⟩ : ∃ Z, Z = Tryz.zeroCells33 := ⟨_, rfl⟩
  have hZr : Z = (rcV Rc.zero).toArray := by rw [hZ]; rfl
  have ra : ((((w.alloc (.cells A 24)).alloc (.cells B 24)).alloc (.cells C 24)).alloc (.cells Z 33)).heap[w.heap.size]? = some (.cells A 24 (0, 0)) :=
    row_updH (heap_alloc_new w (.cells A 24)) ((((Upd.refl [] _).alloc _).alloc _).alloc _)
  have rb : ((((w.alloc (.cells A 24)).alloc (.cells B 24)).alloc (.cells C 24)).alloc (.cells Z 33)).heap[w.heap.size + 1]? = some (.cells B 24 (0, 0)) := by
    have h := row_updH (heap_alloc_new (w.alloc (.cells A 24)) (.cells B 24)) (((Upd.refl [] _).alloc (.cells C 24)).alloc (.cells Z 33))
    rw [World.size_alloc] at h
    exact h
  have rc : ((((w.alloc (.cells A 24)).alloc (.cells B 24)).alloc (.cells C 24)).alloc (.cells Z 33)).heap[w.heap.size + 1 + 1]? = some (.cells C 24 (0, 0)) := by
    have h := row_updH (heap_alloc_new ((w.alloc (.cells A 24)).alloc (.cells B 24)) (.cells C 24)) ((Upd.refl [] _).alloc (.cells Z 33))
    rw [World.size_alloc, World.size_alloc] at h
    exact h
  have rz : ((((w.alloc (.cells A 24)).alloc (.cells B 24)).alloc (.cells C 24)).alloc (.cells Z 33)).heap[w.heap.size + 1 + 1 + 1]? = some (.cells Z 33 (0, 0)) := by
    have h := heap_alloc_new (((w.alloc (.cells A 24)).alloc (.cells B 24)).alloc (.cells C 24)) (.cells Z 33)
    rw [World.size_alloc, World.size_alloc, World.size_alloc] at h
    exact h
  have u4 : Upd [] [] w ((((w.alloc (.cells A 24)).alloc (.cells B 24)).alloc (.cells C 24)).alloc (.cells Z 33)) := (((((Upd.refl _ _).alloc _).alloc _).alloc _).alloc _)
  have hs4 : ((((w.alloc (.cells A 24)).alloc (.cells B 24)).alloc (.cells C 24)).alloc (.cells Z 33)).heap.size = w.heap.size + 1 + 1 + 1 + 1 := by simp
  obtain ⟨w4, hw4⟩ : ∃ w4, ((((w.alloc (.cells A 24)).alloc (.cells B 24)).alloc (.cells C 24)).alloc (.cells Z 33)) = w4 := ⟨_, rfl⟩
  rw [hw4] at ra rb rc rz u4 hs4
  have RA := Lib.hid ra
  have RB := Lib.hid rb
  have RC := Lib.hid rc
  have RZ := Lib.hid rz
  clear ra rb rc rz
  obtain ⟨R, hR⟩ : ∃ R, R = (rcV X).toArray := ⟨_, rfl⟩
  rw [← hR] at hbd
  have HBD := Lib.hid hbd
  clear hbd
  have HR := Lib.hid hR
  clear hR
  have rz5 : Hid ((w4.alloc (.cells Z 33)).heap[w4.heap.size]? = some (.cells Z 33 (0, 0))) := heap_alloc_new w4 (.cells Z 33)
  have r6 : RcAt ((w4.alloc (.cells Z 33)).setRow w4.heap.size R) w4.heap.size X := by
    rw [HR.out]
    exact setRow_heap _ _ _ _ _ _ rz5.out
  have R6 : Hid (((w4.alloc (.cells Z 33)).setRow w4.heap.size R).heap[w4.heap.size]? = some (.cells R 33 (0, 0))) := setRow_heap _ _ _ _ _ _ rz5.out
  have u6 : Upd [] [] w4 ((w4.alloc (.cells Z 33)).setRow w4.heap.size R) := ((Upd.refl _ _).alloc _).setRowNew (Nat.le_refl _) _
  have HBC : Hid (∀ W, Tabs W → Calls Tryz.prog 44 #[.agg R] W (MkS (bodyL X) W)) := by
    intro W hW
    rw [HR.out]
    exact body_any X hXo hXd W hW
  have lbX := bodyL_len hXo
  have HRS : Hid ((Tryz.prog.info? 33).map (·.size) = some R.size) := by show _ = _; rw [HR.out]; exact rcSz hXo
  have HRZ : Hid (Z.size = R.size) := by show _ = _; rw [HR.out, hZr]; simp [rcV_len hXo, rcV_len Rc.zero_ok]
  have HR1 : Hid (R.all (·.oneCell') = true) := by show _ = _; rw [HR.out]; exact rcOne _
  have HZE := Lib.hid hZr
  subst hZ
  clear hZr hs4
  go_enter Tryz.func40, Tryz.ntmps40
  go_wp2_with (first | (refine wpList_buildTo rfl 33 _ rfl _ rfl R (Eq.trans (congrArg (fun z => Tryz.prog.built 33 z) (by kernel_rfl)) HBD.out) ?_) | (refine wpList_load_row rfl 24 _ rfl w.heap.size rfl _ A _ _ RA.out Tryz.underlying24 rfl IA.out ?_) | (refine wpList_load_row rfl 24 _ rfl (w.heap.size + 1) rfl _ B _ _ RB.out Tryz.underlying24 rfl IB.out ?_) | (refine wpList_load_row rfl 24 _ rfl (w.heap.size + 1 + 1) rfl _ C _ _ RC.out Tryz.underlying24 rfl IC.out ?_) | (refine wpList_store_row rfl 33 _ _ rfl w4.heap.size R rfl rfl _ _ rz5.out HRS.out HRZ.out HR1.out ?_) | (refine wpList_load_row rfl 33 _ rfl w4.heap.size rfl _ R _ _ R6.out Tryz.underlying33 rfl HRS.out ?_))
  have u6' := u4.trans u6
  refine (HBC.out _ (htab.upd u6')).mono ?_
  rintro e w7 ⟨y, HY, hy, rfl, hq⟩
  have r7 := r6.upd hq
  have u7 := u6'.trans hq
  have RZ7 := Lib.hid (row_updH RZ.out (u6.trans hq))
  have RZ4 := RZ
  have z7 : w4.heap.size < w7.heap.size := r7.lt
  clear hq r6 R6 rz5 u6 u6' RZ RA RB RC
  go_wp2_with fail
  refine (sign_any x y w7 (by unfold i64in at hx; omega) (by omega) (htab.upd u7)).mono ?_
  rintro e w8 ⟨g1, g2, HG1, HG2, hg1, hg2, rfl, hq⟩
  have r8 := r7.upd hq
  have u8 := u7.trans hq
  have RZ8 := Lib.hid (row_updH RZ7.out hq)
  clear hq RZ7
  obtain ⟨c0, c1⟩ := r8.sig hXo
  have f0 := r8.frozen 100
  have f1 := r8.frozen 101
  obtain ⟨Y, hY⟩ : ∃ Y : Rc, Y = { X with r := (g1 : Int), s := (g2 : Int) } := ⟨_, rfl⟩
  have hYo : Y.ok := by
    rw [hY]
    obtain ⟨o1, o2, o3, o4, o5, o6, _, _⟩ := hXo
    exact ⟨o1, o2, o3, o4, o5, o6, ⟨show (-9223372036854775808 : Int) ≤ (g1 : Int) by omega, show (g1 : Int) ≤ 9223372036854775807 by omega⟩, ⟨show (-9223372036854775808 : Int) ≤ (g2 : Int) by omega, show (g2 : Int) ≤ 9223372036854775807 by omega⟩⟩
  have r9 := r8.sigs hXo (g1 : Int) (g2 : Int)
  rw [← hY] at r9
  have hYE : rcV (printR k s n d a b c x) = rcV Y := by
    rw [HP.out, hY, HG1.out, HG2.out, HY.out]
  obtain ⟨M, hM⟩ : ∃ M, M = (rcV Y).toArray := ⟨_, rfl⟩
  have HYE : Hid (M = (rcV (printR k s n d a b c x)).toArray) := by show _ = _; rw [hM, hYE]
  have hMs : (Tryz.prog.info? 33).map (·.size) = some M.size := by rw [hM]; exact rcSz hYo
  have hMo : M.all (·.oneCell') = true := by rw [hM]; exact rcOne _
  have hMz : (Tryz.zeroCells33).size = M.size := by rw [hM, HZE.out]; simp [rcV_len hYo, rcV_len Rc.zero_ok]
  have hle := u4.size
  have hne : w.heap.size + 1 + 1 + 1 ≠ w4.heap.size := by
    have := (Array.getElem?_eq_some_iff.1 RZ4.out).1
    omega
  have R9 : Hid (((w8.setCell ⟨w4.heap.size, 100, none⟩ (.int .i64 (g1 : Int))).setCell ⟨w4.heap.size, 101, none⟩ (.int .i64 (g2 : Int))).heap[w4.heap.size]? = some (.cells M 33 (0, 0))) := by rw [hM]; exact r9
  have RZ9 : Hid (((w8.setCell ⟨w4.heap.size, 100, none⟩ (.int .i64 (g1 : Int))).setCell ⟨w4.heap.size, 101, none⟩ (.int .i64 (g2 : Int))).heap[w.heap.size + 1 + 1 + 1]? = some (.cells Tryz.zeroCells33 33 (0, 0))) := row_otherE (row_otherE RZ8.out hne _) hne _
  have u9 := (u8.setNew (p := ⟨w4.heap.size, 100, none⟩) hle (.int .i64 (g1 : Int))).setNew (p := ⟨w4.heap.size, 101, none⟩) hle (.int .i64 (g2 : Int))
  have HMS := Lib.hid hMs
  have HMO := Lib.hid hMo
  have HMZ := Lib.hid hMz
  have RF := setRow_heap _ _ _ M _ _ RZ9.out
  have RFH := Lib.hid RF
  clear hMs hMo hMz RF hM hYE r8 r9 RZ8 HP hY HG1 HG2 r7 HBC
  go_wp2_with (first | (refine wpList_load_row rfl 33 _ rfl w4.heap.size rfl _ M _ _ R9.out Tryz.underlying33 rfl HMS.out ?_) | (refine wpList_store_row rfl 33 _ _ rfl (w.heap.size + 1 + 1 + 1) M rfl rfl _ _ RZ9.out HMS.out HMZ.out HMO.out ?_))
  refine bodyPost_ret (results_cell_row rfl _ _ (w.heap.size + 1 + 1 + 1) _ M _ _ rfl RFH.out Tryz.underlying33 rfl HMS.out) rfl ⟨by rw [HYE.out], u9.setRowNew (by omega) _⟩
end Go.Proofs.YtmnmhhbldbdpfaaGreatDoor

namespace Go.Proofs.YtmnmhhbldbdpfaaGreatDoor
open Go.RowKit
set_option maxRecDepth 100000

theorem wstr_any (B b : Nat) (bs : List Value) (s : ByteArray) (w : World) (h : Lib.IsBuilder 99 5 B b bs w) (hlen : bs.length + s.size ≤ 140737488355328) (hBw : B ≤ w.heap.size) :
    Calls Tryz.prog 53 #[.pointer (some ⟨b, 0, none⟩), .string s] w fun e w' => e = .returned (.tuple #[.int .i64 s.size, .nilIface]) ∧ (Lib.BuilderAt 99 5 B b (.pointer (some ⟨b, 0, none⟩)) (bs ++ Lib.strCells s) w' ∧ Below B w w') :=
  Any.Builder_WriteString { Tryz.lays156 with } Tryz.Builder_Extra_156 B b bs s w h hlen hBw
end Go.Proofs.YtmnmhhbldbdpfaaGreatDoor

namespace Go.Proofs.YtmnmhhbldbdpfaaGreatDoor
open Go.RowKit
set_option maxRecDepth 100000

/-- A reader at its block. -/
def RdAt (w : World) (g : Nat) (rest : ByteArray) (wrong : Bool) : Prop := w.heap[g]? = some (.cells #[.string rest, .bool wrong] 85 (0, 0))
theorem RdAt.upd {w w' : World} {g : Nat} {r : ByteArray} {q : Bool} (h : RdAt w g r q) (u : Upd [] [] w w') : RdAt w' g r q := row_updH h u
theorem RdAt.cells {w : World} {g : Nat} {r : ByteArray} {q : Bool} (h : RdAt w g r q) : w.cell? ⟨g, 0, none⟩ = some (.string r) ∧ w.cell? ⟨g, 1, none⟩ = some (.bool q) ∧ w.frozen? ⟨g, 0, none⟩ = false ∧ w.frozen? ⟨g, 1, none⟩ = false :=
  ⟨by rw [cell_of_row _ _ _ _ _ _ h]; rfl, by rw [cell_of_row _ _ _ _ _ _ h]; rfl, frozen_of_row _ _ _ _ _ h, frozen_of_row _ _ _ _ _ h⟩
theorem RdAt.set {w : World} {g : Nat} {r : ByteArray} {q : Bool} (h : RdAt w g r q) (r' : ByteArray) (q' : Bool) : RdAt ((w.setCell ⟨g, 0, none⟩ (.string r')).setCell ⟨g, 1, none⟩ (.bool q')) g r' q' :=
  heap_setCell_same _ g 1 _ _ (.bool q') (heap_setCell_same w g 0 _ _ (.string r') h)
theorem RdAt.setQ {w : World} {g : Nat} {r : ByteArray} {q : Bool} (h : RdAt w g r q) (q' : Bool) : RdAt (w.setCell ⟨g, 1, none⟩ (.bool q')) g r q' :=
  heap_setCell_same _ g 1 _ _ (.bool q') h
/-- strings.Cut at one byte. -/
theorem cutByte_any (s : ByteArray) (c : UInt8) (w : World) (hs : s.size ≤ 4000000000) (htab : Tabs w) :
    Calls Tryz.prog 110 #[.string s, .string (ByteArray.mk #[c])] w (fun e w' => ∃ (l r : ByteArray) (b : Bool), Hid (bs l = (Lib.cut (bs s) [c]).1) ∧ Hid (bs r = (Lib.cut (bs s) [c]).2.1) ∧ Hid (b = (Lib.cut (bs s) [c]).2.2) ∧ l.size ≤ s.size ∧ r.size ≤ s.size ∧ e = .returned (.tuple #[.string l, .string r, .bool b]) ∧ Upd [] [] w w') := by
  obtain ⟨m, hm⟩ := htab.mc
  refine (Tryz.strings_Cut s (ByteArray.mk #[c]) m w (by omega) hm).mono ?_
  rintro e w' ⟨rfl, n, rfl⟩
  have h : (Lib.cut (bs s) [c]).1.length ≤ s.size ∧ (Lib.cut (bs s) [c]).2.1.length ≤ s.size := by
    unfold Lib.cut
    split
    · simp [bs_length]; omega
    · simp [bs_length]
  exact ⟨⟨(Lib.cut (bs s) [c]).1.toArray⟩, ⟨(Lib.cut (bs s) [c]).2.1.toArray⟩, _, rfl, rfl, rfl, h.1, h.2, rfl, (Upd.refl _ _).drewN n⟩
/-- A word, up to the byte c. -/
def MkUntil (c : UInt8) (g : Nat) (rest : ByteArray) (wrong : Bool) (w : World) (e : Ending) (w' : World) : Prop :=
  ∃ (l r : ByteArray) (q : Bool), Hid (∀ A R, c ∉ A → bs rest = A ++ c :: R → bs l = A ∧ bs r = R ∧ q = wrong) ∧ l.size ≤ rest.size ∧ r.size ≤ rest.size ∧ e = .returned (.string l) ∧ Hid (RdAt w' g r q) ∧ Upd [g] [] w w'
theorem Upd.wide {S : List Nat} {a b : World} (h : Upd [] [] a b) : Upd S [] a b := ⟨h.os, h.tape, h.output, h.size, fun i hi _ => h.block i hi (by simp), fun _ hk => absurd hk (by simp)⟩

set_option maxHeartbeats 1000000 in
theorem until_any (g : Nat) (rest : ByteArray) (wrong : Bool) (c : UInt8) (w : World) (hr : RdAt w g rest wrong) (hs : rest.size ≤ 4000000000) (htab : Tabs w) :
    Calls Tryz.prog 76 #[.pointer (some ⟨g, 0, none⟩), .string (ByteArray.mk #[c])] w (MkUntil c g rest wrong w) := by
  obtain ⟨k0, k1, f0, f1⟩ := hr.cells
  have HR := Lib.hid hr
  clear hr
  go_enter Tryz.func76, Tryz.ntmps76
  go_wp2_with fail
  refine (cutByte_any rest c w hs htab).mono ?_
  rintro e w1 ⟨l, r, b, HL, HRR, HB, hl, hrr, rfl, hu⟩
  have h1 := HR.out.upd hu
  clear k0 k1 f0 f1
  obtain ⟨k0, k1, f0, f1⟩ := h1.cells
  have HH : Hid (∀ A R, c ∉ A → bs rest = A ++ c :: R → bs l = A ∧ bs r = R ∧ b = true) := by
    intro A R hA e
    rw [HL.out, HRR.out, HB.out, e, cut_hit c A R hA]
    exact ⟨rfl, rfl, rfl⟩
  have HU := Lib.hid (Upd.wide (S := [g]) hu)
  cases wrong <;> cases b
  · have H2 := Lib.hid (h1.set r true)
    clear h1
    go_wp2_with fail
    go_ret
    exact ⟨l, r, true, fun A R hA e => (by have := (HH.out A R hA e).2.2; cases this), hl, hrr, rfl, H2.out, (HU.out.setCell (p := ⟨g, 0, none⟩) (by simp) _).setCell (p := ⟨g, 1, none⟩) (by simp) _⟩
  · have H2 := Lib.hid (h1.set r false)
    clear h1
    go_wp2_with fail
    go_ret
    exact ⟨l, r, false, fun A R hA e => ⟨(HH.out A R hA e).1, (HH.out A R hA e).2.1, rfl⟩, hl, hrr, rfl, H2.out, (HU.out.setCell (p := ⟨g, 0, none⟩) (by simp) _).setCell (p := ⟨g, 1, none⟩) (by simp) _⟩
  · have H2 := Lib.hid (h1.set r true)
    clear h1
    go_wp2_with fail
    go_ret
    exact ⟨l, r, true, fun A R hA e => ⟨(HH.out A R hA e).1, (HH.out A R hA e).2.1, rfl⟩, hl, hrr, rfl, H2.out, (HU.out.setCell (p := ⟨g, 0, none⟩) (by simp) _).setCell (p := ⟨g, 1, none⟩) (by simp) _⟩
  · have H2 := Lib.hid (h1.set r true)
    clear h1
    go_wp2_with fail
    go_ret
    exact ⟨l, r, true, fun A R hA e => ⟨(HH.out A R hA e).1, (HH.out A R hA e).2.1, rfl⟩, hl, hrr, rfl, H2.out, (HU.out.setCell (p := ⟨g, 0, none⟩) (by simp) _).setCell (p := ⟨g, 1, none⟩) (by simp) _⟩

theorem word_any (g : Nat) (rest : ByteArray) (wrong : Bool) (w : World) (hr : RdAt w g rest wrong) (hs : rest.size ≤ 4000000000) (htab : Tabs w) :
    Calls Tryz.prog 45 #[.pointer (some ⟨g, 0, none⟩)] w (MkUntil 32 g rest wrong w) := by
  go_enter Tryz.func45, Tryz.ntmps45
  go_wp2_with fail
  refine (until_any g rest wrong 32 w hr hs htab).mono ?_
  rintro e w1 ⟨l, r, q, HH, hl, hrr, rfl, HR, hu⟩
  go_wp2_with fail
  go_ret
  exact ⟨l, r, q, HH, hl, hrr, rfl, HR, hu⟩
end Go.Proofs.YtmnmhhbldbdpfaaGreatDoor

namespace Go.Proofs.YtmnmhhbldbdpfaaGreatDoor
open Go.RowKit
set_option maxRecDepth 100000

theorem Upd.own2 {g : Nat} {a b c : World} (h : Upd [] [] a b) (k : Upd [g] [] b c) (hB : a.heap.size ≤ g) : Upd [] [] a c :=
  ⟨k.os.trans h.os, k.tape.trans h.tape, k.output.trans h.output, Nat.le_trans h.size k.size, fun i hi _ => (k.block i (Nat.lt_of_lt_of_le hi h.size) (by simp; omega)).trans (h.block i hi (by simp)), fun _ hk => absurd hk (by simp)⟩
theorem Upd.then2 {g : Nat} {a b c : World} (h : Upd [g] [] a b) (k : Upd [] [] b c) : Upd [g] [] a c :=
  ⟨k.os.trans h.os, k.tape.trans h.tape, k.output.trans h.output, Nat.le_trans h.size k.size, fun i hi hn => (k.block i (Nat.lt_of_lt_of_le hi h.size) (by simp)).trans (h.block i hi hn), fun _ hk => absurd hk (by simp)⟩
theorem Upd.first2 {g : Nat} {a b c : World} (h : Upd [] [] a b) (k : Upd [g] [] b c) : Upd [g] [] a c :=
  ⟨k.os.trans h.os, k.tape.trans h.tape, k.output.trans h.output, Nat.le_trans h.size k.size, fun i hi hn => (k.block i (Nat.lt_of_lt_of_le hi h.size) hn).trans (h.block i hi (by simp)), fun _ hk => absurd hk (by simp)⟩
theorem row_updG {w w' : World} {B g : Nat} {o : Obj} (h : w.heap[B]? = some o) (u : Upd [g] [] w w') (n : B ≠ g) : w'.heap[B]? = some o := by
  rw [u.block _ (Array.getElem?_eq_some_iff.1 h).1 (by simpa using n)]; exact h
theorem Upd.setOld {g : Nat} {a b : World} (h : Upd [g] [] a b) (j : Nat) (v : Value) : Upd [g] [] a (b.setCell ⟨g, j, none⟩ v) := h.setCell (p := ⟨g, j, none⟩) (by simp) v
/-- A number, ahead of a blank. -/
def MkRdNum (g : Nat) (rest : ByteArray) (wrong : Bool) (w : World) (e : Ending) (w' : World) : Prop :=
  ∃ (n : Int) (r : ByteArray) (q : Bool), Hid (∀ k R, i64in k → bs rest = Lib.itoa k ++ 32 :: R → n = k ∧ bs r = R ∧ q = wrong) ∧ i64in n ∧ r.size ≤ rest.size ∧ e = .returned (.int .i64 n) ∧ Hid (RdAt w' g r q) ∧ Upd [g] [] w w'

set_option maxHeartbeats 1000000 in
theorem rdNum_any (g : Nat) (rest : ByteArray) (wrong : Bool) (w W0 : World) (h0 : Upd [] [] W0 w) (hg : W0.heap.size ≤ g) (hr : RdAt w g rest wrong) (hs : rest.size ≤ 4000000000) (htab : Tabs W0) :
    Calls Tryz.prog 46 #[.pointer (some ⟨g, 0, none⟩)] w (MkRdNum g rest wrong w) := by
  go_enter Tryz.func46, Tryz.ntmps46
  go_wp2_with fail
  refine (word_any g rest wrong w hr hs (htab.upd h0)).mono ?_
  rintro e w1 ⟨l, r, q, HH, hl, hrr, rfl, HR, hu⟩
  have h1 := h0.own2 hu hg
  have HU := Lib.hid hu
  clear hu hr
  go_wp2_with fail
  by_cases hv : ∃ v, Lib.atoiAll (bs l) = .ok v
  · obtain ⟨v, hv⟩ := hv
    have hvi : i64in v := Lib.atoiAll_bounds hv
    have HV := Lib.hid hv
    clear hv
    refine (atoi_ok l v w1 (by omega) HV.out).mono ?_
    rintro e w2 ⟨rfl, hu2⟩
    have r2 := HR.out.upd hu2
    have HU2 := Lib.hid (HU.out.then2 hu2)
    obtain ⟨k0, k1, f0, f1⟩ := r2.cells
    have HF : Hid (∀ k R, i64in k → bs rest = Lib.itoa k ++ 32 :: R → v = k ∧ bs r = R ∧ q = wrong) := by
      intro k R hk e
      obtain ⟨e1, e2, e3⟩ := HH.out _ R (itoa_no32 k) e
      refine ⟨?_, e2, e3⟩
      have h := HV.out
      rw [e1, atoi_itoa k hk] at h
      injection h with h
      exact h.symm
    clear hu2 h1
    cases q
    · have R3 := Lib.hid (r2.setQ false)
      clear r2
      go_wp2_with fail
      go_ret
      exact ⟨v, r, false, HF, hvi, hrr, rfl, R3, HU2.out.setOld 1 _⟩
    · have R3 := Lib.hid (r2.setQ true)
      clear r2
      go_wp2_with fail
      go_ret
      exact ⟨v, r, true, HF, hvi, hrr, rfl, R3, HU2.out.setOld 1 _⟩
  · have hv' : ∀ v, Lib.atoiAll (bs l) ≠ .ok v := fun v e => hv ⟨v, e⟩
    have HV := Lib.hid hv'
    clear hv hv'
    refine (atoi_bad l w1 (by omega) HV.out (htab.upd h1)).mono ?_
    rintro e w2 ⟨v, N, rfl, hvi, hu2⟩
    have r2 := HR.out.upd hu2
    have HU2 := Lib.hid (HU.out.then2 hu2)
    obtain ⟨k0, k1, f0, f1⟩ := r2.cells
    have HF : Hid (∀ k R, i64in k → bs rest = Lib.itoa k ++ 32 :: R → v = k ∧ bs r = R ∧ true = wrong) := by
      intro k R hk e
      obtain ⟨e1, e2, e3⟩ := HH.out _ R (itoa_no32 k) e
      exact absurd (by rw [e1]; exact atoi_itoa k hk) (HV.out k)
    have R3 := Lib.hid (r2.setQ true)
    clear hu2 h1 r2
    cases q
    · go_wp2_with fail
      go_ret
      exact ⟨v, r, true, HF, hvi, hrr, rfl, R3, HU2.out.setOld 1 _⟩
    · go_wp2_with fail
      go_ret
      exact ⟨v, r, true, HF, hvi, hrr, rfl, R3, HU2.out.setOld 1 _⟩
/-- A signature, ahead of a blank. -/
def MkSigW (g : Nat) (rest : ByteArray) (wrong : Bool) (w : World) (e : Ending) (w' : World) : Prop :=
  ∃ (a b : Int) (r : ByteArray) (q : Bool), Hid (∀ x y R, i64in x → i64in y → bs rest = pairL x y ++ 32 :: R → a = x ∧ b = y ∧ bs r = R ∧ q = wrong) ∧ i64in a ∧ i64in b ∧ r.size ≤ rest.size ∧ e = .returned (.agg #[.int .i64 a, .int .i64 b]) ∧ Hid (RdAt w' g r q) ∧ Upd [g] [] w w'

set_option maxHeartbeats 1000000 in
theorem sigW_any (g : Nat) (rest : ByteArray) (wrong : Bool) (w W0 : World) (h0 : Upd [] [] W0 w) (hg : W0.heap.size ≤ g) (hr : RdAt w g rest wrong) (hs : rest.size ≤ 4000000000) (htab : Tabs W0) :
    Calls Tryz.prog 48 #[.pointer (some ⟨g, 0, none⟩)] w (MkSigW g rest wrong w) := by
  have s0 := SigAt.start w 0 0
  have r0 := hr.upd s0.up
  have hgw : g < w.heap.size := (Array.getElem?_eq_some_iff.1 hr).1
  go_enter Tryz.func48, Tryz.ntmps48
  go_wp2_with fail
  refine (word_any g rest wrong _ r0 hs (htab.upd (h0.trans s0.up))).mono ?_
  rintro e w1 ⟨l, r, q, HH, hl, hrr, rfl, HR, hu⟩
  have h1 := (h0.trans s0.up).own2 hu hg
  have HU := Lib.hid (s0.up.first2 hu)
  have z1 := row_updG s0.row hu (by omega)
  clear hr r0 hu
  go_wp2_with fail
  refine (read_any l w1 (by omega) (htab.upd h1)).mono ?_
  rintro e w2 ⟨a, b, ok, HV, ha, hb, rfl, hu2⟩
  have r2 := HR.out.upd hu2
  have z2 := row_updH z1 hu2
  have s2 := SigAt.start w2 a b
  have r3 := r2.upd s2.up
  have z3 := row_updH z2 s2.up
  have HU3 := Lib.hid ((HU.out.then2 hu2).then2 s2.up)
  have hg3 : w.heap.size < w2.heap.size := by
    have := (Array.getElem?_eq_some_iff.1 z2).1
    exact this
  have HF : Hid (∀ x y R, i64in x → i64in y → bs rest = pairL x y ++ 32 :: R → a = x ∧ b = y ∧ bs r = R ∧ q = wrong ∧ ok = true) := by
    intro x y R hx hy e
    obtain ⟨e1, e2, e3⟩ := HH.out _ R (pairL_no32 x y) e
    have h := HV.out
    rw [e1, readV, readL_pair hx hy] at h
    simp only [Prod.mk.injEq] at h
    exact ⟨h.1.symm, h.2.1.symm, e2, e3, h.2.2.symm⟩
  obtain ⟨k0, k1, f0, f1⟩ := r3.cells
  obtain ⟨c0, c1⟩ := s2.cells
  have y0 : (w2.alloc (.cells #[.int .i64 a, .int .i64 b] 31)).cell? ⟨w.heap.size, 0, none⟩ = some (.int .i64 0) := by rw [cell_of_row _ _ _ _ _ _ z3]; rfl
  have y1 : (w2.alloc (.cells #[.int .i64 a, .int .i64 b] 31)).cell? ⟨w.heap.size, 1, none⟩ = some (.int .i64 0) := by rw [cell_of_row _ _ _ _ _ _ z3]; rfl
  have y2 : (w2.alloc (.cells #[.int .i64 a, .int .i64 b] 31)).frozen? ⟨w.heap.size, 0, none⟩ = false := frozen_of_row _ _ _ _ _ z3
  have y3 : (w2.alloc (.cells #[.int .i64 a, .int .i64 b] 31)).frozen? ⟨w.heap.size, 1, none⟩ = false := frozen_of_row _ _ _ _ _ z3
  have n0 : ¬ g = w.heap.size := by omega
  have n1 : ¬ w.heap.size = g := by omega
  have n2 : ¬ g = w2.heap.size := by omega
  have n3 : ¬ w2.heap.size = g := by omega
  have hl2 : ¬ w.heap.size = w2.heap.size := by omega
  have hl3 : ¬ w2.heap.size = w.heap.size := by omega
  clear hu2 h1 z1 z2 r2
  cases q <;> cases ok
  all_goals
    go_wp2_with fail
    refine bodyPost_ret (v := .agg #[.int .i64 a, .int .i64 b]) (by simp [results, Tryz.results48, go_sem, y0, y1]) rfl ⟨a, b, r, _, ?_, ha, hb, by omega, rfl, row_otherE (row_otherE (r3.setQ _) n0 _) n0 _, ((HU3.out.setOld 1 _).setNew (p := ⟨w.heap.size, 0, none⟩) (Nat.le_refl _) _).setNew (p := ⟨w.heap.size, 1, none⟩) (Nat.le_refl _) _⟩
    intro x y R hx hy e
    obtain ⟨p1, p2, p3, p4, p5⟩ := HF.out x y R hx hy e
    first
      | exact absurd p5 (by decide)
      | exact ⟨p1, p2, p3, p4⟩
end Go.Proofs.YtmnmhhbldbdpfaaGreatDoor

namespace Go.Proofs.YtmnmhhbldbdpfaaGreatDoor
open Go.RowKit
set_option maxRecDepth 100000

/-- A hash, ahead of a blank. -/
def MkHashW (g : Nat) (rest : ByteArray) (wrong : Bool) (w : World) (e : Ending) (w' : World) : Prop :=
  ∃ (h : List UInt8) (r : ByteArray) (q : Bool), Hid (∀ k R, k.length = 32 → bs rest = hexL k ++ 32 :: R → h = k ∧ bs r = R ∧ q = wrong) ∧ h.length = 32 ∧ r.size ≤ rest.size ∧ e = .returned (.agg (byteVals h).toArray) ∧ Hid (RdAt w' g r q) ∧ Upd [g] [] w w'
theorem Upd.setRowNew2 {g : Nat} {a b : World} (h : Upd [g] [] a b) {L : Nat} (hL : a.heap.size ≤ L) (cs : Array Value) : Upd [g] [] a (b.setRow L cs) := h.setRowNew hL cs

theorem row_setRowO {w : World} {g L : Nat} {o : Obj} (h : w.heap[g]? = some o) (n : g ≠ L) (cs : Array Value) : (w.setRow L cs).heap[g]? = some o := by
  unfold World.setRow
  rw [Array.getElem?_modify, if_neg (fun e => n e.symm)]
  exact h
/-- A row is stored; the world behind it under a name. -/
theorem wpList_store_rowAs {P : Program} {ops : Array Oper} {rest : List Oper} {o : Oper} {a : Act} {w : World} {Q : Exit → Act → World → Prop} (hgd : o.guard = none) (ty : TypeId) (x y : Operand) (ho : o.op = .store ty x y)
    (g : Nat) (cells : Array Value) (hx : a.eval x = .pointer (some ⟨g, 0, none⟩)) (hy : a.eval y = .agg cells)
    (t : TypeId) (old : Array Value) (hg : w.heap[g]? = some (.cells old t (0, 0))) (hi : (P.info? ty).map (·.size) = some cells.size)
    (hold : old.size = cells.size) (h1 : cells.all (·.oneCell') = true) (w' : World) (hw : w.setRow g cells = w')
    (h : wpList P ops Q rest (a.put o.dst undef) w') : wpList P ops Q (o :: rest) a w := by
  subst hw
  exact wpList_store_row hgd ty x y ho g cells hx hy t old hg hi hold h1 h

set_option maxHeartbeats 1000000 in
theorem hashW_any (g : Nat) (rest : ByteArray) (wrong : Bool) (w W0 : World) (h0 : Upd [] [] W0 w) (_hg : W0.heap.size ≤ g) (hr : RdAt w g rest wrong) (hs : rest.size ≤ 4000000000) (htab : Tabs W0) :
    Calls Tryz.prog 47 #[.pointer (some ⟨g, 0, none⟩)] w (MkHashW g rest wrong w) := by
  have a0 : AB 24 (w.alloc (.cells (byteVals zero32).toArray 24)) w.heap.size zero32 := heap_alloc_new _ _
  have u0 : Upd [] [] w (w.alloc (.cells (byteVals zero32).toArray 24)) := (Upd.refl _ _).alloc _
  have r0 := hr.upd u0
  have hgw : g < w.heap.size := (Array.getElem?_eq_some_iff.1 hr).1
  have hz : zero32.length = 32 := by simp [zero32]
  have HZ := Lib.hid hz
  clear hz
  go_enter Tryz.func47, Tryz.ntmps47
  go_wp2_with fail
  refine (word_any g rest wrong _ r0 hs (htab.upd (h0.trans u0))).mono ?_
  rintro e w1 ⟨l, r, q, HH, hl, hrr, rfl, HR, hu⟩
  have HU := Lib.hid (u0.first2 hu)
  have a1 : AB 24 w1 w.heap.size zero32 := row_updG a0 hu (by omega)
  clear hr r0 hu a0 u0
  go_wp2_with fail
  refine (hexRead_any l w1).mono ?_
  rintro e w2 ⟨h, ok, HO, rfl, hu2⟩
  have hh := HO.out.1
  have HL := Lib.hid hh
  have r2 := HR.out.upd hu2
  have a2 := a1.upd hu2
  have HU2 := Lib.hid (HU.out.then2 hu2)
  have hg3 : w.heap.size < w2.heap.size := (Array.getElem?_eq_some_iff.1 a2).1
  have HF : Hid (∀ k R, k.length = 32 → bs rest = hexL k ++ 32 :: R → h = k ∧ bs r = R ∧ q = wrong ∧ ok = true) := by
    intro k R hk e
    obtain ⟨e1, e2, e3⟩ := HH.out _ R (hexL_no32 k) e
    have ho := HO.out
    rw [e1] at ho
    obtain ⟨p1, p2⟩ := hexOk_hex hk ho
    exact ⟨p1, e2, e3, p2⟩
  have z2 : Hid (AB 24 (w2.alloc (.cells (byteVals zero32).toArray 24)) w2.heap.size zero32) := heap_alloc_new _ _
  have u3 : Upd [] [] w2 ((w2.alloc (.cells (byteVals zero32).toArray 24)).setRow w2.heap.size (byteVals h).toArray) := ((Upd.refl _ _).alloc _).setRowNew (Nat.le_refl _) _
  have b3 := z2.out.setRow h
  obtain ⟨w3, hw3⟩ : ∃ w3, (w2.alloc (.cells (byteVals zero32).toArray 24)).setRow w2.heap.size (byteVals h).toArray = w3 := ⟨_, rfl⟩
  rw [hw3] at u3 b3
  have HW3 := Lib.hid hw3
  have r3 := r2.upd u3
  have a3 := a2.upd u3
  have HU3 := Lib.hid (HU2.out.then2 u3)
  obtain ⟨k0, k1, f0, f1⟩ := r3.cells
  have n0 : g ≠ w.heap.size := by omega
  have n1 : w.heap.size ≠ g := by omega
  have n3 : w2.heap.size ≠ g := by omega
  clear hw3
  clear hu2 a1 a2 r2 u3 hh
  cases q <;> cases ok
  all_goals
    go_wp2_with (first | (refine wpList_store_rowAs rfl 24 _ _ rfl w2.heap.size (byteVals h).toArray rfl rfl _ _ z2.out (hashInfo HL.out) (by simp [byteVals, HL.out, HZ.out]) (hashOne _) w3 HW3.out ?_) | (refine wpList_load_row rfl 24 _ rfl w2.heap.size rfl _ (byteVals h).toArray _ _ (AB.other b3 n3 _) Tryz.underlying24 rfl (hashInfo HL.out) ?_) | (refine wpList_store_row rfl 24 _ _ rfl w.heap.size (byteVals h).toArray rfl rfl _ _ (AB.other a3 n1 _) (hashInfo HL.out) (by simp [byteVals, HL.out, HZ.out]) (hashOne _) ?_))
    refine bodyPost_ret (results_cell_row rfl _ _ w.heap.size _ (byteVals h).toArray _ _ rfl ((AB.other a3 n1 _).setRow h) Tryz.underlying24 rfl (hashInfo HL.out)) rfl ⟨h, r, _, ?_, HL.out, by omega, rfl, row_setRowO (r3.setQ _) n0 _, (HU3.out.setOld 1 _).setRowNew (Nat.le_refl _) _⟩
    intro k R hk e
    obtain ⟨p1, p2, p3, p4⟩ := HF.out k R hk e
    first
      | exact absurd p4 (by decide)
      | exact ⟨p1, p2, p3⟩
end Go.Proofs.YtmnmhhbldbdpfaaGreatDoor

namespace Go.Proofs.YtmnmhhbldbdpfaaGreatDoor
open Go.RowKit
set_option maxRecDepth 100000

theorem row_setCells {g : Nat} {T : TypeId} : ∀ (V : List Value) (o : Nat) (w : World) (A B C : List Value), w.heap[g]? = some (.cells (A ++ (B ++ C)).toArray T (0, 0)) → A.length = o → B.length = V.length → (w.setCells g o V).heap[g]? = some (.cells (A ++ (V ++ C)).toArray T (0, 0))
  | [], o, w, A, B, C, h, hA, hB => by
    have : B = [] := List.eq_nil_of_length_eq_zero (by simpa using hB)
    subst this
    exact h
  | v :: V, o, w, A, [], C, h, hA, hB => by simp at hB
  | v :: V, o, w, A, b :: B, C, h, hA, hB => by
    have h1 := heap_setCell_same w g o _ _ v h
    have e : ((A ++ (b :: B ++ C)).toArray.setIfInBounds o v) = ((A ++ [v]) ++ (B ++ C)).toArray := by
      apply Array.ext'
      rw [Array.toList_setIfInBounds]
      show (A ++ (b :: B ++ C)).set o v = (A ++ [v]) ++ (B ++ C)
      rw [List.set_append_right _ _ (by omega), ← hA, Nat.sub_self]
      simp
    rw [e] at h1
    have h2 := row_setCells V (o + 1) (w.setCell ⟨g, o, none⟩ v) (A ++ [v]) B C h1 (by simp; omega) (by simpa using hB)
    rw [World.setCells, h2]
    simp
theorem Upd.setCellsNew {S S' : List Nat} {a : World} {g : Nat} (hg : a.heap.size ≤ g) : ∀ (V : List Value) (o : Nat) (b : World), Upd S S' a b → Upd S S' a (b.setCells g o V)
  | [], _, _, h => h
  | v :: V, o, b, h => by
    rw [World.setCells]
    exact Upd.setCellsNew hg V (o + 1) _ (h.setNew (p := ⟨g, o, none⟩) hg v)
theorem row_setCellsO {g L : Nat} {ob : Obj} (n : g ≠ L) : ∀ (V : List Value) (o : Nat) (w : World), w.heap[g]? = some ob → (w.setCells L o V).heap[g]? = some ob
  | [], _, _, h => h
  | v :: V, o, w, h => by
    rw [World.setCells]
    exact row_setCellsO n V (o + 1) _ (row_otherE h n v)
theorem RcAt.there {w : World} {g : Nat} {x : Rc} (h : RcAt w g x) (hx : x.ok) (o n : Nat) (hn : o + n ≤ 102) : w.there g o n := fun j hj => by
  refine ⟨?_, h.frozen _⟩
  rw [h.cell, List.getElem?_eq_getElem (by rw [rcV_len hx]; omega)]
  rfl
theorem RcAt.kiosk {w : World} {g : Nat} {x : Rc} (h : RcAt w g x) (k : Int) : RcAt (w.setCell ⟨g, 0, none⟩ (.int .i64 k)) g { x with kiosk := k } := heap_setCell_same w g 0 _ _ (.int .i64 k) h
theorem RcAt.serial {w : World} {g : Nat} {x : Rc} (h : RcAt w g x) (k : Int) : RcAt (w.setCell ⟨g, 1, none⟩ (.int .i64 k)) g { x with serial := k } := heap_setCell_same w g 1 _ _ (.int .i64 k) h
theorem RcAt.draw {w : World} {g : Nat} {x : Rc} (h : RcAt w g x) (k : ByteArray) : RcAt (w.setCell ⟨g, 2, none⟩ (.string k)) g { x with draw := k } := heap_setCell_same w g 2 _ _ (.string k) h
theorem RcAt.seen {w : World} {g : Nat} {x : Rc} (h : RcAt w g x) (k : Int) : RcAt (w.setCell ⟨g, 3, none⟩ (.int .i64 k)) g { x with seen := k } := heap_setCell_same w g 3 _ _ (.int .i64 k) h
theorem RcAt.out {w : World} {g : Nat} {x : Rc} (h : RcAt w g x) (hx : x.ok) {k : List UInt8} (hk : k.length = 32) : RcAt (w.setCells g 4 (byteVals k)) g { x with out := k } :=
  row_setCells (byteVals k) 4 w [.int .i64 x.kiosk, .int .i64 x.serial, .string x.draw, .int .i64 x.seen] (byteVals x.out) _ h rfl (by rw [byteVals_length, byteVals_length, hx.2.2.2.1, hk])
theorem RcAt.hash {w : World} {g : Nat} {x : Rc} (h : RcAt w g x) (hx : x.ok) {k : List UInt8} (hk : k.length = 32) : RcAt (w.setCells g 36 (byteVals k)) g { x with hash := k } := by
  have e : ∀ k : List UInt8, rcV { x with hash := k } = ([.int .i64 x.kiosk, .int .i64 x.serial, .string x.draw, .int .i64 x.seen] ++ byteVals x.out) ++ (byteVals k ++ (byteVals x.prev ++ [.int .i64 x.r, .int .i64 x.s])) := by intro k; simp [rcV]
  have h' := h
  unfold RcAt at h' ⊢
  rw [show rcV x = rcV { x with hash := x.hash } from rfl, e] at h'
  rw [e]
  exact row_setCells (byteVals k) 36 w _ _ _ h' (by simp [byteVals_length, hx.2.2.2.1]) (by rw [byteVals_length, byteVals_length, hx.2.2.2.2.1, hk])
theorem RcAt.prev {w : World} {g : Nat} {x : Rc} (h : RcAt w g x) (hx : x.ok) {k : List UInt8} (hk : k.length = 32) : RcAt (w.setCells g 68 (byteVals k)) g { x with prev := k } := by
  have e : ∀ k : List UInt8, rcV { x with prev := k } = ([.int .i64 x.kiosk, .int .i64 x.serial, .string x.draw, .int .i64 x.seen] ++ byteVals x.out ++ byteVals x.hash) ++ (byteVals k ++ [.int .i64 x.r, .int .i64 x.s]) := by intro k; simp [rcV]
  have h' := h
  unfold RcAt at h' ⊢
  rw [show rcV x = rcV { x with prev := x.prev } from rfl, e] at h'
  rw [e]
  exact row_setCells (byteVals k) 68 w _ _ _ h' (by simp [byteVals_length, hx.2.2.2.1, hx.2.2.2.2.1]) (by rw [byteVals_length, byteVals_length, hx.2.2.2.2.2.1, hk])

/-- Word by word, a receipt's text gives the receipt. -/
theorem chainR {s r1 r2 r3 r4 r5 r6 r7 r8 l2 : ByteArray} {q1 q2 q3 q4 q5 q6 q7 q8 : Bool} {a b k m n : Int} {h1 h2 h3 : List UInt8}
    (H1 : ∀ x y R, i64in x → i64in y → bs s = pairL x y ++ 32 :: R → a = x ∧ b = y ∧ bs r1 = R ∧ q1 = false)
    (H2 : ∀ A R, (32 : UInt8) ∉ A → bs r1 = A ++ 32 :: R → bs l2 = A ∧ bs r2 = R ∧ q2 = q1)
    (H3 : ∀ x R, i64in x → bs r2 = Lib.itoa x ++ 32 :: R → k = x ∧ bs r3 = R ∧ q3 = q2)
    (H4 : ∀ x R, i64in x → bs r3 = Lib.itoa x ++ 32 :: R → m = x ∧ bs r4 = R ∧ q4 = q3)
    (H5 : ∀ x R, i64in x → bs r4 = Lib.itoa x ++ 32 :: R → n = x ∧ bs r5 = R ∧ q5 = q4)
    (H6 : ∀ x R, x.length = 32 → bs r5 = hexL x ++ 32 :: R → h1 = x ∧ bs r6 = R ∧ q6 = q5)
    (H7 : ∀ x R, x.length = 32 → bs r6 = hexL x ++ 32 :: R → h2 = x ∧ bs r7 = R ∧ q7 = q6)
    (H8 : ∀ x R, x.length = 32 → bs r7 = hexL x ++ 32 :: R → h3 = x ∧ bs r8 = R ∧ q8 = q7)
    {y : Rc} (hy : y.ok) (e : bs s = textL y) : (⟨k, m, n, r8, h1, h2, h3, a, b⟩ : Rc) = y ∧ q8 = false := by
  obtain ⟨y1, y2, y3, y4, y5, y6, y7, y8⟩ := hy
  unfold textL bodyL at e
  obtain ⟨e1, e2, e3, f1⟩ := H1 _ _ _ y7 y8 e
  obtain ⟨_, e4, f2⟩ := H2 _ _ (by decide) e3
  obtain ⟨e5, e6, f3⟩ := H3 _ _ y1 e4
  obtain ⟨e7, e8, f4⟩ := H4 _ _ y2 e6
  obtain ⟨e9, e10, f5⟩ := H5 _ _ y3 e8
  obtain ⟨e11, e12, f6⟩ := H6 _ _ y4 e10
  obtain ⟨e13, e14, f7⟩ := H7 _ _ y5 e12
  obtain ⟨e15, e16, f8⟩ := H8 _ _ y6 e14
  have e17 := bs_injE e16
  refine ⟨?_, by rw [f8, f7, f6, f5, f4, f3, f2, f1]⟩
  rw [e1, e2, e5, e7, e9, e11, e13, e15, e17]
end Go.Proofs.YtmnmhhbldbdpfaaGreatDoor

namespace Go.Proofs.YtmnmhhbldbdpfaaGreatDoor
open Go.RowKit
set_option maxRecDepth 100000

/-- What a reader of a receipt's text gives. -/
def MkRc (l : List UInt8) (w : World) (e : Ending) (w' : World) : Prop := ∃ (x : Rc) (ok : Bool), Hid (rcOk l x ok) ∧ e = .returned (.tuple #[.agg (rcV x).toArray, .bool ok]) ∧ Upd [] [] w w'
/-- The three blocks of entry.Read. -/
structure RdSt (w wi : World) (rest : ByteArray) (q : Bool) (x : Rc) : Prop where
  rz : RcAt wi w.heap.size Rc.zero
  rd : RdAt wi (w.heap.size + 1) rest q
  rc : RcAt wi (w.heap.size + 1 + 1) x
  up : Upd [] [] w wi
  ok : x.ok
theorem RdSt.step {w wi wj : World} {r r' : ByteArray} {q q' : Bool} {x : Rc} (h : RdSt w wi r q x) (u : Upd [w.heap.size + 1] [] wi wj) (d : RdAt wj (w.heap.size + 1) r' q') : RdSt w wj r' q' x :=
  ⟨row_updG h.rz u (by omega), d, row_updG h.rc u (by omega), h.up.own2 u (by omega), h.ok⟩
theorem RdSt.cell {w wi : World} {r : ByteArray} {q : Bool} {x y : Rc} (h : RdSt w wi r q x) (j : Nat) (v : Value) (hy : RcAt (wi.setCell ⟨w.heap.size + 1 + 1, j, none⟩ v) (w.heap.size + 1 + 1) y) (ho : y.ok) : RdSt w (wi.setCell ⟨w.heap.size + 1 + 1, j, none⟩ v) r q y :=
  ⟨row_otherE h.rz (by omega) v, row_otherE h.rd (by omega) v, hy, h.up.setNew (p := ⟨w.heap.size + 1 + 1, j, none⟩) (by show w.heap.size ≤ w.heap.size + 1 + 1; omega) v, ho⟩
theorem RdSt.cells {w wi : World} {r : ByteArray} {q : Bool} {x y : Rc} (h : RdSt w wi r q x) (j : Nat) (V : List Value) (hy : RcAt (wi.setCells (w.heap.size + 1 + 1) j V) (w.heap.size + 1 + 1) y) (ho : y.ok) : RdSt w (wi.setCells (w.heap.size + 1 + 1) j V) r q y :=
  ⟨row_setCellsO (by omega) V j _ h.rz, row_setCellsO (by omega) V j _ h.rd, hy, Upd.setCellsNew (by omega) V j _ h.up, ho⟩
theorem RdSt.start (w : World) (s : ByteArray) : RdSt w (((w.alloc (.cells Tryz.zeroCells33 33)).alloc (.cells #[.string s, .bool false] 85)).alloc (.cells Tryz.zeroCells33 33)) s false Rc.zero := by
  have hz : Tryz.zeroCells33 = (rcV Rc.zero).toArray := rfl
  refine ⟨?_, ?_, ?_, (((Upd.refl _ _).alloc _).alloc _).alloc _, Rc.zero_ok⟩
  · rw [hz]
    exact row_updH (heap_alloc_new w _) (((Upd.refl [] _).alloc _).alloc _)
  · have h := row_updH (heap_alloc_new (w.alloc (.cells Tryz.zeroCells33 33)) (.cells #[.string s, .bool false] 85)) ((Upd.refl [] _).alloc (.cells Tryz.zeroCells33 33))
    rw [World.size_alloc] at h
    exact h
  · have h := heap_alloc_new ((w.alloc (.cells Tryz.zeroCells33 33)).alloc (.cells #[.string s, .bool false] 85)) (.cells Tryz.zeroCells33 33)
    rw [World.size_alloc, World.size_alloc] at h
    unfold RcAt
    rw [← hz]
    exact h

/-- A part of a row is stored; the world behind it under a name. -/
theorem wpList_store_midAs {P : Program} {ops : Array Oper} {rest : List Oper} {op : Oper} {a : Act} {w : World} {Q : Exit → Act → World → Prop} (hgd : op.guard = none) (ty : TypeId) (x y : Operand) (ho : op.op = .store ty x y)
    (b o : Nat) (cells : Array Value) (hx : a.eval x = .pointer (some ⟨b, o, none⟩)) (hy : a.eval y = .agg cells)
    (ht : w.there b o cells.size) (hi : (P.info? ty).map (·.size) = some cells.size) (h1 : cells.all (·.oneCell') = true) (w' : World) (hw : w.setCells b o cells.toList = w')
    (h : wpList P ops Q rest (a.put op.dst undef) w') : wpList P ops Q (op :: rest) a w := by
  subst hw
  exact wpList_store_mid hgd ty x y ho b o cells hx hy ht hi h1 h
/-- A row is loaded behind a guard that lets the load by. -/
theorem wpList_load_want {P : Program} {ops : Array Oper} {rest : List Oper} {o : Oper} {a : Act} {w : World} {Q : Exit → Act → World → Prop} (hw : Region.wanted o (yielded ops a.tmps) = true) (ty : TypeId) (x : Operand) (ho : o.op = .load ty x)
    (b : Nat) (hx : a.eval x = .pointer (some ⟨b, 0, none⟩)) (C : Array Value) (hr : (Instr.loadAt ty (.pointer (some ⟨b, 0, none⟩))).run P w = .ok (.agg C) w)
    (h : wpList P ops Q rest (a.put o.dst (.agg C)) w) : wpList P ops Q (o :: rest) a w := by
  refine wpList_step fun K hK => ?_
  rw [if_pos hw]
  unfold Oper.wp execOp
  simp only [ho, hx, Sem.run_bind, hr, Result.andThen_ok]
  exact hK _ _ h
theorem hashSz {h : List UInt8} (l : h.length = 32) : (byteVals h).toArray.size = 32 := by simp [byteVals, l]

set_option maxHeartbeats 4000000 in
theorem read22_any (s : ByteArray) (w : World) (hs : s.size ≤ 1000000000) (htab : Tabs w) : Calls Tryz.prog 14 #[.string s] w (MkRc (bs s) w) := by
  have hmf : ∀ (fn : Fn) (first cap : Array Value) (w : World), (Instr.makeFunc fn first cap).run Tryz.prog w = .ok (.func fn first cap) w := fun _ _ _ _ => rfl
  have S0 := RdSt.start w s
  have g0 : w.heap.size ≤ w.heap.size + 1 := by omega
  go_enter Tryz.func14, Tryz.ntmps14
  go_wp2_with fail
  refine (sigW_any (w.heap.size + 1) s false _ w S0.up g0 S0.rd (by omega) htab).mono ?_
  rintro e w1 ⟨a, b, r1, q1, H1, ha, hb, l1, rfl, D1, hu⟩
  have S1 := S0.step hu D1
  clear hu S0
  have f0 := S1.rc.frozen 100
  have f1 := S1.rc.frozen 101
  obtain ⟨c0, c1⟩ := S1.rc.sig S1.ok
  have hx2 : ({ Rc.zero with r := a, s := b } : Rc).ok := ⟨S1.ok.1, S1.ok.2.1, S1.ok.2.2.1, S1.ok.2.2.2.1, S1.ok.2.2.2.2.1, S1.ok.2.2.2.2.2.1, ha, hb⟩
  have S2 : RdSt w ((w1.setCell ⟨w.heap.size + 1 + 1, 100, none⟩ (.int .i64 a)).setCell ⟨w.heap.size + 1 + 1, 101, none⟩ (.int .i64 b)) r1 q1 { Rc.zero with r := a, s := b } :=
    ⟨row_otherE (row_otherE S1.rz (by omega) _) (by omega) _, row_otherE (row_otherE S1.rd (by omega) _) (by omega) _, S1.rc.sigs S1.ok a b, (S1.up.setNew (p := ⟨w.heap.size + 1 + 1, 100, none⟩) (by show w.heap.size ≤ w.heap.size + 1 + 1; omega) _).setNew (p := ⟨w.heap.size + 1 + 1, 101, none⟩) (by show w.heap.size ≤ w.heap.size + 1 + 1; omega) _, hx2⟩
  clear S1 D1
  go_wp2_with fail
  clear c0 c1 f0 f1
  generalize ((w1.setCell ⟨w.heap.size + 1 + 1, 100, none⟩ (.int .i64 a)).setCell ⟨w.heap.size + 1 + 1, 101, none⟩ (.int .i64 b)) = w2 at *
  clear w1
  refine (word_any (w.heap.size + 1) r1 q1 w2 S2.rd (by omega) (htab.upd S2.up)).mono ?_
  rintro e w3 ⟨t2, r2, q2, H2, lt2, l2, rfl, D2, hu⟩
  have S3 := S2.step hu D2
  clear hu S2 D2
  go_wp2_with fail
  refine (rdNum_any (w.heap.size + 1) r2 q2 w3 w S3.up g0 S3.rd (by omega) htab).mono ?_
  rintro e w4 ⟨k, r3, q3, H3, ik, l3, rfl, D3, hu⟩
  have S4 := S3.step hu D3
  clear hu S3 D3
  have f0 := S4.rc.frozen 0
  have c0 := S4.rc.head.1
  have S5 := S4.cell 0 (.int .i64 k) (S4.rc.kiosk k) (⟨ik, S4.ok.2⟩)
  clear S4
  go_wp2_with fail
  clear f0 c0
  generalize (w4.setCell ⟨w.heap.size + 1 + 1, 0, none⟩ (.int .i64 k)) = w5 at *
  clear w4
  refine (rdNum_any (w.heap.size + 1) r3 q3 w5 w S5.up g0 S5.rd (by omega) htab).mono ?_
  rintro e w6 ⟨m, r4, q4, H4, im, l4, rfl, D4, hu⟩
  have S6 := S5.step hu D4
  clear hu S5 D4
  have f0 := S6.rc.frozen 1
  have c0 := S6.rc.head.2.1
  have S7 := S6.cell 1 (.int .i64 m) (S6.rc.serial m) (⟨S6.ok.1, im, S6.ok.2.2⟩)
  clear S6
  go_wp2_with fail
  clear f0 c0
  generalize (w6.setCell ⟨w.heap.size + 1 + 1, 1, none⟩ (.int .i64 m)) = w7 at *
  clear w6
  refine (rdNum_any (w.heap.size + 1) r4 q4 w7 w S7.up g0 S7.rd (by omega) htab).mono ?_
  rintro e w8 ⟨z, r5, q5, H5, iz, l5, rfl, D5, hu⟩
  have S8 := S7.step hu D5
  clear hu S7 D5
  have f0 := S8.rc.frozen 3
  have c0 := S8.rc.head.2.2.2
  have S9 := S8.cell 3 (.int .i64 z) (S8.rc.seen z) (⟨S8.ok.1, S8.ok.2.1, iz, S8.ok.2.2.2⟩)
  clear S8
  go_wp2_with fail
  clear f0 c0
  generalize (w8.setCell ⟨w.heap.size + 1 + 1, 3, none⟩ (.int .i64 z)) = w9 at *
  clear w8
  refine (hashW_any (w.heap.size + 1) r5 q5 w9 w S9.up g0 S9.rd (by omega) htab).mono ?_
  rintro e w10 ⟨h1, r6, q6, H6, lh1, l6, rfl, D6, hu⟩
  have S10 := S9.step hu D6
  clear hu S9 D6
  have S11 := S10.cells 4 (byteVals h1) (S10.rc.out S10.ok lh1) ⟨S10.ok.1, S10.ok.2.1, S10.ok.2.2.1, lh1, S10.ok.2.2.2.2⟩
  have TH := Lib.hid (S10.rc.there S10.ok 4 (byteVals h1).toArray.size (by rw [hashSz lh1]; omega))
  clear S10
  obtain ⟨w11, hw⟩ : ∃ w11, w10.setCells (w.heap.size + 1 + 1) 4 (byteVals h1) = w11 := ⟨_, rfl⟩
  rw [hw] at S11
  have HW := Lib.hid hw
  have LHh1 := Lib.hid lh1
  clear hw lh1
  go_wp2_with (first | (refine wpList_store_midAs rfl 24 _ _ rfl (w.heap.size + 1 + 1) 4 (byteVals h1).toArray rfl rfl TH.out (hashInfo LHh1.out) (hashOne _) w11 HW.out ?_))
  clear TH HW w10
  refine (hashW_any (w.heap.size + 1) r6 q6 w11 w S11.up g0 S11.rd (by omega) htab).mono ?_
  rintro e w12 ⟨h2, r7, q7, H7, lh2, l7, rfl, D7, hu⟩
  have S12 := S11.step hu D7
  clear hu S11 D7
  have S13 := S12.cells 36 (byteVals h2) (S12.rc.hash S12.ok lh2) ⟨S12.ok.1, S12.ok.2.1, S12.ok.2.2.1, S12.ok.2.2.2.1, lh2, S12.ok.2.2.2.2.2⟩
  have TH := Lib.hid (S12.rc.there S12.ok 36 (byteVals h2).toArray.size (by rw [hashSz lh2]; omega))
  clear S12
  obtain ⟨w13, hw⟩ : ∃ w13, w12.setCells (w.heap.size + 1 + 1) 36 (byteVals h2) = w13 := ⟨_, rfl⟩
  rw [hw] at S13
  have HW := Lib.hid hw
  have LHh2 := Lib.hid lh2
  clear hw lh2
  go_wp2_with (first | (refine wpList_store_midAs rfl 24 _ _ rfl (w.heap.size + 1 + 1) 36 (byteVals h2).toArray rfl rfl TH.out (hashInfo LHh2.out) (hashOne _) w13 HW.out ?_))
  clear TH HW w12
  refine (hashW_any (w.heap.size + 1) r7 q7 w13 w S13.up g0 S13.rd (by omega) htab).mono ?_
  rintro e w14 ⟨h3, r8, q8, H8, lh3, l8, rfl, D8, hu⟩
  have S14 := S13.step hu D8
  clear hu S13 D8
  have S15 := S14.cells 68 (byteVals h3) (S14.rc.prev S14.ok lh3) ⟨S14.ok.1, S14.ok.2.1, S14.ok.2.2.1, S14.ok.2.2.2.1, S14.ok.2.2.2.2.1, lh3, S14.ok.2.2.2.2.2.2⟩
  have TH := Lib.hid (S14.rc.there S14.ok 68 (byteVals h3).toArray.size (by rw [hashSz lh3]; omega))
  clear S14
  obtain ⟨w15, hw⟩ : ∃ w15, w14.setCells (w.heap.size + 1 + 1) 68 (byteVals h3) = w15 := ⟨_, rfl⟩
  rw [hw] at S15
  have HW := Lib.hid hw
  have LHh3 := Lib.hid lh3
  clear hw lh3
  go_upto_region 12 with (first | (refine wpList_store_midAs rfl 24 _ _ rfl (w.heap.size + 1 + 1) 68 (byteVals h3).toArray rfl rfl TH.out (hashInfo LHh3.out) (hashOne _) w15 HW.out ?_))
  clear TH HW w14
  obtain ⟨X, hX⟩ : ∃ X : Rc, X = ⟨k, m, z, r8, h1, h2, h3, a, b⟩ := ⟨_, rfl⟩
  have HCH : Hid (∀ y : Rc, y.ok → bs s = textL y → X = y ∧ q8 = false) := by
    intro y hy e
    rw [hX]
    exact chainR H1.out H2.out H3.out H4.out H5.out H6.out H7.out H8.out hy e
  have S16 := S15.cell 2 (.string r8) (S15.rc.draw r8) S15.ok
  have hX2 : ({ { { { { { { { Rc.zero with r := a, s := b } with kiosk := k } with serial := m } with seen := z } with out := h1 } with hash := h2 } with prev := h3 } with draw := r8 } : Rc) = X := hX.symm
  have S16' : RdSt w (w15.setCell ⟨w.heap.size + 1 + 1, 2, none⟩ (.string r8)) r8 q8 X := by
    rw [hX]
    exact S16
  have hXd : X.draw.size ≤ 1000000000 := by rw [hX]; show r8.size ≤ _; omega
  have HXO := Lib.hid S16'.ok
  have HXD := Lib.hid hXd
  clear hX hX2 S16 hXd H1 H2 H3 H4 H5 H6 H7 H8 hx2
  obtain ⟨k0, k1, k2, k3⟩ := S15.rd.cells
  have c2 := S15.rc.head.2.2.1
  have f2 := S15.rc.frozen 2
  clear S15
  go_upto_region 13 with (fail)
  clear k0 k1 k2 k3 c2 f2
  generalize (w15.setCell ⟨w.heap.size + 1 + 1, 2, none⟩ (.string r8)) = w16 at *
  clear w15
  obtain ⟨k0, k1, k2, k3⟩ := S16'.rd.cells
  have Z16 := Lib.hid S16'.rz
  have U16 := Lib.hid S16'.up
  have HZL := Lib.hid (rcSz Rc.zero_ok)
  cases q8 with
  | true =>
    have HB : Hid (rcOk (bs s) Rc.zero false) := ⟨Rc.zero_ok, (fun h => by cases h), fun _ => ⟨rfl, fun y hy e => by have := (HCH.out y hy e).2; cases this⟩⟩
    clear S16'
    go_wp2_with (first | (refine wpList_store_row rfl 33 _ _ rfl w.heap.size (rcV Rc.zero).toArray rfl rfl _ _ Z16.out HZL.out rfl (rcOne _) ?_))
    refine bodyPost_ret (results_row_tmp rfl _ _ w.heap.size _ (rcV Rc.zero).toArray _ _ rfl (Z16.out.setRow Rc.zero) Tryz.underlying33 rfl HZL.out) rfl ⟨Rc.zero, false, HB.out, rfl, U16.out.setRowNew (Nat.le_refl _) _⟩
  | false =>
    have HLD := run_loadAt_mid (P := Tryz.prog) w16 (w.heap.size + 1 + 1) 0 33 (rcV X) _ S16'.rc.all Tryz.underlying33 rfl (rcInfo HXO.out)
    have HCT := Lib.hid (text22_any X HXO.out HXD.out w16 (htab.upd S16'.up))
    have R16 := Lib.hid S16'.rc
    obtain ⟨C, hC⟩ : ∃ C, C = (rcV X).toArray := ⟨_, rfl⟩
    rw [← hC] at HLD HCT
    have HC := Lib.hid hC
    clear S16' hC
    have HLH := Lib.hid HLD
    clear HLD
    go_wp2_with (first | (refine wpList_load_want (by rfl) 33 _ rfl (w.heap.size + 1 + 1) rfl C HLH.out ?_))
    refine HCT.out.mono ?_
    rintro e w17 ⟨y, HY, hy, rfl, hq⟩
    have R17 := Lib.hid (R16.out.upd hq)
    have Z17 := Lib.hid (Z16.out.upd hq)
    have U17 := Lib.hid (U16.out.trans hq)
    have HCR : Hid (w17.heap[w.heap.size + 1 + 1]? = some (.cells C 33 (0, 0))) := by show _ = _; rw [HC.out]; exact R17.out
    have HCI : Hid ((Tryz.prog.info? 33).map (·.size) = some C.size) := by show _ = _; rw [HC.out]; exact rcSz HXO.out
    have HCO : Hid (C.all (·.oneCell') = true) := by show _ = _; rw [HC.out]; exact rcOne _
    have HCZ : Hid ((rcV Rc.zero).toArray.size = C.size) := by show _ = _; rw [HC.out]; simp [rcV_len HXO.out, rcV_len Rc.zero_ok]
    clear hq k0 k1 k2 k3 HCT HLH
    by_cases hys : y = s
    · subst hys
      have HB : Hid (rcOk (bs y) X true) := ⟨HXO.out, fun _ => HY.out, fun h => by cases h⟩
      go_wp2_with (first | (refine wpList_load_row rfl 33 _ rfl (w.heap.size + 1 + 1) rfl _ C _ _ HCR.out Tryz.underlying33 rfl HCI.out ?_) | (refine wpList_store_row rfl 33 _ _ rfl w.heap.size C rfl rfl _ _ Z17.out HCI.out HCZ.out HCO.out ?_))
      refine bodyPost_ret (results_row_tmp rfl _ _ w.heap.size _ C _ _ rfl (setRow_heap _ _ _ C _ _ Z17.out) Tryz.underlying33 rfl HCI.out) rfl ⟨X, true, HB.out, by rw [HC.out]; rfl, U17.out.setRowNew (Nat.le_refl _) _⟩
    · have HB : Hid (rcOk (bs s) Rc.zero false) := ⟨Rc.zero_ok, (fun h => by cases h), fun _ => ⟨rfl, fun y' hy' e => by
        have h := (HCH.out y' hy' e).1
        rw [← h, ← HY.out] at e
        exact hys (bs_injE e.symm)⟩⟩
      have h4 : ¬ y.toList = s.toList := fun e => hys (bs_injE (by rw [ByteArray.toList_eq, ByteArray.toList_eq] at e; exact e))
      have hb4 : (y.toList == s.toList) = false := beq_eq_false_iff_ne.2 h4
      clear h4
      go_wp2_with (first | (refine wpList_store_row rfl 33 _ _ rfl w.heap.size (rcV Rc.zero).toArray rfl rfl _ _ Z17.out HZL.out rfl (rcOne _) ?_))
      refine bodyPost_ret (results_row_tmp rfl _ _ w.heap.size _ (rcV Rc.zero).toArray _ _ rfl (Z17.out.setRow Rc.zero) Tryz.underlying33 rfl HZL.out) rfl ⟨Rc.zero, false, HB.out, rfl, U17.out.setRowNew (Nat.le_refl _) _⟩
end Go.Proofs.YtmnmhhbldbdpfaaGreatDoor

namespace Go.Proofs.YtmnmhhbldbdpfaaGreatDoor
open Go.RowKit
set_option maxRecDepth 100000

theorem builder_upd {T e : TypeId} {B b : Nat} {p : Value} {l : List Value} {w w' : World} (h : Lib.BuilderAt T e B b p l w) (u : Upd [] [] w w') : Lib.BuilderAt T e B b p l w' := by
  obtain ⟨h1, v, hb, ho, hn⟩ := h
  refine ⟨h1, v, row_updH hb u, ⟨ho.1, ?_⟩, hn⟩
  rcases ho.2 with h2 | ⟨g, cap, cur, hv, hg, hh, r⟩
  · exact .inl h2
  · exact .inr ⟨g, cap, cur, hv, hg, row_updH hh u, r⟩
theorem below_step {W0 w w' : World} (h : Upd [] [] W0 w) (k : Below W0.heap.size w w') : Upd [] [] W0 w' :=
  ⟨k.os.trans h.os, k.tape.trans h.tape, k.output.trans h.output, Nat.le_trans h.size k.size, fun i hi _ => (k.block i hi).trans (h.block i hi (by simp)), fun _ hk => absurd hk (by simp)⟩
/-- A builder that holds the bytes; what was there stands. -/
structure BtSt (W0 wi : World) (acc : List UInt8) : Prop where
  bd : Lib.IsBuilder 99 5 W0.heap.size W0.heap.size (Lib.byteCells acc) wi
  up : Upd [] [] W0 wi
theorem BtSt.upd {W0 wi wj : World} {acc : List UInt8} (h : BtSt W0 wi acc) (u : Upd [] [] wi wj) : BtSt W0 wj acc :=
  ⟨h.bd.imp (fun k => builder_upd k u) (fun k => builder_upd k u), h.up.trans u⟩
theorem BtSt.start (W0 : World) : BtSt W0 (W0.alloc (.cells #[.pointer none, .slice none 0 0] 99)) [] := ⟨Lib.fresh_isBuilder _ _ W0, (Upd.refl _ _).alloc _⟩
theorem BtSt.write {W0 wi : World} {acc : List UInt8} (h : BtSt W0 wi acc) (s : ByteArray) (hl : acc.length + s.size ≤ 140737488355328) :
    Calls Tryz.prog 53 #[.pointer (some ⟨W0.heap.size, 0, none⟩), .string s] wi (fun e w' => e = .returned (.tuple #[.int .i64 s.size, .nilIface]) ∧ BtSt W0 w' (acc ++ bs s)) := by
  have hlen : (Lib.byteCells acc).length = acc.length := by simp [Lib.byteCells]
  refine (wstr_any W0.heap.size W0.heap.size (Lib.byteCells acc) s wi h.bd (by rw [hlen]; exact hl) h.up.size).mono ?_
  rintro e w' ⟨rfl, hb, hu⟩
  have e2 : Lib.byteCells acc ++ Lib.strCells s = Lib.byteCells (acc ++ bs s) := by simp [Lib.byteCells, Lib.strCells, bs]
  rw [e2] at hb
  exact ⟨rfl, .inr hb, below_step h.up hu⟩
/-- Receipts, one behind the other. -/
def RcsIn (w : World) (ao : Option Addr) (l : List Rc) : Prop :=
  ∀ (k : Nat) x, l[k]? = some x → x.ok ∧ x.draw.size ≤ 1000000 ∧ ∃ g o, ao = some ⟨g, o, none⟩ ∧ g < w.heap.size ∧ w.rangeAt g (o + k * 102) (rcV x)
theorem rangeAt_upd {w w' : World} {g o : Nat} {V : List Value} (h : w.rangeAt g o V) (hg : g < w.heap.size) (u : Upd [] [] w w') : w'.rangeAt g o V := by
  intro j v hv
  rw [World.cell?_of_block (a := ⟨g, o + j, none⟩) (u.block g hg (by simp))]
  exact h j v hv
theorem RcsIn.upd {w w' : World} {ao : Option Addr} {l : List Rc} (h : RcsIn w ao l) (u : Upd [] [] w w') : RcsIn w' ao l := by
  intro k x hx
  obtain ⟨h1, h2, g, o, e, hg, hr⟩ := h k x hx
  exact ⟨h1, h2, g, o, e, Nat.lt_of_lt_of_le hg u.size, rangeAt_upd hr hg u⟩
end Go.Proofs.YtmnmhhbldbdpfaaGreatDoor

namespace Go.Proofs.YtmnmhhbldbdpfaaGreatDoor
open Go.RowKit
set_option maxRecDepth 100000

theorem join_batch (k : Int) (n : Nat) (a b : ByteArray) (ha : bs a = Lib.itoa k) (hb : bs b = Lib.itoa (n : Int)) : Lib.join ([ByteArray.mk #[98, 97, 116, 99, 104], a, b].map bs) [32] = wBa ++ 32 :: (Lib.itoa k ++ 32 :: Lib.itoa (n : Int)) := by
  simp only [List.map_cons, List.map_nil, ha, hb, Lib.join]
  simp [List.intercalate, wBa, bs]
/-- What has been written ahead of the j-th receipt. -/
def accT (k : Int) (l : List Rc) (j : Nat) : List UInt8 := (wBa ++ 32 :: (Lib.itoa k ++ 32 :: Lib.itoa (l.length : Int))) ++ recsT (l.take j)
theorem recsT_len (l : List Rc) : ∀ (n : Nat), l.length ≤ n → (∀ x ∈ l, x.ok ∧ x.draw.size ≤ 1000000) → (recsT l).length ≤ 1000500 * n := by
  induction l with
  | nil => intro n _ _; simp [recsT]
  | cons x r ih =>
    intro n hn h
    have hx := h x (by simp)
    have ht := textL_len hx.1
    have h1 := ih (n - 1) (by simp at hn; omega) (fun y hy => h y (by simp [hy]))
    have hi := itoa_len ((textL x).length : Int) (by unfold i64in; omega)
    rw [recsT, List.length_cons, List.length_append, List.length_cons, List.length_append]
    simp at hn
    omega
theorem accT_len {k : Int} {l : List Rc} {j : Nat} (hk : i64in k) (hl : l.length ≤ 6000) (h : ∀ x ∈ l, x.ok ∧ x.draw.size ≤ 1000000) : (accT k l j).length ≤ 6100000000 := by
  have h1 := recsT_len (l.take j) 6000 (by rw [List.length_take]; omega) (fun x hx => h x (List.mem_of_mem_take hx))
  have h2 := itoa_len k hk
  have h3 := itoa_len (l.length : Int) (by unfold i64in; omega)
  unfold accT
  rw [List.length_append, List.length_append, List.length_cons, List.length_append, List.length_cons]
  have : wBa.length = 5 := rfl
  omega
theorem RcsIn.mem {w : World} {ao : Option Addr} {l : List Rc} (h : RcsIn w ao l) : ∀ x ∈ l, x.ok ∧ x.draw.size ≤ 1000000 := by
  intro x hx
  obtain ⟨k, hk⟩ := List.getElem?_of_mem hx
  exact ⟨(h k x hk).1, (h k x hk).2.1⟩

/-- A part of a row is loaded, its run known. -/
theorem wpList_load_atW {P : Program} {ops : Array Oper} {rest : List Oper} {o : Oper} {a : Act} {w : World} {Q : Exit → Act → World → Prop} (hw : Region.wanted o (yielded ops a.tmps) = true) (ty : TypeId) (x : Operand) (ho : o.op = .load ty x)
    (b of : Nat) (hx : a.eval x = .pointer (some ⟨b, of, none⟩)) (C : Array Value) (hr : (Instr.loadAt ty (.pointer (some ⟨b, of, none⟩))).run P w = .ok (.agg C) w)
    (h : wpList P ops Q rest (a.put o.dst (.agg C)) w) : wpList P ops Q (o :: rest) a w := by
  refine wpList_step fun K hK => ?_
  rw [if_pos hw]
  unfold Oper.wp execOp
  simp only [ho, hx, Sem.run_bind, hr, Result.andThen_ok]
  exact hK _ _ h

set_option maxHeartbeats 4000000 in
theorem batchText_any (k : Int) (l : List Rc) (ao : Option Addr) (cap : Nat) (w : World) (hk : i64in k) (hl : l.length ≤ 6000) (hc : l.length ≤ cap) (hm : RcsIn w ao l) (htab : Tabs w) :
    Calls Tryz.prog 17 #[.agg #[.int .i64 k, .slice ao l.length cap]] w (MkS (batchL k l) w) := by
  obtain ⟨n, hn⟩ : ∃ n, n = l.length := ⟨_, rfl⟩
  have hall := hm.mem
  have HACC := Lib.hid (fun j => accT_len (k := k) (l := l) (j := j) hk hl hall)
  rw [← hn] at hl hc ⊢
  have HN := Lib.hid hn
  clear hn
  obtain ⟨W0, hW0⟩ : ∃ W0, w.alloc (.cells #[.int .i64 k, .slice ao n cap] 46) = W0 := ⟨_, rfl⟩
  have hbox : W0.heap[w.heap.size]? = some (.cells #[.int .i64 k, .slice ao n cap] 46 (0, 0)) := by rw [← hW0]; exact heap_alloc_new _ _
  have uw : Upd [] [] w W0 := by rw [← hW0]; exact (Upd.refl _ _).alloc _
  have HK : Hid (∀ W, Upd [] [] W0 W → W.cell? ⟨w.heap.size, 0, none⟩ = some (.int .i64 k) ∧ W.cell? ⟨w.heap.size, 1, none⟩ = some (.slice ao n cap)) := by
    intro W u
    have h := row_updH hbox u
    exact ⟨by rw [cell_of_row _ _ _ _ _ _ h]; rfl, by rw [cell_of_row _ _ _ _ _ _ h]; rfl⟩
  have b0 : BtSt W0 (W0.alloc (.cells #[.pointer none, .slice none 0 0] 99)).drew [] := (BtSt.start W0).upd (Upd.refl _ _).drew
  have HT := Lib.hid (htab.upd uw)
  have HM := Lib.hid (hm.upd uw)
  have k0 := HK.out _ b0.up
  clear hbox hm
  go_enter Tryz.func17, Tryz.ntmps17
  go_wp2_with fail
  go_region_held3 (fun wp => wp.cell? ⟨w.heap.size, 0, none⟩ = some (.int .i64 k) ∧ wp.cell? ⟨w.heap.size, 1, none⟩ = some (.slice ao n cap)) (first | with_reducible exact k0 | with_reducible assumption | with_reducible exact HK.out _ (Upd.alloc (BtSt.up b2) _) | fail)
    (first
      | (go_at_call 54; ((with_reducible refine (itoa_any k _ hk (HT.out.upd b0.up)).mono ?_); rintro e w1 ⟨y1, HY1, hy1, rfl, hq⟩; have b1 := b0.upd hq; have kq := HK.out _ b1.up; clear hq))
      | (go_at_call 54; ((with_reducible refine (itoa_any (n : Int) _ (by unfold i64in; omega) (HT.out.upd b1.up)).mono ?_); rintro e w2 ⟨y2, HY2, hy2, rfl, hq⟩; have b2 := b1.upd hq; have kq := HK.out _ b2.up; clear hq))
      | (go_at_call 42; (have hj := join_batch k n y1 y2 HY1.out HY2.out; have hi := itoa_len k hk; have hi2 := itoa_len (n : Int) (by unfold i64in; omega); (refine (join_any _ 3 [ByteArray.mk #[98, 97, 116, 99, 104], y1, y2] _ (strsIn_new w2 [ByteArray.mk #[98, 97, 116, 99, 104], y1, y2] 9) (Nat.le_refl 3) (by show 3 ≤ 1000; omega) (by rw [hj]; simp [wBa]; omega)).mono ?_); rintro e w3 ⟨y3, HY3, hy3, rfl, hq⟩; rw [hj] at HY3; have b3 := b2.upd (((Upd.refl [] _).alloc _).trans hq); have kq := HK.out _ b3.up; clear hq))
      | (go_at_call 53; (have hz3 : y3.size ≤ 100000 := (by have h1 := bs_length y3; rw [HY3.out] at h1; simp [wBa] at h1; omega); (refine (b3.write y3 (by simp; omega)).mono ?_); rintro e w4 ⟨rfl, b4⟩; have kq := HK.out _ b4.up)))
  have HB4 : Hid (BtSt W0 w4 (accT k l 0)) := by
    have h := b4
    rw [List.nil_append, HY3.out] at h
    show BtSt _ _ _
    unfold accT
    rw [List.take_zero, recsT, List.append_nil, ← HN.out]
    exact h
  obtain ⟨q0, q1⟩ := HK.out _ b4.up
  clear b0 b1 b2 b3 b4 k0 kq HY1 HY2 HY3 hW0
  go_wp2_with fail
  go_loopw [5, 6, 20] (fun _ _ i wr => ∃ j : Nat, i = .int .i64 (j : Int) ∧ j ≤ n ∧ Hid (BtSt W0 wr (accT k l j))) (fun _ _ i _ => n - (intOf i).toNat)
  case atStart => exact ⟨0, rfl, Nat.zero_le _, HB4⟩
  case round =>
    obtain ⟨j, rfl, hj, HB⟩ := hrel
    by_cases hlt : j < n
    · obtain ⟨x, hx⟩ : ∃ x, l[j]? = some x := ⟨_, List.getElem?_eq_getElem (by rw [← HN.out]; exact hlt)⟩
      obtain ⟨ho, hd, g, o, rfl, hg, hr⟩ := (HM.out.upd HB.out.up) j x hx
      have i0 : (0 : Int) ≤ (j : Int) := by omega
      have i1 : (j : Int) < (n : Int) := by omega
      have HR := Lib.hid hr
      have HO := Lib.hid ho
      have HX := Lib.hid hx
      obtain ⟨C, hC⟩ : ∃ C, C = (rcV x).toArray := ⟨_, rfl⟩
      have HCL : Hid ((rcV x).length = 102) := rcV_len ho
      have HCI : Hid ((Tryz.prog.info? 33).map (·.size) = some C.size) := by show _ = _; rw [hC]; exact rcSz ho
      have HCO : Hid (C.all (·.oneCell') = true) := by show _ = _; rw [hC]; exact rcOne _
      have HCZ : Hid ((Tryz.zeroCells33).size = C.size) := by show _ = _; rw [hC]; simp [rcV_len ho]
      have hz5 : (wr.alloc (.cells Tryz.zeroCells33 33)).heap[wr.heap.size]? = some (.cells Tryz.zeroCells33 33 (0, 0)) := heap_alloc_new _ _
      have hr5 := setRow_heap _ _ _ C _ _ hz5
      have hu5 : Upd [] [] wr ((wr.alloc (.cells Tryz.zeroCells33 33)).setRow wr.heap.size C) := ((Upd.refl _ _).alloc _).setRowNew (Nat.le_refl _) _
      obtain ⟨w5, hw5⟩ : ∃ w5, (wr.alloc (.cells Tryz.zeroCells33 33)).setRow wr.heap.size C = w5 := ⟨_, rfl⟩
      rw [hw5] at hr5 hu5
      have HW5 := Lib.hid hw5
      have HZ5 := Lib.hid hz5
      have HR5 := Lib.hid hr5
      have HB5 := Lib.hid (HB.out.upd hu5)
      have HCT := Lib.hid (text22_any x ho (by omega) w5 (HT.out.upd HB5.out.up))
      have HCE := Lib.hid hC
      have tl := textL_len ho
      rw [← hC] at HCT
      have HLD := Lib.hid (run_loadAt_mid (P := Tryz.prog) wr g (o + j * 102) 33 (rcV x) _ hr Tryz.underlying33 rfl (rcInfo ho))
      rw [← hC] at HLD
      clear hr ho hx hw5 hz5 hr5 hu5 hC
      go_wp2_with (first | (refine wpList_load_atW (by rfl) 33 _ rfl g (o + j * 102) rfl C HLD.out ?_) | (refine wpList_store_rowAs rfl 33 _ _ rfl wr.heap.size C rfl rfl _ _ HZ5.out HCI.out HCZ.out HCO.out w5 HW5.out ?_) | (refine wpList_load_row rfl 33 _ rfl wr.heap.size rfl _ C _ _ HR5.out Tryz.underlying33 rfl HCI.out ?_))
      refine HCT.out.mono ?_
      rintro e w6 ⟨t, HTX, ht, rfl, hq⟩
      have HB6 := Lib.hid (HB5.out.upd hq)
      have hts : t.size ≤ 1000400 := by omega
      clear hq HCT HLD HZ5 HW5 HR5 HR
      go_wp2_with fail
      refine (itoa_any (t.size : Int) w6 (by unfold i64in; omega) (HT.out.upd HB6.out.up)).mono ?_
      rintro e w7 ⟨y, HY, hy, rfl, hq⟩
      have HB7 := Lib.hid (HB6.out.upd hq)
      have hys : y.size ≤ 20 := Nat.le_trans hy (itoa_len _ (by unfold i64in; omega))
      have s1 : ¬ 9223372036854775807 < 1 + y.size := by omega
      have s2 : ¬ 9223372036854775807 < 1 + y.size + 1 := by omega
      have s3 : ¬ 9223372036854775807 < 1 + y.size + 1 + t.size := by omega
      clear hq hy
      go_wp2_with fail
      obtain ⟨U, hU⟩ : ∃ U : ByteArray, U = ByteArray.mk #[32] ++ y ++ ByteArray.mk #[58] ++ t := ⟨_, rfl⟩
      rw [← hU]
      have hUb : bs U = 32 :: (Lib.itoa ((textL x).length : Int) ++ 58 :: textL x) := by
        rw [hU, bs_append, bs_append, bs_append, HY.out, HTX.out]
        have : t.size = (textL x).length := by rw [← HTX.out, bs_length]
        rw [this]
        simp [bs]
      have hUl : U.size ≤ 1001000 := by
        rw [hU, ByteArray.size_append, ByteArray.size_append, ByteArray.size_append]
        show 1 + y.size + 1 + t.size ≤ _
        omega
      have hacc : accT k l (j + 1) = accT k l j ++ bs U := by
        rw [hUb]
        unfold accT
        rw [List.take_add_one, HX.out]
        show _ ++ recsT (l.take j ++ [x]) = _
        rw [recsT_app, ← List.append_assoc]
        simp [recsT]
      have HAC := Lib.hid hacc
      have hal := HACC.out j
      clear hacc hU hUb
      refine (HB7.out.write U (by omega)).mono ?_
      rintro e w8 ⟨rfl, hb8⟩
      rw [← HAC.out] at hb8
      have HB8 := Lib.hid hb8
      clear hb8
      go_wp2_with fail
      exact ⟨⟨j + 1, by go_num, by omega, HB8⟩, by simp [intOf]; omega⟩
    · obtain rfl : j = n := by omega
      have hbat : batchL k l = accT k l j := by
        unfold batchL accT
        rw [List.take_of_length_le (by rw [← HN.out]; exact Nat.le_refl _)]
        simp
      have HBT := Lib.hid hbat
      clear hbat
      go_wp2_with fail
      refine (Tryz.Builder_String_any W0.heap.size W0.heap.size (accT k l j) wr HB.out.bd HB.out.up.size).mono ?_
      rintro e w9 ⟨rfl, hq⟩
      have u9 := uw.trans (below_step HB.out.up hq)
      clear hq
      go_wp2_with fail
      go_ret
      exact ⟨⟨(accT k l j).toArray⟩, by show _ = _; rw [HBT.out]; exact bs_mk _, by rw [HBT.out]; exact Nat.le_refl _, rfl, u9⟩
end Go.Proofs.YtmnmhhbldbdpfaaGreatDoor
