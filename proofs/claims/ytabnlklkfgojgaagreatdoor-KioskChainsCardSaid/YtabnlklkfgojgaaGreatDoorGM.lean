/- sorteslaw27.sanity. Values of plain types (numbers, texts, truth values, arrays and structs of them), opened cell by cell. Slices of pairs of numbers, opened. For the laws of the kiosk: masks, hashes of two bytes, Learn of any round. -/
import Derived.Test.YtabnlklkfgojgaaGreatDoorGZ
import Derived.Test.YtabnlklkfgojgaaGreatDoorGL
import Derived.Test.YtabnlklkfgojgaaGreatDoorGB
import Derived.Deep.Slices
import Derived.Deep.DeepCutAuto
namespace Go.Proofs.YtabnlklkfgojgaaGreatDoor
open Go.RowKit
set_option maxRecDepth 100000

def hashB (l : List UInt8) : List UInt8 := l ++ List.replicate (32 - l.length) 0
def lot : ByteArray := ⟨#[108, 111, 116, 116, 111]⟩
theorem lot_ok : nameOk (bs lot) = true := by decide
theorem hash_let {l : List UInt8} (hl : l.length = 32) (H : Array Value) (hH : H = (byteVals l).toArray) : Hid ((Tryz.prog.info? 31).map (·.size) = some H.size) ∧ Hid (H.all (·.oneCell') = true) ∧ Hid ((byteVals zero32).toArray.size = H.size) := by
  subst hH
  exact ⟨hashInfo hl, hashOne _, by show _ = _; rw [hashSz hl]; rfl⟩
theorem hash1_built : Tryz.prog.built 31 [(0, .int .u8 1)] = some (byteVals (hashB [1])).toArray := by kernel_rfl
theorem hash2_built : Tryz.prog.built 31 [(0, .int .u8 2)] = some (byteVals (hashB [2])).toArray := by kernel_rfl
structure SanS (w : World) (gA gB A g o : Nat) (R1 R2 H1 H2 P : Array Value) : Prop where
  c1 : w.cell? ⟨gB, 1, none⟩ = some (.int .i64 2)
  c3 : w.cell? ⟨gB, 3, none⟩ = some (.int .i64 4)
  out1 : (Instr.loadAt 31 (.pointer (some ⟨gB, 4, none⟩))).run Tryz.prog w = .ok (.agg H2) w
  prev : (Instr.loadAt 31 (.pointer (some ⟨gB, 68, none⟩))).run Tryz.prog w = .ok (.agg P) w
  h2 : (Instr.loadAt 31 (.pointer (some ⟨A + 1, 0, none⟩))).run Tryz.prog w = .ok (.agg H2) w
  h1 : (Instr.loadAt 31 (.pointer (some ⟨A, 0, none⟩))).run Tryz.prog w = .ok (.agg H1) w
  r1 : (Instr.loadAt 37 (.pointer (some ⟨gA, 0, none⟩))).run Tryz.prog w = .ok (.agg R1) w
  r2 : (Instr.loadAt 37 (.pointer (some ⟨gB, 0, none⟩))).run Tryz.prog w = .ok (.agg R2) w
  el : (Instr.loadAt 37 (.pointer (some ⟨g, o, none⟩))).run Tryz.prog w = .ok (.agg R2) w
theorem field_bat (i : Int) (a : Option Addr) (n c : Nat) (W : World) : (Instr.field 50 (.agg #[.int .i64 i, .slice a n c]) 1).run Tryz.prog W = .ok (.slice a n c) W := by kernel_rfl
theorem eqH_self {l : List UInt8} {H : Array Value} (hH : H = (byteVals l).toArray) (hl : l.length = 32) (W : World) : (Op.equalIn 10000 31 (.agg H) (.agg H)).run Tryz.prog W = .ok true W := by
  rw [hH, show (10000 : Nat) = 9998 + 2 from rfl, eqHash_run 9998 _ _ W hl hl]
  simp
theorem eqRc_self (x : Rc) : eqRc x x = true := (eqRc_iff x x).2 rfl
theorem eqR_self {x : Rc} {R : Array Value} (hR : R = (rcV x).toArray) (hx : x.ok) (W : World) : (Op.equalIn 10000 37 (.agg R) (.agg R)).run Tryz.prog W = .ok true W := by
  rw [hR, show (10000 : Nat) = 9997 + 3 from rfl, eqRc_run 9997 _ _ hx hx W, eqRc_self]
theorem row_range {w : World} {g : Nat} {l : List Value} {t : TypeId} {R : Array Value} (hR : R = l.toArray) (h : w.heap[g]? = some (.cells R t (0, 0))) : w.rangeAt g 0 l := by
  intro j v hv
  rw [Nat.zero_add, cell_of_row _ _ _ _ _ _ h, hR, List.getElem?_toArray]
  exact hv
theorem rc_sub_prev {w : World} {g b : Nat} {x : Rc} (h : w.rangeAt g b (rcV x)) (hx : x.ok) : w.rangeAt g (b + 68) (byteVals x.prev) := by
  intro j v hv
  obtain ⟨_, _, _, h1, h2, _⟩ := hx
  have e : rcV x = ([.int .i64 x.kiosk, .int .i64 x.serial, .string x.draw, .int .i64 x.seen] ++ byteVals x.out ++ byteVals x.hash) ++ (byteVals x.prev ++ [.int .i64 x.r, .int .i64 x.s]) := by simp [rcV]
  have hl : ([.int .i64 x.kiosk, .int .i64 x.serial, .string x.draw, .int .i64 x.seen] ++ byteVals x.out ++ byteVals x.hash : List Value).length = 68 := by simp [byteVals_length, h1, h2]
  have := h (68 + j) v (by rw [e]; exact mid_get hl hv)
  rw [show b + 68 + j = b + (68 + j) by omega]
  exact this
theorem rc_sub_out {w : World} {g b : Nat} {x : Rc} (h : w.rangeAt g b (rcV x)) (hx : x.ok) : w.rangeAt g (b + 4) (byteVals x.out) := by
  intro j v hv
  obtain ⟨_, _, _, h1, h2, _⟩ := hx
  have e : rcV x = [.int .i64 x.kiosk, .int .i64 x.serial, .string x.draw, .int .i64 x.seen] ++ (byteVals x.out ++ (byteVals x.hash ++ byteVals x.prev ++ [.int .i64 x.r, .int .i64 x.s])) := by simp [rcV]
  have hl : ([.int .i64 x.kiosk, .int .i64 x.serial, .string x.draw, .int .i64 x.seen] : List Value).length = 4 := rfl
  have := h (4 + j) v (by rw [e]; exact mid_get hl hv)
  rw [show b + 4 + j = b + (4 + j) by omega]
  exact this
theorem san_s {w : World} {K : List Nat} {gA gB A g o : Nat} {x1 x2 : Rc} {l1 l2 : List UInt8} {R1 R2 H1 H2 P : Array Value} (hA : Blk w K A (.cells H1 31 (0, 0))) (hB : Blk w K (A + 1) (.cells H2 31 (0, 0)))
    (hC : Blk w K gA (.cells R1 37 (0, 0))) (hD : Blk w K gB (.cells R2 37 (0, 0))) (hE : RcsIn w (some ⟨g, o, none⟩) [x2]) (h1 : x1.ok) (h2 : x2.ok) (e1 : R1 = (rcV x1).toArray) (e2 : R2 = (rcV x2).toArray) (hl1 : l1.length = 32) (hl2 : l2.length = 32)
    (eH1 : H1 = (byteVals l1).toArray) (eH2 : H2 = (byteVals l2).toArray) (eP : P = (byteVals (sha (textL x1))).toArray) (x21 : x2.serial = 2) (x22 : x2.seen = 4) (x23 : x2.out = l2) (x24 : x2.prev = sha (textL x1)) : SanS w gA gB A g o R1 R2 H1 H2 P := by
  have r1 := row_range e1 hC.at_
  have r2 := row_range e2 hD.at_
  have s1 := rc_sub_out r2 h2
  have s2 := rc_sub_prev r2 h2
  rw [x23] at s1
  rw [x24] at s2
  have p1 := run_loadAt_mid w _ _ _ _ _ r1 Tryz.underlying37 rfl (rcInfo h1)
  have p2 := run_loadAt_mid w _ _ _ _ _ r2 Tryz.underlying37 rfl (rcInfo h2)
  have p3 := run_loadAt_mid w _ _ _ _ _ s1 Tryz.underlying31 rfl (hashLen hl2)
  have p4 := run_loadAt_mid w _ _ _ _ _ s2 Tryz.underlying31 rfl (hashLen (sha_len _))
  rw [← e1] at p1
  rw [← e2] at p2
  rw [← eH2] at p3
  rw [← eP] at p4
  have q1 := rcs_load hE (k := 0) (x := x2) rfl R2 e2
  rw [Nat.zero_mul, Nat.add_zero] at q1
  exact ⟨by rw [cell_of_row _ _ _ _ _ _ hD.at_, e2, (rc_parts h2).2.2.2.2.2.1, x21], by rw [cell_of_row _ _ _ _ _ _ hD.at_, e2, (rc_parts h2).2.2.2.2.2.2.2, x22], p3, p4, hash_load hl2 _ eH2 hB.at_, hash_load hl1 _ eH1 hA.at_, p1, p2, q1⟩
set_option maxHeartbeats 4000000 in
theorem sanity27_any (w : World) (htab : Tabs w) : Calls Tryz.prog 9 #[] w (TrueMk w) := by
  obtain ⟨h1, hh1⟩ : ∃ h1, h1 = hashB [1] := ⟨_, rfl⟩
  obtain ⟨h2, hh2⟩ : ∃ h2, h2 = hashB [2] := ⟨_, rfl⟩
  have hl1 : h1.length = 32 := by rw [hh1]; rfl
  have hl2 : h2.length = 32 := by rw [hh2]; rfl
  have hne : h1 ≠ h2 := by rw [hh1, hh2]; decide
  obtain ⟨H1, hH1⟩ : ∃ H, H = (byteVals h1).toArray := ⟨_, rfl⟩
  obtain ⟨H2, hH2⟩ : ∃ H, H = (byteVals h2).toArray := ⟨_, rfl⟩
  obtain ⟨HI1, HO1, HZ1⟩ := hash_let hl1 H1 hH1
  obtain ⟨HI2, HO2, HZ2⟩ := hash_let hl2 H2 hH2
  have HB1 : Hid (Tryz.prog.built 31 [(0, .int .u8 1)] = some H1) := by show _ = _; rw [hH1, hh1]; exact hash1_built
  have HB2 : Hid (Tryz.prog.built 31 [(0, .int .u8 2)] = some H2) := by show _ = _; rw [hH2, hh2]; exact hash2_built
  have HH1 := Lib.hid hH1
  have HH2 := Lib.hid hH2
  obtain ⟨w1, w2, Z0, W1, Z1, W2, RA, RB, u2⟩ := rows_two w 31 (byteVals zero32).toArray H1 H2
  obtain ⟨A, hA⟩ : ∃ A, A = w.heap.size := ⟨_, rfl⟩
  have HU2 := Lib.hid u2
  have HA := Lib.hid hA
  clear hh1 hh2 hH1 hH2 hA u2
  go_enter Tryz.func9, Tryz.ntmps9
  go_upto_region 2 with (first | (refine wpList_buildTo rfl 31 #[(0, .const (.int .u8 1))] rfl _ rfl H1 (Eq.trans (congrArg (fun z => Tryz.prog.built 31 z) (by kernel_rfl)) HB1.out) ?_) | (refine wpList_buildTo rfl 31 #[(0, .const (.int .u8 2))] rfl _ rfl H2 (Eq.trans (congrArg (fun z => Tryz.prog.built 31 z) (by kernel_rfl)) HB2.out) ?_) | (refine wpList_store_rowAs rfl 31 _ _ rfl w.heap.size H1 rfl rfl _ _ Z0.out HI1.out HZ1.out HO1.out w1 W1.out ?_) | (refine wpList_store_rowAs rfl 31 _ _ rfl (w.heap.size + 1) H2 rfl rfl _ _ Z1.out HI2.out HZ2.out HO2.out w2 W2.out ?_))
  rw [← HA.out] at RA RB ⊢
  clear HA Z0 W1 Z1 W2 HB1 HB2
  go_wp2_with fail
  refine (New_to w2).mono ?_
  rintro e w3 ⟨b, S3, rfl, hd3, hu3⟩
  have HD3 := Lib.hid hd3
  have HU3 := Lib.hid hu3
  have A3 := Lib.hid ((Blk.nil RA.out).upd hu3)
  have B3 := Lib.hid ((Blk.nil RB.out).upd hu3)
  clear hd3 hu3 RA RB
  go_wp2_with fail
  refine (Open_in 7 5 1 (by unfold i64in; omega) (by unfold i64in; omega) (by decide) HU2.out HD3.out HU3.out htab).mono ?_
  rintro e w4 ⟨kb, K4, rfl, hk4, hu4⟩
  have A4 := Lib.hid (A3.out.upd hu4)
  have B4 := Lib.hid (B3.out.upd hu4)
  obtain ⟨m0, hm0⟩ : ∃ m0, m0 = KM.new 7 5 1 := ⟨_, rfl⟩
  rw [← hm0] at hk4
  have e0 : m0.paper = 1 ∧ m0.round = 0 ∧ m0.rs = [] ∧ m0.id = 7 := by rw [hm0]; exact ⟨rfl, rfl, rfl, rfl⟩
  obtain ⟨e01, e02, e03, e04⟩ := e0
  obtain ⟨X1, hX1⟩ : ∃ X1, X1 = nextK m0 lot h1 := ⟨_, rfl⟩
  have hX1o : X1.ok := by rw [hX1]; exact nextK_ok hk4.ok hl1
  have hX1d : Hid (X1.draw = lot) := by show _ = _; rw [hX1]; rfl
  have x11 : X1.serial = 1 := by rw [hX1]; show ((m0.rs.length + 1 : Nat) : Int) = 1; rw [e03]; rfl
  have x12 : X1.seen = 0 := by rw [hX1]; show (m0.round : Int) = 0; rw [e02]; rfl
  have x13 : X1.kiosk = 7 := by rw [hX1]; exact e04
  obtain ⟨m1, hm1⟩ : ∃ m1, m1 = m0.sold X1 := ⟨_, rfl⟩
  have e11 : m1.paper = 0 := by rw [hm1]; show m0.paper - 1 = 0; rw [e01]
  have e12 : m1.round = 0 := by rw [hm1]; exact e02
  have e13 : m1.rs = [X1] := by rw [hm1]; show m0.rs ++ [X1] = _; rw [e03]; rfl
  have r0 : refE m0 (bs lot) = 0 := by unfold refE; rw [lot_ok, e01, e03]; rfl
  have r1 : refE m1 (bs lot) = 50 := by unfold refE; rw [lot_ok, e11]; rfl
  have CS0 := Lib.hid (Sell_in hk4 lot h1 hl1 r0 (by omega) htab)
  obtain ⟨R1, hR1⟩ : ∃ R, R = (rcV X1).toArray := ⟨_, rfl⟩
  obtain ⟨RI1, RO1, RZ1⟩ := rcLet hX1o R1 hR1
  obtain ⟨Z, hZ⟩ : ∃ Z, Z = (rcV Rc.zero).toArray := ⟨_, rfl⟩
  obtain ⟨ZI, ZO, ZZ⟩ := rcLet Rc.zero_ok Z hZ
  rw [← hX1, ← hm1, ← hR1, ← HH1.out] at CS0
  have HR1 := Lib.hid hR1
  have HZE := Lib.hid hZ
  have HE := Lib.hid (And.intro e01 (And.intro e11 (And.intro e12 (And.intro e13 r1))))
  have HX := Lib.hid (And.intro hX1o (And.intro x11 (And.intro x12 x13)))
  clear hk4 hu4 HD3 HU3 HU2 A3 B3 hm0 hm1 hX1 hR1 hZ r0 r1 e01 e02 e03 e04 e11 e12 e13 hX1o x11 x12 x13
  have hl1' := Lib.hid hl1
  have hl2' := Lib.hid hl2
  clear hl1 hl2
  go_wp2_with (first | (refine wpList_load_row rfl 31 _ rfl A rfl _ H1 _ _ A4.out.at_ Tryz.underlying31 rfl HI1.out ?_))
  refine CS0.out.mono ?_
  rintro e w5 ⟨K5, rfl, hk5, hu5⟩
  have A5 := A4.out.upd hu5
  have B5 := B4.out.upd hu5
  obtain ⟨w6, Z5, W5, R5, hq⟩ := blk_new w5 37 Tryz.zeroCells37 R1
  have A6 := Lib.hid (A5.quiet hq)
  have B6 := Lib.hid (B5.quiet hq)
  have C6 : Hid (Blk w6 K5 w5.heap.size (.cells R1 37 (0, 0))) := ⟨R5.out, hk5.fresh (Nat.le_refl _)⟩
  have hk6 := hk5.quiet hq
  have CS6 := Lib.hid (SellNo_in hk6 lot H1 (by decide) 50 HE.out.2.2.2.2 (by decide))
  have K6 := Lib.hid hk6
  obtain ⟨gA, hgA⟩ : ∃ gA, gA = w5.heap.size := ⟨_, rfl⟩
  have HW5 := W5
  rw [← hgA] at C6
  have HGA := Lib.hid hgA
  clear hgA A4 B4 A5 B5 R5 hq hk5 hu5 hk6 CS0
  go_upto_region 6 with (first | (refine wpList_store_rowAs rfl 37 _ _ rfl w5.heap.size R1 rfl rfl _ _ Z5.out RI1.out RZ1.out RO1.out w6 W5.out ?_))
  rw [← HGA.out]
  clear HGA W5 HW5 Z5
  go_wp2_with (first | (refine wpList_load_row rfl 31 _ rfl A rfl _ H1 _ _ A6.out.at_ Tryz.underlying31 rfl HI1.out ?_))
  refine CS6.out.mono ?_
  rintro e w7 ⟨rfl, hq⟩
  obtain ⟨w8, Z7, W7, R7, hq'⟩ := blk_new w7 37 Tryz.zeroCells37 Z
  have A8 := Lib.hid (A6.out.quiet (hq.trans hq'))
  have B8 := Lib.hid (B6.out.quiet (hq.trans hq'))
  have C8 := Lib.hid (C6.out.quiet (hq.trans hq'))
  have K8 := Lib.hid (K6.out.quiet (hq.trans hq'))
  rw [← HZE.out]
  clear A6 B6 C6 K6 hq hq' CS6 R7
  go_upto_region 7 with (first | (refine wpList_store_rowAs rfl 37 _ _ rfl w7.heap.size Z rfl rfl _ _ Z7.out ZI.out ZZ.out ZO.out w8 W7.out ?_))
  obtain ⟨m2, hm2⟩ : ∃ m2, m2 = m1.fill 5 := ⟨_, rfl⟩
  obtain ⟨m3, hm3⟩ : ∃ m3, m3 = m2.lrn 4 h2 := ⟨_, rfl⟩
  obtain ⟨X2, hX2⟩ : ∃ X2, X2 = nextK m3 lot h1 := ⟨_, rfl⟩
  obtain ⟨m4, hm4⟩ : ∃ m4, m4 = m3.sold X2 := ⟨_, rfl⟩
  have HM2 := Lib.hid hm2
  have HM3 := Lib.hid hm3
  have HM4 := Lib.hid hm4
  have HX2 := Lib.hid hX2
  have k0 : w8.cell? ⟨gA, 0, none⟩ = some (.int .i64 7) := by rw [cell_of_row _ _ _ _ _ _ C8.out.at_, HR1.out, (rc_parts HX.out.1).2.2.2.2.1, HX.out.2.2.2]
  have k1 : w8.cell? ⟨gA, 1, none⟩ = some (.int .i64 1) := by rw [cell_of_row _ _ _ _ _ _ C8.out.at_, HR1.out, (rc_parts HX.out.1).2.2.2.2.2.1, HX.out.2.1]
  have k3 : w8.cell? ⟨gA, 3, none⟩ = some (.int .i64 0) := by rw [cell_of_row _ _ _ _ _ _ C8.out.at_, HR1.out, (rc_parts HX.out.1).2.2.2.2.2.2.2, HX.out.2.2.1]
  clear hm2 hm3 hm4 hX2 Z7 W7
  go_wp2_with fail
  refine (Refill_in K8.out 5 (by decide) (by rw [HE.out.2.1]; decide) (by decide) htab).mono ?_
  rintro e w9 ⟨K9, rfl, hk9, hu9⟩
  rw [← HM2.out] at hk9
  have A9 := Lib.hid (A8.out.upd hu9)
  have B9 := Lib.hid (B8.out.upd hu9)
  have C9 := Lib.hid (C8.out.upd hu9)
  have K9H := Lib.hid hk9
  have e21 : m2.round = 0 := by rw [HM2.out]; exact HE.out.2.2.1
  have CL9 := Lib.hid (Learn_in hk9 4 h2 hl2'.out (by rw [e21]; decide) (by decide) (by decide) htab)
  rw [← HM3.out, ← HH2.out] at CL9
  clear hk9 hu9 A8 B8 C8 K8 k0 k1 k3
  go_wp2_with (first | (refine wpList_load_want (by rfl) 31 _ rfl (A + 1) rfl H2 (hash_load hl2'.out H2 HH2.out B9.out.at_) ?_))
  refine CL9.out.mono ?_
  rintro e w10 ⟨K10, rfl, hk10, hu10⟩
  have A10 := Lib.hid (A9.out.upd hu10)
  have B10 := Lib.hid (B9.out.upd hu10)
  have C10 := Lib.hid (C9.out.upd hu10)
  have e31 : m3.paper = 5 := by rw [HM3.out, HM2.out]; show m1.paper + 5 = 5; rw [HE.out.2.1]
  have e32 : m3.round = 4 := by rw [HM3.out]; rfl
  have e33 : m3.rs = [X1] := by rw [HM3.out, HM2.out]; exact HE.out.2.2.2.1
  have e34 : m3.out = h2 := by rw [HM3.out]; rfl
  have r3 : refE m3 (bs lot) = 0 := by unfold refE; rw [lot_ok, e31, e33]; rfl
  have CS10 := Lib.hid (Sell_in hk10 lot h1 hl1'.out r3 (by decide) htab)
  have hX2o : X2.ok := by rw [HX2.out]; exact nextK_ok hk10.ok hl1'.out
  obtain ⟨R2, hR2⟩ : ∃ R, R = (rcV X2).toArray := ⟨_, rfl⟩
  obtain ⟨RI2, RO2, RZ2⟩ := rcLet hX2o R2 hR2
  rw [← HX2.out, ← HM4.out, ← hR2, ← HH1.out] at CS10
  have x21 : X2.serial = 2 := by rw [HX2.out]; show ((m3.rs.length + 1 : Nat) : Int) = 2; rw [e33]; rfl
  have x22 : X2.seen = 4 := by rw [HX2.out]; show (m3.round : Int) = 4; rw [e32]; rfl
  have x23 : X2.out = h2 := by rw [HX2.out]; exact e34
  have x24 : X2.prev = sha (textL X1) := by rw [HX2.out]; show prevK m3.rs = _; rw [e33]; rfl
  have e41 : m4.round = 4 := by rw [HM4.out]; exact e32
  have e42 : m4.out = h2 := by rw [HM4.out]; exact e34
  have e43 : m4.rs = [X1, X2] := by rw [HM4.out]; show m3.rs ++ [X2] = _; rw [e33]; rfl
  have l3 : learnE m4 3 h2 = 32 := by unfold learnE; rw [e41]; rfl
  have l4 : learnE m4 4 h1 = 42 := by unfold learnE; rw [e41, e42, if_neg (by decide), if_neg (by decide), if_pos (show (4 : Int) = ((4 : Nat) : Int) from rfl), if_neg hne]
  have HR2 := Lib.hid hR2
  have HF := Lib.hid (And.intro hX2o (And.intro x21 (And.intro x22 (And.intro x23 x24))))
  have HG := Lib.hid (And.intro e43 (And.intro l3 l4))
  clear hk10 hu10 A9 B9 C9 K9H CL9 e21 e31 e32 e33 e34 r3 hX2o hR2 x21 x22 x23 x24 e41 e42 e43 l3 l4
  go_wp2_with (first | (refine wpList_load_row rfl 31 _ rfl A rfl _ H1 _ _ A10.out.at_ Tryz.underlying31 rfl HI1.out ?_))
  refine CS10.out.mono ?_
  rintro e w11 ⟨K11, rfl, hk11, hu11⟩
  have A11 := A10.out.upd hu11
  have B11 := B10.out.upd hu11
  have C11 := C10.out.upd hu11
  obtain ⟨w12, Z11, W11, R12, hq⟩ := blk_new w11 37 Tryz.zeroCells37 R2
  have A12 := Lib.hid (A11.quiet hq)
  have B12 := Lib.hid (B11.quiet hq)
  have C12 := Lib.hid (C11.quiet hq)
  have D12 : Hid (Blk w12 K11 w11.heap.size (.cells R2 37 (0, 0))) := ⟨R12.out, hk11.fresh (Nat.le_refl _)⟩
  have hk12 := hk11.quiet hq
  have CS12 := Lib.hid (SellNo_in hk12 ⟨#[]⟩ H1 (by decide) 13 (by unfold refE; rw [show bs ⟨#[]⟩ = [] from rfl, nameOk_nil]; rfl) (by decide))
  have K12 := Lib.hid hk12
  obtain ⟨gB, hgB⟩ : ∃ gB, gB = w11.heap.size := ⟨_, rfl⟩
  rw [← hgB] at D12
  have HGB := Lib.hid hgB
  clear hgB A10 B10 C10 A11 B11 C11 R12 hq hk11 hu11 hk12 CS10
  go_upto_region 10 with (first | (refine wpList_store_rowAs rfl 37 _ _ rfl w11.heap.size R2 rfl rfl _ _ Z11.out RI2.out RZ2.out RO2.out w12 W11.out ?_))
  rw [← HGB.out]
  clear HGB W11 Z11
  go_wp2_with (first | (refine wpList_load_row rfl 31 _ rfl A rfl _ H1 _ _ A12.out.at_ Tryz.underlying31 rfl HI1.out ?_))
  refine CS12.out.mono ?_
  rintro e w13 ⟨rfl, hq⟩
  obtain ⟨w14, Z13, W13, R14, hq'⟩ := blk_new w13 37 Tryz.zeroCells37 Z
  have A14 := Lib.hid (A12.out.quiet (hq.trans hq'))
  have B14 := Lib.hid (B12.out.quiet (hq.trans hq'))
  have C14 := Lib.hid (C12.out.quiet (hq.trans hq'))
  have D14 := Lib.hid (D12.out.quiet (hq.trans hq'))
  have K14 := Lib.hid (K12.out.quiet (hq.trans hq'))
  rw [← HZE.out]
  clear A12 B12 C12 D12 K12 hq hq' CS12 R14
  go_upto_region 11 with (first | (refine wpList_store_rowAs rfl 37 _ _ rfl w13.heap.size Z rfl rfl _ _ Z13.out ZI.out ZZ.out ZO.out w14 W13.out ?_))
  clear Z13 W13
  go_wp2_with fail
  refine (Batch_in K14.out 2 1 (by unfold i64in; omega) (by rw [HG.out.1]; show 1 ≤ 2; decide) (by decide) (by decide)).mono ?_
  rintro e w15 ⟨ao, cap, HRS, hcap, rfl, hq⟩
  have hd : m4.rs.drop 1 = [X2] := by rw [HG.out.1]; rfl
  rw [hd] at HRS hcap ⊢
  obtain ⟨g, o, rfl⟩ : ∃ g o, ao = some ⟨g, o, none⟩ := by
    obtain ⟨_, _, g, o, e, _⟩ := HRS.out 0 X2 rfl
    exact ⟨g, o, e⟩
  have A15 := Lib.hid (A14.out.quiet hq)
  have B15 := Lib.hid (B14.out.quiet hq)
  have C15 := Lib.hid (C14.out.quiet hq)
  have D15 := Lib.hid (D14.out.quiet hq)
  have K15 := Lib.hid (K14.out.quiet hq)
  clear A14 B14 C14 D14 K14 hq hd
  obtain ⟨P, hP⟩ : ∃ P, P = (byteVals (sha (textL X1))).toArray := ⟨_, rfl⟩
  have HHS := Lib.hid (fun W hW => hash22_any X1 HX.out.1 (by rw [hX1d.out]; decide) W hW)
  rw [← HR1.out, ← hP] at HHS
  have hfld : ∀ W : World, (Instr.field 50 (.agg #[.int .i64 m4.id, .slice (some ⟨g, o, none⟩) 1 cap]) 1).run Tryz.prog W = .ok (.slice (some ⟨g, o, none⟩) 1 cap) W := fun W => field_bat _ _ _ _ W
  have hq1 : ∀ W : World, (Op.equalIn 10000 31 (.agg H2) (.agg H2)).run Tryz.prog W = .ok true W := fun W => eqH_self HH2.out hl2'.out W
  have hq2 : ∀ W : World, (Op.equalIn 10000 31 (.agg P) (.agg P)).run Tryz.prog W = .ok true W := fun W => eqH_self hP (sha_len _) W
  have hq3 : ∀ W : World, (Op.equalIn 10000 37 (.agg R2) (.agg R2)).run Tryz.prog W = .ok true W := fun W => eqR_self HR2.out HF.out.1 W
  have HS : Hid (∀ W : World, Upd [] [] w15 W → SanS W gA gB A g o R1 R2 H1 H2 P) := by
    intro W u
    exact san_s (A15.quiet u) (B15.quiet u) (C15.quiet u) (D15.quiet u) (HRS.out.upd u) HX.out.1 HF.out.1 HR1.out HR2.out hl1'.out hl2'.out HH1.out HH2.out hP HF.out.2.1 HF.out.2.2.1 HF.out.2.2.2.1 HF.out.2.2.2.2
  have ud0 : Upd [] [] w15 w15.drew := (Upd.refl _ _).drew
  have HK := Lib.hid K15
  have up0 := K15.up
  clear hP A15 B15 C15 D15 K15 HRS hcap
  go_upto_region 12 with (fail)
  refine wp_region_noPanic ?_
  refine wp_region_held_drew (S := fun wp => wp.cell? ⟨gB, 1, none⟩ = some (.int .i64 2) ∧ wp.cell? ⟨gB, 3, none⟩ = some (.int .i64 4) ∧ SanS wp gA gB A g o R1 R2 H1 H2 P) (by kernel_rfl) ?_ (fun hHeld => ?_)
  · exact ⟨(HS.out _ ud0).c1, (HS.out _ ud0).c3, HS.out _ ud0⟩
  refine tkY 0 hHeld ?_
  refine tkY 1 hHeld ?_
  refine tkY 2 hHeld ?_
  refine tkY 3 hHeld ?_
  refine tkY 4 hHeld ?_
  refine tkY 5 hHeld ?_
  refine tkY 6 hHeld ?_
  refine tkY 7 hHeld ?_
  refine tkY 8 hHeld ?_
  refine tkY 9 hHeld ?_
  refine tkY 10 hHeld ?_
  refine tkY 11 hHeld ?_
  refine tkY 12 hHeld ?_
  refine tkY 13 hHeld ?_
  refine tkL 14 hHeld H2 (fun w hSw => hSw.2.2.out1) ?_
  refine tkL 15 hHeld H2 (fun w hSw => hSw.2.2.h2) ?_
  refine tkY 16 hHeld ?_
  refine tkY 17 hHeld ?_
  refine tkY 18 hHeld ?_
  refine tkY 19 hHeld ?_
  refine tkL 20 hHeld P (fun w hSw => hSw.2.2.prev) ?_
  refine tkL 21 hHeld R1 (fun w hSw => hSw.2.2.r1) ?_
  refine wpAnyH_ready (rs := [22]) (by kernel_rfl) (by simp) ?_
  refine AllReadyH.cons (by simp only [List.getElem?_toArray, List.getElem?_cons_succ, List.getElem?_cons_zero] <;> rfl) (fun K hK => ?_) ?_
  · go_simp; refine (HHS.out _ (htab.upd (up0.trans ud0))).mono ?_; rintro e wv1 ⟨rfl, hq⟩; have ud1 := ud0.trans hq; clear hq; go_wp2_with fail
    refine hK.out _ _ ?_ (fun hHeld => ?_)
    · exact ⟨(HS.out _ ud1).c1, (HS.out _ ud1).c3, HS.out _ ud1⟩
    clear hK K
    try simp only [Act.put, List.setIfInBounds_toArray, List.set_cons_zero, List.set_cons_succ]
    refine tkY 23 hHeld ?_
    refine tkY 24 hHeld ?_
    refine tkY 25 hHeld ?_
    refine tkY 26 hHeld ?_
    refine tkL 27 hHeld H2 (fun w hSw => hSw.2.2.h2) ?_
    refine wpAnyH_ready (rs := [28]) (by kernel_rfl) (by simp) ?_
    refine AllReadyH.cons (by simp only [List.getElem?_toArray, List.getElem?_cons_succ, List.getElem?_cons_zero] <;> rfl) (fun K hK => ?_) ?_
    · go_simp; rw [HH2.out]; refine (LearnNo_in (HK.out.quiet ud1) 3 h2 (by unfold i64in; omega) hl2'.out 32 HG.out.2.1 (by decide)).mono ?_; rintro e wv2 ⟨rfl, hq⟩; have ud2 := ud1.trans hq; clear hq; rw [← HH2.out]; go_wp2_with fail
      refine hK.out _ _ ?_ (fun hHeld => ?_)
      · exact ⟨(HS.out _ ud2).c1, (HS.out _ ud2).c3, HS.out _ ud2⟩
      clear hK K
      try simp only [Act.put, List.setIfInBounds_toArray, List.set_cons_zero, List.set_cons_succ]
      refine tkY 29 hHeld ?_
      refine tkY 30 hHeld ?_
      refine tkY 31 hHeld ?_
      refine tkY 32 hHeld ?_
      refine tkL 33 hHeld H1 (fun w hSw => hSw.2.2.h1) ?_
      refine wpAnyH_ready (rs := [34]) (by kernel_rfl) (by simp) ?_
      refine AllReadyH.cons (by simp only [List.getElem?_toArray, List.getElem?_cons_succ, List.getElem?_cons_zero] <;> rfl) (fun K hK => ?_) ?_
      · go_simp; rw [HH1.out]; refine (LearnNo_in (HK.out.quiet ud2) 4 h1 (by unfold i64in; omega) hl1'.out 42 HG.out.2.2 (by decide)).mono ?_; rintro e wv3 ⟨rfl, hq⟩; have ud3 := ud2.trans hq; clear hq; rw [← HH1.out]; go_wp2_with fail
        refine hK.out _ _ ?_ (fun hHeld => ?_)
        · exact ⟨(HS.out _ ud3).c1, (HS.out _ ud3).c3, HS.out _ ud3⟩
        clear hK K
        try simp only [Act.put, List.setIfInBounds_toArray, List.set_cons_zero, List.set_cons_succ]
        refine tkY 35 hHeld ?_
        refine tkY 36 hHeld ?_
        refine tkY 37 hHeld ?_
        refine tkY 38 hHeld ?_
        refine tkY 39 hHeld ?_
        refine tkY 40 hHeld ?_
        refine tkY 41 hHeld ?_
        refine tkY 42 hHeld ?_
        refine tkY 43 hHeld ?_
        refine tkY 44 hHeld ?_
        refine tkL 45 hHeld R2 (fun w hSw => hSw.2.2.el) ?_
        refine tkL 46 hHeld R2 (fun w hSw => hSw.2.2.r2) ?_
        refine tkY 47 hHeld ?_
        refine tkY 48 hHeld ?_
        refine tkY 49 hHeld ?_
        refine tkY 50 hHeld ?_
        refine tkY 51 hHeld ?_
        refine tkY 52 hHeld ?_
        refine wpAnyH_take (i := 53) (v := ?v43) (by simp only [List.getElem?_toArray, List.getElem?_cons_succ, List.getElem?_cons_zero] <;> rfl) (by kernel_rfl) (by kernel_rfl) (by kernel_rfl) (fun _ _ _ h => h) (Or.inl ⟨by rfl, ?y43⟩) hHeld ?r43
        case y43 => (intro w hSw; (try dsimp only at hSw); go_simp; first | done | with_reducible rfl | rfl)
        try simp only [Act.put, List.setIfInBounds_toArray, List.set_cons_zero]
        refine wpAnyH_done (by kernel_rfl) ?_ _
        refine NoPanic.normal ?_
        go_wp2_with fail
        go_ret
        exact ⟨rfl, up0.trans ud3⟩
      exact AllReadyH.nil
    exact AllReadyH.nil
  exact AllReadyH.nil
end Go.Proofs.YtabnlklkfgojgaaGreatDoor

namespace Go.Proofs.YtabnlklkfgojgaaGreatDoor
open Go.ChangeShapes Go.WideShapes Go.ChangeAt Go.RowKit Go.Deep Go.Joins
set_option maxRecDepth 100000

inductive Kd where
  | i (k : IntKind)
  | s
  | b
def Kd.ok : Kd → Value → Prop
  | .i k, v => ∃ n : Int, v = .int k n ∧ (Lit.int k n).wf = true
  | .s, v => ∃ s : ByteArray, v = .string s ∧ s.size ≤ maxLen
  | .b, v => ∃ b : Bool, v = .bool b

def flatF (P : Program) (fl : TypeId → Option (List Kd)) : Nat → List Field → Option (List Kd)
  | _, [] => some []
  | off, f :: r => match fl f.type with
    | some l => if f.offset = off ∧ l.length = P.cellsOf f.type then (flatF P fl (off + l.length) r).map (l ++ ·) else none
    | none => none
def flatK (P : Program) : Nat → TypeId → Option (List Kd)
  | 0, _ => none
  | f + 1, t => match P.underlying t with
    | some (.int k) => some [.i k]
    | some .string => some [.s]
    | some .bool => some [.b]
    | some (.array n e) => match flatK P f e with
      | some l => if l.length = P.cellsOf e ∧ n * l.length = P.cellsOf t ∧ 0 < l.length then some (List.replicate n l).flatten else none
      | none => none
    | some (.struct fs) => match flatF P (flatK P f) 0 fs.toList with
      | some l => if l.length = P.cellsOf t then some l else none
      | none => none
    | _ => none

def Mt (ks : List Kd) (cs : List Value) : Prop := cs.length = ks.length ∧ ∀ (i : Nat) k, ks[i]? = some k → ∃ v, cs[i]? = some v ∧ k.ok v

theorem Mt.one {k : Kd} {v : Value} (h : k.ok v) : Mt [k] [v] := by
  refine ⟨rfl, fun i k' hi => ?_⟩
  cases i with
  | zero => simp at hi; subst hi; exact ⟨v, rfl, h⟩
  | succ i => simp at hi

theorem flatten_get {α : Type} (l : List α) (m : Nat) (hm : l.length = m) (h0 : 0 < m) : ∀ (n i : Nat) (a : α), (List.replicate n l).flatten[i]? = some a → i / m < n ∧ l[i % m]? = some a
  | 0, i, a, h => by simp at h
  | n + 1, i, a, h => by
    rw [List.replicate_succ, List.flatten_cons] at h
    by_cases hi : i < m
    · rw [List.getElem?_append_left (by omega)] at h
      rw [Nat.div_eq_of_lt hi, Nat.mod_eq_of_lt hi]
      exact ⟨by omega, h⟩
    · rw [List.getElem?_append_right (by omega), hm] at h
      have ih := flatten_get l m hm h0 n (i - m) a h
      have e1 : i / m = (i - m) / m + 1 := by rw [Nat.div_eq_sub_div h0 (by omega)]
      have e2 : i % m = (i - m) % m := by rw [Nat.mod_eq_sub_mod (by omega)]
      rw [e1, e2]
      exact ⟨by omega, ih.2⟩

theorem chunk_get {cs : List Value} {off sz j : Nat} {v : Value} (h : ((cs.drop off).take sz)[j]? = some v) : cs[off + j]? = some v := by
  rw [List.getElem?_take] at h
  split at h
  · rw [List.getElem?_drop] at h; exact h
  · cases h

section
variable {H : Type} {enc : TypeId × Value → H} {P : Program} {w : World} {base : Nat} {sp : Nat → Bool} {hd : Bool}

theorem flatF_ok {fl : TypeId → Option (List Kd)} {cs : List Value} : ∀ (fs : List Field) (off : Nat) (ks : List Kd), flatF P fl off fs = some ks →
    (∀ f ∈ fs, ∀ l, fl f.type = some l → Mt l ((cs.drop f.offset).take (P.cellsOf f.type))) → ∀ (i : Nat) k, ks[i]? = some k → ∃ v, cs[off + i]? = some v ∧ k.ok v
  | [], off, ks, h, _, i, k, hi => by
    simp only [flatF, Option.some.injEq] at h
    subst h
    simp at hi
  | f :: r, off, ks, h, hf, i, k, hi => by
    simp only [flatF] at h
    split at h
    · rename_i l hl
      split at h
      · rename_i hc
        obtain ⟨ks', hk', rfl⟩ := Option.map_eq_some_iff.1 h
        by_cases hil : i < l.length
        · rw [List.getElem?_append_left hil] at hi
          obtain ⟨v, hv, hok⟩ := (hf f (by simp) l hl).2 i k hi
          have := chunk_get hv
          rw [hc.1] at this
          exact ⟨v, this, hok⟩
        · rw [List.getElem?_append_right (by omega)] at hi
          obtain ⟨v, hv, hok⟩ := flatF_ok r (off + l.length) ks' hk' (fun f' hf' => hf f' (by simp [hf'])) (i - l.length) k hi
          rw [show off + l.length + (i - l.length) = off + i by omega] at hv
          exact ⟨v, hv, hok⟩
      · cases h
    · cases h

theorem flatK_ok : ∀ (f : Nat) (t : TypeId) (ks : List Kd) (fuel : Nat) (cs : List Value) (x : DataW H × List MemPlace), flatK P f t = some ks → DataW.trod enc P w base sp hd fuel t cs = some x → Mt ks cs
  | 0, t, ks, fuel, cs, x, h, _ => by simp [flatK] at h
  | f + 1, t, ks, fuel, cs, x, h, hx => by
    simp only [flatK] at h
    split at h
    · rename_i k hu
      obtain ⟨n, rfl, _, hw⟩ := DataW.trod_int hu hx
      simp only [Option.some.injEq] at h
      subst h
      exact Mt.one ⟨n, rfl, hw⟩
    · rename_i hu
      obtain ⟨s, rfl, _, hs⟩ := DataW.trod_string hu hx
      simp only [Option.some.injEq] at h
      subst h
      exact Mt.one ⟨s, rfl, hs⟩
    · rename_i hu
      obtain ⟨b, rfl, _⟩ := DataW.trod_bool hu hx
      simp only [Option.some.injEq] at h
      subst h
      exact Mt.one ⟨b, rfl⟩
    · rename_i n e hu
      split at h
      · rename_i l hl
        split at h
        · rename_i hc
          simp only [Option.some.injEq] at h
          subst h
          obtain ⟨xs, m, _, _, hlen, hxl, hi⟩ := DataW.trod_array hu hx
          refine ⟨by rw [hlen, ← hc.2.1]; simp, fun i k hk => ?_⟩
          obtain ⟨hq, hr⟩ := flatten_get l (P.cellsOf e) hc.1 (by omega) n i k hk
          have h1 := hi (i / P.cellsOf e) hq
          have e0 : xs[i / P.cellsOf e]? = some (xs[i / P.cellsOf e]'(by omega)) := List.getElem?_eq_getElem (by omega)
          rw [e0] at h1
          obtain ⟨v, hv, hok⟩ := (flatK_ok f e l m _ _ hl h1).2 (i % P.cellsOf e) k hr
          have := chunk_get hv
          rw [Nat.mul_comm, Nat.div_add_mod] at this
          exact ⟨v, this, hok⟩
        · cases h
      · cases h
    · rename_i fs hu
      split at h
      · rename_i l hl
        split at h
        · rename_i hc
          simp only [Option.some.injEq] at h
          subst h
          obtain ⟨xs, m, _, _, hlen, hxl, hi⟩ := DataW.trod_struct hu hx
          refine ⟨by rw [hlen, hc], fun i k hk => ?_⟩
          have := flatF_ok fs.toList 0 l hl (fun fd hfd lf hlf => by
            obtain ⟨j, hj⟩ := List.getElem?_of_mem hfd
            have h1 := hi j fd (by simpa using hj)
            have hjl : j < xs.length := by
              have := (List.getElem?_eq_some_iff.1 hj).1
              simp at this
              omega
            have e0 : xs[j]? = some (xs[j]'hjl) := List.getElem?_eq_getElem hjl
            rw [e0] at h1
            exact flatK_ok f fd.type lf m _ _ hlf h1) i k hk
          rw [Nat.zero_add] at this
          exact this
        · cases h
      · cases h
    · cases h

theorem Mt.get {ks : List Kd} {cs : List Value} (h : Mt ks cs) {i : Nat} {k : Kd} (hk : ks[i]? = some k) : ∃ v, cs[i]? = some v ∧ k.ok v := h.2 i k hk
theorem Mt.i64 {ks : List Kd} {cs : List Value} (h : Mt ks cs) {i : Nat} (hk : ks[i]? = some (.i .i64)) : ∃ n : Int, cs[i]? = some (.int .i64 n) ∧ -9223372036854775808 ≤ n ∧ n ≤ 9223372036854775807 := by
  obtain ⟨v, hv, n, rfl, hw⟩ := h.2 i _ hk
  exact ⟨n, hv, bounds_i64 hw⟩
theorem Mt.bool {ks : List Kd} {cs : List Value} (h : Mt ks cs) {i : Nat} (hk : ks[i]? = some .b) : ∃ b : Bool, cs[i]? = some (.bool b) := by
  obtain ⟨v, hv, n, rfl⟩ := h.2 i _ hk
  exact ⟨n, hv⟩
theorem Mt.u8 {ks : List Kd} {cs : List Value} (h : Mt ks cs) {i : Nat} (hk : ks[i]? = some (.i .u8)) : ∃ n : Int, cs[i]? = some (.int .u8 n) ∧ 0 ≤ n ∧ n ≤ 255 := by
  obtain ⟨v, hv, n, rfl, hw⟩ := h.2 i _ hk
  exact ⟨n, hv, bounds_u8 hw⟩
end
end Go.Proofs.YtabnlklkfgojgaaGreatDoor

namespace Go.Proofs.YtabnlklkfgojgaaGreatDoor
open Go.ChangeShapes Go.WideShapes Go.ChangeAt Go.RowKit Go.Deep Go.Joins
set_option maxRecDepth 100000

def PrsIn (k : IntKind) (lo hi : Int) (w : World) (ao : Option Addr) (l : List (Int × Int)) : Prop :=
  ∀ (j : Nat) q, l[j]? = some q → (lo ≤ q.1 ∧ q.1 ≤ hi) ∧ (lo ≤ q.2 ∧ q.2 ≤ hi) ∧ ∃ g o, ao = some ⟨g, o, none⟩ ∧ g < w.heap.size ∧ w.cell? ⟨g, o + j * 2, none⟩ = some (.int k q.1) ∧ w.cell? ⟨g, o + j * 2 + 1, none⟩ = some (.int k q.2)
theorem PrsIn.upd {k : IntKind} {lo hi : Int} {w w' : World} {ao : Option Addr} {l : List (Int × Int)} (h : PrsIn k lo hi w ao l) (u : Upd [] [] w w') : PrsIn k lo hi w' ao l := by
  intro j q hj
  obtain ⟨h1, h2, g, o, h3, h4, h5, h6⟩ := h j q hj
  exact ⟨h1, h2, g, o, h3, Nat.lt_of_lt_of_le h4 u.size, (u.cell (p := ⟨g, o + j * 2, none⟩) h4 (by simp)).trans h5, (u.cell (p := ⟨g, o + j * 2 + 1, none⟩) h4 (by simp)).trans h6⟩
section
variable {H : Type} {enc : TypeId × Value → H} {w : World}
end
end Go.Proofs.YtabnlklkfgojgaaGreatDoor

namespace Go.Proofs.YtabnlklkfgojgaaGreatDoor
open Go.RowKit
set_option maxRecDepth 100000

theorem wpList_build_want {P : Program} {ops : Array Oper} {rest : List Oper} {o : Oper} {a : Act} {w : World} {Q : Exit → Act → World → Prop} (hw : Region.wanted o (yielded ops a.tmps) = true) (t : TypeId) (parts : Array (Nat × Operand)) (ho : o.op = .build t parts)
    (cells : Array Value) (hf : P.built t (parts.map fun (i, x) => (i, a.eval x)).toList = some cells) (h : wpList P ops Q rest (a.put o.dst (.agg cells)) w) : wpList P ops Q (o :: rest) a w := by
  refine wpList_step fun K hK => ?_
  rw [if_pos hw]
  refine wp_build t parts ho (by rw [hf]; rfl) ?_
  rw [hf]
  exact hK _ _ h
theorem rc_zero_built : Tryz.prog.built 37 [] = some (rcV Rc.zero).toArray := by kernel_rfl
def lrnR (m : KM) (r : Int) (hs : List UInt8) : Int := if learnE m r hs = -1 then 0 else learnE m r hs
def lrnM (m : KM) (r : Int) (hs : List UInt8) : KM := if learnE m r hs = -1 then m.lrn r.toNat hs else m
theorem lrn_bad {m : KM} {r : Int} {hs : List UInt8} (h : r < 1 ∨ 1000000000 < r) : lrnR m r hs = 15 ∧ lrnM m r hs = m := by
  have e : learnE m r hs = 15 := by unfold learnE; rw [if_pos h]
  unfold lrnR lrnM
  rw [e]
  exact ⟨rfl, rfl⟩
theorem lrn_old {m : KM} {r : Int} {hs : List UInt8} (h1 : 1 ≤ r) (h2 : r ≤ 1000000000) (h : r < (m.round : Int)) : lrnR m r hs = 32 ∧ lrnM m r hs = m := by
  have e : learnE m r hs = 32 := by unfold learnE; rw [if_neg (by omega), if_pos h]
  unfold lrnR lrnM
  rw [e]
  exact ⟨rfl, rfl⟩
theorem lrn_same {m : KM} {r : Int} {hs : List UInt8} (h1 : 1 ≤ r) (h2 : r ≤ 1000000000) (h : r = (m.round : Int)) (hh : hs = m.out) : lrnR m r hs = 0 ∧ lrnM m r hs = m := by
  have e : learnE m r hs = 0 := by unfold learnE; rw [if_neg (by omega), if_neg (by omega), if_pos h, if_pos hh]
  unfold lrnR lrnM
  rw [e]
  exact ⟨rfl, rfl⟩
theorem lrn_fork {m : KM} {r : Int} {hs : List UInt8} (h1 : 1 ≤ r) (h2 : r ≤ 1000000000) (h : r = (m.round : Int)) (hh : hs ≠ m.out) : lrnR m r hs = 42 ∧ lrnM m r hs = m := by
  have e : learnE m r hs = 42 := by unfold learnE; rw [if_neg (by omega), if_neg (by omega), if_pos h, if_neg hh]
  unfold lrnR lrnM
  rw [e]
  exact ⟨rfl, rfl⟩
theorem lrn_new {m : KM} {r : Int} {hs : List UInt8} (h1 : 1 ≤ r) (h2 : r ≤ 1000000000) (h : (m.round : Int) < r) : learnE m r hs = -1 ∧ lrnR m r hs = 0 ∧ lrnM m r hs = m.lrn r.toNat hs := by
  have e : learnE m r hs = -1 := by unfold learnE; rw [if_neg (by omega), if_neg (by omega), if_neg (by omega)]
  unfold lrnR lrnM
  rw [e]
  exact ⟨rfl, rfl, rfl⟩
theorem lrnM_rs (m : KM) (r : Int) (hs : List UInt8) : (lrnM m r hs).rs = m.rs ∧ (lrnM m r hs).paper = m.paper ∧ (lrnM m r hs).id = m.id := by
  unfold lrnM
  split
  · exact ⟨rfl, rfl, rfl⟩
  · exact ⟨rfl, rfl, rfl⟩
theorem Upd.quietTo {w w' : World} {K : List Nat} (h : Upd [] [] w w') : Upd K K w w' := ⟨h.os, h.tape, h.output, h.size, fun k hk _ => h.block k hk (by simp), fun _ hk => .inl hk⟩
def selR (m : KM) (d : ByteArray) (hs : List UInt8) : Rc := if refE m (bs d) = 0 then nextK m d hs else Rc.zero
def selM (m : KM) (d : ByteArray) (hs : List UInt8) : KM := if refE m (bs d) = 0 then m.sold (nextK m d hs) else m
theorem selR_ok {m : KM} (hm : m.ok) {d : ByteArray} {hs : List UInt8} (hl : hs.length = 32) : (selR m d hs).ok := by
  unfold selR
  split
  · exact nextK_ok hm hl
  · exact Rc.zero_ok
end Go.Proofs.YtabnlklkfgojgaaGreatDoor
