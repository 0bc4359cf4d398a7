/- court.receipts and the form of two receipts. court's tests of two receipts: form, signatures, proofs. court.sigReceipts. -/
import Derived.Test.YtinpenoeohejoaaGreatDoorGZ
import Derived.Test.YtinpenoeohejoaaGreatDoorGQ
import Derived.Test.YtinpenoeohejoaaGreatDoorGF
import Derived.Test.YtinpenoeohejoaaGreatDoorGM
import Derived.Test.YtinpenoeohejoaaGreatDoorGI
namespace Go.Proofs.YtinpenoeohejoaaGreatDoor
open Go.RowKit
set_option maxRecDepth 100000

theorem results_two_rows_tmp {P : Program} {fn : Func} {p q u : Tmp} {ty : TypeId} (h : fn.results = #[.cell p ty, .cell q ty, .tmp u]) (tmps : Array Value) (w : World) (g k : Nat) (t : TypeId) (cs ds : Array Value) (fs : Array Field)
    (hp : tmps.getD p undef = .pointer (some ⟨g, 0, none⟩)) (hg : w.heap[g]? = some (.cells cs t (0, 0))) (hq : tmps.getD q undef = .pointer (some ⟨k, 0, none⟩)) (hk : w.heap[k]? = some (.cells ds t (0, 0)))
    (hu : P.underlying ty = some (.struct fs)) (hi : (P.info? ty).map (·.size) = some cs.size) (hj : (P.info? ty).map (·.size) = some ds.size) :
    (results fn tmps).run P w = .ok (.tuple #[.agg cs, .agg ds, tmps.getD u undef]) w := by
  have h1 := run_loadVar_row (P := P) w g t ty cs (0, 0) _ hg hu rfl hi
  have h2 := run_loadVar_row (P := P) w k t ty ds (0, 0) _ hk hu rfl hj
  have hp' : tmps[p]?.getD undef = .pointer (some ⟨g, 0, none⟩) := by simpa using hp
  have hq' : tmps[q]?.getD undef = .pointer (some ⟨k, 0, none⟩) := by simpa using hq
  simp [results, h, hp', hq', asAddr, h1, h2]
theorem readText_any (s : ByteArray) (x : Rc) (hx : x.ok) (hd : x.draw.size ≤ 1000000) (hs : bs s = textL x) (R : Array Value) (hR : R = (rcV x).toArray) (w : World) (htab : Tabs w) : Calls Tryz.prog 116 #[.string s] w (Mk (.tuple #[.agg R, .bool true]) w) := by
  have hsz : s.size ≤ 1000000000 := by
    rw [← bs_length, hs]
    have := textL_len hx
    omega
  refine (read22_any s w hsz htab).mono ?_
  rintro e w' ⟨y, ok, HO, rfl, hu⟩
  have ho := HO.out
  rw [hs] at ho
  obtain ⟨p1, p2⟩ := rcOk_text hx ho
  rw [p1, p2, hR]
  exact ⟨rfl, hu⟩
theorem rc_load {x : Rc} (hx : x.ok) {R : Array Value} (hR : R = (rcV x).toArray) {g : Nat} {W : World} (h : W.heap[g]? = some (.cells R 41 (0, 0))) : (Instr.loadAt 41 (.pointer (some ⟨g, 0, none⟩))).run Tryz.prog W = .ok (.agg R) W := by
  subst hR
  exact run_loadAt_mid W g 0 41 _ _ (fun j v hv => by rw [Nat.zero_add]; exact (cell_of_row _ g j _ _ _ h).trans ((List.getElem?_toArray).trans hv)) Tryz.underlying41 rfl (rcInfo hx)
section
variable {M : Array Value} {aw ar as' bw br bs' low high id pub : Int} {aT bT F A B : ByteArray}
set_option maxHeartbeats 4000000 in
theorem receipts_any (h : MtIs M aw aT ar as' bw bT br bs' low high F A B id pub) (ra rb : Rc) (hra : ra.ok) (hrb : rb.ok) (da : ra.draw.size ≤ 1000000) (db : rb.draw.size ≤ 1000000) (hA : bs aT = textL ra) (hB : bs bT = textL rb) (RA RB : Array Value) (hRA : RA = (rcV ra).toArray) (hRB : RB = (rcV rb).toArray) (w : World) (htab : Tabs w) :
    Calls Tryz.prog 130 #[.agg M] w (Mk (.tuple #[.agg RA, .agg RB, .bool true]) w) := by
  obtain ⟨AI, AO, AZ⟩ := rcLet hra RA hRA
  obtain ⟨BI, BO, BZ⟩ := rcLet hrb RB hRB
  obtain ⟨g, hg⟩ : ∃ g, w.heap.size = g := ⟨_, rfl⟩
  obtain ⟨w0, hw0⟩ : ∃ W, w.alloc (.cells M 120) = W := ⟨_, rfl⟩
  have r0 : w0.heap[g]? = some (.cells M 120 (0, 0)) := by rw [← hg, ← hw0]; exact heap_alloc_new _ _
  have u0 : Upd [] [] w w0 := by rw [← hw0]; exact (Upd.refl _ _).alloc _
  obtain ⟨gA, hgA⟩ : ∃ g, w0.heap.size = g := ⟨_, rfl⟩
  obtain ⟨w1, hw1⟩ : ∃ W, w0.alloc (.cells Tryz.zeroCells41 41) = W := ⟨_, rfl⟩
  have r1 : w1.heap[gA]? = some (.cells Tryz.zeroCells41 41 (0, 0)) := by rw [← hgA, ← hw1]; exact heap_alloc_new _ _
  have u1 : Upd [] [] w0 w1 := by rw [← hw1]; exact (Upd.refl _ _).alloc _
  obtain ⟨gB, hgB⟩ : ∃ g, w1.heap.size = g := ⟨_, rfl⟩
  obtain ⟨w2, hw2⟩ : ∃ W, w1.alloc (.cells Tryz.zeroCells41 41) = W := ⟨_, rfl⟩
  have r2 : w2.heap[gB]? = some (.cells Tryz.zeroCells41 41 (0, 0)) := by rw [← hgB, ← hw2]; exact heap_alloc_new _ _
  have u2 : Upd [] [] w1 w2 := by rw [← hw2]; exact (Upd.refl _ _).alloc _
  have l1 : g < gA := by rw [← hgA]; exact blk_lt r0
  have l2 : gA < gB := by rw [← hgB]; exact blk_lt r1
  have lw : w.heap.size ≤ gA := by omega
  have lw2 : w.heap.size ≤ gB := by omega
  have M2 := Lib.hid (row_updH (row_updH r0 u1) u2)
  have A2 := Lib.hid (row_updH r1 u2)
  have B2 := Lib.hid r2
  have U2 := Lib.hid ((u0.trans u1).trans u2)
  have cA := (cell_of_row _ g 9 _ _ _ M2.out).trans h.a1
  have HB1 := Lib.hid h.b1
  have HRA := Lib.hid (fun W (u : Upd [] [] w W) => readText_any aT ra hra da hA RA hRA W (htab.upd u))
  have HRB := Lib.hid (fun W (u : Upd [] [] w W) => readText_any bT rb hrb db hB RB hRB W (htab.upd u))
  have HLA : Hid (∀ W : World, W.heap[gA]? = some (.cells RA 41 (0, 0)) → W.heap[gB]? = some (.cells RB 41 (0, 0)) → (Instr.loadAt 41 (.pointer (some ⟨gA, 0, none⟩))).run Tryz.prog W = .ok (.agg RA) W ∧ (Instr.loadAt 41 (.pointer (some ⟨gB, 0, none⟩))).run Tryz.prog W = .ok (.agg RB) W) := fun W q1 q2 => ⟨rc_load hra hRA q1, rc_load hrb hRB q2⟩
  clear h r0 r1 r2 u0 u1 u2 hA hB hRA hRB hra hrb da db
  go_enter Tryz.func130, Tryz.ntmps130
  go_wp2_with fail
  refine (HRA.out w2 U2.out).mono ?_
  rintro e w3 ⟨rfl, hq⟩
  have M3 := Lib.hid (row_updH M2.out hq)
  have A3 := Lib.hid (row_updH A2.out hq)
  have B3 := Lib.hid (row_updH B2.out hq)
  have U3 := Lib.hid (U2.out.trans hq)
  obtain ⟨w4, hw4⟩ : ∃ W, w3.setRow gA RA = W := ⟨_, rfl⟩
  have A4 : (w3.setRow gA RA).heap[gA]? = some (.cells RA 41 (0, 0)) := setRow_heap _ _ _ _ _ _ A3.out
  have M4 := row_setRowO M3.out (by omega : g ≠ gA) RA
  have B4 := row_setRowO B3.out (by omega : gB ≠ gA) RA
  have V4 := U3.out.setRowNew lw RA
  rw [hw4] at A4 M4 B4 V4
  have HW4 := Lib.hid hw4
  have cB := (cell_of_row _ g 13 _ _ _ M4).trans HB1.out
  have HA4 := Lib.hid A4
  have HM4 := Lib.hid M4
  have HB4 := Lib.hid B4
  have HV4 := Lib.hid V4
  clear hq M2 A2 B2 U2 M3 B3 U3 hw4 A4 M4 B4 V4 HRA
  go_wp2_with (first | (refine wpList_store_rowAs rfl 41 _ _ rfl gA RA rfl rfl _ _ A3.out AI.out AZ.out AO.out w4 HW4.out ?_))
  refine (HRB.out w4 HV4.out).mono ?_
  rintro e w5 ⟨rfl, hq⟩
  have A5 := Lib.hid (row_updH HA4.out hq)
  have B5 := Lib.hid (row_updH HB4.out hq)
  have U5 := Lib.hid (HV4.out.trans hq)
  obtain ⟨w6, hw6⟩ : ∃ W, w5.setRow gB RB = W := ⟨_, rfl⟩
  have B6 : (w5.setRow gB RB).heap[gB]? = some (.cells RB 41 (0, 0)) := setRow_heap _ _ _ _ _ _ B5.out
  have A6 := row_setRowO A5.out (by omega : gA ≠ gB) RB
  have V6 := U5.out.setRowNew lw2 RB
  rw [hw6] at A6 B6 V6
  have HW6 := Lib.hid hw6
  have HA6 := Lib.hid A6
  have HB6 := Lib.hid B6
  have HV6 := Lib.hid V6
  have ud0 : Upd [] [] w6 w6.drew := (Upd.refl _ _).drew
  clear hq A5 U5 hw6 A6 B6 V6 HRB HA4 HB4 HM4 HV4 cA cB A3 HW4
  go_upto_region 3 with (first | (refine wpList_store_rowAs rfl 41 _ _ rfl gB RB rfl rfl _ _ B5.out BI.out BZ.out BO.out w6 HW6.out ?_))
  refine wp_region_noPanic ?_
  refine wp_region_held_drew (S := fun wp => (Instr.loadAt 41 (.pointer (some ⟨gA, 0, none⟩))).run Tryz.prog wp = .ok (.agg RA) wp ∧ (Instr.loadAt 41 (.pointer (some ⟨gB, 0, none⟩))).run Tryz.prog wp = .ok (.agg RB) wp) (by kernel_rfl) ?_ (fun hHeld => ?_)
  · exact HLA.out _ (row_updH HA6.out ud0) (row_updH HB6.out ud0)
  refine tkL 0 hHeld RA (fun w hSw => hSw.1) ?_
  refine tkL 1 hHeld RB (fun w hSw => hSw.2) ?_
  refine tkY 2 hHeld ?_
  refine tkY 3 hHeld ?_
  refine tkY 4 hHeld ?_
  refine tkY 5 hHeld ?_
  refine wpAnyH_ready (rs := [6]) (by kernel_rfl) (by simp) ?_
  refine AllReadyH.cons (by simp only [List.getElem?_toArray, List.getElem?_cons_succ, List.getElem?_cons_zero] <;> rfl) (fun K hK => ?_) ?_
  · rw [if_pos (by rfl)]; refine wp_store_row 41 _ _ rfl gA RA rfl rfl _ _ (row_updH HA6.out ud0) AI.out rfl AO.out ?_; obtain ⟨wv1, hwx⟩ : ∃ W' : World, W' = w6.drew.setRow gA RA := ⟨_, rfl⟩; have fA1 : (w6.drew.setRow gA RA).heap[gA]? = some (.cells RA 41 (0, 0)) := setRow_heap _ _ _ _ _ _ (row_updH HA6.out ud0); have fB1 := row_setRowO (row_updH HB6.out ud0) (by omega : gB ≠ gA) RA; have v1 := (HV6.out.trans ud0).setRowNew lw RA; rw [← hwx] at fA1 fB1 v1 ⊢; clear hwx
    refine hK.out _ _ ?_ (fun hHeld => ?_)
    · exact HLA.out _ fA1 fB1
    clear hK K
    try simp only [Act.put]
    refine wpAnyH_ready (rs := [7]) (by kernel_rfl) (by simp) ?_
    refine AllReadyH.cons (by simp only [List.getElem?_toArray, List.getElem?_cons_succ, List.getElem?_cons_zero] <;> rfl) (fun K hK => ?_) ?_
    · rw [if_pos (by rfl)]; refine wp_store_row 41 _ _ rfl gB RB rfl rfl _ _ fB1 BI.out rfl BO.out ?_; obtain ⟨wv2, hwx⟩ : ∃ W' : World, W' = wv1.setRow gB RB := ⟨_, rfl⟩; have fB2 : (wv1.setRow gB RB).heap[gB]? = some (.cells RB 41 (0, 0)) := setRow_heap _ _ _ _ _ _ fB1; have fA2 := row_setRowO fA1 (by omega : gA ≠ gB) RB; have v2 := v1.setRowNew lw2 RB; rw [← hwx] at fA2 fB2 v2 ⊢; clear hwx
      refine hK.out _ _ ?_ (fun hHeld => ?_)
      · exact HLA.out _ fA2 fB2
      clear hK K
      try simp only [Act.put]
      refine tkY 8 hHeld ?_
      refine wpAnyH_done (by kernel_rfl) ?_ _
      refine NoPanic.normal ?_
      go_wp2_with fail
      refine bodyPost_ret (results_two_rows_tmp rfl _ _ gA gB _ RA RB _ rfl fA2 rfl fB2 Tryz.underlying41 AI.out BI.out) rfl ⟨rfl, v2⟩
    exact AllReadyH.nil
  exact AllReadyH.nil
end
end Go.Proofs.YtinpenoeohejoaaGreatDoor

namespace Go.Proofs.YtinpenoeohejoaaGreatDoor
open Go.RowKit
set_option maxRecDepth 100000

theorem rc_range2c : (Array.range (2 * 102)).map ((rcV Rc.zero).toArray[· % (rcV Rc.zero).toArray.size]!) = (rcV Rc.zero ++ rcV Rc.zero).toArray := by kernel_rfl
theorem rc_build2c (x y : Rc) (hx : x.ok) (hy : y.ok) (w : World) : (Instr.buildSlice 33 2 #[(0, .agg (rcV x).toArray), (1, .agg (rcV y).toArray)]).run Tryz.prog w = .ok (.slice (some ⟨w.heap.size, 0, none⟩) 2 2) (w.alloc (.cells (rcV x ++ rcV y).toArray 41)) := by
  obtain ⟨ie, hi, hz, hs, _⟩ := rcI
  refine run_buildSlice w 33 41 2 _ (rcV x ++ rcV y).toArray ie _ Tryz.underlying33 hi hz (by rw [hs]; omega) (by rw [hs]; omega) ?_
  rw [hs]
  show Instr.fill _ ((Array.range (2 * 102)).map ((rcV Rc.zero).toArray[· % (rcV Rc.zero).toArray.size]!)) [(0, Value.agg (rcV x).toArray), (1, Value.agg (rcV y).toArray)] = _
  rw [rc_range2c]
  have h := fill_mid (pl := fun i => some (i * 102, 102)) (i := 0) (off := 0) (n := 102) (v := .agg (rcV x).toArray) (V := rcV x) (A := []) (B := rcV Rc.zero) (C := rcV Rc.zero) (r := [(1, Value.agg (rcV y).toArray)]) rfl rfl (rcV_len hx) rfl (rcV_len Rc.zero_ok)
  rw [List.nil_append, List.nil_append] at h
  rw [h]
  have h := fill_mid (pl := fun i => some (i * 102, 102)) (i := 1) (off := 102) (n := 102) (v := .agg (rcV y).toArray) (V := rcV y) (A := rcV x) (B := rcV Rc.zero) (C := []) (r := []) rfl rfl (rcV_len hy) (rcV_len hx) (rcV_len Rc.zero_ok)
  rw [List.append_nil, List.append_nil] at h
  rw [h]
  rfl
theorem two_new (wq : World) (RA RB : Array Value) : ∃ (wA wB wC wD : World) (gA gB : Nat), wq.heap.size = gA ∧ wq.alloc (.cells Tryz.zeroCells41 41) = wA ∧ wA.heap.size = gB ∧ wA.alloc (.cells Tryz.zeroCells41 41) = wB ∧
    Hid (wB.heap[gA]? = some (.cells Tryz.zeroCells41 41 (0, 0))) ∧ Hid (wB.setRow gA RA = wC) ∧ Hid (wC.heap[gB]? = some (.cells Tryz.zeroCells41 41 (0, 0))) ∧ Hid (wC.setRow gB RB = wD) ∧
    Hid (wD.heap[gA]? = some (.cells RA 41 (0, 0))) ∧ Hid (wD.heap[gB]? = some (.cells RB 41 (0, 0))) ∧ Upd [] [] wq wD := by
  have r1 := heap_alloc_new wq (.cells Tryz.zeroCells41 41)
  have u1 : Upd [] [] wq (wq.alloc (.cells Tryz.zeroCells41 41)) := (Upd.refl _ _).alloc _
  have hs : (wq.alloc (.cells Tryz.zeroCells41 41)).heap.size = wq.heap.size + 1 := by simp
  have r2 := heap_alloc_new (wq.alloc (.cells Tryz.zeroCells41 41)) (.cells Tryz.zeroCells41 41)
  have u2 : Upd [] [] (wq.alloc (.cells Tryz.zeroCells41 41)) ((wq.alloc (.cells Tryz.zeroCells41 41)).alloc (.cells Tryz.zeroCells41 41)) := (Upd.refl _ _).alloc _
  have q1 := row_updH r1 u2
  have a3 : (((wq.alloc (.cells Tryz.zeroCells41 41)).alloc (.cells Tryz.zeroCells41 41)).setRow wq.heap.size RA).heap[wq.heap.size]? = some (.cells RA 41 (0, 0)) := setRow_heap _ _ _ _ _ _ q1
  have ne1 : wq.heap.size ≠ (wq.alloc (.cells Tryz.zeroCells41 41)).heap.size := by rw [hs]; omega
  have b3 := row_setRowO r2 ne1.symm RA
  have b4 : ((((wq.alloc (.cells Tryz.zeroCells41 41)).alloc (.cells Tryz.zeroCells41 41)).setRow wq.heap.size RA).setRow (wq.alloc (.cells Tryz.zeroCells41 41)).heap.size RB).heap[(wq.alloc (.cells Tryz.zeroCells41 41)).heap.size]? = some (.cells RB 41 (0, 0)) := setRow_heap _ _ _ _ _ _ b3
  have a4 := row_setRowO a3 ne1 RB
  exact ⟨_, _, _, _, _, _, rfl, rfl, rfl, rfl, q1, rfl, b3, rfl, a4, b4, ((u1.trans u2).setRowNew (Nat.le_refl _) RA).setRowNew (by rw [hs]; omega) RB⟩
section
variable {M : Array Value} {aw ar as' bw br bs' low high id pub : Int} {aT bT F A B : ByteArray}
set_option maxHeartbeats 4000000 in
theorem formR_any (h : MtIs M aw aT ar as' bw bT br bs' low high F A B id pub) (ra rb : Rc) (hra : ra.ok) (hrb : rb.ok) (da : ra.draw.size ≤ 1000000) (db : rb.draw.size ≤ 1000000) (hA : bs aT = textL ra) (hB : bs bT = textL rb) (RA RB : Array Value) (hRA : RA = (rcV ra).toArray) (hRB : RB = (rcV rb).toArray) (w : World) (htab : Tabs w) : Calls Tryz.prog 84 #[.agg M] w (Mk (.bool true) w) := by
  obtain ⟨AI, AO, AZ⟩ := rcLet hra RA hRA
  obtain ⟨BI, BO, BZ⟩ := rcLet hrb RB hRB
  obtain ⟨g, hg⟩ : ∃ g, w.heap.size = g := ⟨_, rfl⟩
  obtain ⟨w0, hw0⟩ : ∃ W, w.alloc (.cells M 120) = W := ⟨_, rfl⟩
  have r0 := Lib.hid (show w0.heap[g]? = some (.cells M 120 (0, 0)) by rw [← hg, ← hw0]; exact heap_alloc_new _ _)
  have u0 := Lib.hid (show Upd [] [] w w0 by rw [← hw0]; exact (Upd.refl _ _).alloc _)
  have HR := Lib.hid (receipts_any h ra rb hra hrb da db hA hB RA RB hRA hRB w0 (htab.upd u0.out))
  have HI := Lib.hid (mtInfo h.sz)
  have HRAE := Lib.hid hRA
  have HRBE := Lib.hid hRB
  clear h hRA hRB hA hB
  go_enter Tryz.func84, Tryz.ntmps84
  go_wp2_with (first | (refine wpList_load_row rfl 120 _ rfl g rfl _ M _ _ r0.out Tryz.underlying120 rfl HI.out ?_))
  refine HR.out.mono ?_
  rintro e w1 ⟨rfl, hq⟩
  obtain ⟨wA, wB, wC, wD, gA, gB, hgA, hwA, hgB, hwB, ZA, WC, ZB, WD, FA, FB, hu⟩ := two_new w1 RA RB
  have U := Lib.hid ((u0.out.trans hq).trans hu)
  have MD := Lib.hid (row_updH (row_updH r0.out hq) hu)
  clear hq hu HR
  go_wp2_with (first | (refine wpList_store_rowAs rfl 41 _ _ rfl gA RA rfl rfl _ _ ZA.out AI.out AZ.out AO.out wC WC.out ?_) | (refine wpList_store_rowAs rfl 41 _ _ rfl gB RB rfl rfl _ _ ZB.out BI.out BZ.out BO.out wD WD.out ?_))
  go_ret
  exact ⟨rfl, U.out⟩
set_option maxHeartbeats 4000000 in
theorem backdate_any (h : MtIs M aw aT ar as' bw bT br bs' low high F A B id pub) (ra rb : Rc) (hra : ra.ok) (hrb : rb.ok) (da : ra.draw.size ≤ 1000000) (db : rb.draw.size ≤ 1000000) (hA : bs aT = textL ra) (hB : bs bT = textL rb) (RA RB : Array Value) (hRA : RA = (rcV ra).toArray) (hRB : RB = (rcV rb).toArray) (hno : rb.serial > ra.serial → ¬ rb.seen < ra.seen) (w : World) (htab : Tabs w) : Calls Tryz.prog 86 #[.agg M] w (Mk (.bool false) w) := by
  obtain ⟨AI, AO, AZ⟩ := rcLet hra RA hRA
  obtain ⟨BI, BO, BZ⟩ := rcLet hrb RB hRB
  obtain ⟨g, hg⟩ : ∃ g, w.heap.size = g := ⟨_, rfl⟩
  obtain ⟨w0, hw0⟩ : ∃ W, w.alloc (.cells M 120) = W := ⟨_, rfl⟩
  have r0 := Lib.hid (show w0.heap[g]? = some (.cells M 120 (0, 0)) by rw [← hg, ← hw0]; exact heap_alloc_new _ _)
  have u0 := Lib.hid (show Upd [] [] w w0 by rw [← hw0]; exact (Upd.refl _ _).alloc _)
  have HR := Lib.hid (receipts_any h ra rb hra hrb da db hA hB RA RB hRA hRB w0 (htab.upd u0.out))
  have HI := Lib.hid (mtInfo h.sz)
  have HC : Hid (RA[1]? = some (.int .i64 ra.serial) ∧ RA[3]? = some (.int .i64 ra.seen) ∧ RB[1]? = some (.int .i64 rb.serial) ∧ RB[3]? = some (.int .i64 rb.seen)) := by rw [hRA, hRB]; exact ⟨rfl, rfl, rfl, rfl⟩
  have HRAE := Lib.hid hRA
  have HRBE := Lib.hid hRB
  clear h hRA hRB hA hB
  go_enter Tryz.func86, Tryz.ntmps86
  go_wp2_with (first | (refine wpList_load_row rfl 120 _ rfl g rfl _ M _ _ r0.out Tryz.underlying120 rfl HI.out ?_))
  refine HR.out.mono ?_
  rintro e w1 ⟨rfl, hq⟩
  obtain ⟨wA, wB, wC, wD, gA, gB, hgA, hwA, hgB, hwB, ZA, WC, ZB, WD, FA, FB, hu⟩ := two_new w1 RA RB
  have U := Lib.hid ((u0.out.trans hq).trans hu)
  have MD := Lib.hid (row_updH (row_updH r0.out hq) hu)
  have c1 := (cell_of_row _ gA 1 _ _ _ FA.out).trans HC.out.1
  have c2 := (cell_of_row _ gA 3 _ _ _ FA.out).trans HC.out.2.1
  have c3 := (cell_of_row _ gB 1 _ _ _ FB.out).trans HC.out.2.2.1
  have c4 := (cell_of_row _ gB 3 _ _ _ FB.out).trans HC.out.2.2.2
  clear hq hu HR HC
  by_cases hlt : ra.serial < rb.serial
  · have hno' := hno hlt
    go_wp2_with (first | (refine wpList_store_rowAs rfl 41 _ _ rfl gA RA rfl rfl _ _ ZA.out AI.out AZ.out AO.out wC WC.out ?_) | (refine wpList_store_rowAs rfl 41 _ _ rfl gB RB rfl rfl _ _ ZB.out BI.out BZ.out BO.out wD WD.out ?_))
    go_ret
    exact ⟨congrArg (fun b => Ending.returned (.bool b)) (decide_eq_false (by omega)), U.out⟩
  · go_wp2_with (first | (refine wpList_store_rowAs rfl 41 _ _ rfl gA RA rfl rfl _ _ ZA.out AI.out AZ.out AO.out wC WC.out ?_) | (refine wpList_store_rowAs rfl 41 _ _ rfl gB RB rfl rfl _ _ ZB.out BI.out BZ.out BO.out wD WD.out ?_))
    go_ret
    exact ⟨rfl, U.out⟩
set_option maxHeartbeats 4000000 in
theorem cloned_any (h : MtIs M aw aT ar as' bw bT br bs' low high F A B id pub) (ra rb : Rc) (hra : ra.ok) (hrb : rb.ok) (da : ra.draw.size ≤ 1000000) (db : rb.draw.size ≤ 1000000) (hA : bs aT = textL ra) (hB : bs bT = textL rb) (RA RB : Array Value) (hRA : RA = (rcV ra).toArray) (hRB : RB = (rcV rb).toArray) (hno : ra.serial = rb.serial → ra = rb) (w : World) (htab : Tabs w) : Calls Tryz.prog 87 #[.agg M] w (Mk (.bool false) w) := by
  obtain ⟨AI, AO, AZ⟩ := rcLet hra RA hRA
  obtain ⟨BI, BO, BZ⟩ := rcLet hrb RB hRB
  obtain ⟨g, hg⟩ : ∃ g, w.heap.size = g := ⟨_, rfl⟩
  obtain ⟨w0, hw0⟩ : ∃ W, w.alloc (.cells M 120) = W := ⟨_, rfl⟩
  have r0 := Lib.hid (show w0.heap[g]? = some (.cells M 120 (0, 0)) by rw [← hg, ← hw0]; exact heap_alloc_new _ _)
  have u0 := Lib.hid (show Upd [] [] w w0 by rw [← hw0]; exact (Upd.refl _ _).alloc _)
  have HR := Lib.hid (receipts_any h ra rb hra hrb da db hA hB RA RB hRA hRB w0 (htab.upd u0.out))
  have HI := Lib.hid (mtInfo h.sz)
  have HC : Hid (RA[1]? = some (.int .i64 ra.serial) ∧ RB[1]? = some (.int .i64 rb.serial)) := by rw [hRA, hRB]; exact ⟨rfl, rfl⟩
  have HLA : Hid (∀ (g : Nat) (W : World), W.heap[g]? = some (.cells RA 41 (0, 0)) → (Instr.loadAt 41 (.pointer (some ⟨g, 0, none⟩))).run Tryz.prog W = .ok (.agg RA) W) := fun g W q => rc_load hra hRA q
  have HEQ : Hid (∀ W : World, (Op.equalIn 10000 41 (.agg RA) (.agg RA)).run Tryz.prog W = .ok true W) := by
    intro W
    rw [hRA, show (10000 : Nat) = 9997 + 3 from rfl, eqRc_run 9997 _ _ hra hra W, eqRc_self]
  have HRAE := Lib.hid hRA
  have HRBE := Lib.hid hRB
  clear h hRA hRB hA hB
  go_enter Tryz.func87, Tryz.ntmps87
  go_wp2_with (first | (refine wpList_load_row rfl 120 _ rfl g rfl _ M _ _ r0.out Tryz.underlying120 rfl HI.out ?_))
  refine HR.out.mono ?_
  rintro e w1 ⟨rfl, hq⟩
  obtain ⟨wA, wB, wC, wD, gA, gB, hgA, hwA, hgB, hwB, ZA, WC, ZB, WD, FA, FB, hu⟩ := two_new w1 RA RB
  have U := Lib.hid ((u0.out.trans hq).trans hu)
  have MD := Lib.hid (row_updH (row_updH r0.out hq) hu)
  have c1 := (cell_of_row _ gA 1 _ _ _ FA.out).trans HC.out.1
  have c3 := (cell_of_row _ gB 1 _ _ _ FB.out).trans HC.out.2
  by_cases hlt : ra.serial = rb.serial
  · have hre : RB = RA := by rw [HRAE.out, HRBE.out, hno hlt]
    subst hre
    have L1 := Lib.hid (HLA.out gA wD FA.out)
    have L2 := Lib.hid (HLA.out gB wD FB.out)
    have heq := HEQ.out
    clear hq hu HR HC hno HLA HEQ
    have hb : (ra.serial == rb.serial) = true := by rw [beq_iff_eq]; exact hlt
    go_wp2_with (first | (refine wpList_store_rowAs rfl 41 _ _ rfl gA RB rfl rfl _ _ ZA.out AI.out AZ.out AO.out wC WC.out ?_) | (refine wpList_store_rowAs rfl 41 _ _ rfl gB RB rfl rfl _ _ ZB.out BI.out BZ.out BO.out wD WD.out ?_) | (refine wpList_load_want (by rfl) 41 _ rfl gA rfl RB L1.out ?_) | (refine wpList_load_want (by rfl) 41 _ rfl gB rfl RB L2.out ?_))
    go_ret
    exact ⟨rfl, U.out⟩
  · have hb : (ra.serial == rb.serial) = false := by rw [beq_eq_false_iff_ne]; exact hlt
    clear hq hu HR HC hno HLA HEQ
    go_wp2_with (first | (refine wpList_store_rowAs rfl 41 _ _ rfl gA RA rfl rfl _ _ ZA.out AI.out AZ.out AO.out wC WC.out ?_) | (refine wpList_store_rowAs rfl 41 _ _ rfl gB RB rfl rfl _ _ ZB.out BI.out BZ.out BO.out wD WD.out ?_))
    go_ret
    exact ⟨rfl, U.out⟩
end
end Go.Proofs.YtinpenoeohejoaaGreatDoor

namespace Go.Proofs.YtinpenoeohejoaaGreatDoor
open Go.RowKit
set_option maxRecDepth 100000

theorem two_load {ra rb : Rc} (ha : ra.ok) (hb : rb.ok) {C RA RB : Array Value} (hC : C = (rcV ra ++ rcV rb).toArray) (hRA : RA = (rcV ra).toArray) (hRB : RB = (rcV rb).toArray) {g : Nat} {W : World} (h : W.heap[g]? = some (.cells C 41 (0, 0))) :
    (Instr.loadAt 41 (.pointer (some ⟨g, 0, none⟩))).run Tryz.prog W = .ok (.agg RA) W ∧ (Instr.loadAt 41 (.pointer (some ⟨g, 102, none⟩))).run Tryz.prog W = .ok (.agg RB) W := by
  subst hC hRA hRB
  refine ⟨run_loadAt_mid W g 0 41 _ _ (fun j v hv => ?_) Tryz.underlying41 rfl (rcInfo ha), run_loadAt_mid W g 102 41 _ _ (fun j v hv => ?_) Tryz.underlying41 rfl (rcInfo hb)⟩
  · refine (cell_of_row _ g _ _ _ _ h).trans ?_
    rw [List.getElem?_toArray, Nat.zero_add, List.getElem?_append_left (List.getElem?_eq_some_iff.1 hv).1]
    exact hv
  · refine (cell_of_row _ g _ _ _ _ h).trans ?_
    rw [List.getElem?_toArray, List.getElem?_append_right (by rw [rcV_len ha]; omega), rcV_len ha, show 102 + j - 102 = j by omega]
    exact hv
section
variable {M : Array Value} {aw ar as' bw br bs' low high id pub : Int} {aT bT F A B : ByteArray}
set_option maxHeartbeats 8000000 in
theorem sigR_any (h : MtIs M aw aT ar as' bw bT br bs' low high F A B id pub) (ra rb : Rc) (hra : ra.ok) (hrb : rb.ok) (da : ra.draw.size ≤ 1000000) (db : rb.draw.size ≤ 1000000) (hA : bs aT = textL ra) (hB : bs bT = textL rb) (RA RB : Array Value) (hRA : RA = (rcV ra).toArray) (hRB : RB = (rcV rb).toArray)
    (hp : i64in pub) (ka : ra.kiosk = id) (kb : rb.kiosk = id) (va : verB pub (bodyL ra) ra.r ra.s = true) (vb : verB pub (bodyL rb) rb.r rb.s = true) (w : World) (htab : Tabs w) : Calls Tryz.prog 85 #[.agg M] w (Mk (.bool true) w) := by
  obtain ⟨AI, AO, AZ⟩ := rcLet hra RA hRA
  obtain ⟨BI, BO, BZ⟩ := rcLet hrb RB hRB
  obtain ⟨g, hg⟩ : ∃ g, w.heap.size = g := ⟨_, rfl⟩
  obtain ⟨w0, hw0⟩ : ∃ W, w.alloc (.cells M 120) = W := ⟨_, rfl⟩
  have r0 := Lib.hid (show w0.heap[g]? = some (.cells M 120 (0, 0)) by rw [← hg, ← hw0]; exact heap_alloc_new _ _)
  have u0 := Lib.hid (show Upd [] [] w w0 by rw [← hw0]; exact (Upd.refl _ _).alloc _)
  have HR := Lib.hid (receipts_any h ra rb hra hrb da db hA hB RA RB hRA hRB w0 (htab.upd u0.out))
  have HI := Lib.hid (mtInfo h.sz)
  have HMC := Lib.hid (And.intro h.i h.p)
  obtain ⟨C, hC⟩ : ∃ C, C = (rcV ra ++ rcV rb).toArray := ⟨_, rfl⟩
  have HBB : Hid (∀ W : World, (Instr.buildSlice 33 2 #[(0, .agg RA), (1, .agg RB)]).run Tryz.prog W = .ok (.slice (some ⟨W.heap.size, 0, none⟩) 2 2) (W.alloc (.cells C 41))) := by
    intro W
    rw [hRA, hRB, hC]
    exact rc_build2c ra rb hra hrb W
  have HTL : Hid (∀ (g : Nat) (W : World), W.heap[g]? = some (.cells C 41 (0, 0)) → (Instr.loadAt 41 (.pointer (some ⟨g, 0, none⟩))).run Tryz.prog W = .ok (.agg RA) W ∧ (Instr.loadAt 41 (.pointer (some ⟨g, 102, none⟩))).run Tryz.prog W = .ok (.agg RB) W) := fun g W q => two_load hra hrb hC hRA hRB q
  have HVA : Hid (∀ W, Upd [] [] w W → Calls Tryz.prog 131 #[.int .i64 pub, .agg RA] W (Mk (.bool true) W)) := by
    intro W u
    rw [hRA]
    exact verify22_is pub ra true hp hra (by omega) va W (htab.upd u)
  have HVB : Hid (∀ W, Upd [] [] w W → Calls Tryz.prog 131 #[.int .i64 pub, .agg RB] W (Mk (.bool true) W)) := by
    intro W u
    rw [hRB]
    exact verify22_is pub rb true hp hrb (by omega) vb W (htab.upd u)
  have HKA : Hid (RA[0]? = some (.int .i64 id)) := by rw [hRA, ← ka]; rfl
  have HKB : Hid (RB[0]? = some (.int .i64 id)) := by rw [hRB, ← kb]; rfl
  clear h hRA hRB hA hB hC ka kb va vb hp
  go_enter Tryz.func85, Tryz.ntmps85
  go_wp2_with (first | (refine wpList_load_row rfl 120 _ rfl g rfl _ M _ _ r0.out Tryz.underlying120 rfl HI.out ?_))
  refine HR.out.mono ?_
  rintro e w1 ⟨rfl, hq⟩
  obtain ⟨wA, wB, wC, wD, gA, gB, hgA, hwA, hgB, hwB, ZA, WC, ZB, WD, FA, FB, hu⟩ := two_new w1 RA RB
  have U := Lib.hid ((u0.out.trans hq).trans hu)
  have MD := Lib.hid (row_updH (row_updH r0.out hq) hu)
  obtain ⟨gL, hgL⟩ : ∃ g, wD.heap.size = g := ⟨_, rfl⟩
  obtain ⟨wE, hwE⟩ : ∃ W, wD.alloc (.cells C 41) = W := ⟨_, rfl⟩
  have LE := Lib.hid (show wE.heap[gL]? = some (.cells C 41 (0, 0)) by rw [← hgL, ← hwE]; exact heap_alloc_new _ _)
  have uE : Upd [] [] wD wE := by rw [← hwE]; exact (Upd.refl _ _).alloc _
  have ME := Lib.hid (row_updH MD.out uE)
  have UE := Lib.hid (U.out.trans uE)
  have HBD := HBB.out wD
  rw [hgL, hwE] at HBD
  have HBDH := Lib.hid HBD
  clear HBD hq hu HR r0 u0 uE U MD HBB
  go_wp2_with (first | (refine wpList_store_rowAs rfl 41 _ _ rfl gA RA rfl rfl _ _ ZA.out AI.out AZ.out AO.out wC WC.out ?_) | (refine wpList_store_rowAs rfl 41 _ _ rfl gB RB rfl rfl _ _ ZB.out BI.out BZ.out BO.out wD WD.out ?_) | (refine wpList_load_row rfl 41 _ rfl gA rfl _ RA _ _ FA.out Tryz.underlying41 rfl AI.out ?_) | (refine wpList_load_row rfl 41 _ rfl gB rfl _ RB _ _ FB.out Tryz.underlying41 rfl BI.out ?_) | (refine wpList_buildRun rfl 33 2 _ rfl _ _ (Eq.trans (congrArg (fun z => (Instr.buildSlice 33 2 z).run Tryz.prog wD) (by kernel_rfl)) HBDH.out) ?_))
  clear ZA WC ZB WD FA FB HBDH hwA hwB hgA hgB
  refine wp_loop_rounds 3 ?_
  rw [rounds_succ]
  have HL0 := Lib.hid ((HTL.out gL wE LE.out).1)
  obtain ⟨v0, Z0, X0, R0, hq⟩ := blk_new wE 41 Tryz.zeroCells41 RA
  obtain ⟨h0, hh0⟩ : ∃ g, wE.heap.size = g := ⟨_, rfl⟩
  rw [hh0] at Z0 X0 R0
  have M0a := Lib.hid (row_updH ME.out hq)
  have L0a := Lib.hid (row_updH LE.out hq)
  have U0a := Lib.hid (UE.out.trans hq)
  have cp0 := (cell_of_row _ g 28 _ _ _ M0a.out).trans HMC.out.2
  clear hq ME LE UE
  go_wp2_with (first | (refine wpList_load_atW (by rfl) 41 _ rfl gL 0 rfl RA HL0.out ?_) | (refine wpList_store_rowAs rfl 41 _ _ rfl h0 RA rfl rfl _ _ Z0.out AI.out AZ.out AO.out v0 X0.out ?_) | (refine wpList_load_row rfl 41 _ rfl h0 rfl _ RA _ _ R0.out Tryz.underlying41 rfl AI.out ?_))
  refine (HVA.out v0 U0a.out).mono ?_
  rintro e x0 ⟨rfl, hq⟩
  have M0b := Lib.hid (row_updH M0a.out hq)
  have L0b := Lib.hid (row_updH L0a.out hq)
  have U0b := Lib.hid (U0a.out.trans hq)
  have ci0 := (cell_of_row _ g 26 _ _ _ M0b.out).trans HMC.out.1
  have ck0 := (cell_of_row _ h0 0 _ _ _ (row_updH R0.out hq)).trans HKA.out
  clear hq M0a L0a U0a Z0 X0 R0 HL0 cp0
  go_wp2_with fail
  clear ci0 ck0
  rw [rounds_succ]
  have HL1 := Lib.hid ((HTL.out gL x0 L0b.out).2)
  obtain ⟨v1, Z1, X1, R1, hq⟩ := blk_new x0 41 Tryz.zeroCells41 RB
  obtain ⟨h1, hh1⟩ : ∃ g, x0.heap.size = g := ⟨_, rfl⟩
  rw [hh1] at Z1 X1 R1
  have M1a := Lib.hid (row_updH M0b.out hq)
  have L1a := Lib.hid (row_updH L0b.out hq)
  have U1a := Lib.hid (U0b.out.trans hq)
  have cp1 := (cell_of_row _ g 28 _ _ _ M1a.out).trans HMC.out.2
  clear hq M0b L0b U0b
  go_wp2_with (first | (refine wpList_load_atW (by rfl) 41 _ rfl gL 102 rfl RB HL1.out ?_) | (refine wpList_store_rowAs rfl 41 _ _ rfl h1 RB rfl rfl _ _ Z1.out BI.out BZ.out BO.out v1 X1.out ?_) | (refine wpList_load_row rfl 41 _ rfl h1 rfl _ RB _ _ R1.out Tryz.underlying41 rfl BI.out ?_))
  refine (HVB.out v1 U1a.out).mono ?_
  rintro e x1 ⟨rfl, hq⟩
  have M1b := Lib.hid (row_updH M1a.out hq)
  have L1b := Lib.hid (row_updH L1a.out hq)
  have U1b := Lib.hid (U1a.out.trans hq)
  have ci1 := (cell_of_row _ g 26 _ _ _ M1b.out).trans HMC.out.1
  have ck1 := (cell_of_row _ h1 0 _ _ _ (row_updH R1.out hq)).trans HKB.out
  clear hq M1a L1a U1a Z1 X1 R1 HL1 cp1
  go_wp2_with fail
  clear ci1 ck1
  rw [rounds_succ]
  go_wp2_with fail
  go_ret
  exact ⟨rfl, U1b.out⟩
end
end Go.Proofs.YtinpenoeohejoaaGreatDoor
