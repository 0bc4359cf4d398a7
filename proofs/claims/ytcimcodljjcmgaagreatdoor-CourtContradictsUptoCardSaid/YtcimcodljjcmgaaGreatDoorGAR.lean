/- day.Sign, the law's vote and three; court.event. sorteslaw33.vote and three; court.event, ballot, Contradict at the texts of court's example. sorteslaw33.three; court.event, ballot, Contradict at the texts of court's example. court.event, ballot, Contradict at the texts of court's example. court.event at any text. What sortesref30.Decode reads, plainly: nine words and a rest; an event built out of its parts. -/
import Derived.Test.YtcimcodljjcmgaaGreatDoorGAP
import Derived.Test.YtcimcodljjcmgaaGreatDoorGAE
import Derived.Test.YtcimcodljjcmgaaGreatDoorGAA
import Derived.Test.YtcimcodljjcmgaaGreatDoorGAQ
import Derived.Test.YtcimcodljjcmgaaGreatDoorGAM
import Derived.Test.YtcimcodljjcmgaaGreatDoorGAJ
namespace Go.Proofs.YtcimcodljjcmgaaGreatDoor
open Go.RowKit
set_option maxRecDepth 100000

theorem sigInfo (a b : Int) : (Tryz.prog.info? 31).map (·.size) = some (#[.int .i64 a, .int .i64 b] : Array Value).size := by
  show _ = some 2
  kernel_rfl
theorem sigOne (a b : Int) : (#[.int .i64 a, .int .i64 b] : Array Value).all (·.oneCell') = true := by simp [Value.oneCell']
def MkEv (c : UInt8) (x : Nat) (w : World) (e : Ending) (w' : World) : Prop :=
  ∃ a b : Nat, Hid (a = gP (nonceN x (tOf c))) ∧ Hid (b = sWith x (nonceN x (tOf c)) (tOf c)) ∧ a < 2305843009213691579 ∧ b < 1152921504606845789 ∧ e = .returned (.agg (evV c a b).toArray) ∧ Upd [] [] w w'
set_option maxHeartbeats 4000000 in
theorem dSign_any (c : UInt8) (x : Nat) (hx : x < 1152921504606845789) (w : World) (htab : Tabs w) : Calls Tryz.prog 13 #[.int .i64 (x : Int), .agg (evV c 0 0).toArray] w (MkEv c x w) := by
  obtain ⟨EV, hEV⟩ : ∃ EV, EV = (evV c 0 0).toArray := ⟨_, rfl⟩
  have HEV := Lib.hid hEV
  have HEVI : Hid ((Tryz.prog.info? 33).map (·.size) = some EV.size) := by rw [hEV]; exact evInfo c 0 0
  obtain ⟨g, hg⟩ : ∃ g, w.heap.size = g := ⟨_, rfl⟩
  obtain ⟨w0, hw0⟩ : ∃ w0, w.alloc (.cells EV 33) = w0 := ⟨_, rfl⟩
  have r0 : w0.heap[g]? = some (.cells EV 33 (0, 0)) := by rw [← hg, ← hw0]; exact heap_alloc_new _ _
  have u0 : Upd [] [] w w0 := by rw [← hw0]; exact (Upd.refl _ _).alloc _
  obtain ⟨gR, hgR⟩ : ∃ g, w0.heap.size = g := ⟨_, rfl⟩
  obtain ⟨w1, hw1⟩ : ∃ W, w0.alloc (.cells #[.int .i64 0, .int .i64 0, .int .i64 0, .int .i64 0, .int .i64 0, .string ⟨#[]⟩, .int .u8 0, .int .u8 0, .int .u8 0, .int .u8 0, .int .u8 0, .int .u8 0, .int .u8 0, .int .u8 0, .int .u8 0, .int .u8 0, .int .u8 0, .int .u8 0, .int .u8 0, .int .u8 0, .int .u8 0, .int .u8 0, .int .u8 0, .int .u8 0, .int .u8 0, .int .u8 0, .int .u8 0, .int .u8 0, .int .u8 0, .int .u8 0, .int .u8 0, .int .u8 0, .int .u8 0, .int .u8 0, .int .u8 0, .int .u8 0, .int .u8 0, .int .u8 0, .int .i64 0, .int .i64 0] 33) = W := ⟨_, rfl⟩
  have r1 : w1.heap[gR]? = some (.cells evZ.toArray 33 (0, 0)) := by rw [← hgR, ← hw1, zero_ev]; exact heap_alloc_new _ _
  have u1 : Upd [] [] w0 w1 := by rw [← hw1]; exact (Upd.refl _ _).alloc _
  have hne : g < gR := by rw [← hgR]; exact blk_lt r0
  have R0 := Lib.hid (row_updH r0 u1)
  have R1 := Lib.hid r1
  have U1 := Lib.hid (u0.trans u1)
  have HG := Lib.hid hg
  rw [← hEV]
  clear hEV r0 u0 r1 u1
  go_enter Tryz.func13, Tryz.ntmps13
  go_wp2_with (first | (refine wpList_load_row rfl 33 _ rfl g rfl _ EV _ _ R0.out Tryz.underlying33 rfl HEVI.out ?_))
  rw [HEV.out]
  refine (dText_any c 0 0 w1 (htab.upd U1.out)).mono ?_
  rintro e w2 ⟨T, HT, _, rfl, hq⟩
  have R2 := Lib.hid (row_updH R0.out hq)
  have Q2 := Lib.hid (row_updH R1.out hq)
  have U2 := Lib.hid (U1.out.trans hq)
  have hts : T.size ≤ 140737488355000 := by rw [← bs_length, HT.out, tOf_len]; omega
  clear hq R0 R1 U1
  rw [← HEV.out]
  go_wp2_with fail
  refine (sign_any (x : Int) T w2 ⟨by omega, by omega⟩ hts (htab.upd U2.out)).mono ?_
  rintro e w3 ⟨a, b, HA, HB, ha, hb, rfl, hq⟩
  rw [HT.out, show expN (x : Int) = x from expN_of hx] at HA HB
  have R3 := Lib.hid (row_updH R2.out hq)
  have Q3 := Lib.hid (row_updH Q2.out hq)
  have U3 := Lib.hid (U2.out.trans hq)
  obtain ⟨SG, hSG⟩ : ∃ SG : Array Value, SG = #[.int .i64 (a : Int), .int .i64 (b : Int)] := ⟨_, rfl⟩
  rw [← hSG]
  have HSI : Hid ((Tryz.prog.info? 31).map (·.size) = some SG.size) := by rw [hSG]; exact sigInfo _ _
  have HSO : Hid (SG.all (·.oneCell') = true) := by rw [hSG]; exact sigOne _ _
  have TH : Hid (w3.there g 38 SG.size) := there_of_row R3.out (by rw [HEV.out, hSG, show (evV c 0 0).toArray.size = 40 from evV_len c 0 0]; exact (by decide : 38 + 2 ≤ 40))
  obtain ⟨w4, hw4⟩ : ∃ X, w3.setCells g 38 SG.toList = X := ⟨_, rfl⟩
  have E4 := heap_setCells g _ SG.toList 38 w3 _ R3.out
  rw [hw4] at E4
  obtain ⟨EW, hEW⟩ : ∃ EW, EW = (evV c a b).toArray := ⟨_, rfl⟩
  have hfin : setAll EV 38 SG.toList = EW := by rw [HEV.out, hSG, hEW]; rfl
  rw [hfin] at E4
  have HEWI : Hid ((Tryz.prog.info? 33).map (·.size) = some EW.size) := by rw [hEW]; exact evInfo c _ _
  have HEWO : Hid (EW.all (·.oneCell') = true) := by rw [hEW]; exact evOne c _ _
  have HEWZ : Hid (evZ.toArray.size = EW.size) := by show _ = _; rw [hEW, evZ_len]; exact (evV_len c _ _).symm
  have hgw : w.heap.size ≤ g := Nat.le_of_eq HG.out
  have UX := Upd.setCellsNew hgw SG.toList 38 _ U3.out
  rw [hw4] at UX
  have uS : Upd [g] [g] w3 w4 := by
    have h := (Upd.setCellsIn (g := g) (S := [g]) (S' := [g]) (by simp) SG.toList 38 _ (Upd.refl [g] w3))
    rw [hw4] at h
    exact h
  have Q4 : Hid (w4.heap[gR]? = some (.cells evZ.toArray 33 (0, 0))) := (uS.block gR (blk_lt Q3.out) (by simp; omega)).trans Q3.out
  obtain ⟨w5, hw5⟩ : ∃ X, w4.setRow gR EW = X := ⟨_, rfl⟩
  have R5 : (w4.setRow gR EW).heap[gR]? = some (.cells EW 33 (0, 0)) := setRow_heap _ _ _ _ _ _ Q4.out
  rw [hw5] at R5
  have U5 := UX.setRowNew (show w.heap.size ≤ gR by omega) EW
  rw [hw5] at U5
  have HW4 := Lib.hid hw4
  have HW5 := Lib.hid hw5
  have E4H := Lib.hid E4
  have HR5 := Lib.hid R5
  have HU5 := Lib.hid U5
  have HEWE := Lib.hid hEW
  clear hq R2 Q2 U2 R3 Q3 hSG hw4 E4 hEW hfin UX uS hw5 R5 U5 hts
  go_wp2_with (first | (refine wpList_store_midAs rfl 31 _ _ rfl g 38 SG rfl rfl TH.out HSI.out HSO.out w4 HW4.out ?_) | (refine wpList_load_row rfl 33 _ rfl g rfl _ EW _ _ E4H.out Tryz.underlying33 rfl HEWI.out ?_) | (refine wpList_store_rowAs rfl 33 _ _ rfl gR EW rfl rfl _ _ Q4.out HEWI.out HEWZ.out HEWO.out w5 HW5.out ?_))
  refine bodyPost_ret (results_cell_row rfl _ _ gR _ EW _ _ rfl HR5.out Tryz.underlying33 rfl HEWI.out) rfl ⟨a, b, HA, HB, ha, hb, ?_, HU5.out⟩
  rw [HEWE.out]
end Go.Proofs.YtcimcodljjcmgaaGreatDoor

namespace Go.Proofs.YtcimcodljjcmgaaGreatDoor
open Go.RowKit
set_option maxRecDepth 100000

def voteV (T : ByteArray) (r s : Int) : Array Value := #[.int .i64 3, .string T, .int .i64 r, .int .i64 s]
theorem voteInfo (T : ByteArray) (r s : Int) : (Tryz.prog.info? 52).map (·.size) = some (voteV T r s).size := by
  show _ = some 4
  kernel_rfl
theorem voteOne (T : ByteArray) (r s : Int) : (voteV T r s).all (·.oneCell') = true := by simp [voteV, Value.oneCell']
def MkVote (c : UInt8) (r s : Int) (w : World) (e : Ending) (w' : World) : Prop := ∃ T : ByteArray, Hid (bs T = tOf c) ∧ e = .returned (.agg (voteV T r s)) ∧ Upd [] [] w w'
set_option maxHeartbeats 4000000 in
theorem vote33_any (c : UInt8) (r s : Int) (w : World) (htab : Tabs w) : Calls Tryz.prog 14 #[.agg (evV c r s).toArray] w (MkVote c r s w) := by
  obtain ⟨EV, hEV⟩ : ∃ EV, EV = (evV c r s).toArray := ⟨_, rfl⟩
  have HEV := Lib.hid hEV
  obtain ⟨g, hg⟩ : ∃ g, w.heap.size = g := ⟨_, rfl⟩
  obtain ⟨w0, hw0⟩ : ∃ w0, w.alloc (.cells EV 33) = w0 := ⟨_, rfl⟩
  have r0 : EvA w0 g c r s := by rw [← hg, ← hw0, hEV]; exact heap_alloc_new _ _
  have u0 : Upd [] [] w w0 := by rw [← hw0]; exact (Upd.refl _ _).alloc _
  obtain ⟨gR, hgR⟩ : ∃ g, w0.heap.size = g := ⟨_, rfl⟩
  obtain ⟨w1, hw1⟩ : ∃ W, w0.alloc (.cells #[.int .i64 0, .string ⟨#[]⟩, .int .i64 0, .int .i64 0] 52) = W := ⟨_, rfl⟩
  have r1 : w1.heap[gR]? = some (.cells #[.int .i64 0, .string ⟨#[]⟩, .int .i64 0, .int .i64 0] 52 (0, 0)) := by rw [← hgR, ← hw1]; exact heap_alloc_new _ _
  have u1 : Upd [] [] w0 w1 := by rw [← hw1]; exact (Upd.refl _ _).alloc _
  have HU := Lib.hid (u0.trans u1)
  have e0 := r0.upd u1
  have HK : Hid (∀ W, EvA W g c r s → W.cell? ⟨g, 2, none⟩ = some (.int .i64 3) ∧ (Instr.loadAt 33 (.pointer (some ⟨g, 0, none⟩))).run Tryz.prog W = .ok (.agg EV) W ∧ (Instr.loadAt 31 (.pointer (some ⟨g, 38, none⟩))).run Tryz.prog W = .ok (.agg #[.int .i64 r, .int .i64 s]) W) := by
    intro W e
    refine ⟨e.cell 2, evV_load hEV e, ?_⟩
    refine run_loadAt_mid W g 38 31 [.int .i64 r, .int .i64 s] _ (fun j v hv => ?_) Tryz.underlying31 rfl (sigInfo r s)
    match j, hv with
    | 0, hv => simp at hv; subst hv; exact (e.cell 38).trans (ev_at38 _ _ _)
    | 1, hv => simp at hv; subst hv; exact (e.cell 39).trans (ev_at39 _ _ _)
  have R1 := Lib.hid r1
  have E1 := Lib.hid e0
  have hne : g ≠ gR := by have := blk_lt r0; omega
  have HG : Hid (w.heap.size ≤ gR) := by have := blk_lt r0; show _ ≤ _; omega
  have ud0 : Upd [] [] w1 w1.drew := (Upd.refl _ _).drew
  rw [← hEV]
  clear hEV r0 u0 r1 u1 e0
  go_enter Tryz.func14, Tryz.ntmps14
  go_upto_region 1 with (fail)
  refine wp_region_noPanic ?_
  refine wp_region_held_drew (S := fun wp => wp.cell? ⟨g, 2, none⟩ = some (.int .i64 3) ∧ (Instr.loadAt 33 (.pointer (some ⟨g, 0, none⟩))).run Tryz.prog wp = .ok (.agg EV) wp ∧ (Instr.loadAt 31 (.pointer (some ⟨g, 38, none⟩))).run Tryz.prog wp = .ok (.agg #[.int .i64 r, .int .i64 s]) wp) (by kernel_rfl) ?_ (fun hHeld => ?_)
  · exact HK.out _ (E1.out.upd ud0)
  refine tkY 0 hHeld ?_
  refine tkY 1 hHeld ?_
  refine tkL 2 hHeld EV (fun w hSw => hSw.2.1) ?_
  refine tkY 4 hHeld ?_
  refine wpAnyH_take (i := 5) (v := .agg (#[.int .i64 r, .int .i64 s] : Array Value)) (by simp only [List.getElem?_toArray, List.getElem?_cons_succ, List.getElem?_cons_zero] <;> rfl) (by kernel_rfl) (by kernel_rfl) (by kernel_rfl) (fun _ _ _ h => h) (yieldsIf_loadW (by rfl) _ _ rfl _ rfl (#[.int .i64 r, .int .i64 s] : Array Value) (fun w hSw => hSw.2.2)) hHeld ?_
  try simp only [Act.put, List.setIfInBounds_toArray, List.set_cons_zero, List.set_cons_succ]
  refine wpAnyH_ready (rs := [3]) (by kernel_rfl) (by simp) ?_
  refine AllReadyH.cons (by simp only [List.getElem?_toArray, List.getElem?_cons_succ, List.getElem?_cons_zero] <;> rfl) (fun K hK => ?_) ?_
  · go_simp; rw [HEV.out]; refine (dText_any c r s _ (htab.upd (HU.out.trans ud0))).mono ?_; rintro e wv1 ⟨T, HT, _, rfl, hq⟩; have ud1 := ud0.trans hq; clear hq; have hvi := Lib.hid (voteInfo T r s); go_wp2_with fail
    refine hK.out _ _ ?_ (fun hHeld => ?_)
    · exact HK.out _ (E1.out.upd ud1)
    clear hK K
    try simp only [Act.put, List.setIfInBounds_toArray, List.set_cons_zero, List.set_cons_succ]
    refine tkY 6 hHeld ?_
    refine wpAnyH_ready (rs := [7]) (by kernel_rfl) (by simp) ?_
    refine AllReadyH.cons (by simp only [List.getElem?_toArray, List.getElem?_cons_succ, List.getElem?_cons_zero] <;> rfl) (fun K hK => ?_) ?_
    · rw [if_pos (by rfl)]; refine wp_store_row 52 _ _ rfl gR (voteV T r s) rfl rfl _ _ (row_updH R1.out ud1) hvi.out rfl (voteOne T r s) ?_; obtain ⟨wv2, hwx⟩ : ∃ W' : World, W' = wv1.setRow gR (voteV T r s) := ⟨_, rfl⟩; have z2 : Hid (wv2.heap[gR]? = some (.cells (voteV T r s) 52 (0, 0))) := (by show _ = _; rw [hwx]; exact setRow_heap _ _ _ _ _ _ (row_updH R1.out ud1)); have uw2 := (HU.out.trans ud1).setRowNew HG.out (voteV T r s); have e2 : EvA wv2 g c r s := (by rw [hwx]; exact row_setRowO (E1.out.upd ud1) hne _); rw [← hwx] at uw2 ⊢
      refine hK.out _ _ ?_ (fun hHeld => ?_)
      · exact HK.out _ e2
      clear hK K
      try simp only [Act.put]
      refine wpAnyH_done (by kernel_rfl) ?_ _
      refine NoPanic.normal ?_
      go_wp2_with fail
      refine bodyPost_ret (results_cell_row rfl _ _ gR _ (voteV T r s) _ _ rfl z2.out Tryz.underlying52 rfl hvi.out) rfl ⟨T, HT, rfl, uw2⟩
    exact AllReadyH.nil
  exact AllReadyH.nil
end Go.Proofs.YtcimcodljjcmgaaGreatDoor

namespace Go.Proofs.YtcimcodljjcmgaaGreatDoor
open Go.RowKit
set_option maxRecDepth 100000

def supV (g : Nat) : Array Value := #[.slice (some ⟨g, 0, none⟩) 1 1, .slice none 0 0, .slice none 0 0, .slice none 0 0, .int .i64 0, .int .i64 0]
theorem supInfo (g : Nat) : (Tryz.prog.info? 47).map (·.size) = some (supV g).size := by
  show _ = some 6
  kernel_rfl
def MkThree (w : World) (e : Ending) (w' : World) : Prop :=
  ∃ (x p gM : Nat), Hid (x = keyN three) ∧ Hid (p = gP x) ∧ x < 1152921504606845789 ∧ p < 2305843009213691579 ∧ e = .returned (.tuple #[.agg (supV gM), .int .i64 (x : Int)]) ∧ Hid (w'.heap[gM]? = some (.cells #[.int .i64 3, .int .i64 1, .int .i64 (p : Int)] 84 (0, 0))) ∧ Upd [] [] w w'
set_option maxHeartbeats 2000000 in
theorem three_any (w : World) (htab : Tabs w) : Calls Tryz.prog 12 #[] w (MkThree w) := by
  obtain ⟨g, hg⟩ : ∃ g, w.heap.size = g := ⟨_, rfl⟩
  obtain ⟨w0, hw0⟩ : ∃ W, w.alloc (.cells #[.slice none 0 0, .slice none 0 0, .slice none 0 0, .slice none 0 0, .int .i64 0, .int .i64 0] 47) = W := ⟨_, rfl⟩
  have r0 := Lib.hid (show w0.heap[g]? = some (.cells #[.slice none 0 0, .slice none 0 0, .slice none 0 0, .slice none 0 0, .int .i64 0, .int .i64 0] 47 (0, 0)) by rw [← hg, ← hw0]; exact heap_alloc_new _ _)
  have u0 : Upd [] [] w w0 := by rw [← hw0]; exact (Upd.refl _ _).alloc _
  have HU0 := Lib.hid u0
  have HG := Lib.hid hg
  clear u0
  go_enter Tryz.func12, Tryz.ntmps12
  go_wp2_with fail
  refine (key_any ⟨#[116, 104, 114, 101, 101]⟩ w0 (by decide) (htab.upd HU0.out)).mono ?_
  rintro e w1 ⟨x, p, HX, HP, hx, hp, rfl, hq⟩
  rw [show bs ⟨#[116, 104, 114, 101, 101]⟩ = three from rfl] at HX HP
  have HPX : Hid (p = gP x) := by show _ = _; rw [HP.out, HX.out]
  have r1 := Lib.hid (row_updH r0.out hq)
  have U1 := Lib.hid (HU0.out.trans hq)
  obtain ⟨gM, hgM⟩ : ∃ g, w1.heap.size = g := ⟨_, rfl⟩
  obtain ⟨w2, hw2⟩ : ∃ W, w1.alloc (.cells #[.int .i64 3, .int .i64 1, .int .i64 (p : Int)] 84) = W := ⟨_, rfl⟩
  have rM : w2.heap[gM]? = some (.cells #[.int .i64 3, .int .i64 1, .int .i64 (p : Int)] 84 (0, 0)) := by rw [← hgM, ← hw2]; exact heap_alloc_new _ _
  have u2 : Upd [] [] w1 w2 := by rw [← hw2]; exact (Upd.refl _ _).alloc _
  have r2 := Lib.hid (row_updH r1.out u2)
  have hlt : g < gM := by rw [← hgM]; exact blk_lt r1.out
  obtain ⟨w3, hw3⟩ : ∃ W, w2.setRow g (supV gM) = W := ⟨_, rfl⟩
  have r3 : (w2.setRow g (supV gM)).heap[g]? = some (.cells (supV gM) 47 (0, 0)) := setRow_heap _ _ _ _ _ _ r2.out
  have rM3 : (w2.setRow g (supV gM)).heap[gM]? = some (.cells #[.int .i64 3, .int .i64 1, .int .i64 (p : Int)] 84 (0, 0)) := row_setRowO rM (by omega) _
  have U3 := (U1.out.trans u2).setRowNew (show w.heap.size ≤ g from Nat.le_of_eq HG.out) (supV gM)
  rw [hw3] at r3 rM3 U3
  have HW3 := Lib.hid hw3
  have R3 := Lib.hid r3
  have RM3 := Lib.hid rM3
  have HU3 := Lib.hid U3
  clear hq r0 r1 U1 rM u2 hw3 r3 rM3 U3 HP
  go_wp2_with (first | (refine wpList_store_rowAs rfl 47 _ _ rfl g (supV gM) rfl rfl _ _ r2.out (supInfo gM) rfl (by simp [supV, Value.oneCell']) w3 HW3.out ?_))
  refine bodyPost_ret (results_row_tmp rfl _ _ g _ (supV gM) _ _ rfl R3.out Tryz.underlying47 rfl (supInfo gM)) rfl ⟨x, p, gM, HX, HPX, hx, hp, rfl, RM3, HU3.out⟩
end Go.Proofs.YtcimcodljjcmgaaGreatDoor

namespace Go.Proofs.YtcimcodljjcmgaaGreatDoor
open Go.RowKit
set_option maxRecDepth 100000

set_option maxHeartbeats 4000000 in
theorem event_any (c : UInt8) (T : ByteArray) (hT : bs T = tOf c) (w : World) (htab : Tabs w) : Calls Tryz.prog 24 #[.string T] w (Mk (.tuple #[.agg (evV c 0 0).toArray, .bool true]) w) := by
  obtain ⟨EV, hEV⟩ : ∃ EV, EV = (evV c 0 0).toArray := ⟨_, rfl⟩
  have HEVI : Hid ((Tryz.prog.info? 33).map (·.size) = some EV.size) := by rw [hEV]; exact evInfo c 0 0
  have HEVO : Hid (EV.all (·.oneCell') = true) := by rw [hEV]; exact evOne c 0 0
  have HEVZ : Hid (evZ.toArray.size = EV.size) := by show _ = _; rw [hEV, evZ_len]; exact (evV_len c 0 0).symm
  have HEV := Lib.hid hEV
  obtain ⟨g, hg⟩ : ∃ g, w.heap.size = g := ⟨_, rfl⟩
  obtain ⟨w0, hw0⟩ : ∃ W, w.alloc (.cells #[.int .i64 0, .int .i64 0, .int .i64 0, .int .i64 0, .int .i64 0, .string ⟨#[]⟩, .int .u8 0, .int .u8 0, .int .u8 0, .int .u8 0, .int .u8 0, .int .u8 0, .int .u8 0, .int .u8 0, .int .u8 0, .int .u8 0, .int .u8 0, .int .u8 0, .int .u8 0, .int .u8 0, .int .u8 0, .int .u8 0, .int .u8 0, .int .u8 0, .int .u8 0, .int .u8 0, .int .u8 0, .int .u8 0, .int .u8 0, .int .u8 0, .int .u8 0, .int .u8 0, .int .u8 0, .int .u8 0, .int .u8 0, .int .u8 0, .int .u8 0, .int .u8 0, .int .i64 0, .int .i64 0] 33) = W := ⟨_, rfl⟩
  have r0 := Lib.hid (show w0.heap[g]? = some (.cells evZ.toArray 33 (0, 0)) by rw [← hg, ← hw0, zero_ev]; exact heap_alloc_new _ _)
  have HU0 := Lib.hid (show Upd [] [] w w0 by rw [← hw0]; exact (Upd.refl _ _).alloc _)
  have hts : T.size = 84 := by rw [← bs_length, hT, tOf_len]
  have s1 : ¬ 9223372036854775807 < 4 + T.size := by omega
  obtain ⟨s, hs⟩ : ∃ s : ByteArray, ByteArray.mk #[48, 32, 48, 32] ++ T = s := ⟨_, rfl⟩
  have hb : bs s = codeL c := by rw [← hs, bs_append, hT]; rfl
  have HD := Lib.hid (dDecode_any c s hb w0 (htab.upd HU0.out))
  rw [← hEV] at HD
  have HG : Hid (w.heap.size ≤ g) := Nat.le_of_eq hg
  rw [← hEV]
  clear hT hts hb hEV
  go_enter Tryz.func24, Tryz.ntmps24
  go_wp2_with fail
  refine HD.out.mono ?_
  rintro e w1 ⟨rfl, hq⟩
  have r1 := Lib.hid (row_updH r0.out hq)
  have HU1 := Lib.hid (HU0.out.trans hq)
  obtain ⟨w2, Z2, W2, R2, hq2⟩ := blk_new w1 33 evZ.toArray EV
  rw [← zero_ev] at Z2 W2
  obtain ⟨gE, hgE⟩ : ∃ g, w1.heap.size = g := ⟨_, rfl⟩
  have hlt : g < gE := by rw [← hgE]; exact blk_lt r1.out
  rw [hgE] at Z2 W2 R2
  have HZZ : Hid ((#[.int .i64 0, .int .i64 0, .int .i64 0, .int .i64 0, .int .i64 0, .string ⟨#[]⟩, .int .u8 0, .int .u8 0, .int .u8 0, .int .u8 0, .int .u8 0, .int .u8 0, .int .u8 0, .int .u8 0, .int .u8 0, .int .u8 0, .int .u8 0, .int .u8 0, .int .u8 0, .int .u8 0, .int .u8 0, .int .u8 0, .int .u8 0, .int .u8 0, .int .u8 0, .int .u8 0, .int .u8 0, .int .u8 0, .int .u8 0, .int .u8 0, .int .u8 0, .int .u8 0, .int .u8 0, .int .u8 0, .int .u8 0, .int .u8 0, .int .u8 0, .int .u8 0, .int .i64 0, .int .i64 0] : Array Value).size = EV.size) := by show _ = _; rw [zero_ev]; exact HEVZ.out
  have r2 := Lib.hid (row_updH r1.out hq2)
  have HU2 := Lib.hid (HU1.out.trans hq2)
  obtain ⟨w3, hw3⟩ : ∃ W, w2.setRow g EV = W := ⟨_, rfl⟩
  have r3 : (w2.setRow g EV).heap[g]? = some (.cells EV 33 (0, 0)) := setRow_heap _ _ _ _ _ _ r2.out
  have U3 := HU2.out.setRowNew HG.out EV
  rw [hw3] at r3 U3
  have HW3 := Lib.hid hw3
  have R3 := Lib.hid r3
  have HU3 := Lib.hid U3
  clear hq hq2 HD r0 r1 HU0 HU1 hw3 r3 U3 hs s1
  go_wp2_with (first | (refine wpList_store_rowAs rfl 33 _ _ rfl gE EV rfl rfl _ _ Z2.out HEVI.out HZZ.out HEVO.out w2 W2.out ?_) | (refine wpList_load_row rfl 33 _ rfl gE rfl _ EV _ _ R2.out Tryz.underlying33 rfl HEVI.out ?_) | (refine wpList_store_rowAs rfl 33 _ _ rfl g EV rfl rfl _ _ r2.out HEVI.out HEVZ.out HEVO.out w3 HW3.out ?_))
  refine bodyPost_ret (results_row_tmp rfl _ _ g _ EV _ _ rfl R3.out Tryz.underlying33 rfl HEVI.out) rfl ⟨rfl, HU3.out⟩
theorem ballot_no (c : UInt8) (hc : c ≠ 32) (T : ByteArray) (hT : bs T = tOf c) (w : World) (htab : Tabs w) : Calls Tryz.prog 23 #[.string T] w (Mk (.tuple #[.string ⟨#[]⟩, .bool false]) w) := by
  obtain ⟨m, hm⟩ := htab.m
  have hts : T.size = 84 := by rw [← bs_length, hT, tOf_len]
  have HS : Hid (Calls Tryz.prog 42 #[.string T, .string ⟨#[32]⟩] w (fun e w' => ∃ g, e = .returned (.slice (some ⟨g, 0, none⟩) 8 8) ∧ Upd [] [] w w')) := by
    refine (Tryz.strings_Split T ⟨#[32]⟩ m w (by omega) hm (by decide)).mono ?_
    rintro e w' ⟨rfl, rfl⟩
    rw [tOf_count hc hT]
    exact ⟨_, rfl, (Upd.refl _ _).alloc _⟩
  clear hm hts
  go_enter Tryz.func23, Tryz.ntmps23
  go_wp2_with fail
  refine HS.out.mono ?_
  rintro e w1 ⟨g, rfl, hq⟩
  have HU := Lib.hid hq
  clear hq HS
  go_wp2_with fail
  go_ret2
  exact ⟨rfl, HU.out⟩
theorem contra_same (T : ByteArray) (w : World) : Calls Tryz.prog 7 #[.string T, .string T] w (Mk (.bool false) w) := by
  go_enter Tryz.func7, Tryz.ntmps7
  go_wp2_with fail
  go_ret
  exact ⟨rfl, Upd.refl _ _⟩
set_option maxHeartbeats 4000000 in
theorem contra_two (T U : ByteArray) (hT : bs T = tOf 97) (hU : bs U = tOf 98) (w : World) (htab : Tabs w) : Calls Tryz.prog 7 #[.string T, .string U] w (Mk (.bool true) w) := by
  obtain ⟨EV, hEV⟩ : ∃ EV, EV = (evV 97 0 0).toArray := ⟨_, rfl⟩
  obtain ⟨EW, hEW⟩ : ∃ EW, EW = (evV 98 0 0).toArray := ⟨_, rfl⟩
  have HEVI : Hid ((Tryz.prog.info? 33).map (·.size) = some EV.size) := by rw [hEV]; exact evInfo _ 0 0
  have HEVO : Hid (EV.all (·.oneCell') = true) := by rw [hEV]; exact evOne _ 0 0
  have HEVZ : Hid ((#[.int .i64 0, .int .i64 0, .int .i64 0, .int .i64 0, .int .i64 0, .string ⟨#[]⟩, .int .u8 0, .int .u8 0, .int .u8 0, .int .u8 0, .int .u8 0, .int .u8 0, .int .u8 0, .int .u8 0, .int .u8 0, .int .u8 0, .int .u8 0, .int .u8 0, .int .u8 0, .int .u8 0, .int .u8 0, .int .u8 0, .int .u8 0, .int .u8 0, .int .u8 0, .int .u8 0, .int .u8 0, .int .u8 0, .int .u8 0, .int .u8 0, .int .u8 0, .int .u8 0, .int .u8 0, .int .u8 0, .int .u8 0, .int .u8 0, .int .u8 0, .int .u8 0, .int .i64 0, .int .i64 0] : Array Value).size = EV.size) := by show _ = _; rw [hEV, zero_ev, evZ_len]; exact (evV_len _ 0 0).symm
  have HEWI : Hid ((Tryz.prog.info? 33).map (·.size) = some EW.size) := by rw [hEW]; exact evInfo _ 0 0
  have HEWO : Hid (EW.all (·.oneCell') = true) := by rw [hEW]; exact evOne _ 0 0
  have HEWZ : Hid ((#[.int .i64 0, .int .i64 0, .int .i64 0, .int .i64 0, .int .i64 0, .string ⟨#[]⟩, .int .u8 0, .int .u8 0, .int .u8 0, .int .u8 0, .int .u8 0, .int .u8 0, .int .u8 0, .int .u8 0, .int .u8 0, .int .u8 0, .int .u8 0, .int .u8 0, .int .u8 0, .int .u8 0, .int .u8 0, .int .u8 0, .int .u8 0, .int .u8 0, .int .u8 0, .int .u8 0, .int .u8 0, .int .u8 0, .int .u8 0, .int .u8 0, .int .u8 0, .int .u8 0, .int .u8 0, .int .u8 0, .int .u8 0, .int .u8 0, .int .u8 0, .int .u8 0, .int .i64 0, .int .i64 0] : Array Value).size = EW.size) := by show _ = _; rw [hEW, zero_ev, evZ_len]; exact (evV_len _ 0 0).symm
  have hne : (T.toList == U.toList) = false := by
    rw [beq_eq_false_iff_ne, ByteArray.toList_eq, ByteArray.toList_eq]
    intro e
    have e' : bs T = bs U := e
    rw [hT, hU] at e'
    have := List.append_cancel_left e'
    simp at this
  have HB1 := Lib.hid (ballot_no 97 (by decide) T hT w htab)
  have HB2 := Lib.hid (fun W (u : Upd [] [] w W) => ballot_no 98 (by decide) U hU W (htab.upd u))
  have HE1 := Lib.hid (fun W (u : Upd [] [] w W) => event_any 97 T hT W (htab.upd u))
  have HE2 := Lib.hid (fun W (u : Upd [] [] w W) => event_any 98 U hU W (htab.upd u))
  rw [← hEV] at HE1
  rw [← hEW] at HE2
  have c0 : EV[0]? = some (.int .i64 5) := by rw [hEV]; rfl
  have d0 : EW[0]? = some (.int .i64 5) := by rw [hEW]; rfl
  have HC := Lib.hid (And.intro c0 d0)
  clear hT hU hEV hEW c0 d0
  go_enter Tryz.func7, Tryz.ntmps7
  go_wp2_with fail
  refine HB1.out.mono ?_
  rintro e w1 ⟨rfl, hq⟩
  have U1 := Lib.hid hq
  clear hq HB1
  go_wp2_with fail
  refine (HB2.out w1 U1.out).mono ?_
  rintro e w2 ⟨rfl, hq⟩
  have U2 := Lib.hid (U1.out.trans hq)
  clear hq HB2 U1
  go_wp2_with fail
  refine (HE1.out w2 U2.out).mono ?_
  rintro e w3 ⟨rfl, hq⟩
  have U3 := Lib.hid (U2.out.trans hq)
  clear hq HE1 U2
  obtain ⟨w4, Z4, W4, R4, hq4⟩ := blk_new w3 33 #[.int .i64 0, .int .i64 0, .int .i64 0, .int .i64 0, .int .i64 0, .string ⟨#[]⟩, .int .u8 0, .int .u8 0, .int .u8 0, .int .u8 0, .int .u8 0, .int .u8 0, .int .u8 0, .int .u8 0, .int .u8 0, .int .u8 0, .int .u8 0, .int .u8 0, .int .u8 0, .int .u8 0, .int .u8 0, .int .u8 0, .int .u8 0, .int .u8 0, .int .u8 0, .int .u8 0, .int .u8 0, .int .u8 0, .int .u8 0, .int .u8 0, .int .u8 0, .int .u8 0, .int .u8 0, .int .u8 0, .int .u8 0, .int .u8 0, .int .u8 0, .int .u8 0, .int .i64 0, .int .i64 0] EV
  obtain ⟨gA, hgA⟩ : ∃ g, w3.heap.size = g := ⟨_, rfl⟩
  rw [hgA] at Z4 W4 R4
  have U4 := Lib.hid (U3.out.trans hq4)
  have hl4 : gA < w4.heap.size := blk_lt R4.out
  clear hq4 U3
  go_wp2_with (first | (refine wpList_store_rowAs rfl 33 _ _ rfl gA EV rfl rfl _ _ Z4.out HEVI.out HEVZ.out HEVO.out w4 W4.out ?_))
  refine (HE2.out w4 U4.out).mono ?_
  rintro e w5 ⟨rfl, hq⟩
  have R5 := Lib.hid (row_updH R4.out hq)
  have U5 := Lib.hid (U4.out.trans hq)
  have hl5 : gA < w5.heap.size := Nat.lt_of_lt_of_le hl4 hq.size
  clear hq HE2 U4 R4 Z4 W4
  obtain ⟨w6, Z6, W6, R6, hq6⟩ := blk_new w5 33 #[.int .i64 0, .int .i64 0, .int .i64 0, .int .i64 0, .int .i64 0, .string ⟨#[]⟩, .int .u8 0, .int .u8 0, .int .u8 0, .int .u8 0, .int .u8 0, .int .u8 0, .int .u8 0, .int .u8 0, .int .u8 0, .int .u8 0, .int .u8 0, .int .u8 0, .int .u8 0, .int .u8 0, .int .u8 0, .int .u8 0, .int .u8 0, .int .u8 0, .int .u8 0, .int .u8 0, .int .u8 0, .int .u8 0, .int .u8 0, .int .u8 0, .int .u8 0, .int .u8 0, .int .u8 0, .int .u8 0, .int .u8 0, .int .u8 0, .int .u8 0, .int .u8 0, .int .i64 0, .int .i64 0] EW
  obtain ⟨gB, hgB⟩ : ∃ g, w5.heap.size = g := ⟨_, rfl⟩
  rw [hgB] at Z6 W6 R6
  have cA : w6.cell? ⟨gA, 0, none⟩ = some (.int .i64 5) := (cell_of_row _ gA 0 _ _ _ (row_updH R5.out hq6)).trans HC.out.1
  have cB : w6.cell? ⟨gB, 0, none⟩ = some (.int .i64 5) := (cell_of_row _ gB 0 _ _ _ R6.out).trans HC.out.2
  have U6 := Lib.hid (U5.out.trans hq6)
  clear hq6 U5 R5 R6 HC
  go_wp2_with (first | (refine wpList_store_rowAs rfl 33 _ _ rfl gB EW rfl rfl _ _ Z6.out HEWI.out HEWZ.out HEWO.out w6 W6.out ?_))
  go_ret
  exact ⟨rfl, U6.out⟩
end Go.Proofs.YtcimcodljjcmgaaGreatDoor

namespace Go.Proofs.YtcimcodljjcmgaaGreatDoor
open Go.RowKit
set_option maxRecDepth 100000

def EvR (l : List UInt8) (EV : Array Value) (b : Bool) : Prop := (b = true ∧ ∃ ev : EvG, IsCode l ev ∧ EV = ev.V.toArray) ∨ (b = false ∧ (∀ ev, ¬ IsCode l ev) ∧ EV = evZ.toArray)
theorem EvR.info {l : List UInt8} {EV : Array Value} {b : Bool} (h : EvR l EV b) : (Tryz.prog.info? 33).map (·.size) = some EV.size ∧ EV.all (·.oneCell') = true ∧ evZ.toArray.size = EV.size := by
  rcases h with ⟨_, ev, h, rfl⟩ | ⟨_, _, rfl⟩
  · have hp := h.1.2.2.2.2.2.1
    exact ⟨EvG.info hp, ev.one, by rw [evZ_len]; exact (EvG.V_len hp).symm⟩
  · exact ⟨zeroEv_info, zeroEv_one, rfl⟩
theorem EvR.seq {l : List UInt8} {EV : Array Value} {b : Bool} (h : EvR l EV b) (hl : l.length ≤ 1000000000) : ∃ q : Int, i64in q ∧ EV[0]? = some (.int .i64 q) ∧ (∀ ev, IsCode l ev → b = true ∧ q = ev.q) ∧ ((∀ ev, ¬ IsCode l ev) → b = false) := by
  rcases h with ⟨rfl, ev, h, rfl⟩ | ⟨rfl, hn, rfl⟩
  · refine ⟨ev.q, h.1.1, rfl, fun ev' h' => ⟨rfl, ?_⟩, fun hn => absurd h (hn ev)⟩
    rw [isCode_inj h h' (by have := h.size; omega) (by have := h'.size; omega)]
  · exact ⟨0, ⟨by omega, by omega⟩, rfl, fun ev' h' => absurd h' (hn ev'), fun _ => rfl⟩
theorem MkDec.out {l : List UInt8} {w w' : World} {e : Ending} (h : MkDec l w e w') : ∃ (EV : Array Value) (b : Bool), Hid (EvR l EV b) ∧ e = .returned (.tuple #[.agg EV, .int .i64 (if b = true then 0 else 11)]) ∧ Upd [] [] w w' := by
  rcases h with ⟨ev, h, e, u⟩ | ⟨Z, hz, hn, e, u⟩
  · exact ⟨_, true, .inl ⟨rfl, ev, h.out, rfl⟩, e, u⟩
  · exact ⟨Z, false, .inr ⟨rfl, hn.out, hz.out⟩, e, u⟩
def MkEvt (l : List UInt8) (w : World) (e : Ending) (w' : World) : Prop := ∃ (EV : Array Value) (b : Bool), Hid (EvR l EV b) ∧ e = .returned (.tuple #[.agg EV, .bool b]) ∧ Upd [] [] w w'
def preE : List UInt8 := [48, 32, 48, 32]
set_option maxHeartbeats 4000000 in
theorem eventG (T : ByteArray) (hT : T.size ≤ 900000000) (w : World) (htab : Tabs w) : Calls Tryz.prog 24 #[.string T] w (MkEvt (preE ++ bs T) w) := by
  obtain ⟨g, hg⟩ : ∃ g, w.heap.size = g := ⟨_, rfl⟩
  obtain ⟨w0, hw0⟩ : ∃ W, w.alloc (.cells #[.int .i64 0, .int .i64 0, .int .i64 0, .int .i64 0, .int .i64 0, .string ⟨#[]⟩, .int .u8 0, .int .u8 0, .int .u8 0, .int .u8 0, .int .u8 0, .int .u8 0, .int .u8 0, .int .u8 0, .int .u8 0, .int .u8 0, .int .u8 0, .int .u8 0, .int .u8 0, .int .u8 0, .int .u8 0, .int .u8 0, .int .u8 0, .int .u8 0, .int .u8 0, .int .u8 0, .int .u8 0, .int .u8 0, .int .u8 0, .int .u8 0, .int .u8 0, .int .u8 0, .int .u8 0, .int .u8 0, .int .u8 0, .int .u8 0, .int .u8 0, .int .u8 0, .int .i64 0, .int .i64 0] 33) = W := ⟨_, rfl⟩
  have r0 := Lib.hid (show w0.heap[g]? = some (.cells evZ.toArray 33 (0, 0)) by rw [← hg, ← hw0, zero_ev]; exact heap_alloc_new _ _)
  have HU0 := Lib.hid (show Upd [] [] w w0 by rw [← hw0]; exact (Upd.refl _ _).alloc _)
  have s1 : ¬ 9223372036854775807 < 4 + T.size := by omega
  obtain ⟨s, hs⟩ : ∃ s : ByteArray, ByteArray.mk #[48, 32, 48, 32] ++ T = s := ⟨_, rfl⟩
  have hb : bs s = preE ++ bs T := by rw [← hs, bs_append]; rfl
  have hsz : s.size ≤ 1000000000 := by
    have := congrArg List.length hb
    rw [bs_length, List.length_append, bs_length] at this
    have : preE.length = 4 := rfl
    omega
  have HD := Lib.hid (dDecodeG s hsz w0 (htab.upd HU0.out))
  rw [hb] at HD
  have HG : Hid (w.heap.size ≤ g) := Nat.le_of_eq hg
  obtain ⟨l, hl⟩ : ∃ l, preE ++ bs T = l := ⟨_, rfl⟩
  rw [hl] at HD ⊢
  clear hT hb hsz hl
  go_enter Tryz.func24, Tryz.ntmps24
  go_wp2_with fail
  refine HD.out.mono ?_
  intro e w1 hd
  obtain ⟨EV, b, HE, rfl, hq⟩ := hd.out
  clear hd
  have HEVI := Lib.hid HE.out.info.1
  have HEVO := Lib.hid HE.out.info.2.1
  have HEVZ := Lib.hid HE.out.info.2.2
  have r1 := Lib.hid (row_updH r0.out hq)
  have HU1 := Lib.hid (HU0.out.trans hq)
  obtain ⟨w2, Z2, W2, R2, hq2⟩ := blk_new w1 33 evZ.toArray EV
  rw [← zero_ev] at Z2 W2
  obtain ⟨gE, hgE⟩ : ∃ g, w1.heap.size = g := ⟨_, rfl⟩
  have hlt : g < gE := by rw [← hgE]; exact blk_lt r1.out
  rw [hgE] at Z2 W2 R2
  have HZZ : Hid ((#[.int .i64 0, .int .i64 0, .int .i64 0, .int .i64 0, .int .i64 0, .string ⟨#[]⟩, .int .u8 0, .int .u8 0, .int .u8 0, .int .u8 0, .int .u8 0, .int .u8 0, .int .u8 0, .int .u8 0, .int .u8 0, .int .u8 0, .int .u8 0, .int .u8 0, .int .u8 0, .int .u8 0, .int .u8 0, .int .u8 0, .int .u8 0, .int .u8 0, .int .u8 0, .int .u8 0, .int .u8 0, .int .u8 0, .int .u8 0, .int .u8 0, .int .u8 0, .int .u8 0, .int .u8 0, .int .u8 0, .int .u8 0, .int .u8 0, .int .u8 0, .int .u8 0, .int .i64 0, .int .i64 0] : Array Value).size = EV.size) := by show _ = _; rw [zero_ev]; exact HEVZ.out
  have r2 := Lib.hid (row_updH r1.out hq2)
  have HU2 := Lib.hid (HU1.out.trans hq2)
  obtain ⟨w3, hw3⟩ : ∃ W, w2.setRow g EV = W := ⟨_, rfl⟩
  have r3 : (w2.setRow g EV).heap[g]? = some (.cells EV 33 (0, 0)) := setRow_heap _ _ _ _ _ _ r2.out
  have U3 := HU2.out.setRowNew HG.out EV
  rw [hw3] at r3 U3
  have HW3 := Lib.hid hw3
  have R3 := Lib.hid r3
  have HU3 := Lib.hid U3
  clear hq hq2 HD r0 r1 HU0 HU1 hw3 r3 U3 hs s1
  cases b
  · go_wp2_with (first | (refine wpList_store_rowAs rfl 33 _ _ rfl gE EV rfl rfl _ _ Z2.out HEVI.out HZZ.out HEVO.out w2 W2.out ?_) | (refine wpList_load_row rfl 33 _ rfl gE rfl _ EV _ _ R2.out Tryz.underlying33 rfl HEVI.out ?_) | (refine wpList_store_rowAs rfl 33 _ _ rfl g EV rfl rfl _ _ r2.out HEVI.out HEVZ.out HEVO.out w3 HW3.out ?_))
    refine bodyPost_ret (results_row_tmp rfl _ _ g _ EV _ _ rfl R3.out Tryz.underlying33 rfl HEVI.out) rfl ?_
    exact ⟨EV, false, HE, rfl, HU3.out⟩
  · go_wp2_with (first | (refine wpList_store_rowAs rfl 33 _ _ rfl gE EV rfl rfl _ _ Z2.out HEVI.out HZZ.out HEVO.out w2 W2.out ?_) | (refine wpList_load_row rfl 33 _ rfl gE rfl _ EV _ _ R2.out Tryz.underlying33 rfl HEVI.out ?_) | (refine wpList_store_rowAs rfl 33 _ _ rfl g EV rfl rfl _ _ r2.out HEVI.out HEVZ.out HEVO.out w3 HW3.out ?_))
    refine bodyPost_ret (results_row_tmp rfl _ _ g _ EV _ _ rfl R3.out Tryz.underlying33 rfl HEVI.out) rfl ?_
    exact ⟨EV, true, HE, rfl, HU3.out⟩
end Go.Proofs.YtcimcodljjcmgaaGreatDoor

namespace Go.Proofs.YtcimcodljjcmgaaGreatDoor
open Go.RowKit
set_option maxRecDepth 100000

def evPl : Array (Nat × Nat) := #[(0, 1), (1, 1), (2, 1), (3, 1), (4, 1), (5, 1), (6, 32), (38, 2)]
theorem built_ev (ps : List (Nat × Value)) : Tryz.prog.built 33 ps = Instr.fill (evPl[·]?) evZ.toArray ps := by kernel_rfl
theorem built_event (q k h t n : Int) (x : ByteArray) (p : List UInt8) (r s : Int) (hp : p.length = 32) :
    Tryz.prog.built 33 [(0, .int .i64 q), (1, .int .i64 k), (2, .int .i64 h), (3, .int .i64 t), (4, .int .i64 n), (5, .string x), (6, .agg (byteVals p).toArray), (7, .agg #[.int .i64 r, .int .i64 s])] = some (EvG.V ⟨q, k, h, t, n, x, p, r, s⟩).toArray := by
  rw [built_ev]
  have z32 : (byteVals zero32).length = 32 := by simp [byteVals_length, zero32]
  have lp : (byteVals p).length = 32 := by rw [byteVals_length, hp]
  rw [show evZ.toArray = ([] ++ ([Value.int .i64 0] ++ ([Value.int .i64 0, Value.int .i64 0, Value.int .i64 0, Value.int .i64 0, Value.string ⟨#[]⟩] ++ (byteVals zero32 ++ [Value.int .i64 0, Value.int .i64 0]))) : List Value).toArray from rfl, fill_mid (off := 0) (n := 1) (V := [Value.int .i64 q]) rfl rfl rfl rfl rfl]
  rw [show ([] ++ ([Value.int .i64 q] ++ ([Value.int .i64 0, Value.int .i64 0, Value.int .i64 0, Value.int .i64 0, Value.string ⟨#[]⟩] ++ (byteVals zero32 ++ [Value.int .i64 0, Value.int .i64 0]))) : List Value) = ([Value.int .i64 q] ++ ([Value.int .i64 0] ++ ([Value.int .i64 0, Value.int .i64 0, Value.int .i64 0, Value.string ⟨#[]⟩] ++ (byteVals zero32 ++ [Value.int .i64 0, Value.int .i64 0]))) : List Value) from rfl, fill_mid (off := 1) (n := 1) (V := [Value.int .i64 k]) rfl rfl rfl rfl rfl]
  rw [show ([Value.int .i64 q] ++ ([Value.int .i64 k] ++ ([Value.int .i64 0, Value.int .i64 0, Value.int .i64 0, Value.string ⟨#[]⟩] ++ (byteVals zero32 ++ [Value.int .i64 0, Value.int .i64 0]))) : List Value) = ([Value.int .i64 q, Value.int .i64 k] ++ ([Value.int .i64 0] ++ ([Value.int .i64 0, Value.int .i64 0, Value.string ⟨#[]⟩] ++ (byteVals zero32 ++ [Value.int .i64 0, Value.int .i64 0]))) : List Value) from rfl, fill_mid (off := 2) (n := 1) (V := [Value.int .i64 h]) rfl rfl rfl rfl rfl]
  rw [show ([Value.int .i64 q, Value.int .i64 k] ++ ([Value.int .i64 h] ++ ([Value.int .i64 0, Value.int .i64 0, Value.string ⟨#[]⟩] ++ (byteVals zero32 ++ [Value.int .i64 0, Value.int .i64 0]))) : List Value) = ([Value.int .i64 q, Value.int .i64 k, Value.int .i64 h] ++ ([Value.int .i64 0] ++ ([Value.int .i64 0, Value.string ⟨#[]⟩] ++ (byteVals zero32 ++ [Value.int .i64 0, Value.int .i64 0]))) : List Value) from rfl, fill_mid (off := 3) (n := 1) (V := [Value.int .i64 t]) rfl rfl rfl rfl rfl]
  rw [show ([Value.int .i64 q, Value.int .i64 k, Value.int .i64 h] ++ ([Value.int .i64 t] ++ ([Value.int .i64 0, Value.string ⟨#[]⟩] ++ (byteVals zero32 ++ [Value.int .i64 0, Value.int .i64 0]))) : List Value) = ([Value.int .i64 q, Value.int .i64 k, Value.int .i64 h, Value.int .i64 t] ++ ([Value.int .i64 0] ++ ([Value.string ⟨#[]⟩] ++ (byteVals zero32 ++ [Value.int .i64 0, Value.int .i64 0]))) : List Value) from rfl, fill_mid (off := 4) (n := 1) (V := [Value.int .i64 n]) rfl rfl rfl rfl rfl]
  rw [show ([Value.int .i64 q, Value.int .i64 k, Value.int .i64 h, Value.int .i64 t] ++ ([Value.int .i64 n] ++ ([Value.string ⟨#[]⟩] ++ (byteVals zero32 ++ [Value.int .i64 0, Value.int .i64 0]))) : List Value) = ([Value.int .i64 q, Value.int .i64 k, Value.int .i64 h, Value.int .i64 t, Value.int .i64 n] ++ ([Value.string ⟨#[]⟩] ++ (byteVals zero32 ++ [Value.int .i64 0, Value.int .i64 0])) : List Value) from rfl, fill_mid (off := 5) (n := 1) (V := [Value.string x]) rfl rfl rfl rfl rfl]
  rw [show ([Value.int .i64 q, Value.int .i64 k, Value.int .i64 h, Value.int .i64 t, Value.int .i64 n] ++ ([Value.string x] ++ (byteVals zero32 ++ [Value.int .i64 0, Value.int .i64 0])) : List Value) = [Value.int .i64 q, Value.int .i64 k, Value.int .i64 h, Value.int .i64 t, Value.int .i64 n, Value.string x] ++ (byteVals zero32 ++ [Value.int .i64 0, Value.int .i64 0]) from rfl, fill_mid (off := 6) (n := 32) (V := byteVals p) rfl rfl lp rfl z32]
  rw [← List.append_assoc, show ([Value.int .i64 0, Value.int .i64 0] : List Value) = [Value.int .i64 0, Value.int .i64 0] ++ [] from rfl, fill_mid (off := 38) (n := 2) (V := [Value.int .i64 r, Value.int .i64 s]) rfl rfl rfl (by simp [lp]) rfl]
  rw [Instr.fill]
  simp [EvG.V]
theorem nine_of {P : List ByteArray} (h : P.length = 9) : ∃ a b c d e f g i j, P = [a, b, c, d, e, f, g, i, j] := by
  match P, h with
  | [a, b, c, d, e, f, g, i, j], _ => exact ⟨a, b, c, d, e, f, g, i, j, rfl⟩
theorem few_not {l : List UInt8} (h : l.count 32 < 9) (ev : EvG) : ¬ IsCode l ev := by
  intro hc
  rw [hc.2] at h
  simp only [EvG.code, EvG.text, List.count_append, List.count_cons, beq_self_eq_true, if_true] at h
  omega
theorem nine_parts {l : List UInt8} {p0 p1 p2 p3 p4 p5 p6 p7 p8 : List UInt8} {fr i : Nat} (h : WInv l [p0, p1, p2, p3, p4, p5, p6, p7, p8] fr i) {ev : EvG} (hc : IsCode l ev) :
    p0 = Lib.itoa ev.r ∧ p1 = Lib.itoa ev.s ∧ p3 = Lib.itoa ev.q ∧ p4 = Lib.itoa ev.k ∧ p5 = Lib.itoa ev.h ∧ p6 = Lib.itoa ev.t ∧ p7 = Lib.itoa ev.n ∧ p8 = hexL ev.p ∧ l.drop fr = wordG (bs ev.x) := by
  have e := ev.code_split
  have e2 := preW_split [p0, p1, p2, p3, p4, p5, p6, p7, p8] (l.drop fr) h.ws
  rw [← h.eq] at e2
  rw [← hc.2] at e
  have e3 := e2.symm.trans e
  simp only [EvG.parts, List.cons_append, List.nil_append, List.cons.injEq, and_true] at e3
  obtain ⟨a1, a2, _, a3, a4, a5, a6, a7, a8, a9⟩ := e3
  exact ⟨a1, a2, a3, a4, a5, a6, a7, a8, a9⟩
end Go.Proofs.YtcimcodljjcmgaaGreatDoor
