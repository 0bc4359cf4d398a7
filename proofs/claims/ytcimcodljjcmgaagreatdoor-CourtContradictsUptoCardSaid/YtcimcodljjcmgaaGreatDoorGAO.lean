/- day.Encode, day.Sign, vote at the events of court's example. day.Encode at any event. -/
import Derived.Test.YtcimcodljjcmgaaGreatDoorGAA
import Derived.Test.YtcimcodljjcmgaaGreatDoorGAN
namespace Go.Proofs.YtcimcodljjcmgaaGreatDoor
open Go.RowKit
set_option maxRecDepth 100000

theorem evInfo (c : UInt8) (r s : Int) : (Tryz.prog.info? 33).map (·.size) = some (evV c r s).toArray.size := by
  rw [show (evV c r s).toArray.size = 40 from evV_len c r s]
  kernel_rfl
theorem evOne (c : UInt8) (r s : Int) : (evV c r s).toArray.all (·.oneCell') = true := by
  rw [Array.all_eq_true_iff_forall_mem]
  intro v hv
  exact evV_one c r s v (by simpa using hv)
set_option maxHeartbeats 4000000 in
theorem dEncode_any (c : UInt8) (w : World) (htab : Tabs w) : Calls Tryz.prog 104 #[.agg (evV c 0 0).toArray] w (MkS (codeL c) w) := by
  obtain ⟨EV, hEV⟩ : ∃ EV, EV = (evV c 0 0).toArray := ⟨_, rfl⟩
  have HEV := Lib.hid hEV
  obtain ⟨w0, hw0⟩ : ∃ w0, w.alloc (.cells EV 33) = w0 := ⟨_, rfl⟩
  obtain ⟨g, hg⟩ : ∃ g, g = w.heap.size := ⟨_, rfl⟩
  have r0 : EvA w0 g c 0 0 := by rw [hg, ← hw0, hEV]; exact heap_alloc_new _ _
  have u0 : Upd [] [] w w0 := by rw [← hw0]; exact (Upd.refl _ _).alloc _
  have HK : Hid (∀ W, Upd [] [] w0 W → W.cell? ⟨g, 38, none⟩ = some (.int .i64 0) ∧ W.cell? ⟨g, 39, none⟩ = some (.int .i64 0) ∧ (Instr.loadAt 33 (.pointer (some ⟨g, 0, none⟩))).run Tryz.prog W = .ok (.agg EV) W) := by
    intro W u
    exact ⟨((r0.upd u).cell 38).trans (ev_at38 _ _ _), ((r0.upd u).cell 39).trans (ev_at39 _ _ _), evV_load hEV (r0.upd u)⟩
  have HU0 := Lib.hid u0
  have ud0 : Upd [] [] w0 w0.drew := (Upd.refl _ _).drew
  have HG := Lib.hid hg
  rw [← hEV]
  clear hEV r0 u0 hg
  go_enter Tryz.func104, Tryz.ntmps104
  go_upto_region 1 with (fail)
  rw [← HG.out]
  clear hw0
  refine wp_region_noPanic ?_
  refine wp_region_held_drew (S := fun wp => wp.cell? ⟨g, 38, none⟩ = some (.int .i64 0) ∧ wp.cell? ⟨g, 39, none⟩ = some (.int .i64 0) ∧ (Instr.loadAt 33 (.pointer (some ⟨g, 0, none⟩))).run Tryz.prog wp = .ok (.agg EV) wp) (by kernel_rfl) ?_ (fun hHeld => ?_)
  · exact HK.out _ ud0
  refine tkY 0 hHeld ?_
  refine tkY 1 hHeld ?_
  refine tkY 2 hHeld ?_
  refine tkY 5 hHeld ?_
  refine tkY 6 hHeld ?_
  refine tkY 7 hHeld ?_
  refine tkL 11 hHeld EV (fun w hSw => hSw.2.2) ?_
  refine wpAnyH_ready (rs := [3]) (by kernel_rfl) (by simp) ?_
  refine AllReadyH.cons (by simp only [List.getElem?_toArray, List.getElem?_cons_succ, List.getElem?_cons_zero] <;> rfl) (fun K hK => ?_) ?_
  · go_simp; refine (itoa_is 0 ⟨#[48]⟩ itoa_0 (by unfold i64in; omega) _ (htab.upd (HU0.out.trans ud0))).mono ?_; rintro e wv1 ⟨rfl, hq⟩; have ud1 := ud0.trans hq; clear hq; go_wp2_with fail
    refine hK.out _ _ ?_ (fun hHeld => ?_)
    · exact HK.out _ ud1
    clear hK K
    try simp only [Act.put, List.setIfInBounds_toArray, List.set_cons_zero, List.set_cons_succ]
    refine tkY 4 hHeld ?_
    refine wpAnyH_ready (rs := [8]) (by kernel_rfl) (by simp) ?_
    refine AllReadyH.cons (by simp only [List.getElem?_toArray, List.getElem?_cons_succ, List.getElem?_cons_zero] <;> rfl) (fun K hK => ?_) ?_
    · go_simp; refine (itoa_is 0 ⟨#[48]⟩ itoa_0 (by unfold i64in; omega) _ (htab.upd (HU0.out.trans ud1))).mono ?_; rintro e wv2 ⟨rfl, hq⟩; have ud2 := ud1.trans hq; clear hq; go_wp2_with fail
      refine hK.out _ _ ?_ (fun hHeld => ?_)
      · exact HK.out _ ud2
      clear hK K
      try simp only [Act.put, List.setIfInBounds_toArray, List.set_cons_zero, List.set_cons_succ]
      refine tkY 9 hHeld ?_
      refine tkY 10 hHeld ?_
      refine wpAnyH_ready (rs := [12]) (by kernel_rfl) (by simp) ?_
      refine AllReadyH.cons (by simp only [List.getElem?_toArray, List.getElem?_cons_succ, List.getElem?_cons_zero] <;> rfl) (fun K hK => ?_) ?_
      · go_simp; rw [HEV.out]; refine (dText_any c 0 0 _ (htab.upd (HU0.out.trans ud2))).mono ?_; rintro e wv3 ⟨y, HY, _, rfl, hq⟩; have ud3 := ud2.trans hq; clear hq; have hys : y.size = 84 := (by rw [← bs_length, HY.out, tOf_len]); go_wp2_with fail
        refine hK.out _ _ ?_ (fun hHeld => ?_)
        · exact HK.out _ ud3
        clear hK K
        try simp only [Act.put, List.setIfInBounds_toArray, List.set_cons_zero, List.set_cons_succ]
        refine tkY 13 hHeld ?_
        refine tkY 14 hHeld ?_
        refine wpAnyH_done (by kernel_rfl) ?_ _
        refine NoPanic.normal ?_
        go_wp2_with fail
        go_ret
        have hb : bs (ByteArray.mk #[48] ++ ByteArray.mk #[32] ++ ByteArray.mk #[48] ++ ByteArray.mk #[32] ++ y) = codeL c := by
          rw [bs_append, HY.out]
          rfl
        exact ⟨_, hb, by rw [← hb, bs_length]; exact Nat.le_refl _, rfl, HU0.out.trans ud3⟩
      exact AllReadyH.nil
    exact AllReadyH.nil
  exact AllReadyH.nil
end Go.Proofs.YtcimcodljjcmgaaGreatDoor

namespace Go.Proofs.YtcimcodljjcmgaaGreatDoor
open Go.RowKit
set_option maxRecDepth 100000

theorem EvG.info {e : EvG} (h : e.p.length = 32) : (Tryz.prog.info? 33).map (·.size) = some e.V.toArray.size := by
  rw [show e.V.toArray.size = 40 from EvG.V_len h]
  kernel_rfl
theorem EvG.one (e : EvG) : e.V.toArray.all (·.oneCell') = true := by
  rw [Array.all_eq_true_iff_forall_mem]
  intro v hv
  exact e.V_one v (by simpa using hv)
theorem EvG.code_is (e : EvG) {a b y : ByteArray} (ha : bs a = Lib.itoa e.r) (hb : bs b = Lib.itoa e.s) (hy : bs y = e.text) : bs (a ++ ByteArray.mk #[32] ++ b ++ ByteArray.mk #[32] ++ y) = e.code := by
  rw [bs_append, bs_append, bs_append, bs_append, ha, hb, hy, EvG.code]
  simp [bs]
set_option maxHeartbeats 4000000 in
theorem dEncodeG (ev : EvG) (he : ev.ok) (hx : ev.x.size ≤ 1000000000) (w : World) (htab : Tabs w) : Calls Tryz.prog 104 #[.agg ev.V.toArray] w (MkS ev.code w) := by
  obtain ⟨EV, hEV⟩ : ∃ EV, EV = ev.V.toArray := ⟨_, rfl⟩
  have HEV := Lib.hid hEV
  obtain ⟨w0, hw0⟩ : ∃ w0, w.alloc (.cells EV 33) = w0 := ⟨_, rfl⟩
  obtain ⟨g, hg⟩ : ∃ g, g = w.heap.size := ⟨_, rfl⟩
  have r0 : EgA w0 g ev := by rw [hg, ← hw0, hEV]; exact heap_alloc_new _ _
  have u0 : Upd [] [] w w0 := by rw [← hw0]; exact (Upd.refl _ _).alloc _
  have hp := he.2.2.2.2.2.1
  obtain ⟨r, hr0⟩ : ∃ r, ev.r = r := ⟨_, rfl⟩
  obtain ⟨s, hs0⟩ : ∃ s, ev.s = s := ⟨_, rfl⟩
  have HK : Hid (∀ W, Upd [] [] w0 W → W.cell? ⟨g, 38, none⟩ = some (.int .i64 r) ∧ W.cell? ⟨g, 39, none⟩ = some (.int .i64 s) ∧ (Instr.loadAt 33 (.pointer (some ⟨g, 0, none⟩))).run Tryz.prog W = .ok (.agg EV) W) := by
    intro W u
    rw [← hr0, ← hs0]
    exact ⟨((r0.upd u).cell 38).trans (EvG.at38 hp), ((r0.upd u).cell 39).trans (EvG.at39 hp), EvG.load hp hEV (r0.upd u)⟩
  have HI : Hid (i64in r ∧ i64in s) := by rw [← hr0, ← hs0]; exact he.2.2.2.2.2.2
  have HT := Lib.hid (fun W (u : Upd [] [] w W) => dTextG ev he hx W (htab.upd u))
  have HTL := Lib.hid (EvG.text_len he hx)
  have HC : Hid (∀ a b y : ByteArray, bs a = Lib.itoa r → bs b = Lib.itoa s → bs y = ev.text → bs (a ++ ByteArray.mk #[32] ++ b ++ ByteArray.mk #[32] ++ y) = ev.code) := by
    rw [← hr0, ← hs0]
    exact fun a b y ha hb hy => ev.code_is ha hb hy
  have HX := Lib.hid hx
  have HU0 := Lib.hid u0
  have ud0 : Upd [] [] w0 w0.drew := (Upd.refl _ _).drew
  have HG := Lib.hid hg
  rw [← hEV]
  clear hEV r0 u0 hg he hx hp hr0 hs0
  go_enter Tryz.func104, Tryz.ntmps104
  go_upto_region 1 with (fail)
  rw [← HG.out]
  clear hw0
  refine wp_region_noPanic ?_
  refine wp_region_held_drew (S := fun wp => wp.cell? ⟨g, 38, none⟩ = some (.int .i64 r) ∧ wp.cell? ⟨g, 39, none⟩ = some (.int .i64 s) ∧ (Instr.loadAt 33 (.pointer (some ⟨g, 0, none⟩))).run Tryz.prog wp = .ok (.agg EV) wp) (by kernel_rfl) ?_ (fun hHeld => ?_)
  · exact HK.out _ ud0
  refine tkY 0 hHeld ?_
  refine tkY 1 hHeld ?_
  refine tkY 2 hHeld ?_
  refine tkY 5 hHeld ?_
  refine tkY 6 hHeld ?_
  refine tkY 7 hHeld ?_
  refine tkL 11 hHeld EV (fun w hSw => hSw.2.2) ?_
  refine wpAnyH_ready (rs := [3]) (by kernel_rfl) (by simp) ?_
  refine AllReadyH.cons (by simp only [List.getElem?_toArray, List.getElem?_cons_succ, List.getElem?_cons_zero] <;> rfl) (fun K hK => ?_) ?_
  · go_simp; refine (itoa_any r _ HI.out.1 (htab.upd (HU0.out.trans ud0))).mono ?_; rintro e1 wv1 ⟨y1, HY1, hy1, rfl, hq⟩; have ud1 := ud0.trans hq; clear hq; have hz1 : y1.size ≤ 20 := (by have := itoa_len r HI.out.1; omega); have fa1 : ¬ 9223372036854775807 < y1.size + 1 := (by omega); go_wp2_with fail
    refine hK.out _ _ ?_ (fun hHeld => ?_)
    · exact HK.out _ ud1
    clear hK K
    try simp only [Act.put, List.setIfInBounds_toArray, List.set_cons_zero, List.set_cons_succ]
    refine tkY 4 hHeld ?_
    refine wpAnyH_ready (rs := [8]) (by kernel_rfl) (by simp) ?_
    refine AllReadyH.cons (by simp only [List.getElem?_toArray, List.getElem?_cons_succ, List.getElem?_cons_zero] <;> rfl) (fun K hK => ?_) ?_
    · go_simp; refine (itoa_any s _ HI.out.2 (htab.upd (HU0.out.trans ud1))).mono ?_; rintro e2 wv2 ⟨y2, HY2, hy2, rfl, hq⟩; have ud2 := ud1.trans hq; clear hq; have hz2 : y2.size ≤ 20 := (by have := itoa_len s HI.out.2; omega); have fa2 : ¬ 9223372036854775807 < y1.size + 1 + y2.size := (by omega); have fa3 : ¬ 9223372036854775807 < y1.size + 1 + y2.size + 1 := (by omega); go_wp2_with fail
      refine hK.out _ _ ?_ (fun hHeld => ?_)
      · exact HK.out _ ud2
      clear hK K
      try simp only [Act.put, List.setIfInBounds_toArray, List.set_cons_zero, List.set_cons_succ]
      refine tkY 9 hHeld ?_
      refine tkY 10 hHeld ?_
      refine wpAnyH_ready (rs := [12]) (by kernel_rfl) (by simp) ?_
      refine AllReadyH.cons (by simp only [List.getElem?_toArray, List.getElem?_cons_succ, List.getElem?_cons_zero] <;> rfl) (fun K hK => ?_) ?_
      · go_simp; rw [HEV.out]; refine (HT.out _ (HU0.out.trans ud2)).mono ?_; rintro e3 wv3 ⟨y3, HY3, hy3, rfl, hq⟩; have ud3 := ud2.trans hq; clear hq; have hz3 : y3.size ≤ 1000000250 := (by have := HTL.out; have := HX.out; omega); have fa4 : ¬ 9223372036854775807 < y1.size + 1 + y2.size + 1 + y3.size := (by omega); go_wp2_with fail
        refine hK.out _ _ ?_ (fun hHeld => ?_)
        · exact HK.out _ ud3
        clear hK K
        try simp only [Act.put, List.setIfInBounds_toArray, List.set_cons_zero, List.set_cons_succ]
        refine tkY 13 hHeld ?_
        refine tkY 14 hHeld ?_
        refine wpAnyH_done (by kernel_rfl) ?_ _
        refine NoPanic.normal ?_
        go_wp2_with fail
        go_ret
        have hb := HC.out y1 y2 y3 HY1.out HY2.out HY3.out
        exact ⟨_, hb, by rw [← hb, bs_length]; exact Nat.le_refl _, rfl, HU0.out.trans ud3⟩
      exact AllReadyH.nil
    exact AllReadyH.nil
  exact AllReadyH.nil
end Go.Proofs.YtcimcodljjcmgaaGreatDoor
