/- court.Judge on a kind of evidence that there is not. -/
import Derived.Test.YtcimcodljjcmgaaGreatDoorGAA
import Derived.Test.YtcimcodljjcmgaaGreatDoorGBN
namespace Go.Proofs.YtcimcodljjcmgaaGreatDoor
open Go.RowKit
set_option maxRecDepth 100000

set_option maxHeartbeats 8000000 in
theorem judge_odd (SV EV : Array Value) (hE : EV[0]? = some (.int .i64 9)) (w : World) : Calls Tryz.prog 15 #[.agg SV, .agg EV] w (Mk (.tuple #[.int .i64 0, .int .i64 14]) w) := by
  obtain ⟨gS, hgS⟩ : ∃ g, w.heap.size = g := ⟨_, rfl⟩
  obtain ⟨w0, hw0⟩ : ∃ W, w.alloc (.cells SV 47) = W := ⟨_, rfl⟩
  have u0 : Upd [] [] w w0 := by rw [← hw0]; exact (Upd.refl _ _).alloc _
  obtain ⟨gE, hgE⟩ : ∃ g, w0.heap.size = g := ⟨_, rfl⟩
  obtain ⟨w1, hw1⟩ : ∃ W, w0.alloc (.cells EV 59) = W := ⟨_, rfl⟩
  have r1 : w1.heap[gE]? = some (.cells EV 59 (0, 0)) := by rw [← hgE, ← hw1]; exact heap_alloc_new _ _
  have u1 : Upd [] [] w0 w1 := by rw [← hw1]; exact (Upd.refl _ _).alloc _
  have U1 := Lib.hid (u0.trans u1)
  have ud0 : Upd [] [] w1 w1.drew := (Upd.refl _ _).drew
  have HK : Hid (∀ W, Upd [] [] w1 W → W.cell? ⟨gE, 0, none⟩ = some (.int .i64 9)) := fun W u => (cell_of_row _ gE 0 _ _ _ (row_updH r1 u)).trans hE
  have HCI : Hid ((Tryz.prog.info? 88).map (·.size) = some (#[.bool false, .nilFunc, .nilFunc, .nilFunc] : Array Value).size) := by show _ = some 4; kernel_rfl
  clear u0 r1 u1 hE
  go_enter Tryz.func15, Tryz.ntmps15
  go_upto_region 1 with (fail)
  refine @_root_.id ((∀ (bM gC : Nat) (W : World), Hid (Upd [] [] w1 W) → (?pj1 : Nat → Nat → World → Prop) bM gC W) → _) (fun hJ => ?mj1) ?jj1
  case mj1 =>
    refine wp_region_noPanic ?_
    refine wp_region_held_drew (S := fun wp => wp.cell? ⟨gE, 0, none⟩ = some (.int .i64 9)) (by kernel_rfl) ?_ (fun hHeld => ?_)
    · exact HK.out _ ud0
    refine tkY 1 hHeld ?_
    refine tkY 2 hHeld ?_
    refine wpAnyH_ready (rs := [0, 7]) (by kernel_rfl) (by simp) ?_
    refine AllReadyH.cons (by simp only [List.getElem?_toArray, List.getElem?_cons_zero] <;> rfl) (fun K hK => ?_) ?_
    · go_simp; refine (courts_any _).mono ?_; rintro e wv1 ⟨bM, rfl, HMF, hq⟩; have ud1 := ud0.trans hq; clear hq; have HM_1 := HMF; clear HMF; go_wp2_with fail
      refine hK.out _ _ ?_ (fun hHeld => ?_)
      · exact HK.out _ ud1
      clear hK K
      try simp only [Act.put, List.setIfInBounds_toArray, List.set_cons_zero, List.set_cons_succ]
      refine wpAnyH_ready (rs := [3, 7]) (by kernel_rfl) (by simp) ?_
      refine AllReadyH.cons (by simp only [List.getElem?_toArray, List.getElem?_cons_succ, List.getElem?_cons_zero] <;> rfl) (fun K hK => ?_) ?_
      · have hlk := (HM_1.out.look_ok (x := 9) undC (zeroC wv1) (by omega)).trans (congrArg (fun z => Result.ok z wv1) (show _ = Value.tuple #[.agg #[.bool false, .nilFunc, .nilFunc, .nilFunc], .bool false] from rfl)); go_wp2_with fail; clear hlk HM_1
        refine hK.out _ _ ?_ (fun hHeld => ?_)
        · exact HK.out _ ud1
        clear hK K
        try simp only [Act.put, List.setIfInBounds_toArray, List.set_cons_zero, List.set_cons_succ]
        refine tkY 4 hHeld ?_
        refine tkY 5 hHeld ?_
        refine tkY 6 hHeld ?_
        refine wpAnyH_ready (rs := [7]) (by kernel_rfl) (by simp) ?_
        refine AllReadyH.cons (by simp only [List.getElem?_toArray, List.getElem?_cons_succ, List.getElem?_cons_zero] <;> rfl) (fun K hK => ?_) ?_
        · go_simp; obtain ⟨gC, wv2, hgx, hwx, fC_2, hq⟩ := alloc_let wv1 (.cells #[.bool false, .nilFunc, .nilFunc, .nilFunc] 88); rw [← hgx, ← hwx]; have bC : w1.heap.size ≤ gC := (by have := ud1.size; omega); have ud2 := ud1.trans hq; clear hgx hwx hq
          refine hK.out _ _ ?_ (fun hHeld => ?_)
          · exact HK.out _ ud2
          clear hK K
          try simp only [Act.put, List.setIfInBounds_toArray, List.set_cons_zero, List.set_cons_succ]
          refine wpAnyH_ready (rs := [8]) (by kernel_rfl) (by simp) ?_
          refine AllReadyH.cons (by simp only [List.getElem?_toArray, List.getElem?_cons_succ, List.getElem?_cons_zero] <;> rfl) (fun K hK => ?_) ?_
          · rw [if_pos (by rfl)]; refine wp_store_row 88 _ _ rfl gC #[.bool false, .nilFunc, .nilFunc, .nilFunc] rfl rfl _ _ fC_2.out HCI.out rfl (by simp [Value.oneCell']) ?_; obtain ⟨wv3, hwx⟩ : ∃ W' : World, W' = wv2.setRow gC #[.bool false, .nilFunc, .nilFunc, .nilFunc] := ⟨_, rfl⟩; have ud3 := ud2.setRowNew bC #[.bool false, .nilFunc, .nilFunc, .nilFunc]; rw [← hwx] at ud3 ⊢; clear hwx
            refine hK.out _ _ ?_ (fun hHeld => ?_)
            · exact HK.out _ ud3
            clear hK K
            try simp only [Act.put]
            refine tkY 9 hHeld ?_
            refine wpAnyH_done (by kernel_rfl) ?_ _
            refine NoPanic.normal ?_
            exact hJ bM gC wv3 (Lib.hid ud3)
          exact AllReadyH.nil
        exact AllReadyH.nil
      refine AllReadyH.cons (by simp only [List.getElem?_toArray, List.getElem?_cons_succ, List.getElem?_cons_zero] <;> rfl) (fun K hK => ?_) ?_
      · go_simp; obtain ⟨gC, wv2, hgx, hwx, fC_2, hq⟩ := alloc_let wv1 (.cells #[.bool false, .nilFunc, .nilFunc, .nilFunc] 88); rw [← hgx, ← hwx]; have bC : w1.heap.size ≤ gC := (by have := ud1.size; omega); have ud2 := ud1.trans hq; have HM_2 := Lib.hid (HM_1.out.upd hq (by simp)); clear HM_1; clear hgx hwx hq
        refine hK.out _ _ ?_ (fun hHeld => ?_)
        · exact HK.out _ ud2
        clear hK K
        try simp only [Act.put, List.setIfInBounds_toArray, List.set_cons_zero, List.set_cons_succ]
        refine wpAnyH_ready (rs := [3]) (by kernel_rfl) (by simp) ?_
        refine AllReadyH.cons (by simp only [List.getElem?_toArray, List.getElem?_cons_succ, List.getElem?_cons_zero] <;> rfl) (fun K hK => ?_) ?_
        · have hlk := (HM_2.out.look_ok (x := 9) undC (zeroC wv2) (by omega)).trans (congrArg (fun z => Result.ok z wv2) (show _ = Value.tuple #[.agg #[.bool false, .nilFunc, .nilFunc, .nilFunc], .bool false] from rfl)); go_wp2_with fail; clear hlk HM_2
          refine hK.out _ _ ?_ (fun hHeld => ?_)
          · exact HK.out _ ud2
          clear hK K
          try simp only [Act.put, List.setIfInBounds_toArray, List.set_cons_zero, List.set_cons_succ]
          refine tkY 4 hHeld ?_
          refine tkY 5 hHeld ?_
          refine tkY 6 hHeld ?_
          refine wpAnyH_ready (rs := [8]) (by kernel_rfl) (by simp) ?_
          refine AllReadyH.cons (by simp only [List.getElem?_toArray, List.getElem?_cons_succ, List.getElem?_cons_zero] <;> rfl) (fun K hK => ?_) ?_
          · rw [if_pos (by rfl)]; refine wp_store_row 88 _ _ rfl gC #[.bool false, .nilFunc, .nilFunc, .nilFunc] rfl rfl _ _ fC_2.out HCI.out rfl (by simp [Value.oneCell']) ?_; obtain ⟨wv3, hwx⟩ : ∃ W' : World, W' = wv2.setRow gC #[.bool false, .nilFunc, .nilFunc, .nilFunc] := ⟨_, rfl⟩; have ud3 := ud2.setRowNew bC #[.bool false, .nilFunc, .nilFunc, .nilFunc]; rw [← hwx] at ud3 ⊢; clear hwx
            refine hK.out _ _ ?_ (fun hHeld => ?_)
            · exact HK.out _ ud3
            clear hK K
            try simp only [Act.put]
            refine tkY 9 hHeld ?_
            refine wpAnyH_done (by kernel_rfl) ?_ _
            refine NoPanic.normal ?_
            exact hJ bM gC wv3 (Lib.hid ud3)
          exact AllReadyH.nil
        exact AllReadyH.nil
      exact AllReadyH.nil
    refine AllReadyH.cons (by simp only [List.getElem?_toArray, List.getElem?_cons_succ, List.getElem?_cons_zero] <;> rfl) (fun K hK => ?_) ?_
    · go_simp; obtain ⟨gC, wv1, hgx, hwx, fC_1, hq⟩ := alloc_letD w1 (.cells #[.bool false, .nilFunc, .nilFunc, .nilFunc] 88); rw [← hgx, ← hwx]; have bC : w1.heap.size ≤ gC := (by omega); have ud1 := hq; clear hgx hwx hq
      refine hK.out _ _ ?_ (fun hHeld => ?_)
      · exact HK.out _ ud1
      clear hK K
      try simp only [Act.put, List.setIfInBounds_toArray, List.set_cons_zero, List.set_cons_succ]
      refine wpAnyH_ready (rs := [0]) (by kernel_rfl) (by simp) ?_
      refine AllReadyH.cons (by simp only [List.getElem?_toArray, List.getElem?_cons_zero] <;> rfl) (fun K hK => ?_) ?_
      · go_simp; refine (courts_any _).mono ?_; rintro e wv2 ⟨bM, rfl, HMF, hq⟩; have ud2 := ud1.trans hq; have fC_2 := Lib.hid (row_updH fC_1.out hq); clear hq; have HM_2 := HMF; clear HMF; go_wp2_with fail
        refine hK.out _ _ ?_ (fun hHeld => ?_)
        · exact HK.out _ ud2
        clear hK K
        try simp only [Act.put, List.setIfInBounds_toArray, List.set_cons_zero, List.set_cons_succ]
        refine wpAnyH_ready (rs := [3]) (by kernel_rfl) (by simp) ?_
        refine AllReadyH.cons (by simp only [List.getElem?_toArray, List.getElem?_cons_succ, List.getElem?_cons_zero] <;> rfl) (fun K hK => ?_) ?_
        · have hlk := (HM_2.out.look_ok (x := 9) undC (zeroC wv2) (by omega)).trans (congrArg (fun z => Result.ok z wv2) (show _ = Value.tuple #[.agg #[.bool false, .nilFunc, .nilFunc, .nilFunc], .bool false] from rfl)); go_wp2_with fail; clear hlk HM_2
          refine hK.out _ _ ?_ (fun hHeld => ?_)
          · exact HK.out _ ud2
          clear hK K
          try simp only [Act.put, List.setIfInBounds_toArray, List.set_cons_zero, List.set_cons_succ]
          refine tkY 4 hHeld ?_
          refine tkY 5 hHeld ?_
          refine tkY 6 hHeld ?_
          refine wpAnyH_ready (rs := [8]) (by kernel_rfl) (by simp) ?_
          refine AllReadyH.cons (by simp only [List.getElem?_toArray, List.getElem?_cons_succ, List.getElem?_cons_zero] <;> rfl) (fun K hK => ?_) ?_
          · rw [if_pos (by rfl)]; refine wp_store_row 88 _ _ rfl gC #[.bool false, .nilFunc, .nilFunc, .nilFunc] rfl rfl _ _ fC_2.out HCI.out rfl (by simp [Value.oneCell']) ?_; obtain ⟨wv3, hwx⟩ : ∃ W' : World, W' = wv2.setRow gC #[.bool false, .nilFunc, .nilFunc, .nilFunc] := ⟨_, rfl⟩; have ud3 := ud2.setRowNew bC #[.bool false, .nilFunc, .nilFunc, .nilFunc]; rw [← hwx] at ud3 ⊢; clear hwx
            refine hK.out _ _ ?_ (fun hHeld => ?_)
            · exact HK.out _ ud3
            clear hK K
            try simp only [Act.put]
            refine tkY 9 hHeld ?_
            refine wpAnyH_done (by kernel_rfl) ?_ _
            refine NoPanic.normal ?_
            exact hJ bM gC wv3 (Lib.hid ud3)
          exact AllReadyH.nil
        exact AllReadyH.nil
      exact AllReadyH.nil
    exact AllReadyH.nil
  intro bM gC w3 U3
  skip
  go_wp2_with fail
  go_ret2
  exact ⟨rfl, U1.out.trans U3.out⟩
end Go.Proofs.YtcimcodljjcmgaaGreatDoor
