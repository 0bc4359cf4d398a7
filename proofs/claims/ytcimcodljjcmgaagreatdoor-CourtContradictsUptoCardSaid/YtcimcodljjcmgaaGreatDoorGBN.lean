/- court.Judge on two votes that contradict each other. -/
import Derived.Test.YtcimcodljjcmgaaGreatDoorGAA
import Derived.Test.YtcimcodljjcmgaaGreatDoorGBM
namespace Go.Proofs.YtcimcodljjcmgaaGreatDoor
open Go.RowKit
set_option maxRecDepth 100000

def jW (g p : Bool) (who : Int) : Int := if g && p then who else 0
def jE (g p : Bool) : Int := if g then (if p then 0 else 25) else 21
theorem evdInfo (kind who aw : Int) (aT : ByteArray) (ar as' bw : Int) (bT : ByteArray) (br bs' low high : Int) (F A B : ByteArray) : (Tryz.prog.info? 59).map (·.size) = some (evdL kind who aw aT ar as' bw bT br bs' low high F A B).length := by
  show _ = some 19
  kernel_rfl
theorem evd_load {kind who aw : Int} {aT : ByteArray} {ar as' bw : Int} {bT : ByteArray} {br bs' low high : Int} {F A B : ByteArray} {g : Nat} {W : World} (h : W.heap[g]? = some (.cells (evdL kind who aw aT ar as' bw bT br bs' low high F A B).toArray 59 (0, 0))) :
    (Instr.loadAt 59 (.pointer (some ⟨g, 0, none⟩))).run Tryz.prog W = .ok (.agg (evdL kind who aw aT ar as' bw bT br bs' low high F A B).toArray) W :=
  run_loadAt_mid W g 0 59 _ _ (row_range rfl h) Tryz.underlying59 rfl (evdInfo _ _ _ _ _ _ _ _ _ _ _ _ _ _ _)
theorem sup_load {l : List Value} {g : Nat} {W : World} (hl : l.length = 6) (h : W.heap[g]? = some (.cells l.toArray 47 (0, 0))) :
    (Instr.loadAt 47 (.pointer (some ⟨g, 0, none⟩))).run Tryz.prog W = .ok (.agg l.toArray) W :=
  run_loadAt_mid W g 0 47 _ _ (row_range rfl h) Tryz.underlying47 rfl (by rw [hl]; kernel_rfl)
theorem mbr_load {id wt pub : Int} {g : Nat} {W : World} (h : W.heap[g]? = some (.cells (mbrV id wt pub) 84 (0, 0))) :
    (Instr.loadAt 84 (.pointer (some ⟨g, 0, none⟩))).run Tryz.prog W = .ok (.agg (mbrV id wt pub)) W :=
  run_loadAt_mid W g 0 84 [.int .i64 id, .int .i64 wt, .int .i64 pub] _ (row_range (R := mbrV id wt pub) rfl h) Tryz.underlying84 rfl (by show _ = some 3; kernel_rfl)
set_option maxHeartbeats 8000000 in
theorem judge_double (gM : Nat) (who aw : Int) (aT : ByteArray) (ar as' bw : Int) (bT : ByteArray) (br bs' low high : Int) (F A B : ByteArray) (wt pub : Int) (g p : Bool) (w : World) (hM : w.heap[gM]? = some (.cells (mbrV who wt pub) 84 (0, 0)))
    (hF : ∀ W, Upd [] [] w W → Calls Tryz.prog 67 #[.agg (mtL (.slice (some ⟨gM, 0, none⟩) 1 1) (.slice none 0 0) (.slice none 0 0) (.slice none 0 0) 1 who aw aT ar as' bw bT br bs' low high F A B who wt pub).toArray] W (Mk (.bool true) W))
    (hG : ∀ W, Upd [] [] w W → Calls Tryz.prog 70 #[.agg (mtL (.slice (some ⟨gM, 0, none⟩) 1 1) (.slice none 0 0) (.slice none 0 0) (.slice none 0 0) 1 who aw aT ar as' bw bT br bs' low high F A B who wt pub).toArray] W (Mk (.bool g) W))
    (hP : ∀ W, Upd [] [] w W → Calls Tryz.prog 71 #[.agg (mtL (.slice (some ⟨gM, 0, none⟩) 1 1) (.slice none 0 0) (.slice none 0 0) (.slice none 0 0) 1 who aw aT ar as' bw bT br bs' low high F A B who wt pub).toArray] W (Mk (.bool p) W)) :
    Calls Tryz.prog 15 #[.agg (supV gM), .agg (evdL 1 who aw aT ar as' bw bT br bs' low high F A B).toArray] w (Mk (.tuple #[.int .i64 (jW g p who), .int .i64 (jE g p)]) w) := by
  obtain ⟨gS, hgS⟩ : ∃ g, w.heap.size = g := ⟨_, rfl⟩
  obtain ⟨w0, hw0⟩ : ∃ W, w.alloc (.cells (supV gM) 47) = W := ⟨_, rfl⟩
  have r0 : w0.heap[gS]? = some (.cells (supV gM) 47 (0, 0)) := by rw [← hgS, ← hw0]; exact heap_alloc_new _ _
  have u0 : Upd [] [] w w0 := by rw [← hw0]; exact (Upd.refl _ _).alloc _
  obtain ⟨gE, hgE⟩ : ∃ g, w0.heap.size = g := ⟨_, rfl⟩
  obtain ⟨w1, hw1⟩ : ∃ W, w0.alloc (.cells (evdL 1 who aw aT ar as' bw bT br bs' low high F A B).toArray 59) = W := ⟨_, rfl⟩
  have r1 : w1.heap[gE]? = some (.cells (evdL 1 who aw aT ar as' bw bT br bs' low high F A B).toArray 59 (0, 0)) := by rw [← hgE, ← hw1]; exact heap_alloc_new _ _
  have u1 : Upd [] [] w0 w1 := by rw [← hw1]; exact (Upd.refl _ _).alloc _
  have U1 := Lib.hid (u0.trans u1)
  have HS := Lib.hid (row_updH r0 u1)
  have HE := Lib.hid r1
  have HM := Lib.hid (row_updH (row_updH hM u0) u1)
  have ud0 : Upd [] [] w1 w1.drew := (Upd.refl _ _).drew
  have HK : Hid (∀ W, Upd [] [] w1 W → W.cell? ⟨gE, 0, none⟩ = some (.int .i64 1)) := fun W u => cell_of_row _ gE 0 _ _ _ (row_updH HE.out u)
  have hmf : ∀ (fn : Fn) (first cap : Array Value) (w : World), (Instr.makeFunc fn first cap).run Tryz.prog w = .ok (.func fn first cap) w := fun _ _ _ _ => rfl
  have HF := Lib.hid hF
  have HG := Lib.hid hG
  have HP := Lib.hid hP
  have hci : (Tryz.prog.info? 88).map (·.size) = some (#[.bool false, .func (.func 67) #[] #[], .func (.func 70) #[] #[], .func (.func 71) #[] #[]] : Array Value).size := by show _ = some 4; kernel_rfl
  have HCI := Lib.hid hci
  clear r0 u0 r1 u1 hM hF hG hP hci
  go_enter Tryz.func15, Tryz.ntmps15
  go_upto_region 1 with (fail)
  refine @_root_.id ((∀ (bM gC : Nat) (W : World), Hid (W.heap[gC]? = some (.cells #[.bool false, .func (.func 67) #[] #[], .func (.func 70) #[] #[], .func (.func 71) #[] #[]] 88 (0, 0))) → Hid (Upd [] [] w1 W) → (?pj1 : Nat → Nat → World → Prop) bM gC W) → _) (fun hJ => ?mj1) ?jj1
  case mj1 =>
    refine wp_region_noPanic ?_
    refine wp_region_held_drew (S := fun wp => wp.cell? ⟨gE, 0, none⟩ = some (.int .i64 1)) (by kernel_rfl) ?_ (fun hHeld => ?_)
    · exact HK.out _ ud0
    refine tkY 1 hHeld ?_
    refine tkY 2 hHeld ?_
    refine wpAnyH_ready (rs := [0, 7]) (by kernel_rfl) (by simp) ?_
    refine AllReadyH.cons (by simp only [List.getElem?_toArray, List.getElem?_cons_zero] <;> rfl) (fun K hK => ?_) ?_
    · go_simp; refine (courts_any _).mono ?_; rintro e wv1 ⟨bM, rfl, HMF, hq⟩; have ud1 := ud0.trans hq; clear hq; have HM_1 := HMF; clear HMF; go_wp2_with fail
      refine hK.out _ _ ?_ (fun hHeld => ?_)
      · exact HK.out _ ud1
      clear hK K
      try simp only [Act.put, List.setIfInBounds_toArray, List.set_cons_zero, List.set_cons_succ]
      refine wpAnyH_ready (rs := [3, 7]) (by kernel_rfl) (by simp) ?_
      refine AllReadyH.cons (by simp only [List.getElem?_toArray, List.getElem?_cons_succ, List.getElem?_cons_zero] <;> rfl) (fun K hK => ?_) ?_
      · have hlk := (HM_1.out.look_ok (x := 1) undC (zeroC wv1) (by omega)).trans (congrArg (fun z => Result.ok z wv1) (show _ = Value.tuple #[.agg #[.bool false, .func (.func 67) #[] #[], .func (.func 70) #[] #[], .func (.func 71) #[] #[]], .bool true] from rfl)); go_wp2_with fail; clear hlk HM_1
        refine hK.out _ _ ?_ (fun hHeld => ?_)
        · exact HK.out _ ud1
        clear hK K
        try simp only [Act.put, List.setIfInBounds_toArray, List.set_cons_zero, List.set_cons_succ]
        refine tkY 4 hHeld ?_
        refine tkY 5 hHeld ?_
        refine tkY 6 hHeld ?_
        refine wpAnyH_ready (rs := [7]) (by kernel_rfl) (by simp) ?_
        refine AllReadyH.cons (by simp only [List.getElem?_toArray, List.getElem?_cons_succ, List.getElem?_cons_zero] <;> rfl) (fun K hK => ?_) ?_
        · go_simp; obtain ⟨gC, wv2, hgx, hwx, fC_2, hq⟩ := alloc_let wv1 (.cells #[.bool false, .nilFunc, .nilFunc, .nilFunc] 88); rw [← hgx, ← hwx]; have bC : w1.heap.size ≤ gC := (by have := ud1.size; omega); have ud2 := ud1.trans hq; clear hgx hwx hq
          refine hK.out _ _ ?_ (fun hHeld => ?_)
          · exact HK.out _ ud2
          clear hK K
          try simp only [Act.put, List.setIfInBounds_toArray, List.set_cons_zero, List.set_cons_succ]
          refine wpAnyH_ready (rs := [8]) (by kernel_rfl) (by simp) ?_
          refine AllReadyH.cons (by simp only [List.getElem?_toArray, List.getElem?_cons_succ, List.getElem?_cons_zero] <;> rfl) (fun K hK => ?_) ?_
          · rw [if_pos (by rfl)]; refine wp_store_row 88 _ _ rfl gC #[.bool false, .func (.func 67) #[] #[], .func (.func 70) #[] #[], .func (.func 71) #[] #[]] rfl rfl _ _ fC_2.out HCI.out rfl (by simp [Value.oneCell']) ?_; obtain ⟨wv3, hwx⟩ : ∃ W' : World, W' = wv2.setRow gC #[.bool false, .func (.func 67) #[] #[], .func (.func 70) #[] #[], .func (.func 71) #[] #[]] := ⟨_, rfl⟩; have fC_3 : Hid (wv3.heap[gC]? = some (.cells #[.bool false, .func (.func 67) #[] #[], .func (.func 70) #[] #[], .func (.func 71) #[] #[]] 88 (0, 0))) := (by show _ = _; rw [hwx]; exact setRow_heap _ _ _ _ _ _ fC_2.out); have ud3 := ud2.setRowNew bC #[.bool false, .func (.func 67) #[] #[], .func (.func 70) #[] #[], .func (.func 71) #[] #[]]; rw [← hwx] at ud3 ⊢; clear hwx
            refine hK.out _ _ ?_ (fun hHeld => ?_)
            · exact HK.out _ ud3
            clear hK K
            try simp only [Act.put]
            refine tkY 9 hHeld ?_
            refine wpAnyH_done (by kernel_rfl) ?_ _
            refine NoPanic.normal ?_
            exact hJ bM gC wv3 fC_3 (Lib.hid ud3)
          exact AllReadyH.nil
        exact AllReadyH.nil
      refine AllReadyH.cons (by simp only [List.getElem?_toArray, List.getElem?_cons_succ, List.getElem?_cons_zero] <;> rfl) (fun K hK => ?_) ?_
      · go_simp; obtain ⟨gC, wv2, hgx, hwx, fC_2, hq⟩ := alloc_let wv1 (.cells #[.bool false, .nilFunc, .nilFunc, .nilFunc] 88); rw [← hgx, ← hwx]; have bC : w1.heap.size ≤ gC := (by have := ud1.size; omega); have ud2 := ud1.trans hq; have HM_2 := Lib.hid (HM_1.out.upd hq (by simp)); clear HM_1; clear hgx hwx hq
        refine hK.out _ _ ?_ (fun hHeld => ?_)
        · exact HK.out _ ud2
        clear hK K
        try simp only [Act.put, List.setIfInBounds_toArray, List.set_cons_zero, List.set_cons_succ]
        refine wpAnyH_ready (rs := [3]) (by kernel_rfl) (by simp) ?_
        refine AllReadyH.cons (by simp only [List.getElem?_toArray, List.getElem?_cons_succ, List.getElem?_cons_zero] <;> rfl) (fun K hK => ?_) ?_
        · have hlk := (HM_2.out.look_ok (x := 1) undC (zeroC wv2) (by omega)).trans (congrArg (fun z => Result.ok z wv2) (show _ = Value.tuple #[.agg #[.bool false, .func (.func 67) #[] #[], .func (.func 70) #[] #[], .func (.func 71) #[] #[]], .bool true] from rfl)); go_wp2_with fail; clear hlk HM_2
          refine hK.out _ _ ?_ (fun hHeld => ?_)
          · exact HK.out _ ud2
          clear hK K
          try simp only [Act.put, List.setIfInBounds_toArray, List.set_cons_zero, List.set_cons_succ]
          refine tkY 4 hHeld ?_
          refine tkY 5 hHeld ?_
          refine tkY 6 hHeld ?_
          refine wpAnyH_ready (rs := [8]) (by kernel_rfl) (by simp) ?_
          refine AllReadyH.cons (by simp only [List.getElem?_toArray, List.getElem?_cons_succ, List.getElem?_cons_zero] <;> rfl) (fun K hK => ?_) ?_
          · rw [if_pos (by rfl)]; refine wp_store_row 88 _ _ rfl gC #[.bool false, .func (.func 67) #[] #[], .func (.func 70) #[] #[], .func (.func 71) #[] #[]] rfl rfl _ _ fC_2.out HCI.out rfl (by simp [Value.oneCell']) ?_; obtain ⟨wv3, hwx⟩ : ∃ W' : World, W' = wv2.setRow gC #[.bool false, .func (.func 67) #[] #[], .func (.func 70) #[] #[], .func (.func 71) #[] #[]] := ⟨_, rfl⟩; have fC_3 : Hid (wv3.heap[gC]? = some (.cells #[.bool false, .func (.func 67) #[] #[], .func (.func 70) #[] #[], .func (.func 71) #[] #[]] 88 (0, 0))) := (by show _ = _; rw [hwx]; exact setRow_heap _ _ _ _ _ _ fC_2.out); have ud3 := ud2.setRowNew bC #[.bool false, .func (.func 67) #[] #[], .func (.func 70) #[] #[], .func (.func 71) #[] #[]]; rw [← hwx] at ud3 ⊢; clear hwx
            refine hK.out _ _ ?_ (fun hHeld => ?_)
            · exact HK.out _ ud3
            clear hK K
            try simp only [Act.put]
            refine tkY 9 hHeld ?_
            refine wpAnyH_done (by kernel_rfl) ?_ _
            refine NoPanic.normal ?_
            exact hJ bM gC wv3 fC_3 (Lib.hid ud3)
          exact AllReadyH.nil
        exact AllReadyH.nil
      exact AllReadyH.nil
    refine AllReadyH.cons (by simp only [List.getElem?_toArray, List.getElem?_cons_succ, List.getElem?_cons_zero] <;> rfl) (fun K hK => ?_) ?_
    · go_simp; obtain ⟨gC, wv1, hgx, hwx, fC_1, hq⟩ := alloc_letD w1 (.cells #[.bool false, .nilFunc, .nilFunc, .nilFunc] 88); rw [← hgx, ← hwx]; have bC : w1.heap.size ≤ gC := (by omega); have ud1 := hq; clear hgx hwx hq
      refine hK.out _ _ ?_ (fun hHeld => ?_)
      · exact HK.out _ ud1
      clear hK K
      try simp only [Act.put, List.setIfInBounds_toArray, List.set_cons_zero, List.set_cons_succ]
      refine wpAnyH_ready (rs := [0]) (by kernel_rfl) (by simp) ?_
      refine AllReadyH.cons (by simp only [List.getElem?_toArray, List.getElem?_cons_zero] <;> rfl) (fun K hK => ?_) ?_
      · go_simp; refine (courts_any _).mono ?_; rintro e wv2 ⟨bM, rfl, HMF, hq⟩; have ud2 := ud1.trans hq; have fC_2 := Lib.hid (row_updH fC_1.out hq); clear hq; have HM_2 := HMF; clear HMF; go_wp2_with fail
        refine hK.out _ _ ?_ (fun hHeld => ?_)
        · exact HK.out _ ud2
        clear hK K
        try simp only [Act.put, List.setIfInBounds_toArray, List.set_cons_zero, List.set_cons_succ]
        refine wpAnyH_ready (rs := [3]) (by kernel_rfl) (by simp) ?_
        refine AllReadyH.cons (by simp only [List.getElem?_toArray, List.getElem?_cons_succ, List.getElem?_cons_zero] <;> rfl) (fun K hK => ?_) ?_
        · have hlk := (HM_2.out.look_ok (x := 1) undC (zeroC wv2) (by omega)).trans (congrArg (fun z => Result.ok z wv2) (show _ = Value.tuple #[.agg #[.bool false, .func (.func 67) #[] #[], .func (.func 70) #[] #[], .func (.func 71) #[] #[]], .bool true] from rfl)); go_wp2_with fail; clear hlk HM_2
          refine hK.out _ _ ?_ (fun hHeld => ?_)
          · exact HK.out _ ud2
          clear hK K
          try simp only [Act.put, List.setIfInBounds_toArray, List.set_cons_zero, List.set_cons_succ]
          refine tkY 4 hHeld ?_
          refine tkY 5 hHeld ?_
          refine tkY 6 hHeld ?_
          refine wpAnyH_ready (rs := [8]) (by kernel_rfl) (by simp) ?_
          refine AllReadyH.cons (by simp only [List.getElem?_toArray, List.getElem?_cons_succ, List.getElem?_cons_zero] <;> rfl) (fun K hK => ?_) ?_
          · rw [if_pos (by rfl)]; refine wp_store_row 88 _ _ rfl gC #[.bool false, .func (.func 67) #[] #[], .func (.func 70) #[] #[], .func (.func 71) #[] #[]] rfl rfl _ _ fC_2.out HCI.out rfl (by simp [Value.oneCell']) ?_; obtain ⟨wv3, hwx⟩ : ∃ W' : World, W' = wv2.setRow gC #[.bool false, .func (.func 67) #[] #[], .func (.func 70) #[] #[], .func (.func 71) #[] #[]] := ⟨_, rfl⟩; have fC_3 : Hid (wv3.heap[gC]? = some (.cells #[.bool false, .func (.func 67) #[] #[], .func (.func 70) #[] #[], .func (.func 71) #[] #[]] 88 (0, 0))) := (by show _ = _; rw [hwx]; exact setRow_heap _ _ _ _ _ _ fC_2.out); have ud3 := ud2.setRowNew bC #[.bool false, .func (.func 67) #[] #[], .func (.func 70) #[] #[], .func (.func 71) #[] #[]]; rw [← hwx] at ud3 ⊢; clear hwx
            refine hK.out _ _ ?_ (fun hHeld => ?_)
            · exact HK.out _ ud3
            clear hK K
            try simp only [Act.put]
            refine tkY 9 hHeld ?_
            refine wpAnyH_done (by kernel_rfl) ?_ _
            refine NoPanic.normal ?_
            exact hJ bM gC wv3 fC_3 (Lib.hid ud3)
          exact AllReadyH.nil
        exact AllReadyH.nil
      exact AllReadyH.nil
    exact AllReadyH.nil
  intro bM gC w3 fC U3
  skip
  have HSL : Hid (∀ W, Upd [] [] w1 W → W.cell? ⟨gS, 0, none⟩ = some (.slice (some ⟨gM, 0, none⟩) 1 1)) := fun W u => cell_of_row _ gS 0 _ _ _ (row_updH HS.out u)
  have ck := cell_of_row _ gC 0 _ _ _ fC.out
  have cl := HSL.out w3 U3.out
  have cl0 : w3.cell? ⟨gS, 0, none⟩ = some (.slice (some ⟨gM, 0, none⟩) 1 1) := cell_of_row _ gS 0 _ _ _ (row_updH HS.out U3.out)
  have HIX := Lib.hid (idx_any who wt pub gM gE w3 (row_updH HM.out U3.out) (cell_of_row _ gE 1 _ _ _ (row_updH HE.out U3.out)))
  go_wp2_with fail
  refine HIX.out.mono ?_
  rintro e w4 ⟨rfl, hq⟩
  have U4 := Lib.hid (U3.out.trans hq)
  have fC4 := Lib.hid (row_updH fC.out hq)
  have HKB : Hid (∀ W, Upd [] [] w4 W → (Instr.loadAt 47 (.pointer (some ⟨gS, 0, none⟩))).run Tryz.prog W = .ok (.agg #[.slice (some ⟨gM, 0, none⟩) 1 1, .slice none 0 0, .slice none 0 0, .slice none 0 0, .int .i64 0, .int .i64 0]) W ∧ (Instr.loadAt 59 (.pointer (some ⟨gE, 0, none⟩))).run Tryz.prog W = .ok (.agg #[.int .i64 1, .int .i64 who, .int .i64 aw, .string aT, .int .i64 ar, .int .i64 as', .int .i64 bw, .string bT, .int .i64 br, .int .i64 bs', .int .i64 low, .int .i64 high, .string F, .string A, .string B, .int .i64 0, .int .i64 0, .int .i64 0, .int .i64 0]) W ∧ (Instr.loadAt 84 (.pointer (some ⟨gM, 0, none⟩))).run Tryz.prog W = .ok (.agg #[.int .i64 who, .int .i64 wt, .int .i64 pub]) W) := by
    intro W u
    have q := U4.out.trans u
    exact ⟨sup_load (l := (#[.slice (some ⟨gM, 0, none⟩) 1 1, .slice none 0 0, .slice none 0 0, .slice none 0 0, .int .i64 0, .int .i64 0]).toList) rfl (row_updH HS.out q), evd_load (row_updH HE.out q), mbr_load (row_updH HM.out q)⟩
  have ue0 : Upd [] [] w4 w4.drew := (Upd.refl _ _).drew
  have HMI : Hid ((Tryz.prog.info? 95).map (·.size) = some (mtL (.slice (some ⟨gM, 0, none⟩) 1 1) (.slice none 0 0) (.slice none 0 0) (.slice none 0 0) 1 who aw aT ar as' bw bT br bs' low high F A B who wt pub).toArray.size) := mtInfo rfl
  have HMO : Hid ((mtL (.slice (some ⟨gM, 0, none⟩) 1 1) (.slice none 0 0) (.slice none 0 0) (.slice none 0 0) 1 who aw aT ar as' bw bT br bs' low high F A B who wt pub).toArray.all (·.oneCell') = true) := by show _ = _; simp [mtL, Value.oneCell']
  clear hq HIX HSL ck cl cl0 fC U3
  go_upto_region 10 with (fail)
  refine @_root_.id ((∀ (gT : Nat) (W : World), Hid (W.heap[gT]? = some (.cells (mtL (.slice (some ⟨gM, 0, none⟩) 1 1) (.slice none 0 0) (.slice none 0 0) (.slice none 0 0) 1 who aw aT ar as' bw bT br bs' low high F A B who wt pub).toArray 95 (0, 0))) → Hid (Upd [] [] w4 W) → (?pj16 : Nat → World → Prop) gT W) → _) (fun hJ => ?mj16) ?jj16
  case mj16 =>
    refine wp_region_noPanic ?_
    refine wp_region_held_drew (S := fun wp => (Instr.loadAt 47 (.pointer (some ⟨gS, 0, none⟩))).run Tryz.prog wp = .ok (.agg #[.slice (some ⟨gM, 0, none⟩) 1 1, .slice none 0 0, .slice none 0 0, .slice none 0 0, .int .i64 0, .int .i64 0]) wp ∧ (Instr.loadAt 59 (.pointer (some ⟨gE, 0, none⟩))).run Tryz.prog wp = .ok (.agg #[.int .i64 1, .int .i64 who, .int .i64 aw, .string aT, .int .i64 ar, .int .i64 as', .int .i64 bw, .string bT, .int .i64 br, .int .i64 bs', .int .i64 low, .int .i64 high, .string F, .string A, .string B, .int .i64 0, .int .i64 0, .int .i64 0, .int .i64 0]) wp ∧ (Instr.loadAt 84 (.pointer (some ⟨gM, 0, none⟩))).run Tryz.prog wp = .ok (.agg #[.int .i64 who, .int .i64 wt, .int .i64 pub]) wp) (by kernel_rfl) ?_ (fun hHeld => ?_)
    · exact HKB.out _ ue0
    refine wpAnyH_take (i := 0) (v := .agg (#[.slice (some ⟨gM, 0, none⟩) 1 1, .slice none 0 0, .slice none 0 0, .slice none 0 0, .int .i64 0, .int .i64 0] : Array Value)) (by simp only [List.getElem?_toArray, List.getElem?_cons_zero] <;> rfl) (by kernel_rfl) (by kernel_rfl) (by kernel_rfl) (fun _ _ _ h => h) (yieldsIf_loadW (by rfl) _ _ rfl _ rfl (#[.slice (some ⟨gM, 0, none⟩) 1 1, .slice none 0 0, .slice none 0 0, .slice none 0 0, .int .i64 0, .int .i64 0] : Array Value) (fun w hSw => hSw.1)) hHeld ?_
    try simp only [Act.put, List.setIfInBounds_toArray, List.set_cons_zero, List.set_cons_succ]
    refine wpAnyH_take (i := 1) (v := .agg (#[.int .i64 1, .int .i64 who, .int .i64 aw, .string aT, .int .i64 ar, .int .i64 as', .int .i64 bw, .string bT, .int .i64 br, .int .i64 bs', .int .i64 low, .int .i64 high, .string F, .string A, .string B, .int .i64 0, .int .i64 0, .int .i64 0, .int .i64 0] : Array Value)) (by simp only [List.getElem?_toArray, List.getElem?_cons_succ, List.getElem?_cons_zero] <;> rfl) (by kernel_rfl) (by kernel_rfl) (by kernel_rfl) (fun _ _ _ h => h) (yieldsIf_loadW (by rfl) _ _ rfl _ rfl (#[.int .i64 1, .int .i64 who, .int .i64 aw, .string aT, .int .i64 ar, .int .i64 as', .int .i64 bw, .string bT, .int .i64 br, .int .i64 bs', .int .i64 low, .int .i64 high, .string F, .string A, .string B, .int .i64 0, .int .i64 0, .int .i64 0, .int .i64 0] : Array Value) (fun w hSw => hSw.2.1)) hHeld ?_
    try simp only [Act.put, List.setIfInBounds_toArray, List.set_cons_zero, List.set_cons_succ]
    refine tkY 2 hHeld ?_
    refine tkY 3 hHeld ?_
    refine tkY 4 hHeld ?_
    refine tkY 5 hHeld ?_
    refine wpAnyH_take (i := 6) (v := .agg (#[.int .i64 who, .int .i64 wt, .int .i64 pub] : Array Value)) (by simp only [List.getElem?_toArray, List.getElem?_cons_succ, List.getElem?_cons_zero] <;> rfl) (by kernel_rfl) (by kernel_rfl) (by kernel_rfl) (fun _ _ _ h => h) (yieldsIf_loadW (by rfl) _ _ rfl _ rfl (#[.int .i64 who, .int .i64 wt, .int .i64 pub] : Array Value) (fun w hSw => hSw.2.2)) hHeld ?_
    try simp only [Act.put, List.setIfInBounds_toArray, List.set_cons_zero, List.set_cons_succ]
    refine tkY 7 hHeld ?_
    refine wpAnyH_ready (rs := [8]) (by kernel_rfl) (by simp) ?_
    refine AllReadyH.cons (by simp only [List.getElem?_toArray, List.getElem?_cons_succ, List.getElem?_cons_zero] <;> rfl) (fun K hK => ?_) ?_
    · go_simp; obtain ⟨gT, wx1, hgx, hwx, fT_1, hq⟩ := alloc_letD w4 (.cells #[.slice none 0 0, .slice none 0 0, .slice none 0 0, .slice none 0 0, .int .i64 0, .int .i64 0, .int .i64 0, .int .i64 0, .int .i64 0, .string ⟨#[]⟩, .int .i64 0, .int .i64 0, .int .i64 0, .string ⟨#[]⟩, .int .i64 0, .int .i64 0, .int .i64 0, .int .i64 0, .string ⟨#[]⟩, .string ⟨#[]⟩, .string ⟨#[]⟩, .int .i64 0, .int .i64 0, .int .i64 0, .int .i64 0, .int .i64 0, .int .i64 0, .int .i64 0, .int .i64 0] 95); rw [← hgx, ← hwx]; have bT' : w4.heap.size ≤ gT := (by omega); have ue1 := hq; clear hgx hwx hq
      refine hK.out _ _ ?_ (fun hHeld => ?_)
      · exact HKB.out _ ue1
      clear hK K
      try simp only [Act.put, List.setIfInBounds_toArray, List.set_cons_zero, List.set_cons_succ]
      refine wpAnyH_ready (rs := [9]) (by kernel_rfl) (by simp) ?_
      refine AllReadyH.cons (by simp only [List.getElem?_toArray, List.getElem?_cons_succ, List.getElem?_cons_zero] <;> rfl) (fun K hK => ?_) ?_
      · rw [if_pos (by rfl)]; refine wp_store_row 95 _ _ rfl gT (mtL (.slice (some ⟨gM, 0, none⟩) 1 1) (.slice none 0 0) (.slice none 0 0) (.slice none 0 0) 1 who aw aT ar as' bw bT br bs' low high F A B who wt pub).toArray rfl rfl _ _ fT_1.out HMI.out rfl HMO.out ?_; obtain ⟨wx2, hwx⟩ : ∃ W' : World, W' = wx1.setRow gT (mtL (.slice (some ⟨gM, 0, none⟩) 1 1) (.slice none 0 0) (.slice none 0 0) (.slice none 0 0) 1 who aw aT ar as' bw bT br bs' low high F A B who wt pub).toArray := ⟨_, rfl⟩; have fT_2 : Hid (wx2.heap[gT]? = some (.cells (mtL (.slice (some ⟨gM, 0, none⟩) 1 1) (.slice none 0 0) (.slice none 0 0) (.slice none 0 0) 1 who aw aT ar as' bw bT br bs' low high F A B who wt pub).toArray 95 (0, 0))) := (by show _ = _; rw [hwx]; exact setRow_heap _ _ _ _ _ _ fT_1.out); have ue2 := ue1.setRowNew bT' (mtL (.slice (some ⟨gM, 0, none⟩) 1 1) (.slice none 0 0) (.slice none 0 0) (.slice none 0 0) 1 who aw aT ar as' bw bT br bs' low high F A B who wt pub).toArray; rw [← hwx] at ue2 ⊢; clear hwx
        refine hK.out _ _ ?_ (fun hHeld => ?_)
        · exact HKB.out _ ue2
        clear hK K
        try simp only [Act.put]
        refine wpAnyH_done (by kernel_rfl) ?_ _
        refine NoPanic.normal ?_
        exact hJ gT wx2 fT_2 (Lib.hid ue2)
      exact AllReadyH.nil
    exact AllReadyH.nil
  intro gT w5 fT V5
  skip
  have U5 := Lib.hid (U4.out.trans V5.out)
  have V0 := Lib.hid (show Upd [] [] w w5 from U1.out.trans U5.out)
  have HCC : Hid (∀ W, Upd [] [] w5 W → W.cell? ⟨gC, 1, none⟩ = some (.func (.func 67) #[] #[]) ∧ W.cell? ⟨gC, 2, none⟩ = some (.func (.func 70) #[] #[]) ∧ W.cell? ⟨gC, 3, none⟩ = some (.func (.func 71) #[] #[]) ∧ W.cell? ⟨gE, 1, none⟩ = some (.int .i64 who)) := by
    intro W u
    have q := row_updH (row_updH fC4.out V5.out) u
    exact ⟨cell_of_row _ gC 1 _ _ _ q, cell_of_row _ gC 2 _ _ _ q, cell_of_row _ gC 3 _ _ _ q, cell_of_row _ gE 1 _ _ _ (row_updH HE.out (U5.out.trans u))⟩
  obtain ⟨MT, hMT⟩ : ∃ MT, MT = (mtL (.slice (some ⟨gM, 0, none⟩) 1 1) (.slice none 0 0) (.slice none 0 0) (.slice none 0 0) 1 who aw aT ar as' bw bT br bs' low high F A B who wt pub).toArray := ⟨_, rfl⟩
  rw [← hMT] at fT HMI HF HG HP
  obtain ⟨x1, x2, x3, x4⟩ := HCC.out w5 (Upd.refl _ _)
  clear hMT HMO HKB ue0 HS HE HM fC4 U4 V5 U5
  go_wp2_with (first | (refine wpList_load_row rfl 95 _ rfl gT rfl _ MT _ _ fT.out Tryz.underlying95 rfl HMI.out ?_) | (go_at_fn 67))
  refine (HF.out w5 V0.out).mono ?_
  rintro e w6 ⟨rfl, hq⟩
  have V6 := Lib.hid (V0.out.trans hq)
  have X6 := Lib.hid hq
  have fT6 := Lib.hid (row_updH fT.out hq)
  obtain ⟨x1, x2, x3, x4⟩ := HCC.out w6 hq
  clear hq HF fT V0
  go_wp2_with (first | (refine wpList_load_row rfl 95 _ rfl gT rfl _ MT _ _ fT6.out Tryz.underlying95 rfl HMI.out ?_) | (go_at_fn 70))
  refine (HG.out w6 V6.out).mono ?_
  rintro e w7 ⟨rfl, hq⟩
  have V7 := Lib.hid (V6.out.trans hq)
  have X7 := Lib.hid (X6.out.trans hq)
  have fT7 := Lib.hid (row_updH fT6.out hq)
  obtain ⟨x1, x2, x3, x4⟩ := HCC.out w7 X7.out
  clear hq HG fT6 V6 X6
  cases g with
  | false =>
    go_wp2_with fail
    go_ret2
    exact ⟨rfl, V7.out⟩
  | true =>
    go_wp2_with (first | (refine wpList_load_row rfl 95 _ rfl gT rfl _ MT _ _ fT7.out Tryz.underlying95 rfl HMI.out ?_) | (go_at_fn 71))
    refine (HP.out w7 V7.out).mono ?_
    rintro e w8 ⟨rfl, hq⟩
    have V8 := Lib.hid (V7.out.trans hq)
    obtain ⟨x1, x2, x3, x4⟩ := HCC.out w8 (X7.out.trans hq)
    clear hq HP fT7 V7 X7
    cases p with
    | false =>
      go_wp2_with fail
      go_ret2
      exact ⟨rfl, V8.out⟩
    | true =>
      go_wp2_with fail
      go_ret2
      exact ⟨rfl, V8.out⟩
end Go.Proofs.YtcimcodljjcmgaaGreatDoor
