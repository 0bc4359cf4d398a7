/- court.Claim at small numbers; the form of a false end. The proof of a false end; sign.Vote. court.Judge: the accused in a list of one. -/
import Derived.Test.YtcimcodljjcmgaaGreatDoorGAA
import Derived.Test.YtcimcodljjcmgaaGreatDoorGBL
namespace Go.Proofs.YtcimcodljjcmgaaGreatDoor
open Go.RowKit
set_option maxRecDepth 100000

def wClaim : List UInt8 := [99, 108, 97, 105, 109]
def claimL (d : Nat) : List UInt8 := wClaim ++ [32, 55, 32, 56, 32, 51, 32] ++ Lib.itoa (d : Int)
theorem itoa_7 : Lib.itoa 7 = [55] := itoa_d 7 (by omega)
theorem itoa_8 : Lib.itoa 8 = [56] := itoa_d 8 (by omega)
theorem claim_join (d : Nat) : Lib.join [wClaim, [55], [56], [51], Lib.itoa (d : Int)] [32] = claimL d := by
  simp [Lib.join, List.intercalate_cons_cons, claimL, wClaim]
theorem claimL_len (d : Nat) (h : d < 1000000000) : (claimL d).length ≤ 40 := by
  have := itoa_len (d : Int) (by unfold i64in; omega)
  simp [claimL, wClaim]
  omega
def dspV (F A B : ByteArray) : Array Value := #[.int .i64 7, .int .i64 8, .string F, .string A, .string B]
set_option maxHeartbeats 4000000 in
theorem claim_any (F A B : ByteArray) (d : Nat) (hF : bs F = be 3) (hA : bs A = be d) (h0 : 0 < d) (hd : d < 1000000000) (w : World) (htab : Tabs w) : Calls Tryz.prog 10 #[.agg (dspV F A B)] w (MkS (claimL d) w) := by
  obtain ⟨g, hg⟩ : ∃ g, w.heap.size = g := ⟨_, rfl⟩
  obtain ⟨w0, hw0⟩ : ∃ W, w.alloc (.cells (dspV F A B) 38) = W := ⟨_, rfl⟩
  have r0 : w0.heap[g]? = some (.cells (dspV F A B) 38 (0, 0)) := by rw [← hg, ← hw0]; exact heap_alloc_new _ _
  have HU0 := Lib.hid (show Upd [] [] w w0 by rw [← hw0]; exact (Upd.refl _ _).alloc _)
  have HK : Hid (∀ W, Upd [] [] w0 W → W.cell? ⟨g, 0, none⟩ = some (.int .i64 7) ∧ W.cell? ⟨g, 1, none⟩ = some (.int .i64 8) ∧ W.cell? ⟨g, 2, none⟩ = some (.string F) ∧ W.cell? ⟨g, 3, none⟩ = some (.string A)) := by
    intro W u
    have q := row_updH r0 u
    exact ⟨cell_of_row _ g 0 _ _ _ q, cell_of_row _ g 1 _ _ _ q, cell_of_row _ g 2 _ _ _ q, cell_of_row _ g 3 _ _ _ q⟩
  have ud0 : Upd [] [] w0 w0.drew := (Upd.refl _ _).drew
  have HDL := Lib.hid (claimL_len d hd)
  have HFA := Lib.hid (And.intro hF hA)
  clear r0 hF hA
  go_enter Tryz.func10, Tryz.ntmps10
  go_upto_region 1 with (fail)
  refine wp_region_noPanic ?_
  refine wp_region_held_drew (S := fun wp => wp.cell? ⟨g, 0, none⟩ = some (.int .i64 7) ∧ wp.cell? ⟨g, 1, none⟩ = some (.int .i64 8) ∧ wp.cell? ⟨g, 2, none⟩ = some (.string F) ∧ wp.cell? ⟨g, 3, none⟩ = some (.string A)) (by kernel_rfl) ?_ (fun hHeld => ?_)
  · exact HK.out _ ud0
  refine tkY 0 hHeld ?_
  refine tkY 1 hHeld ?_
  refine tkY 3 hHeld ?_
  refine tkY 4 hHeld ?_
  refine tkY 6 hHeld ?_
  refine tkY 7 hHeld ?_
  refine tkY 9 hHeld ?_
  refine tkY 10 hHeld ?_
  refine wpAnyH_ready (rs := [2]) (by kernel_rfl) (by simp) ?_
  refine AllReadyH.cons (by simp only [List.getElem?_toArray, List.getElem?_cons_succ, List.getElem?_cons_zero] <;> rfl) (fun K hK => ?_) ?_
  · go_simp; refine (itoa_is 7 ⟨#[55]⟩ itoa_7 (by unfold i64in; omega) _ (htab.upd (HU0.out.trans ud0))).mono ?_; rintro e wv1 ⟨rfl, hq⟩; have ud1 := ud0.trans hq; clear hq; go_wp2_with fail
    refine hK.out _ _ ?_ (fun hHeld => ?_)
    · exact HK.out _ ud1
    clear hK K
    try simp only [Act.put, List.setIfInBounds_toArray, List.set_cons_zero, List.set_cons_succ]
    refine wpAnyH_ready (rs := [5]) (by kernel_rfl) (by simp) ?_
    refine AllReadyH.cons (by simp only [List.getElem?_toArray, List.getElem?_cons_succ, List.getElem?_cons_zero] <;> rfl) (fun K hK => ?_) ?_
    · go_simp; refine (itoa_is 8 ⟨#[56]⟩ itoa_8 (by unfold i64in; omega) _ (htab.upd (HU0.out.trans ud1))).mono ?_; rintro e wv2 ⟨rfl, hq⟩; have ud2 := ud1.trans hq; clear hq; go_wp2_with fail
      refine hK.out _ _ ?_ (fun hHeld => ?_)
      · exact HK.out _ ud2
      clear hK K
      try simp only [Act.put, List.setIfInBounds_toArray, List.set_cons_zero, List.set_cons_succ]
      refine wpAnyH_ready (rs := [8]) (by kernel_rfl) (by simp) ?_
      refine AllReadyH.cons (by simp only [List.getElem?_toArray, List.getElem?_cons_succ, List.getElem?_cons_zero] <;> rfl) (fun K hK => ?_) ?_
      · go_simp; refine (natText_one F 3 HFA.out.1 (by omega) (by omega) _ (htab.upd (HU0.out.trans ud2))).mono ?_; rintro e wv3 ⟨y3, HY3, _, rfl, hq⟩; have ud3 := ud2.trans hq; clear hq; go_wp2_with fail
        refine hK.out _ _ ?_ (fun hHeld => ?_)
        · exact HK.out _ ud3
        clear hK K
        try simp only [Act.put, List.setIfInBounds_toArray, List.set_cons_zero, List.set_cons_succ]
        refine wpAnyH_ready (rs := [11]) (by kernel_rfl) (by simp) ?_
        refine AllReadyH.cons (by simp only [List.getElem?_toArray, List.getElem?_cons_succ, List.getElem?_cons_zero] <;> rfl) (fun K hK => ?_) ?_
        · go_simp; refine (natText_one A d HFA.out.2 h0 hd _ (htab.upd (HU0.out.trans ud3))).mono ?_; rintro e wv4 ⟨y4, HY4, _, rfl, hq⟩; have ud4 := ud3.trans hq; clear hq; go_wp2_with fail
          refine hK.out _ _ ?_ (fun hHeld => ?_)
          · exact HK.out _ ud4
          clear hK K
          try simp only [Act.put, List.setIfInBounds_toArray, List.set_cons_zero, List.set_cons_succ]
          refine wpAnyH_ready (rs := [12]) (by kernel_rfl) (by simp) ?_
          refine AllReadyH.cons (by simp only [List.getElem?_toArray, List.getElem?_cons_succ, List.getElem?_cons_zero] <;> rfl) (fun K hK => ?_) ?_
          · go_simp
            refine hK.out _ _ ?_ (fun hHeld => ?_)
            · exact HK.out _ (ud4.alloc _)
            clear hK K
            try simp only [Act.put, List.setIfInBounds_toArray, List.set_cons_zero, List.set_cons_succ]
            refine tkY 13 hHeld ?_
            refine wpAnyH_done (by kernel_rfl) ?_ _
            refine NoPanic.normal ?_
            go_wp2_with fail
            have hXS := strsIn_new wv4 [⟨#[99, 108, 97, 105, 109]⟩, ⟨#[55]⟩, ⟨#[56]⟩, y3, y4] 9
            have hjoin : Lib.join (([⟨#[99, 108, 97, 105, 109]⟩, ⟨#[55]⟩, ⟨#[56]⟩, y3, y4] : List ByteArray).map bs) [32] = claimL d := by
              rw [← claim_join d, ← HY4.out, show ([51] : List UInt8) = bs y3 from (HY3.out.trans itoa_3).symm]
              rfl
            have hj := Tryz.strings_Join wv4.heap.size 0 5 [⟨#[99, 108, 97, 105, 109]⟩, ⟨#[55]⟩, ⟨#[56]⟩, y3, y4] ⟨#[32]⟩ _ hXS.2 hXS.1 (by simp) (by simp) (by
              show (Lib.join (_) [32]).length ≤ _
              have e := congrArg List.length hjoin
              exact Nat.le_trans (Nat.le_of_eq e) (by have := HDL.out; omega))
            refine hj.mono ?_
            rintro e w9 ⟨rfl, hb⟩
            have hu := upd_of_below hb
            obtain ⟨T, hT⟩ : ∃ T : ByteArray, T = ⟨(Lib.join (([⟨#[99, 108, 97, 105, 109]⟩, ⟨#[55]⟩, ⟨#[56]⟩, y3, y4] : List ByteArray).map (·.data.toList)) (⟨#[32]⟩ : ByteArray).data.toList).toArray⟩ := ⟨_, rfl⟩
            rw [← hT]
            have HB : Hid (bs T = claimL d) := by
              show _ = _
              rw [hT, bs_mk]
              exact hjoin
            have HU := Lib.hid ((HU0.out.trans (ud4.alloc _)).trans hu)
            clear hj hXS hjoin hb hu hT
            go_wp2_with fail
            go_ret
            exact ⟨T, HB, by rw [← HB.out, bs_length]; exact Nat.le_refl _, rfl, HU.out⟩
          exact AllReadyH.nil
        exact AllReadyH.nil
      exact AllReadyH.nil
    exact AllReadyH.nil
  exact AllReadyH.nil
section
variable {M : Array Value} {aw ar as' bw br bs' low high id pub : Int} {aT bT F A B : ByteArray}
theorem form_any (h : MtIs M aw aT ar as' bw bT br bs' 7 8 F A B id pub) (d : Nat) (hF : bs F = be 3) (hA : bs A = be d) (h0 : 0 < d) (hd : d < 1000000000) (hT : bs aT = claimL d) (w : World) (htab : Tabs w) :
    Calls Tryz.prog 74 #[.agg M] w (Mk (.bool true) w) := by
  obtain ⟨g, hg⟩ : ∃ g, w.heap.size = g := ⟨_, rfl⟩
  obtain ⟨w0, hw0⟩ : ∃ W, w.alloc (.cells M 95) = W := ⟨_, rfl⟩
  have r0 : w0.heap[g]? = some (.cells M 95 (0, 0)) := by rw [← hg, ← hw0]; exact heap_alloc_new _ _
  have HU0 := Lib.hid (show Upd [] [] w w0 by rw [← hw0]; exact (Upd.refl _ _).alloc _)
  have HK : Hid (∀ W, Upd [] [] w0 W → W.cell? ⟨g, 9, none⟩ = some (.string aT) ∧ (Instr.loadAt 38 (.pointer (some ⟨g, 16, none⟩))).run Tryz.prog W = .ok (.agg (dspV F A B)) W) := by
    intro W u
    have q := row_updH r0 u
    refine ⟨(cell_of_row _ g 9 _ _ _ q).trans h.a1, run_loadAt_mid W g 16 38 [.int .i64 7, .int .i64 8, .string F, .string A, .string B] _ (fun j v hv => ?_) Tryz.underlying38 rfl (by kernel_rfl)⟩
    match j, hv with
    | 0, hv => simp at hv; subst hv; exact (cell_of_row _ g 16 _ _ _ q).trans h.d0
    | 1, hv => simp at hv; subst hv; exact (cell_of_row _ g 17 _ _ _ q).trans h.d1
    | 2, hv => simp at hv; subst hv; exact (cell_of_row _ g 18 _ _ _ q).trans h.d2
    | 3, hv => simp at hv; subst hv; exact (cell_of_row _ g 19 _ _ _ q).trans h.d3
    | 4, hv => simp at hv; subst hv; exact (cell_of_row _ g 20 _ _ _ q).trans h.d4
  have ud0 : Upd [] [] w0 w0.drew := (Upd.refl _ _).drew
  have HFA := Lib.hid (And.intro hF hA)
  have HT := Lib.hid hT
  clear h r0 hF hA hT
  go_enter Tryz.func74, Tryz.ntmps74
  go_upto_region 1 with (fail)
  refine wp_region_noPanic ?_
  refine wp_region_held_drew (S := fun wp => wp.cell? ⟨g, 9, none⟩ = some (.string aT) ∧ (Instr.loadAt 38 (.pointer (some ⟨g, 16, none⟩))).run Tryz.prog wp = .ok (.agg (dspV F A B)) wp) (by kernel_rfl) ?_ (fun hHeld => ?_)
  · exact HK.out _ ud0
  refine tkY 0 hHeld ?_
  refine tkY 1 hHeld ?_
  refine tkY 2 hHeld ?_
  refine tkY 3 hHeld ?_
  refine tkY 4 hHeld ?_
  refine tkY 5 hHeld ?_
  refine wpAnyH_take (i := 6) (v := .agg (dspV F A B)) (by simp only [List.getElem?_toArray, List.getElem?_cons_succ, List.getElem?_cons_zero] <;> rfl) (by kernel_rfl) (by kernel_rfl) (by kernel_rfl) (fun _ _ _ h => h) (yieldsIf_loadW (by rfl) _ _ rfl _ rfl (dspV F A B) (fun w hSw => hSw.2)) hHeld ?_
  try simp only [Act.put, List.setIfInBounds_toArray, List.set_cons_zero, List.set_cons_succ]
  refine wpAnyH_ready (rs := [7]) (by kernel_rfl) (by simp) ?_
  refine AllReadyH.cons (by simp only [List.getElem?_toArray, List.getElem?_cons_succ, List.getElem?_cons_zero] <;> rfl) (fun K hK => ?_) ?_
  · go_simp; refine (claim_any F A B d HFA.out.1 HFA.out.2 h0 hd _ (htab.upd (HU0.out.trans ud0))).mono ?_; rintro e wv1 ⟨y, HY, _, rfl, hq⟩; obtain rfl : y = aT := (bs_inj (HY.out.trans HT.out.symm)); have ud1 := ud0.trans hq; clear hq; go_wp2_with fail
    refine hK.out _ _ ?_ (fun hHeld => ?_)
    · exact HK.out _ ud1
    clear hK K
    try simp only [Act.put, List.setIfInBounds_toArray, List.set_cons_zero, List.set_cons_succ]
    refine tkY 8 hHeld ?_
    refine tkY 9 hHeld ?_
    refine wpAnyH_done (by kernel_rfl) ?_ _
    refine NoPanic.normal ?_
    go_wp2_with fail
    go_ret
    exact ⟨rfl, HU0.out.trans ud1⟩
  exact AllReadyH.nil
end
end Go.Proofs.YtcimcodljjcmgaaGreatDoor

namespace Go.Proofs.YtcimcodljjcmgaaGreatDoor
open Go.RowKit
set_option maxRecDepth 100000

theorem dspInfo (F A B : ByteArray) : (Tryz.prog.info? 38).map (·.size) = some (dspV F A B).size := by
  show _ = some 5
  kernel_rfl
theorem dspOne (F A B : ByteArray) : (dspV F A B).all (·.oneCell') = true := by simp [dspV, Value.oneCell']
section
variable {M : Array Value} {aw ar as' bw br bs' low high id pub : Int} {aT bT F A B : ByteArray}
set_option maxHeartbeats 4000000 in
theorem falseEnd_any (h : MtIs M aw aT ar as' bw bT br bs' 7 8 F A B id pub) (q : Bool) (z : Int) (hq : (z != 0) = q) (w : World)
    (hF : bs F = be 3) (hC : ∀ (y : ByteArray) (W : World), bs y = be 9 → Calls Tryz.prog 128 #[.string y, .string A] W (MkInt z W)) :
    Calls Tryz.prog 75 #[.agg M] w (Mk (.bool q) w) := by
  obtain ⟨g, hg⟩ : ∃ g, w.heap.size = g := ⟨_, rfl⟩
  obtain ⟨w0, hw0⟩ : ∃ W, w.alloc (.cells M 95) = W := ⟨_, rfl⟩
  have r0 : w0.heap[g]? = some (.cells M 95 (0, 0)) := by rw [← hg, ← hw0]; exact heap_alloc_new _ _
  have HU0 := Lib.hid (show Upd [] [] w w0 by rw [← hw0]; exact (Upd.refl _ _).alloc _)
  have HL : Hid (∀ W, W.heap[g]? = some (.cells M 95 (0, 0)) → (Instr.loadAt 38 (.pointer (some ⟨g, 16, none⟩))).run Tryz.prog W = .ok (.agg (dspV F A B)) W) := by
    intro W q
    refine run_loadAt_mid W g 16 38 [.int .i64 7, .int .i64 8, .string F, .string A, .string B] _ (fun j v hv => ?_) Tryz.underlying38 rfl (by kernel_rfl)
    match j, hv with
    | 0, hv => simp at hv; subst hv; exact (cell_of_row _ g 16 _ _ _ q).trans h.d0
    | 1, hv => simp at hv; subst hv; exact (cell_of_row _ g 17 _ _ _ q).trans h.d1
    | 2, hv => simp at hv; subst hv; exact (cell_of_row _ g 18 _ _ _ q).trans h.d2
    | 3, hv => simp at hv; subst hv; exact (cell_of_row _ g 19 _ _ _ q).trans h.d3
    | 4, hv => simp at hv; subst hv; exact (cell_of_row _ g 20 _ _ _ q).trans h.d4
  obtain ⟨w1, Z1, W1, R1, hq1⟩ := blk_new w0 38 #[.int .i64 0, .int .i64 0, .string ⟨#[]⟩, .string ⟨#[]⟩, .string ⟨#[]⟩] (dspV F A B)
  obtain ⟨gD, hgD⟩ : ∃ g, w0.heap.size = g := ⟨_, rfl⟩
  rw [hgD] at Z1 W1 R1
  have HLD0 : Hid ((Instr.loadAt 38 (.pointer (some ⟨g, 16, none⟩))).run Tryz.prog (w0.alloc (.cells #[.int .i64 0, .int .i64 0, .string ⟨#[]⟩, .string ⟨#[]⟩, .string ⟨#[]⟩] 38)) = .ok (.agg (dspV F A B)) _) := HL.out _ (row_updH r0 ((Upd.refl _ _).alloc _))
  have HLD1 : Hid ((Instr.loadAt 38 (.pointer (some ⟨g, 16, none⟩))).run Tryz.prog w0 = .ok (.agg (dspV F A B)) w0) := HL.out _ r0
  have U1 := Lib.hid (HU0.out.trans hq1)
  have HDI := Lib.hid (dspInfo F A B)
  have HDO := Lib.hid (dspOne F A B)
  have k0 := (cell_of_row _ gD 0 _ _ _ R1.out).trans (show _ = some (Value.int .i64 7) from rfl)
  have k1 := (cell_of_row _ gD 1 _ _ _ R1.out).trans (show _ = some (Value.int .i64 8) from rfl)
  have HK : Hid (∀ W, Upd [] [] w1 W → W.cell? ⟨gD, 2, none⟩ = some (.string F) ∧ W.cell? ⟨gD, 3, none⟩ = some (.string A)) := by
    intro W u
    have q := row_updH R1.out u
    exact ⟨cell_of_row _ gD 2 _ _ _ q, cell_of_row _ gD 3 _ _ _ q⟩
  have ud0 : Upd [] [] w1 w1.drew := (Upd.refl _ _).drew
  have HF := Lib.hid hF
  have HC := Lib.hid hC
  have HQ := Lib.hid hq
  obtain ⟨D, hD⟩ : ∃ D, D = dspV F A B := ⟨_, rfl⟩
  have HDZ : Hid ((#[.int .i64 0, .int .i64 0, .string ⟨#[]⟩, .string ⟨#[]⟩, .string ⟨#[]⟩] : Array Value).size = D.size) := by rw [hD]; rfl
  rw [← hD] at W1 HDI HDO HLD0 HLD1
  clear h r0 hF hC HL hq1 hq hD
  go_enter Tryz.func75, Tryz.ntmps75
  go_upto_region 4 with (first | (refine wpList_load_atW (by rfl) 38 _ rfl g 16 rfl D HLD0.out ?_) | (refine wpList_load_atW (by rfl) 38 _ rfl g 16 rfl D HLD1.out ?_) | (refine wpList_store_rowAs rfl 38 _ _ rfl gD D rfl rfl _ _ Z1.out HDI.out HDZ.out HDO.out w1 W1.out ?_))
  refine wp_region_noPanic ?_
  refine wp_region_held_drew (S := fun wp => wp.cell? ⟨gD, 2, none⟩ = some (.string F) ∧ wp.cell? ⟨gD, 3, none⟩ = some (.string A)) (by kernel_rfl) ?_ (fun hHeld => ?_)
  · exact HK.out _ ud0
  refine tkY 0 hHeld ?_
  refine tkY 1 hHeld ?_
  refine tkY 3 hHeld ?_
  refine tkY 4 hHeld ?_
  refine wpAnyH_ready (rs := [2]) (by kernel_rfl) (by simp) ?_
  refine AllReadyH.cons (by simp only [List.getElem?_toArray, List.getElem?_cons_succ, List.getElem?_cons_zero] <;> rfl) (fun K hK => ?_) ?_
  · go_simp; refine (square3 F HF.out _).mono ?_; rintro e wv1 ⟨y, HY, rfl, hq⟩; have ud1 := ud0.trans hq; clear hq; go_wp2_with fail
    refine hK.out _ _ ?_ (fun hHeld => ?_)
    · exact HK.out _ ud1
    clear hK K
    try simp only [Act.put, List.setIfInBounds_toArray, List.set_cons_zero, List.set_cons_succ]
    refine wpAnyH_ready (rs := [5]) (by kernel_rfl) (by simp) ?_
    refine AllReadyH.cons (by simp only [List.getElem?_toArray, List.getElem?_cons_succ, List.getElem?_cons_zero] <;> rfl) (fun K hK => ?_) ?_
    · go_simp; refine (HC.out y _ HY.out).mono ?_; rintro e wv2 ⟨rfl, hq⟩; have ud2 := ud1.trans hq; clear hq; go_wp2_with fail
      refine hK.out _ _ ?_ (fun hHeld => ?_)
      · exact HK.out _ ud2
      clear hK K
      try simp only [Act.put, List.setIfInBounds_toArray, List.set_cons_zero, List.set_cons_succ]
      refine tkY 6 hHeld ?_
      refine tkY 7 hHeld ?_
      refine wpAnyH_done (by kernel_rfl) ?_ _
      refine NoPanic.normal ?_
      go_wp2_with fail
      go_ret
      first | exact ⟨rfl, U1.out.trans ud2⟩ | exact ⟨by show Ending.returned (.bool (z != 0)) = _; rw [HQ.out], U1.out.trans ud2⟩
    exact AllReadyH.nil
  exact AllReadyH.nil
end
def MkVt (who : Int) (x : Nat) (T : ByteArray) (w : World) (e : Ending) (w' : World) : Prop :=
  ∃ a b : Nat, Hid (a = gP (nonceN x (bs T))) ∧ Hid (b = sWith x (nonceN x (bs T)) (bs T)) ∧ a < 2305843009213691579 ∧ b < 1152921504606845789 ∧ e = .returned (.agg #[.int .i64 who, .string T, .int .i64 (a : Int), .int .i64 (b : Int)]) ∧ Upd [] [] w w'
theorem signVote_any (x : Nat) (hx : x < 1152921504606845789) (T : ByteArray) (hT : T.size ≤ 140737488355000) (w : World) (htab : Tabs w) : Calls Tryz.prog 16 #[.int .i64 3, .int .i64 (x : Int), .string T] w (MkVt 3 x T w) := by
  obtain ⟨gR, hgR⟩ : ∃ g, w.heap.size = g := ⟨_, rfl⟩
  obtain ⟨w1, hw1⟩ : ∃ W, w.alloc (.cells #[.int .i64 0, .string ⟨#[]⟩, .int .i64 0, .int .i64 0] 52) = W := ⟨_, rfl⟩
  have r1 := Lib.hid (show w1.heap[gR]? = some (.cells #[.int .i64 0, .string ⟨#[]⟩, .int .i64 0, .int .i64 0] 52 (0, 0)) by rw [← hgR, ← hw1]; exact heap_alloc_new _ _)
  have U1 := Lib.hid (show Upd [] [] w w1 by rw [← hw1]; exact (Upd.refl _ _).alloc _)
  have HG : Hid (w.heap.size ≤ gR) := Nat.le_of_eq hgR
  go_enter Tryz.func16, Tryz.ntmps16
  go_wp2_with fail
  refine (sign_any (x : Int) T w1 ⟨by omega, by omega⟩ hT (htab.upd U1.out)).mono ?_
  rintro e w2 ⟨a, b, HA, HB, ha, hb, rfl, hq⟩
  rw [show expN (x : Int) = x from expN_of hx] at HA HB
  have r2 := Lib.hid (row_updH r1.out hq)
  have U2 := Lib.hid (U1.out.trans hq)
  have hvi := Lib.hid (voteInfo T (a : Int) (b : Int))
  obtain ⟨V, hV⟩ : ∃ V, V = voteV T (a : Int) (b : Int) := ⟨_, rfl⟩
  obtain ⟨w3, hw3⟩ : ∃ W, w2.setRow gR (voteV T (a : Int) (b : Int)) = W := ⟨_, rfl⟩
  have r3 : (w2.setRow gR (voteV T (a : Int) (b : Int))).heap[gR]? = some (.cells (voteV T (a : Int) (b : Int)) 52 (0, 0)) := setRow_heap _ _ _ _ _ _ r2.out
  have U3 := U2.out.setRowNew HG.out (voteV T (a : Int) (b : Int))
  rw [hw3] at r3 U3
  have HW3 := Lib.hid hw3
  have R3 := Lib.hid r3
  have HU3 := Lib.hid U3
  clear hq r1 hw3 r3 U3 hV
  go_wp2_with (first | (refine wpList_store_rowAs rfl 52 _ _ rfl gR (voteV T (a : Int) (b : Int)) rfl rfl _ _ r2.out hvi.out rfl (voteOne _ _ _) w3 HW3.out ?_))
  refine bodyPost_ret (results_cell_row rfl _ _ gR _ (voteV T (a : Int) (b : Int)) _ _ rfl R3.out Tryz.underlying52 rfl hvi.out) rfl ⟨a, b, HA, HB, ha, hb, rfl, HU3.out⟩
end Go.Proofs.YtcimcodljjcmgaaGreatDoor

namespace Go.Proofs.YtcimcodljjcmgaaGreatDoor
open Go.RowKit
set_option maxRecDepth 100000

def mbrV (id wt pub : Int) : Array Value := #[.int .i64 id, .int .i64 wt, .int .i64 pub]
theorem judge1_any (id wt pub : Int) (gE : Nat) (w : World) (hE : w.cell? ⟨gE, 1, none⟩ = some (.int .i64 id)) : Calls Tryz.prog 35 #[.agg (mbrV id wt pub), .pointer (some ⟨gE, 0, none⟩)] w (Mk (.bool true) w) := by
  obtain ⟨g, hg⟩ : ∃ g, w.heap.size = g := ⟨_, rfl⟩
  obtain ⟨w0, hw0⟩ : ∃ W, w.alloc (.cells (mbrV id wt pub) 84) = W := ⟨_, rfl⟩
  have r0 : w0.heap[g]? = some (.cells (mbrV id wt pub) 84 (0, 0)) := by rw [← hg, ← hw0]; exact heap_alloc_new _ _
  have u0 : Upd [] [] w w0 := by rw [← hw0]; exact (Upd.refl _ _).alloc _
  have U0 := Lib.hid u0
  have c0 := (cell_of_row _ g 0 _ _ _ r0).trans (show _ = some (Value.int .i64 id) from rfl)
  have c1 : w0.cell? ⟨gE, 1, none⟩ = some (.int .i64 id) := (u0.cell (World.block_lt_of_cell? _ _ hE) (by simp)).trans hE
  clear r0 u0 hE
  go_enter Tryz.func35, Tryz.ntmps35
  go_wp2_with fail
  go_ret
  exact ⟨rfl, U0.out⟩
theorem idx_any (id wt pub : Int) (gM gE : Nat) (w : World) (hM : w.heap[gM]? = some (.cells (mbrV id wt pub) 84 (0, 0))) (hE : w.cell? ⟨gE, 1, none⟩ = some (.int .i64 id)) :
    Calls Tryz.prog 34 #[.slice (some ⟨gM, 0, none⟩) 1 1, .func (.func 35) #[] #[.pointer (some ⟨gE, 0, none⟩)]] w (Mk (.int .i64 0) w) := by
  have HJ := Lib.hid (judge1_any id wt pub gE w hE)
  have HI : Hid ((Tryz.prog.info? 84).map (·.size) = some (mbrV id wt pub).size) := by show _ = some 3; kernel_rfl
  obtain ⟨MB, hMB⟩ : ∃ MB, MB = mbrV id wt pub := ⟨_, rfl⟩
  rw [← hMB] at HJ HI hM
  have HM := Lib.hid hM
  clear hM hE hMB
  go_enter Tryz.func34, Tryz.ntmps34
  go_wp2_with fail
  refine wp_loop_rounds 2 ?_
  rw [rounds_succ]
  go_wp2_with (first | (refine wpList_load_row rfl 84 _ rfl gM rfl _ MB _ _ HM.out Tryz.underlying84 rfl HI.out ?_) | (go_at_fn 35))
  refine HJ.out.mono ?_
  rintro e w1 ⟨rfl, hq⟩
  have U := Lib.hid hq
  clear hq
  go_wp2_with fail
  go_ret
  exact ⟨rfl, U.out⟩
end Go.Proofs.YtcimcodljjcmgaaGreatDoor
