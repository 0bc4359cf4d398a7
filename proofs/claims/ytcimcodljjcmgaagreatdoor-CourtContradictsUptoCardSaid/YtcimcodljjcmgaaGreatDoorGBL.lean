/- court.courts' closures for both votes and for contradictions; court.Claim; false ends. court.Claim and sortesref33.Claim at any numbers. What the law CourtContradicts needs beside its functions: rests, bits, events of two or three fields. -/
import Derived.Test.YtcimcodljjcmgaaGreatDoorGBK
import Derived.Test.YtcimcodljjcmgaaGreatDoorGAA
import Derived.Test.YtcimcodljjcmgaaGreatDoorGAY
import Derived.Test.YtcimcodljjcmgaaGreatDoorGBH
namespace Go.Proofs.YtcimcodljjcmgaaGreatDoor
open Go.RowKit
set_option maxRecDepth 100000

section
variable {M : Array Value} {aw ar as' bw br bs' low high id pub : Int} {aT bT F A B : ByteArray}
theorem mat_load {M : Array Value} {g : Nat} {W : World} (hs : M.size = 29) (h : W.heap[g]? = some (.cells M 95 (0, 0))) : (Instr.loadAt 95 (.pointer (some ⟨g, 0, none⟩))).run Tryz.prog W = .ok (.agg M) W := by
  have hi : (Tryz.prog.info? 95).map (·.size) = some M.toList.length := by rw [Array.length_toList]; exact mtInfo hs
  exact run_loadAt_mid W g 0 95 M.toList _ (row_range (by simp) h) Tryz.underlying95 rfl hi
set_option maxHeartbeats 4000000 in
theorem both_any (h : MtIs M aw aT ar as' bw bT br bs' low high F A B id pub) (hp : i64in pub) (hr : i64in ar) (hs : i64in as') (ht : aT.size ≤ 140737488355000) (hr2 : i64in br) (hs2 : i64in bs') (ht2 : bT.size ≤ 140737488355000) (w : World) (htab : Tabs w) :
    Calls Tryz.prog 70 #[.agg M] w (MkB ((decide (aw = id) && verB pub (bs aT) ar as') && (decide (bw = id) && verB pub (bs bT) br bs')) w) := by
  obtain ⟨g, hg⟩ : ∃ g, w.heap.size = g := ⟨_, rfl⟩
  obtain ⟨w0, hw0⟩ : ∃ W, w.alloc (.cells M 95) = W := ⟨_, rfl⟩
  have r0 := Lib.hid (show w0.heap[g]? = some (.cells M 95 (0, 0)) by rw [← hg, ← hw0]; exact heap_alloc_new _ _)
  have u0 := Lib.hid (show Upd [] [] w w0 by rw [← hw0]; exact (Upd.refl _ _).alloc _)
  have HT := Lib.hid (theirs_any h aw ar as' aT hp hr hs ht w0 (htab.upd u0.out))
  have HT2 := Lib.hid (fun W (u : Upd [] [] w W) => theirs_any h bw br bs' bT hp hr2 hs2 ht2 W (htab.upd u))
  have HI := Lib.hid (mtInfo h.sz)
  have HS := Lib.hid h.sz
  have HC : Hid (∀ W, Upd [] [] w0 W → W.cell? ⟨g, 12, none⟩ = some (.int .i64 bw) ∧ W.cell? ⟨g, 13, none⟩ = some (.string bT) ∧ W.cell? ⟨g, 14, none⟩ = some (.int .i64 br) ∧ W.cell? ⟨g, 15, none⟩ = some (.int .i64 bs')) := by
    intro W u
    have q := row_updH r0.out u
    exact ⟨(cell_of_row _ g 12 _ _ _ q).trans h.b0, (cell_of_row _ g 13 _ _ _ q).trans h.b1, (cell_of_row _ g 14 _ _ _ q).trans h.b2, (cell_of_row _ g 15 _ _ _ q).trans h.b3⟩
  have c0 := (cell_of_row _ g 8 _ _ _ r0.out).trans h.a0
  have c1 := (cell_of_row _ g 9 _ _ _ r0.out).trans h.a1
  have c2 := (cell_of_row _ g 10 _ _ _ r0.out).trans h.a2
  have c3 := (cell_of_row _ g 11 _ _ _ r0.out).trans h.a3
  clear h
  go_enter Tryz.func70, Tryz.ntmps70
  go_wp2_with (first | (refine wpList_load_row rfl 95 _ rfl g rfl _ M _ _ r0.out Tryz.underlying95 rfl HI.out ?_))
  refine HT.out.mono ?_
  rintro e w1 ⟨b, HB, rfl, hq⟩
  have U1 := Lib.hid (u0.out.trans hq)
  have R1 := Lib.hid (row_updH r0.out hq)
  have ML := Lib.hid (mat_load HS.out R1.out)
  obtain ⟨d0, d1, d2, d3⟩ := HC.out w1 hq
  clear hq HT c0 c1 c2 c3 r0
  cases b with
  | false =>
    go_wp2_with fail
    go_ret
    exact ⟨false, by show _ = _; rw [← HB.out, Bool.false_and], rfl, U1.out⟩
  | true =>
    go_wp2_with (first | (refine wpList_load_want (by rfl) 95 _ rfl g rfl M ML.out ?_))
    refine (HT2.out w1 U1.out).mono ?_
    rintro e w2 ⟨b, HB2, rfl, hq⟩
    have U2 := Lib.hid (U1.out.trans hq)
    clear hq HT2
    go_wp2_with fail
    go_ret
    exact ⟨b, by show _ = _; rw [← HB.out, Bool.true_and, HB2.out], rfl, U2.out⟩
theorem contra_any (h : MtIs M aw aT ar as' bw bT br bs' low high F A B id pub) (q : Bool) (w : World) (hC : ∀ W, Upd [] [] w W → Calls Tryz.prog 7 #[.string aT, .string bT] W (Mk (.bool q) W)) :
    Calls Tryz.prog 71 #[.agg M] w (Mk (.bool q) w) := by
  obtain ⟨g, hg⟩ : ∃ g, w.heap.size = g := ⟨_, rfl⟩
  obtain ⟨w0, hw0⟩ : ∃ W, w.alloc (.cells M 95) = W := ⟨_, rfl⟩
  have r0 : w0.heap[g]? = some (.cells M 95 (0, 0)) := by rw [← hg, ← hw0]; exact heap_alloc_new _ _
  have u0 := Lib.hid (show Upd [] [] w w0 by rw [← hw0]; exact (Upd.refl _ _).alloc _)
  have c0 := (cell_of_row _ g 9 _ _ _ r0).trans h.a1
  have c1 := (cell_of_row _ g 13 _ _ _ r0).trans h.b1
  have HC := Lib.hid (hC w0 u0.out)
  clear h r0 hC
  go_enter Tryz.func71, Tryz.ntmps71
  go_wp2_with fail
  refine HC.out.mono ?_
  rintro e w1 ⟨rfl, hq⟩
  have U1 := Lib.hid (u0.out.trans hq)
  clear hq HC
  go_wp2_with fail
  go_ret
  exact ⟨rfl, U1.out⟩
end
end Go.Proofs.YtcimcodljjcmgaaGreatDoor

namespace Go.Proofs.YtcimcodljjcmgaaGreatDoor
open Go.RowKit
set_option maxRecDepth 100000

def wClm : List UInt8 := [99, 108, 97, 105, 109]
def claimGL (lo hi : Int) (x y : Nat) : List UInt8 := Lib.join [wClm, Lib.itoa lo, Lib.itoa hi, Lib.decDigits x, Lib.decDigits y] [32]
theorem claimGL_is (lo hi : Int) (x y : Nat) : claimGL lo hi x y = wClm ++ 32 :: (Lib.itoa lo ++ 32 :: (Lib.itoa hi ++ 32 :: (Lib.decDigits x ++ 32 :: Lib.decDigits y))) := by
  simp [Lib.join, List.intercalate_cons_cons, claimGL]
theorem claimGL_len {lo hi : Int} {x y : Nat} (h1 : i64in lo) (h2 : i64in hi) (h3 : x ≤ 9223372036854775808) (h4 : y ≤ 9223372036854775808) : (claimGL lo hi x y).length ≤ 100 := by
  rw [claimGL_is]
  have := itoa_len lo h1
  have := itoa_len hi h2
  have := dec_le19 h3
  have := dec_le19 h4
  simp [wClm]
  omega
def dspG (lo hi : Int) (F A B : ByteArray) : Array Value := #[.int .i64 lo, .int .i64 hi, .string F, .string A, .string B]
set_option maxHeartbeats 4000000 in
theorem claimG (lo hi : Int) (F A B : ByteArray) (x y : Nat) (h1 : i64in lo) (h2 : i64in hi) (hF : bs F = be x) (hA : bs A = be y) (hx : x < 9223372036854775808) (hy : y < 9223372036854775808) (w : World) (htab : Tabs w) : Calls Tryz.prog 10 #[.agg (dspG lo hi F A B)] w (MkS (claimGL lo hi x y) w) := by
  obtain ⟨g, hg⟩ : ∃ g, w.heap.size = g := ⟨_, rfl⟩
  obtain ⟨w0, hw0⟩ : ∃ W, w.alloc (.cells (dspG lo hi F A B) 38) = W := ⟨_, rfl⟩
  have r0 : w0.heap[g]? = some (.cells (dspG lo hi F A B) 38 (0, 0)) := by rw [← hg, ← hw0]; exact heap_alloc_new _ _
  have HU0 := Lib.hid (show Upd [] [] w w0 by rw [← hw0]; exact (Upd.refl _ _).alloc _)
  have HK : Hid (∀ W, Upd [] [] w0 W → W.cell? ⟨g, 0, none⟩ = some (.int .i64 lo) ∧ W.cell? ⟨g, 1, none⟩ = some (.int .i64 hi) ∧ W.cell? ⟨g, 2, none⟩ = some (.string F) ∧ W.cell? ⟨g, 3, none⟩ = some (.string A)) := by
    intro W u
    have q := row_updH r0 u
    exact ⟨cell_of_row _ g 0 _ _ _ q, cell_of_row _ g 1 _ _ _ q, cell_of_row _ g 2 _ _ _ q, cell_of_row _ g 3 _ _ _ q⟩
  have ud0 : Upd [] [] w0 w0.drew := (Upd.refl _ _).drew
  have HDL := Lib.hid (claimGL_len h1 h2 (Nat.le_of_lt hx) (Nat.le_of_lt hy))
  have HFA := Lib.hid (And.intro hF hA)
  clear r0 hF hA
  go_enter Tryz.func10, Tryz.ntmps10
  go_upto_region 1 with (fail)
  refine wp_region_noPanic ?_
  refine wp_region_held_drew (S := fun wp => wp.cell? ⟨g, 0, none⟩ = some (.int .i64 lo) ∧ wp.cell? ⟨g, 1, none⟩ = some (.int .i64 hi) ∧ wp.cell? ⟨g, 2, none⟩ = some (.string F) ∧ wp.cell? ⟨g, 3, none⟩ = some (.string A)) (by kernel_rfl) ?_ (fun hHeld => ?_)
  · exact HK.out _ ud0
  refine tkY 0 hHeld ?_
  refine tkY 1 hHeld ?_
  refine tkY 3 hHeld ?_
  refine tkY 4 hHeld ?_
  refine tkY 6 hHeld ?_
  refine tkY 7 hHeld ?_
  refine tkY 9 hHeld ?_
  refine tkY 10 hHeld ?_
  refine wpAnyH_ready (rs := [2]) (by kernel_rfl) (by simp) ?_
  refine AllReadyH.cons (by simp only [List.getElem?_toArray, List.getElem?_cons_succ, List.getElem?_cons_zero] <;> rfl) (fun K hK => ?_) ?_
  · go_simp; refine (itoa_any lo _ h1 (htab.upd (HU0.out.trans ud0))).mono ?_; rintro e wv1 ⟨y1, HY1, _, rfl, hq⟩; have ud1 := ud0.trans hq; clear hq; go_wp2_with fail
    refine hK.out _ _ ?_ (fun hHeld => ?_)
    · exact HK.out _ ud1
    clear hK K
    try simp only [Act.put, List.setIfInBounds_toArray, List.set_cons_zero, List.set_cons_succ]
    refine wpAnyH_ready (rs := [5]) (by kernel_rfl) (by simp) ?_
    refine AllReadyH.cons (by simp only [List.getElem?_toArray, List.getElem?_cons_succ, List.getElem?_cons_zero] <;> rfl) (fun K hK => ?_) ?_
    · go_simp; refine (itoa_any hi _ h2 (htab.upd (HU0.out.trans ud1))).mono ?_; rintro e wv2 ⟨y2, HY2, _, rfl, hq⟩; have ud2 := ud1.trans hq; clear hq; go_wp2_with fail
      refine hK.out _ _ ?_ (fun hHeld => ?_)
      · exact HK.out _ ud2
      clear hK K
      try simp only [Act.put, List.setIfInBounds_toArray, List.set_cons_zero, List.set_cons_succ]
      refine wpAnyH_ready (rs := [8]) (by kernel_rfl) (by simp) ?_
      refine AllReadyH.cons (by simp only [List.getElem?_toArray, List.getElem?_cons_succ, List.getElem?_cons_zero] <;> rfl) (fun K hK => ?_) ?_
      · go_simp; refine (natText_any F x HFA.out.1 hx _ (htab.upd (HU0.out.trans ud2))).mono ?_; rintro e wv3 ⟨y3, HY3, _, rfl, hq⟩; have ud3 := ud2.trans hq; clear hq; go_wp2_with fail
        refine hK.out _ _ ?_ (fun hHeld => ?_)
        · exact HK.out _ ud3
        clear hK K
        try simp only [Act.put, List.setIfInBounds_toArray, List.set_cons_zero, List.set_cons_succ]
        refine wpAnyH_ready (rs := [11]) (by kernel_rfl) (by simp) ?_
        refine AllReadyH.cons (by simp only [List.getElem?_toArray, List.getElem?_cons_succ, List.getElem?_cons_zero] <;> rfl) (fun K hK => ?_) ?_
        · go_simp; refine (natText_any A y HFA.out.2 hy _ (htab.upd (HU0.out.trans ud3))).mono ?_; rintro e wv4 ⟨y4, HY4, _, rfl, hq⟩; have ud4 := ud3.trans hq; clear hq; go_wp2_with fail
          refine hK.out _ _ ?_ (fun hHeld => ?_)
          · exact HK.out _ ud4
          clear hK K
          try simp only [Act.put, List.setIfInBounds_toArray, List.set_cons_zero, List.set_cons_succ]
          refine wpAnyH_ready (rs := [12]) (by kernel_rfl) (by simp) ?_
          refine AllReadyH.cons (by simp only [List.getElem?_toArray, List.getElem?_cons_succ, List.getElem?_cons_zero] <;> rfl) (fun K hK => ?_) ?_
          · go_simp
            refine hK.out _ _ ?_ (fun hHeld => ?_)
            · exact HK.out _ (ud4.alloc _)
            clear hK K
            try simp only [Act.put, List.setIfInBounds_toArray, List.set_cons_zero, List.set_cons_succ]
            refine tkY 13 hHeld ?_
            refine wpAnyH_done (by kernel_rfl) ?_ _
            refine NoPanic.normal ?_
            go_wp2_with fail
            have hXS := strsIn_new wv4 [⟨#[99, 108, 97, 105, 109]⟩, y1, y2, y3, y4] 9
            have hjoin : Lib.join (([⟨#[99, 108, 97, 105, 109]⟩, y1, y2, y3, y4] : List ByteArray).map bs) [32] = claimGL lo hi x y := by
              show Lib.join [_, bs y1, bs y2, bs y3, bs y4] [32] = _
              rw [HY1.out, HY2.out, HY3.out, HY4.out]
              rfl
            have hj := Tryz.strings_Join wv4.heap.size 0 5 [⟨#[99, 108, 97, 105, 109]⟩, y1, y2, y3, y4] ⟨#[32]⟩ _ hXS.2 hXS.1 (by simp) (by simp) (by
              show (Lib.join (_) [32]).length ≤ _
              have e := congrArg List.length hjoin
              exact Nat.le_trans (Nat.le_of_eq e) (by have := HDL.out; omega))
            refine hj.mono ?_
            rintro e w9 ⟨rfl, hb⟩
            have hu := upd_of_below hb
            obtain ⟨T, hT⟩ : ∃ T : ByteArray, T = ⟨(Lib.join (([⟨#[99, 108, 97, 105, 109]⟩, y1, y2, y3, y4] : List ByteArray).map (·.data.toList)) (⟨#[32]⟩ : ByteArray).data.toList).toArray⟩ := ⟨_, rfl⟩
            rw [← hT]
            have HB : Hid (bs T = claimGL lo hi x y) := by
              show _ = _
              rw [hT, bs_mk]
              exact hjoin
            have HU := Lib.hid ((HU0.out.trans (ud4.alloc _)).trans hu)
            clear hj hXS hjoin hb hu hT
            go_wp2_with fail
            go_ret
            exact ⟨T, HB, by rw [← HB.out, bs_length]; exact Nat.le_refl _, rfl, HU.out⟩
          exact AllReadyH.nil
        exact AllReadyH.nil
      exact AllReadyH.nil
    exact AllReadyH.nil
  exact AllReadyH.nil
set_option maxHeartbeats 4000000 in
theorem claim33_any (lo hi : Int) (F A B : ByteArray) (x y : Nat) (h1 : i64in lo) (h2 : i64in hi) (hF : bs F = be x) (hA : bs A = be y) (hx : x < 9223372036854775808) (hy : y < 9223372036854775808) (w : World) : Calls Tryz.prog 11 #[.agg (dspG lo hi F A B)] w (MkS (claimGL lo hi x y) w) := by
  obtain ⟨g, hg⟩ : ∃ g, w.heap.size = g := ⟨_, rfl⟩
  obtain ⟨w0, hw0⟩ : ∃ W, w.alloc (.cells (dspG lo hi F A B) 38) = W := ⟨_, rfl⟩
  have r0 : w0.heap[g]? = some (.cells (dspG lo hi F A B) 38 (0, 0)) := by rw [← hg, ← hw0]; exact heap_alloc_new _ _
  have HU0 := Lib.hid (show Upd [] [] w w0 by rw [← hw0]; exact (Upd.refl _ _).alloc _)
  have HK : Hid (∀ W, Upd [] [] w0 W → W.cell? ⟨g, 0, none⟩ = some (.int .i64 lo) ∧ W.cell? ⟨g, 1, none⟩ = some (.int .i64 hi) ∧ W.cell? ⟨g, 2, none⟩ = some (.string F) ∧ W.cell? ⟨g, 3, none⟩ = some (.string A)) := by
    intro W u
    have q := row_updH r0 u
    exact ⟨cell_of_row _ g 0 _ _ _ q, cell_of_row _ g 1 _ _ _ q, cell_of_row _ g 2 _ _ _ q, cell_of_row _ g 3 _ _ _ q⟩
  have ud0 : Upd [] [] w0 w0.drew := (Upd.refl _ _).drew
  have HDL := Lib.hid (claimGL_len h1 h2 (Nat.le_of_lt hx) (Nat.le_of_lt hy))
  have HFA := Lib.hid (And.intro hF hA)
  clear r0 hF hA
  go_enter Tryz.func11, Tryz.ntmps11
  go_upto_region 1 with (fail)
  refine wp_region_noPanic ?_
  refine wp_region_held_drew (S := fun wp => wp.cell? ⟨g, 0, none⟩ = some (.int .i64 lo) ∧ wp.cell? ⟨g, 1, none⟩ = some (.int .i64 hi) ∧ wp.cell? ⟨g, 2, none⟩ = some (.string F) ∧ wp.cell? ⟨g, 3, none⟩ = some (.string A)) (by kernel_rfl) ?_ (fun hHeld => ?_)
  · exact HK.out _ ud0
  refine tkY 0 hHeld ?_
  refine tkY 1 hHeld ?_
  refine tkY 5 hHeld ?_
  refine tkY 6 hHeld ?_
  refine tkY 10 hHeld ?_
  refine tkY 11 hHeld ?_
  refine tkY 15 hHeld ?_
  refine tkY 16 hHeld ?_
  refine wpAnyH_ready (rs := [2]) (by kernel_rfl) (by simp) ?_
  refine AllReadyH.cons (by simp only [List.getElem?_toArray, List.getElem?_cons_succ, List.getElem?_cons_zero] <;> rfl) (fun K hK => ?_) ?_
  · go_simp; refine (decimal11_any lo _ h1).mono ?_; rintro e wv1 ⟨y1, HY1, hy1, rfl, hq⟩; have ud1 := ud0.trans hq; clear hq; have hz1 : y1.size ≤ 20 := (by have := itoa_len lo h1; omega); clear hy1; have fa0 : ¬ 9223372036854775807 < 6 + y1.size := (by omega); have fa1 : ¬ 9223372036854775807 < 6 + y1.size + 1 := (by omega); go_wp2_with fail
    refine hK.out _ _ ?_ (fun hHeld => ?_)
    · exact HK.out _ ud1
    clear hK K
    try simp only [Act.put, List.setIfInBounds_toArray, List.set_cons_zero, List.set_cons_succ]
    refine tkY 3 hHeld ?_
    refine tkY 4 hHeld ?_
    refine wpAnyH_ready (rs := [7]) (by kernel_rfl) (by simp) ?_
    refine AllReadyH.cons (by simp only [List.getElem?_toArray, List.getElem?_cons_succ, List.getElem?_cons_zero] <;> rfl) (fun K hK => ?_) ?_
    · go_simp; refine (decimal11_any hi _ h2).mono ?_; rintro e wv2 ⟨y2, HY2, hy2, rfl, hq⟩; have ud2 := ud1.trans hq; clear hq; have hz2 : y2.size ≤ 20 := (by have := itoa_len hi h2; omega); clear hy2; have fa2 : ¬ 9223372036854775807 < 6 + y1.size + 1 + y2.size := (by omega); have fa3 : ¬ 9223372036854775807 < 6 + y1.size + 1 + y2.size + 1 := (by omega); go_wp2_with fail
      refine hK.out _ _ ?_ (fun hHeld => ?_)
      · exact HK.out _ ud2
      clear hK K
      try simp only [Act.put, List.setIfInBounds_toArray, List.set_cons_zero, List.set_cons_succ]
      refine tkY 8 hHeld ?_
      refine tkY 9 hHeld ?_
      refine wpAnyH_ready (rs := [12]) (by kernel_rfl) (by simp) ?_
      refine AllReadyH.cons (by simp only [List.getElem?_toArray, List.getElem?_cons_succ, List.getElem?_cons_zero] <;> rfl) (fun K hK => ?_) ?_
      · go_simp; refine (text_ofD x _ F HFA.out.1 (by omega)).mono ?_; rintro e wv3 ⟨y3, HY3, hy3, rfl, hq⟩; have ud3 := ud2.trans hq; clear hq; have hz3 : y3.size ≤ 20 := (by have := dec_le19 (u := x) (by omega); omega); clear hy3; have fa4 : ¬ 9223372036854775807 < 6 + y1.size + 1 + y2.size + 1 + y3.size := (by omega); have fa5 : ¬ 9223372036854775807 < 6 + y1.size + 1 + y2.size + 1 + y3.size + 1 := (by omega); go_wp2_with fail
        refine hK.out _ _ ?_ (fun hHeld => ?_)
        · exact HK.out _ ud3
        clear hK K
        try simp only [Act.put, List.setIfInBounds_toArray, List.set_cons_zero, List.set_cons_succ]
        refine tkY 13 hHeld ?_
        refine tkY 14 hHeld ?_
        refine wpAnyH_ready (rs := [17]) (by kernel_rfl) (by simp) ?_
        refine AllReadyH.cons (by simp only [List.getElem?_toArray, List.getElem?_cons_succ, List.getElem?_cons_zero] <;> rfl) (fun K hK => ?_) ?_
        · go_simp; refine (text_ofD y _ A HFA.out.2 (by omega)).mono ?_; rintro e wv4 ⟨y4, HY4, hy4, rfl, hq⟩; have ud4 := ud3.trans hq; clear hq; have hz4 : y4.size ≤ 20 := (by have := dec_le19 (u := y) (by omega); omega); clear hy4; have fa6 : ¬ 9223372036854775807 < 6 + y1.size + 1 + y2.size + 1 + y3.size + 1 + y4.size := (by omega); go_wp2_with fail
          refine hK.out _ _ ?_ (fun hHeld => ?_)
          · exact HK.out _ ud4
          clear hK K
          try simp only [Act.put, List.setIfInBounds_toArray, List.set_cons_zero, List.set_cons_succ]
          refine tkY 18 hHeld ?_
          refine tkY 19 hHeld ?_
          refine wpAnyH_done (by kernel_rfl) ?_ _
          refine NoPanic.normal ?_
          go_wp2_with fail
          go_ret
          have hb : bs (ByteArray.mk #[99, 108, 97, 105, 109, 32] ++ y1 ++ ByteArray.mk #[32] ++ y2 ++ ByteArray.mk #[32] ++ y3 ++ ByteArray.mk #[32] ++ y4) = claimGL lo hi x y := by
            rw [claimGL_is]
            simp only [bs_append, HY1.out, HY2.out, HY3.out, HY4.out, show bs (ByteArray.mk #[32]) = [32] from rfl, show bs (ByteArray.mk #[99, 108, 97, 105, 109, 32]) = wClm ++ [32] from rfl]
            simp
          exact ⟨_, hb, Nat.le_of_eq (bs_size hb), rfl, HU0.out.trans ud4⟩
        exact AllReadyH.nil
      exact AllReadyH.nil
    exact AllReadyH.nil
  exact AllReadyH.nil
end Go.Proofs.YtcimcodljjcmgaaGreatDoor

namespace Go.Proofs.YtcimcodljjcmgaaGreatDoor
open Go.RowKit
set_option maxRecDepth 100000

theorem and_oneI (q : Int) : ∃ z : Nat, bits .and .i64 q 1 = (z : Int) ∧ z ≤ 1 := by
  have h : (BitVec.ofInt 64 q &&& BitVec.ofInt 64 1).toNat ≤ 1 := by
    rw [BitVec.toNat_and]
    exact Nat.and_le_right
  refine ⟨(BitVec.ofInt 64 q &&& BitVec.ofInt 64 1).toNat, ?_, h⟩
  show IntKind.i64.wrap ((BitVec.ofInt 64 q &&& BitVec.ofInt 64 1).toNat : Int) = _
  exact wrap_in (by omega) (by omega)
theorem mod_three (q : Int) : ∃ (t u : Int) (z : Nat), q.tmod 3 = t ∧ t + 3 = u ∧ (1 ≤ u ∧ u ≤ 5) ∧ (-2 ≤ t ∧ t ≤ 2) ∧ u.tmod 3 = (z : Int) ∧ z < 3 := by
  have h1 := Int.tmod_lt_of_pos q (show (0 : Int) < 3 by omega)
  have h2 : -3 < q.tmod 3 := by
    have := Int.lt_tmod_of_pos q (show (0 : Int) < 3 by omega)
    omega
  obtain ⟨u, hu⟩ : ∃ u, u = q.tmod 3 + 3 := ⟨_, rfl⟩
  refine ⟨q.tmod 3, u, (u.tmod 3).toNat, rfl, hu.symm, by omega, by omega, ?_, ?_⟩
  · have := Int.tmod_nonneg 3 (show 0 ≤ u by omega)
    omega
  · have := Int.tmod_lt_of_pos u (show (0 : Int) < 3 by omega)
    omega
theorem built_two (q : Int) (x : ByteArray) : Tryz.prog.built 33 [(0, .int .i64 q), (5, .string x)] = some (EvG.V ⟨q, 0, 0, 0, 0, x, zero32, 0, 0⟩).toArray := by
  rw [built_ev]
  rw [show evZ.toArray = ([] ++ ([Value.int .i64 0] ++ ([Value.int .i64 0, Value.int .i64 0, Value.int .i64 0, Value.int .i64 0, Value.string ⟨#[]⟩] ++ (byteVals zero32 ++ [Value.int .i64 0, Value.int .i64 0]))) : List Value).toArray from rfl, fill_mid (off := 0) (n := 1) (V := [Value.int .i64 q]) rfl rfl rfl rfl rfl]
  rw [show ([] ++ ([Value.int .i64 q] ++ ([Value.int .i64 0, Value.int .i64 0, Value.int .i64 0, Value.int .i64 0, Value.string ⟨#[]⟩] ++ (byteVals zero32 ++ [Value.int .i64 0, Value.int .i64 0]))) : List Value) = [Value.int .i64 q, Value.int .i64 0, Value.int .i64 0, Value.int .i64 0, Value.int .i64 0] ++ ([Value.string ⟨#[]⟩] ++ (byteVals zero32 ++ [Value.int .i64 0, Value.int .i64 0])) from rfl, fill_mid (off := 5) (n := 1) (V := [Value.string x]) rfl rfl rfl rfl rfl]
  rw [Instr.fill]
  rfl
theorem built_three (q k : Int) (x : ByteArray) : Tryz.prog.built 33 [(0, .int .i64 q), (1, .int .i64 k), (5, .string x)] = some (EvG.V ⟨q, k, 0, 0, 0, x, zero32, 0, 0⟩).toArray := by
  rw [built_ev]
  rw [show evZ.toArray = ([] ++ ([Value.int .i64 0] ++ ([Value.int .i64 0, Value.int .i64 0, Value.int .i64 0, Value.int .i64 0, Value.string ⟨#[]⟩] ++ (byteVals zero32 ++ [Value.int .i64 0, Value.int .i64 0]))) : List Value).toArray from rfl, fill_mid (off := 0) (n := 1) (V := [Value.int .i64 q]) rfl rfl rfl rfl rfl]
  rw [show ([] ++ ([Value.int .i64 q] ++ ([Value.int .i64 0, Value.int .i64 0, Value.int .i64 0, Value.int .i64 0, Value.string ⟨#[]⟩] ++ (byteVals zero32 ++ [Value.int .i64 0, Value.int .i64 0]))) : List Value) = [Value.int .i64 q] ++ ([Value.int .i64 0] ++ ([Value.int .i64 0, Value.int .i64 0, Value.int .i64 0, Value.string ⟨#[]⟩] ++ (byteVals zero32 ++ [Value.int .i64 0, Value.int .i64 0]))) from rfl, fill_mid (off := 1) (n := 1) (V := [Value.int .i64 k]) rfl rfl rfl rfl rfl]
  rw [show ([Value.int .i64 q] ++ ([Value.int .i64 k] ++ ([Value.int .i64 0, Value.int .i64 0, Value.int .i64 0, Value.string ⟨#[]⟩] ++ (byteVals zero32 ++ [Value.int .i64 0, Value.int .i64 0]))) : List Value) = [Value.int .i64 q, Value.int .i64 k, Value.int .i64 0, Value.int .i64 0, Value.int .i64 0] ++ ([Value.string ⟨#[]⟩] ++ (byteVals zero32 ++ [Value.int .i64 0, Value.int .i64 0])) from rfl, fill_mid (off := 5) (n := 1) (V := [Value.string x]) rfl rfl rfl rfl rfl]
  rw [Instr.fill]
  rfl
theorem evq_ok (q k : Nat) (x : ByteArray) (hq : q ≤ 1) (hk : k ≤ 1) : EvG.ok ⟨(q : Int), (k : Int), 0, 0, 0, x, zero32, 0, 0⟩ := by
  refine ⟨?_, ?_, ?_, ?_, ?_, by simp [zero32], ?_, ?_⟩ <;> (unfold i64in; dsimp only; omega)
def kindB (z : Nat) : ByteArray := match z with
  | 0 => ⟨#[112, 114, 111, 112, 111, 115, 101]⟩
  | 1 => ⟨#[112, 114, 101, 112, 97, 114, 101]⟩
  | _ => ⟨#[99, 111, 109, 109, 105, 116]⟩
theorem kind_cell {w : World} {g z : Nat} (h : w.heap[g]? = some (.cells #[.string ⟨#[112, 114, 111, 112, 111, 115, 101]⟩, .string ⟨#[112, 114, 101, 112, 97, 114, 101]⟩, .string ⟨#[99, 111, 109, 109, 105, 116]⟩] 9 (0, 0))) (hz : z < 3) : w.cell? ⟨g, z, none⟩ = some (.string (kindB z)) := by
  have hc := cell_of_row _ g z _ _ _ h
  match z, hz with
  | 0, _ => exact hc
  | 1, _ => exact hc
  | 2, _ => exact hc
theorem kind_size (z : Nat) : (kindB z).size ≤ 7 := by
  unfold kindB
  split <;> decide
theorem vote_len {k x : ByteArray} {h v : Nat} (hk : k.size ≤ 7) (hh : h ≤ 1) (hv : v ≤ 1) (hx : x.size ≤ 1) : (bs k ++ 32 :: (Lib.itoa (h : Int) ++ 32 :: (Lib.itoa (v : Int) ++ 32 :: hexL (bs x)))).length ≤ 100 := by
  have h1 := itoa_len (h : Int) (by unfold i64in; omega)
  have h2 := itoa_len (v : Int) (by unfold i64in; omega)
  simp only [List.length_append, List.length_cons, hexL_len, bs_length]
  omega
theorem dsp_info (lo hi : Int) (F A B : ByteArray) : (Tryz.prog.info? 38).map (·.size) = some (dspG lo hi F A B).size := by
  show _ = some 5
  kernel_rfl
theorem dsp_one (lo hi : Int) (F A B : ByteArray) : (dspG lo hi F A B).all (·.oneCell') = true := by kernel_rfl
end Go.Proofs.YtcimcodljjcmgaaGreatDoor
