/- sortesref30: word, Text, Encode at any event. -/
import Derived.Test.YtcimcodljjcmgaaGreatDoorGAA
import Derived.Test.YtcimcodljjcmgaaGreatDoorGAY
import Derived.Test.YtcimcodljjcmgaaGreatDoorGAO
import Derived.Test.YtcimcodljjcmgaaGreatDoorGAG
namespace Go.Proofs.YtcimcodljjcmgaaGreatDoor
open Go.RowKit
set_option maxRecDepth 100000

theorem word30_any (t : ByteArray) (w : World) (ht : t.size ≤ 10000000) : Calls Tryz.prog 194 #[.string t] w (MkS (wordG (bs t)) w) := by
  have hi : i64in (t.size : Int) := by unfold i64in; omega
  go_enter Tryz.func194, Tryz.ntmps194
  go_wp2_with fail
  refine (decimal11_any (t.size : Int) w hi).mono ?_
  rintro e w1 ⟨y, HY, hy, rfl, hq⟩
  have hl := itoa_len (t.size : Int) hi
  have hz : y.size ≤ 20 := by omega
  have H : bs (y ++ ByteArray.mk #[58] ++ t) = wordG (bs t) := by
    rw [bs_append, bs_append, HY.out, wordG, bs_length, show bs (ByteArray.mk #[58]) = [58] from rfl]
    simp only [List.append_assoc, List.cons_append, List.nil_append]
  have HH := Lib.hid H
  clear H hy hl
  go_wp2_with fail
  go_ret
  exact ⟨_, HH.out, Nat.le_of_eq (bs_size HH.out), rfl, hq⟩
theorem wordG_len {t : List UInt8} (h : t.length ≤ 10000000) : (wordG t).length ≤ t.length + 21 := by
  have := itoa_len (t.length : Int) (by unfold i64in; omega)
  rw [wordG, List.length_append, List.length_cons]
  omega
theorem text_bs {q k h t n : Int} {p : List UInt8} {x : ByteArray} {y1 y2 y3 y4 y5 y6 y7 : ByteArray} {TX : List UInt8} (hJ : Lib.join [wEv, Lib.itoa q, Lib.itoa k, Lib.itoa h, Lib.itoa t, Lib.itoa n, hexL p, wordG (bs x)] [32] = TX)
    (h1 : bs y1 = Lib.itoa q) (h2 : bs y2 = Lib.itoa k) (h3 : bs y3 = Lib.itoa h) (h4 : bs y4 = Lib.itoa t) (h5 : bs y5 = Lib.itoa n) (h6 : bs y6 = hexL p) (h7 : bs y7 = wordG (bs x)) :
    bs (ByteArray.mk #[101, 118, 101, 110, 116] ++ ByteArray.mk #[32] ++ y1 ++ ByteArray.mk #[32] ++ y2 ++ ByteArray.mk #[32] ++ y3 ++ ByteArray.mk #[32] ++ y4 ++ ByteArray.mk #[32] ++ y5 ++ ByteArray.mk #[32] ++ y6 ++ ByteArray.mk #[32] ++ y7) = TX := by
  rw [← hJ]
  simp only [bs_append, h1, h2, h3, h4, h5, h6, h7, show bs (ByteArray.mk #[32]) = [32] from rfl, show bs (ByteArray.mk #[101, 118, 101, 110, 116]) = wEv from rfl]
  simp [Lib.join, List.intercalate_cons_cons]
set_option maxHeartbeats 8000000 in
theorem text30_any (e : EvG) (he : e.ok) (hx : e.x.size ≤ 10000000) (w : World) : Calls Tryz.prog 155 #[.agg e.V.toArray] w (MkS e.text w) := by
  obtain ⟨EV, hEV⟩ : ∃ EV, EV = e.V.toArray := ⟨_, rfl⟩
  obtain ⟨ZH, hZH⟩ : ∃ ZH, ZH = (byteVals e.p).toArray := ⟨_, rfl⟩
  have HZH := Lib.hid hZH
  obtain ⟨w0, hw0⟩ : ∃ w0, w.alloc (.cells EV 33) = w0 := ⟨_, rfl⟩
  obtain ⟨g, hg⟩ : ∃ g, g = w.heap.size := ⟨_, rfl⟩
  have r0 : EgA w0 g e := by rw [hg, ← hw0, hEV]; exact heap_alloc_new _ _
  have u0 : Upd [] [] w w0 := by rw [← hw0]; exact (Upd.refl _ _).alloc _
  have HJ := Lib.hid e.text_join
  have HL := Lib.hid (EvG.text_len he (by omega))
  have HOK := Lib.hid he
  obtain ⟨q, hq0⟩ : ∃ q, e.q = q := ⟨_, rfl⟩
  obtain ⟨k, hk0⟩ : ∃ k, e.k = k := ⟨_, rfl⟩
  obtain ⟨h, hh0⟩ : ∃ h, e.h = h := ⟨_, rfl⟩
  obtain ⟨t, ht0⟩ : ∃ t, e.t = t := ⟨_, rfl⟩
  obtain ⟨n, hn0⟩ : ∃ n, e.n = n := ⟨_, rfl⟩
  obtain ⟨x, hx0⟩ : ∃ x, e.x = x := ⟨_, rfl⟩
  obtain ⟨p, hp0⟩ : ∃ p, e.p = p := ⟨_, rfl⟩
  have HK : Hid (∀ W, Upd [] [] w0 W → W.cell? ⟨g, 0, none⟩ = some (.int .i64 q) ∧ W.cell? ⟨g, 1, none⟩ = some (.int .i64 k) ∧ W.cell? ⟨g, 2, none⟩ = some (.int .i64 h) ∧ W.cell? ⟨g, 3, none⟩ = some (.int .i64 t) ∧ W.cell? ⟨g, 4, none⟩ = some (.int .i64 n) ∧ W.cell? ⟨g, 5, none⟩ = some (.string x) ∧ (Instr.loadAt 29 (.pointer (some ⟨g, 6, none⟩))).run Tryz.prog W = .ok (.agg ZH) W) := by
    intro W u
    have c := (r0.upd u)
    refine ⟨(c.cell 0).trans ?_, (c.cell 1).trans ?_, (c.cell 2).trans ?_, (c.cell 3).trans ?_, (c.cell 4).trans ?_, (c.cell 5).trans ?_, ?_⟩
    · rw [← hq0]; rfl
    · rw [← hk0]; rfl
    · rw [← hh0]; rfl
    · rw [← ht0]; rfl
    · rw [← hn0]; rfl
    · rw [← hx0]; rfl
    · rw [hZH]; exact run_loadAt_mid W g 6 29 _ _ c.hash Tryz.underlying29 rfl (hashInfoG he.2.2.2.2.2.1)
  have HI : Hid (i64in q ∧ i64in k ∧ i64in h ∧ i64in t ∧ i64in n) := by rw [← hq0, ← hk0, ← hh0, ← ht0, ← hn0]; exact ⟨he.1, he.2.1, he.2.2.1, he.2.2.2.1, he.2.2.2.2.1⟩
  have HP : Hid (p.length = 32 ∧ x.size ≤ 10000000) := by rw [← hp0, ← hx0]; exact ⟨he.2.2.2.2.2.1, hx⟩
  rw [hp0] at HZH
  have HJ2 : Hid (Lib.join [wEv, Lib.itoa q, Lib.itoa k, Lib.itoa h, Lib.itoa t, Lib.itoa n, hexL p, wordG (bs x)] [32] = e.text) := by
    rw [← hq0, ← hk0, ← hh0, ← ht0, ← hn0, ← hx0, ← hp0]
    exact HJ.out
  have HL2 : Hid (e.text.length ≤ 1000000250) := Nat.le_trans HL.out (by omega)
  have HU0 := Lib.hid u0
  have ud0 : Upd [] [] w0 w0.drew := (Upd.refl _ _).drew
  have HG := Lib.hid hg
  rw [← hEV]
  clear hEV hZH r0 u0 hg he hx HJ HL HOK hq0 hk0 hh0 ht0 hn0 hx0 hp0
  obtain ⟨TX, hTX⟩ : ∃ l, e.text = l := ⟨_, rfl⟩
  rw [hTX] at HJ2 HL2 ⊢
  clear hTX
  go_enter Tryz.func155, Tryz.ntmps155
  go_upto_region 1 with (fail)
  rw [← HG.out]
  clear hw0
  obtain ⟨c0, c1, c2, c3, c4, c5, c6⟩ := HK.out w0 (Upd.refl _ _)
  obtain ⟨gL, hgL⟩ : ∃ z, w0.heap.size = z := ⟨_, rfl⟩
  obtain ⟨w1, hw1⟩ : ∃ W, w0.alloc (.cells #[.int .i64 q, .int .i64 k, .int .i64 h, .int .i64 t, .int .i64 n] 3) = W := ⟨_, rfl⟩
  have RL := Lib.hid (show w1.heap[gL]? = some (.cells #[.int .i64 q, .int .i64 k, .int .i64 h, .int .i64 t, .int .i64 n] 3 (0, 0)) by rw [← hgL, ← hw1]; exact heap_alloc_new _ _)
  have HL5 : Hid (∀ W, Upd [] [] w1 W → W.cell? ⟨gL, 0, none⟩ = some (.int .i64 q) ∧ W.cell? ⟨gL, 1, none⟩ = some (.int .i64 k) ∧ W.cell? ⟨gL, 2, none⟩ = some (.int .i64 h) ∧ W.cell? ⟨gL, 3, none⟩ = some (.int .i64 t) ∧ W.cell? ⟨gL, 4, none⟩ = some (.int .i64 n)) := by
    intro W u
    have r := heap_upd RL.out u
    exact ⟨cell_of_row _ gL 0 _ _ _ r, cell_of_row _ gL 1 _ _ _ r, cell_of_row _ gL 2 _ _ _ r, cell_of_row _ gL 3 _ _ _ r, cell_of_row _ gL 4 _ _ _ r⟩
  have U1 := Lib.hid (show Upd [] [] w0 w1 by rw [← hw1]; exact (Upd.refl _ _).alloc _)
  have v0 : Hid (Upd [] [] w1 w1) := Upd.refl _ _
  clear ud0
  go_wp2_with fail
  clear hw1 hgL c0 c1 c2 c3 c4 c5 c6 RL
  refine wp_loop_rounds 6 ?_
  have z0 : (0 : Int) = 0 := rfl
  rw [rounds_succ]
  have d1 := (HL5.out w1 v0.out).1
  go_wp2_with fail
  refine (decimal11_any q _ HI.out.1).mono ?_
  rintro e wv1 ⟨y1, HY1, hy, rfl, hq⟩
  have hz1 : y1.size ≤ 20 := by
    have := itoa_len q HI.out.1
    omega
  have v1 := Lib.hid (v0.out.trans hq)
  clear hy hq d1
  go_wp2_with fail
  rw [rounds_succ]
  have d2 := (HL5.out wv1 v1.out).2.1
  go_wp2_with fail
  refine (decimal11_any k _ HI.out.2.1).mono ?_
  rintro e wv2 ⟨y2, HY2, hy, rfl, hq⟩
  have hz2 : y2.size ≤ 20 := by
    have := itoa_len k HI.out.2.1
    omega
  have v2 := Lib.hid (v1.out.trans hq)
  clear hy hq d2
  go_wp2_with fail
  rw [rounds_succ]
  have d3 := (HL5.out wv2 v2.out).2.2.1
  go_wp2_with fail
  refine (decimal11_any h _ HI.out.2.2.1).mono ?_
  rintro e wv3 ⟨y3, HY3, hy, rfl, hq⟩
  have hz3 : y3.size ≤ 20 := by
    have := itoa_len h HI.out.2.2.1
    omega
  have v3 := Lib.hid (v2.out.trans hq)
  clear hy hq d3
  go_wp2_with fail
  rw [rounds_succ]
  have d4 := (HL5.out wv3 v3.out).2.2.2.1
  go_wp2_with fail
  refine (decimal11_any t _ HI.out.2.2.2.1).mono ?_
  rintro e wv4 ⟨y4, HY4, hy, rfl, hq⟩
  have hz4 : y4.size ≤ 20 := by
    have := itoa_len t HI.out.2.2.2.1
    omega
  have v4 := Lib.hid (v3.out.trans hq)
  clear hy hq d4
  go_wp2_with fail
  rw [rounds_succ]
  have d5 := (HL5.out wv4 v4.out).2.2.2.2
  go_wp2_with fail
  refine (decimal11_any n _ HI.out.2.2.2.2).mono ?_
  rintro e wv5 ⟨y5, HY5, hy, rfl, hq⟩
  have hz5 : y5.size ≤ 20 := by
    have := itoa_len n HI.out.2.2.2.2
    omega
  have v5 := Lib.hid (v4.out.trans hq)
  clear hy hq d5
  go_wp2_with fail
  have hp6 : (hexL p).length = 64 := by rw [hexL_len, HP.out.1]
  have hw7 : (wordG (bs x)).length ≤ 10000021 := Nat.le_trans (wordG_len (by rw [bs_length]; exact HP.out.2)) (by rw [bs_length]; have := HP.out.2; omega)
  have HP6 := Lib.hid hp6
  have HW7 := Lib.hid hw7
  have u5 := U1.out.trans v5.out
  clear hp6 hw7
  rw [rounds_succ]
  go_upto_region 7 with (fail)
  have ud0 : Upd [] [] w0 wv5.drew := u5.drew
  have fa1 : ¬ 9223372036854775807 < 6 + y1.size + 1 + y2.size + 1 + y3.size + 1 + y4.size + 1 + y5.size + 1 := by omega
  refine wp_region_noPanic ?_
  refine wp_region_held_drew (S := fun wp => wp.cell? ⟨g, 5, none⟩ = some (.string x) ∧ (Instr.loadAt 29 (.pointer (some ⟨g, 6, none⟩))).run Tryz.prog wp = .ok (.agg ZH) wp) (by kernel_rfl) ?_ (fun hHeld => ?_)
  · exact (HK.out _ ud0).2.2.2.2.2
  refine tkY 0 hHeld ?_
  refine tkY 1 hHeld ?_
  refine tkY 2 hHeld ?_
  refine tkL 3 hHeld ZH (fun w hSw => hSw.2) ?_
  refine tkY 7 hHeld ?_
  refine tkY 8 hHeld ?_
  refine wpAnyH_ready (rs := [4]) (by kernel_rfl) (by simp) ?_
  refine AllReadyH.cons (by simp only [List.getElem?_toArray, List.getElem?_cons_succ, List.getElem?_cons_zero] <;> rfl) (fun K hK => ?_) ?_
  · go_simp; rw [HZH.out]; refine (rhexText_any p HP.out.1 _).mono ?_; rintro e6 wv6 ⟨y6, HY6, hy6, rfl, hq⟩; have ud6 := ud0.trans hq; clear hq; have hz6 : y6.size ≤ 64 := (by have := HP6.out; omega); clear hy6; have fa2 : ¬ 9223372036854775807 < 6 + y1.size + 1 + y2.size + 1 + y3.size + 1 + y4.size + 1 + y5.size + 1 + y6.size := (by omega); have fa3 : ¬ 9223372036854775807 < 6 + y1.size + 1 + y2.size + 1 + y3.size + 1 + y4.size + 1 + y5.size + 1 + y6.size + 1 := (by omega); go_wp2_with fail
    refine hK.out _ _ ?_ (fun hHeld => ?_)
    · exact (HK.out _ ud6).2.2.2.2.2
    clear hK K
    try simp only [Act.put, List.setIfInBounds_toArray, List.set_cons_zero, List.set_cons_succ]
    refine tkY 5 hHeld ?_
    refine tkY 6 hHeld ?_
    refine wpAnyH_ready (rs := [9]) (by kernel_rfl) (by simp) ?_
    refine AllReadyH.cons (by simp only [List.getElem?_toArray, List.getElem?_cons_succ, List.getElem?_cons_zero] <;> rfl) (fun K hK => ?_) ?_
    · go_simp; refine (word30_any x _ HP.out.2).mono ?_; rintro e7 wv7 ⟨y7, HY7, hy7, rfl, hq⟩; have ud7 := ud6.trans hq; clear hq; have hz7 : y7.size ≤ 10000021 := (by have := HW7.out; omega); clear hy7; have fa4 : ¬ 9223372036854775807 < 6 + y1.size + 1 + y2.size + 1 + y3.size + 1 + y4.size + 1 + y5.size + 1 + y6.size + 1 + y7.size := (by omega); go_wp2_with fail
      refine hK.out _ _ ?_ (fun hHeld => ?_)
      · exact (HK.out _ ud7).2.2.2.2.2
      clear hK K
      try simp only [Act.put, List.setIfInBounds_toArray, List.set_cons_zero, List.set_cons_succ]
      refine tkY 10 hHeld ?_
      refine tkY 11 hHeld ?_
      refine wpAnyH_done (by kernel_rfl) ?_ _
      refine NoPanic.normal ?_
      go_wp2_with fail
      go_ret
      have hb := text_bs HJ2.out HY1.out HY2.out HY3.out HY4.out HY5.out HY6.out HY7.out
      exact ⟨_, hb, Nat.le_of_eq (bs_size hb), rfl, HU0.out.trans ud7⟩
    exact AllReadyH.nil
  exact AllReadyH.nil
set_option maxHeartbeats 4000000 in
theorem encode30_any (ev : EvG) (he : ev.ok) (hx : ev.x.size ≤ 10000000) (w : World) : Calls Tryz.prog 109 #[.agg ev.V.toArray] w (MkS ev.code w) := by
  obtain ⟨EV, hEV⟩ : ∃ EV, EV = ev.V.toArray := ⟨_, rfl⟩
  have HEV := Lib.hid hEV
  obtain ⟨w0, hw0⟩ : ∃ w0, w.alloc (.cells EV 33) = w0 := ⟨_, rfl⟩
  obtain ⟨g, hg⟩ : ∃ g, g = w.heap.size := ⟨_, rfl⟩
  have r0 : EgA w0 g ev := by rw [hg, ← hw0, hEV]; exact heap_alloc_new _ _
  have u0 : Upd [] [] w w0 := by rw [← hw0]; exact (Upd.refl _ _).alloc _
  have hp := he.2.2.2.2.2.1
  obtain ⟨r, hr0⟩ : ∃ r, ev.r = r := ⟨_, rfl⟩
  obtain ⟨s, hs0⟩ : ∃ s, ev.s = s := ⟨_, rfl⟩
  have HK : Hid (∀ W, Upd [] [] w0 W → W.cell? ⟨g, 38, none⟩ = some (.int .i64 r) ∧ W.cell? ⟨g, 39, none⟩ = some (.int .i64 s) ∧ (Instr.loadAt 33 (.pointer (some ⟨g, 0, none⟩))).run Tryz.prog W = .ok (.agg EV) W) := by
    intro W u
    rw [← hr0, ← hs0]
    exact ⟨((r0.upd u).cell 38).trans (EvG.at38 hp), ((r0.upd u).cell 39).trans (EvG.at39 hp), EvG.load hp hEV (r0.upd u)⟩
  have HI : Hid (i64in r ∧ i64in s) := by rw [← hr0, ← hs0]; exact he.2.2.2.2.2.2
  have HT := Lib.hid (fun W (u : Upd [] [] w W) => text30_any ev he hx W)
  have HTL := Lib.hid (EvG.text_len he (by omega))
  have HC : Hid (∀ a b y : ByteArray, bs a = Lib.itoa r → bs b = Lib.itoa s → bs y = ev.text → bs (a ++ ByteArray.mk #[32] ++ b ++ ByteArray.mk #[32] ++ y) = ev.code) := by
    rw [← hr0, ← hs0]
    exact fun a b y ha hb hy => ev.code_is ha hb hy
  have HX := Lib.hid hx
  have HU0 := Lib.hid u0
  have ud0 : Upd [] [] w0 w0.drew := (Upd.refl _ _).drew
  have HG := Lib.hid hg
  rw [← hEV]
  clear hEV r0 u0 hg he hx hp hr0 hs0
  go_enter Tryz.func109, Tryz.ntmps109
  go_upto_region 1 with (fail)
  rw [← HG.out]
  clear hw0
  refine wp_region_noPanic ?_
  refine wp_region_held_drew (S := fun wp => wp.cell? ⟨g, 38, none⟩ = some (.int .i64 r) ∧ wp.cell? ⟨g, 39, none⟩ = some (.int .i64 s) ∧ (Instr.loadAt 33 (.pointer (some ⟨g, 0, none⟩))).run Tryz.prog wp = .ok (.agg EV) wp) (by kernel_rfl) ?_ (fun hHeld => ?_)
  · exact HK.out _ ud0
  refine tkY 0 hHeld ?_
  refine tkY 1 hHeld ?_
  refine tkY 2 hHeld ?_
  refine tkY 5 hHeld ?_
  refine tkY 6 hHeld ?_
  refine tkY 7 hHeld ?_
  refine tkL 11 hHeld EV (fun w hSw => hSw.2.2) ?_
  refine wpAnyH_ready (rs := [3]) (by kernel_rfl) (by simp) ?_
  refine AllReadyH.cons (by simp only [List.getElem?_toArray, List.getElem?_cons_succ, List.getElem?_cons_zero] <;> rfl) (fun K hK => ?_) ?_
  · go_simp; refine (decimal11_any r _ HI.out.1).mono ?_; rintro e1 wv1 ⟨y1, HY1, hy1, rfl, hq⟩; have ud1 := ud0.trans hq; clear hq; have hz1 : y1.size ≤ 20 := (by have := itoa_len r HI.out.1; omega); have fa1 : ¬ 9223372036854775807 < y1.size + 1 := (by omega); go_wp2_with fail
    refine hK.out _ _ ?_ (fun hHeld => ?_)
    · exact HK.out _ ud1
    clear hK K
    try simp only [Act.put, List.setIfInBounds_toArray, List.set_cons_zero, List.set_cons_succ]
    refine tkY 4 hHeld ?_
    refine wpAnyH_ready (rs := [8]) (by kernel_rfl) (by simp) ?_
    refine AllReadyH.cons (by simp only [List.getElem?_toArray, List.getElem?_cons_succ, List.getElem?_cons_zero] <;> rfl) (fun K hK => ?_) ?_
    · go_simp; refine (decimal11_any s _ HI.out.2).mono ?_; rintro e2 wv2 ⟨y2, HY2, hy2, rfl, hq⟩; have ud2 := ud1.trans hq; clear hq; have hz2 : y2.size ≤ 20 := (by have := itoa_len s HI.out.2; omega); have fa2 : ¬ 9223372036854775807 < y1.size + 1 + y2.size := (by omega); have fa3 : ¬ 9223372036854775807 < y1.size + 1 + y2.size + 1 := (by omega); go_wp2_with fail
      refine hK.out _ _ ?_ (fun hHeld => ?_)
      · exact HK.out _ ud2
      clear hK K
      try simp only [Act.put, List.setIfInBounds_toArray, List.set_cons_zero, List.set_cons_succ]
      refine tkY 9 hHeld ?_
      refine tkY 10 hHeld ?_
      refine wpAnyH_ready (rs := [12]) (by kernel_rfl) (by simp) ?_
      refine AllReadyH.cons (by simp only [List.getElem?_toArray, List.getElem?_cons_succ, List.getElem?_cons_zero] <;> rfl) (fun K hK => ?_) ?_
      · go_simp; rw [HEV.out]; refine (HT.out _ (HU0.out.trans ud2)).mono ?_; rintro e3 wv3 ⟨y3, HY3, hy3, rfl, hq⟩; have ud3 := ud2.trans hq; clear hq; have hz3 : y3.size ≤ 1000000250 := (by have := HTL.out; have := HX.out; omega); have fa4 : ¬ 9223372036854775807 < y1.size + 1 + y2.size + 1 + y3.size := (by omega); go_wp2_with fail
        refine hK.out _ _ ?_ (fun hHeld => ?_)
        · exact HK.out _ ud3
        clear hK K
        try simp only [Act.put, List.setIfInBounds_toArray, List.set_cons_zero, List.set_cons_succ]
        refine tkY 13 hHeld ?_
        refine tkY 14 hHeld ?_
        refine wpAnyH_done (by kernel_rfl) ?_ _
        refine NoPanic.normal ?_
        go_wp2_with fail
        go_ret
        have hb := HC.out y1 y2 y3 HY1.out HY2.out HY3.out
        exact ⟨_, hb, by rw [← hb, bs_length]; exact Nat.le_refl _, rfl, HU0.out.trans ud3⟩
      exact AllReadyH.nil
    exact AllReadyH.nil
  exact AllReadyH.nil
end Go.Proofs.YtcimcodljjcmgaaGreatDoor
