/- day.Text at the events of court's example. day.Text at any event. What the texts of courts share with those of kiosks and journals: rows of strings, blocks, stores. -/
import Derived.Test.YtcimcodljjcmgaaGreatDoorGAA
import Derived.Test.YtcimcodljjcmgaaGreatDoorGAL
import Derived.Test.YtcimcodljjcmgaaGreatDoorGAM
namespace Go.Proofs.YtcimcodljjcmgaaGreatDoor
open Go.RowKit
set_option maxRecDepth 100000

def EvA (w : World) (g : Nat) (c : UInt8) (r s : Int) : Prop := w.heap[g]? = some (.cells (evV c r s).toArray 33 (0, 0))
theorem EvA.upd {w w' : World} {g : Nat} {c : UInt8} {r s : Int} (h : EvA w g c r s) (u : Upd [] [] w w') : EvA w' g c r s := row_updH h u
theorem EvA.cell {w : World} {g : Nat} {c : UInt8} {r s : Int} (h : EvA w g c r s) (j : Nat) : w.cell? ⟨g, j, none⟩ = (evV c r s)[j]? := by
  rw [cell_of_row w g j _ _ _ h, List.getElem?_toArray]
theorem ev_at38 (c : UInt8) (r s : Int) : (evV c r s)[38]? = some (.int .i64 r) := by
  unfold evV
  rw [List.getElem?_append_right (by simp), List.getElem?_append_right (by simp [byteVals, zero32])]
  simp [byteVals, zero32]
theorem ev_at39 (c : UInt8) (r s : Int) : (evV c r s)[39]? = some (.int .i64 s) := by
  unfold evV
  rw [List.getElem?_append_right (by simp), List.getElem?_append_right (by simp [byteVals, zero32])]
  simp [byteVals, zero32]
theorem zeroHashInfo : (Tryz.prog.info? 29).map (·.size) = some (byteVals zero32).length := by
  rw [show (byteVals zero32).length = 32 by simp [byteVals, zero32]]
  kernel_rfl
def evS (g : Nat) (c : UInt8) (ZH : Array Value) (w : World) : Prop := w.cell? ⟨g, 0, none⟩ = some (.int .i64 5) ∧ w.cell? ⟨g, 1, none⟩ = some (.int .i64 4) ∧ w.cell? ⟨g, 2, none⟩ = some (.int .i64 3) ∧ w.cell? ⟨g, 3, none⟩ = some (.int .i64 0) ∧ w.cell? ⟨g, 4, none⟩ = some (.int .i64 0) ∧ w.cell? ⟨g, 5, none⟩ = some (.string ⟨#[c]⟩) ∧ (Instr.loadAt 29 (.pointer (some ⟨g, 6, none⟩))).run Tryz.prog w = .ok (.agg ZH) w
theorem EvA.hash {w : World} {g : Nat} {c : UInt8} {r s : Int} (h : EvA w g c r s) : w.rangeAt g 6 (byteVals zero32) := by
  intro j v hv
  rw [h.cell]
  exact mid_get (A := [.int .i64 5, .int .i64 4, .int .i64 3, .int .i64 0, .int .i64 0, .string ⟨#[c]⟩]) rfl hv
theorem EvA.s {w : World} {g : Nat} {c : UInt8} {r s : Int} (h : EvA w g c r s) {ZH : Array Value} (hZ : ZH = (byteVals zero32).toArray) : evS g c ZH w := by
  subst hZ
  exact ⟨h.cell 0, h.cell 1, h.cell 2, h.cell 3, h.cell 4, h.cell 5, run_loadAt_mid w g 6 29 _ _ h.hash Tryz.underlying29 rfl zeroHashInfo⟩
theorem evV_load {w : World} {g : Nat} {c : UInt8} {r s : Int} {E : Array Value} (hE : E = (evV c r s).toArray) (h : EvA w g c r s) : (Instr.loadAt 33 (.pointer (some ⟨g, 0, none⟩))).run Tryz.prog w = .ok (.agg E) w := by
  subst hE
  refine run_loadAt_mid w g 0 33 _ _ (fun j v hv => ?_) Tryz.underlying33 rfl ?_
  · rw [h.cell, Nat.zero_add]; exact hv
  · rw [evV_len]; kernel_rfl
theorem itoa_is (n : Int) (t : ByteArray) (h : Lib.itoa n = bs t) (hn : i64in n) (w : World) (htab : Tabs w) : Calls Tryz.prog 19 #[.int .i64 n] w (fun e w' => e = .returned (.string t) ∧ Upd [] [] w w') := by
  refine (itoa_any n w hn htab).mono ?_
  rintro e w' ⟨y, HY, _, rfl, hq⟩
  obtain rfl : y = t := bs_inj (HY.out.trans h)
  exact ⟨rfl, hq⟩
set_option maxHeartbeats 4000000 in
theorem dText_any (c : UInt8) (r s : Int) (w : World) (htab : Tabs w) : Calls Tryz.prog 6 #[.agg (evV c r s).toArray] w (MkS (tOf c) w) := by
  obtain ⟨EV, hEV⟩ : ∃ EV, EV = (evV c r s).toArray := ⟨_, rfl⟩
  obtain ⟨ZH, hZH⟩ : ∃ ZH, ZH = (byteVals zero32).toArray := ⟨_, rfl⟩
  have HZH := Lib.hid hZH
  obtain ⟨w0, hw0⟩ : ∃ w0, w.alloc (.cells EV 33) = w0 := ⟨_, rfl⟩
  obtain ⟨g, hg⟩ : ∃ g, g = w.heap.size := ⟨_, rfl⟩
  have r0 : EvA w0 g c r s := by rw [hg, ← hw0, hEV]; exact heap_alloc_new _ _
  have u0 : Upd [] [] w w0 := by rw [← hw0]; exact (Upd.refl _ _).alloc _
  have HK := Lib.hid (fun W (u : Upd [] [] w0 W) => (r0.upd u).s hZH)
  have HU0 := Lib.hid u0
  have ud0 : Upd [] [] w0 w0.drew := (Upd.refl _ _).drew
  have HG := Lib.hid hg
  rw [← hEV]
  clear hEV hZH r0 u0 hg
  go_enter Tryz.func6, Tryz.ntmps6
  go_upto_region 1 with (fail)
  rw [← HG.out]
  clear hw0
  refine wp_region_noPanic ?_
  refine wp_region_held_drew (S := fun wp => wp.cell? ⟨g, 0, none⟩ = some (.int .i64 5) ∧ wp.cell? ⟨g, 1, none⟩ = some (.int .i64 4) ∧ wp.cell? ⟨g, 2, none⟩ = some (.int .i64 3) ∧ wp.cell? ⟨g, 3, none⟩ = some (.int .i64 0) ∧ wp.cell? ⟨g, 4, none⟩ = some (.int .i64 0) ∧ wp.cell? ⟨g, 5, none⟩ = some (.string ⟨#[c]⟩) ∧ (Instr.loadAt 29 (.pointer (some ⟨g, 6, none⟩))).run Tryz.prog wp = .ok (.agg ZH) wp) (by kernel_rfl) ?_ (fun hHeld => ?_)
  · exact HK.out _ ud0
  refine tkY 0 hHeld ?_
  refine tkY 1 hHeld ?_
  refine tkY 3 hHeld ?_
  refine tkY 4 hHeld ?_
  refine tkY 6 hHeld ?_
  refine tkY 7 hHeld ?_
  refine tkY 9 hHeld ?_
  refine tkY 10 hHeld ?_
  refine tkY 12 hHeld ?_
  refine tkY 13 hHeld ?_
  refine tkY 15 hHeld ?_
  refine tkL 16 hHeld ZH (fun w hSw => hSw.2.2.2.2.2.2) ?_
  refine tkY 18 hHeld ?_
  refine tkY 19 hHeld ?_
  refine wpAnyH_ready (rs := [2]) (by kernel_rfl) (by simp) ?_
  refine AllReadyH.cons (by simp only [List.getElem?_toArray, List.getElem?_cons_succ, List.getElem?_cons_zero] <;> rfl) (fun K hK => ?_) ?_
  · go_simp; refine (itoa_is 5 ⟨#[53]⟩ itoa_5 (by unfold i64in; omega) _ (htab.upd (HU0.out.trans ud0))).mono ?_; rintro e wv1 ⟨rfl, hq⟩; have ud1 := ud0.trans hq; clear hq; go_wp2_with fail
    refine hK.out _ _ ?_ (fun hHeld => ?_)
    · exact HK.out _ ud1
    clear hK K
    try simp only [Act.put, List.setIfInBounds_toArray, List.set_cons_zero, List.set_cons_succ]
    refine wpAnyH_ready (rs := [5]) (by kernel_rfl) (by simp) ?_
    refine AllReadyH.cons (by simp only [List.getElem?_toArray, List.getElem?_cons_succ, List.getElem?_cons_zero] <;> rfl) (fun K hK => ?_) ?_
    · go_simp; refine (itoa_is 4 ⟨#[52]⟩ itoa_4 (by unfold i64in; omega) _ (htab.upd (HU0.out.trans ud1))).mono ?_; rintro e wv2 ⟨rfl, hq⟩; have ud2 := ud1.trans hq; clear hq; go_wp2_with fail
      refine hK.out _ _ ?_ (fun hHeld => ?_)
      · exact HK.out _ ud2
      clear hK K
      try simp only [Act.put, List.setIfInBounds_toArray, List.set_cons_zero, List.set_cons_succ]
      refine wpAnyH_ready (rs := [8]) (by kernel_rfl) (by simp) ?_
      refine AllReadyH.cons (by simp only [List.getElem?_toArray, List.getElem?_cons_succ, List.getElem?_cons_zero] <;> rfl) (fun K hK => ?_) ?_
      · go_simp; refine (itoa_is 3 ⟨#[51]⟩ itoa_3 (by unfold i64in; omega) _ (htab.upd (HU0.out.trans ud2))).mono ?_; rintro e wv3 ⟨rfl, hq⟩; have ud3 := ud2.trans hq; clear hq; go_wp2_with fail
        refine hK.out _ _ ?_ (fun hHeld => ?_)
        · exact HK.out _ ud3
        clear hK K
        try simp only [Act.put, List.setIfInBounds_toArray, List.set_cons_zero, List.set_cons_succ]
        refine wpAnyH_ready (rs := [11]) (by kernel_rfl) (by simp) ?_
        refine AllReadyH.cons (by simp only [List.getElem?_toArray, List.getElem?_cons_succ, List.getElem?_cons_zero] <;> rfl) (fun K hK => ?_) ?_
        · go_simp; refine (itoa_is 0 ⟨#[48]⟩ itoa_0 (by unfold i64in; omega) _ (htab.upd (HU0.out.trans ud3))).mono ?_; rintro e wv4 ⟨rfl, hq⟩; have ud4 := ud3.trans hq; clear hq; go_wp2_with fail
          refine hK.out _ _ ?_ (fun hHeld => ?_)
          · exact HK.out _ ud4
          clear hK K
          try simp only [Act.put, List.setIfInBounds_toArray, List.set_cons_zero, List.set_cons_succ]
          refine wpAnyH_ready (rs := [14]) (by kernel_rfl) (by simp) ?_
          refine AllReadyH.cons (by simp only [List.getElem?_toArray, List.getElem?_cons_succ, List.getElem?_cons_zero] <;> rfl) (fun K hK => ?_) ?_
          · go_simp; refine (itoa_is 0 ⟨#[48]⟩ itoa_0 (by unfold i64in; omega) _ (htab.upd (HU0.out.trans ud4))).mono ?_; rintro e wv5 ⟨rfl, hq⟩; have ud5 := ud4.trans hq; clear hq; go_wp2_with fail
            refine hK.out _ _ ?_ (fun hHeld => ?_)
            · exact HK.out _ ud5
            clear hK K
            try simp only [Act.put, List.setIfInBounds_toArray, List.set_cons_zero, List.set_cons_succ]
            refine wpAnyH_ready (rs := [17]) (by kernel_rfl) (by simp) ?_
            refine AllReadyH.cons (by simp only [List.getElem?_toArray, List.getElem?_cons_succ, List.getElem?_cons_zero] <;> rfl) (fun K hK => ?_) ?_
            · go_simp; rw [HZH.out]; refine (hexText_any zero32 rfl _).mono ?_; rintro e wv6 ⟨y6, HY6, hy6, rfl, hq⟩; have ud6 := ud5.trans hq; clear hq; go_wp2_with fail
              refine hK.out _ _ ?_ (fun hHeld => ?_)
              · exact HK.out _ ud6
              clear hK K
              try simp only [Act.put, List.setIfInBounds_toArray, List.set_cons_zero, List.set_cons_succ]
              refine wpAnyH_ready (rs := [20]) (by kernel_rfl) (by simp) ?_
              refine AllReadyH.cons (by simp only [List.getElem?_toArray, List.getElem?_cons_succ, List.getElem?_cons_zero] <;> rfl) (fun K hK => ?_) ?_
              · go_simp; refine (dWord_any c _ (htab.upd (HU0.out.trans ud6))).mono ?_; rintro e wv7 ⟨rfl, hq⟩; have ud7 := ud6.trans hq; clear hq; go_wp2_with fail
                refine hK.out _ _ ?_ (fun hHeld => ?_)
                · exact HK.out _ ud7
                clear hK K
                try simp only [Act.put, List.setIfInBounds_toArray, List.set_cons_zero, List.set_cons_succ]
                refine wpAnyH_ready (rs := [21]) (by kernel_rfl) (by simp) ?_
                refine AllReadyH.cons (by simp only [List.getElem?_toArray, List.getElem?_cons_succ, List.getElem?_cons_zero] <;> rfl) (fun K hK => ?_) ?_
                · go_simp
                  refine hK.out _ _ ?_ (fun hHeld => ?_)
                  · exact HK.out _ (ud7.alloc _)
                  clear hK K
                  try simp only [Act.put, List.setIfInBounds_toArray, List.set_cons_zero, List.set_cons_succ]
                  refine tkY 22 hHeld ?_
                  refine wpAnyH_done (by kernel_rfl) ?_ _
                  refine NoPanic.normal ?_
                  go_wp2_with fail
                  have hXS := strsIn_new wv7 [⟨#[101, 118, 101, 110, 116]⟩, ⟨#[53]⟩, ⟨#[52]⟩, ⟨#[51]⟩, ⟨#[48]⟩, ⟨#[48]⟩, y6, ⟨#[49, 58, c]⟩] 9
                  have hjoin : Lib.join ([⟨#[101, 118, 101, 110, 116]⟩, ⟨#[53]⟩, ⟨#[52]⟩, ⟨#[51]⟩, ⟨#[48]⟩, ⟨#[48]⟩, y6, (⟨#[49, 58, c]⟩ : ByteArray)].map bs) [32] = tOf c := by
                    rw [← evt_join c, ← hex_zero, ← HY6.out]
                    rfl
                  have hj := Tryz.strings_Join wv7.heap.size 0 8 [⟨#[101, 118, 101, 110, 116]⟩, ⟨#[53]⟩, ⟨#[52]⟩, ⟨#[51]⟩, ⟨#[48]⟩, ⟨#[48]⟩, y6, ⟨#[49, 58, c]⟩] ⟨#[32]⟩ _ hXS.2 hXS.1 (by simp) (by simp) (by
                    show (Lib.join (_) [32]).length ≤ _
                    have e := congrArg List.length hjoin
                    rw [tOf_len] at e
                    exact Nat.le_trans (Nat.le_of_eq e) (by omega))
                  refine hj.mono ?_
                  rintro e w9 ⟨rfl, hb⟩
                  have hu := upd_of_below hb
                  obtain ⟨T, hT⟩ : ∃ T : ByteArray, T = ⟨(Lib.join ([⟨#[101, 118, 101, 110, 116]⟩, ⟨#[53]⟩, ⟨#[52]⟩, ⟨#[51]⟩, ⟨#[48]⟩, ⟨#[48]⟩, y6, (⟨#[49, 58, c]⟩ : ByteArray)].map (·.data.toList)) (⟨#[32]⟩ : ByteArray).data.toList).toArray⟩ := ⟨_, rfl⟩
                  rw [← hT]
                  have HB : Hid (bs T = tOf c) := by
                    show _ = _
                    rw [hT, bs_mk]
                    exact hjoin
                  have HU := Lib.hid ((HU0.out.trans (ud7.alloc _)).trans hu)
                  clear hj hXS hjoin hb hu hT
                  go_wp2_with fail
                  go_ret
                  exact ⟨T, HB, by rw [← HB.out, bs_length]; exact Nat.le_refl _, rfl, HU.out⟩
                exact AllReadyH.nil
              exact AllReadyH.nil
            exact AllReadyH.nil
          exact AllReadyH.nil
        exact AllReadyH.nil
      exact AllReadyH.nil
    exact AllReadyH.nil
  exact AllReadyH.nil
end Go.Proofs.YtcimcodljjcmgaaGreatDoor

namespace Go.Proofs.YtcimcodljjcmgaaGreatDoor
open Go.RowKit
set_option maxRecDepth 100000

def EgA (w : World) (g : Nat) (e : EvG) : Prop := w.heap[g]? = some (.cells e.V.toArray 33 (0, 0))
theorem EgA.upd {w w' : World} {g : Nat} {e : EvG} (h : EgA w g e) (u : Upd [] [] w w') : EgA w' g e := row_updH h u
theorem EgA.cell {w : World} {g : Nat} {e : EvG} (h : EgA w g e) (j : Nat) : w.cell? ⟨g, j, none⟩ = e.V[j]? := by
  rw [cell_of_row w g j _ _ _ h, List.getElem?_toArray]
theorem EvG.at38 {e : EvG} (h : e.p.length = 32) : e.V[38]? = some (.int .i64 e.r) := by
  unfold EvG.V
  rw [List.getElem?_append_right (by simp), List.getElem?_append_right (by simp [byteVals, h])]
  simp [byteVals, h]
theorem EvG.at39 {e : EvG} (h : e.p.length = 32) : e.V[39]? = some (.int .i64 e.s) := by
  unfold EvG.V
  rw [List.getElem?_append_right (by simp), List.getElem?_append_right (by simp [byteVals, h])]
  simp [byteVals, h]
theorem hashInfoG {p : List UInt8} (h : p.length = 32) : (Tryz.prog.info? 29).map (·.size) = some (byteVals p).length := by
  rw [show (byteVals p).length = 32 by simp [byteVals, h]]
  kernel_rfl
theorem EgA.hash {w : World} {g : Nat} {e : EvG} (h : EgA w g e) : w.rangeAt g 6 (byteVals e.p) := by
  intro j v hv
  rw [h.cell]
  exact mid_get (A := [.int .i64 e.q, .int .i64 e.k, .int .i64 e.h, .int .i64 e.t, .int .i64 e.n, .string e.x]) rfl hv
theorem EvG.load {w : World} {g : Nat} {e : EvG} {E : Array Value} (hp : e.p.length = 32) (hE : E = e.V.toArray) (h : EgA w g e) : (Instr.loadAt 33 (.pointer (some ⟨g, 0, none⟩))).run Tryz.prog w = .ok (.agg E) w := by
  subst hE
  refine run_loadAt_mid w g 0 33 _ _ (fun j v hv => ?_) Tryz.underlying33 rfl ?_
  · rw [h.cell, Nat.zero_add]; exact hv
  · rw [EvG.V_len hp]; kernel_rfl
set_option maxHeartbeats 4000000 in
theorem dTextG (e : EvG) (he : e.ok) (hx : e.x.size ≤ 1000000000) (w : World) (htab : Tabs w) : Calls Tryz.prog 6 #[.agg e.V.toArray] w (MkS e.text w) := by
  obtain ⟨EV, hEV⟩ : ∃ EV, EV = e.V.toArray := ⟨_, rfl⟩
  obtain ⟨ZH, hZH⟩ : ∃ ZH, ZH = (byteVals e.p).toArray := ⟨_, rfl⟩
  have HZH := Lib.hid hZH
  obtain ⟨w0, hw0⟩ : ∃ w0, w.alloc (.cells EV 33) = w0 := ⟨_, rfl⟩
  obtain ⟨g, hg⟩ : ∃ g, g = w.heap.size := ⟨_, rfl⟩
  have r0 : EgA w0 g e := by rw [hg, ← hw0, hEV]; exact heap_alloc_new _ _
  have u0 : Upd [] [] w w0 := by rw [← hw0]; exact (Upd.refl _ _).alloc _
  have HJ := Lib.hid e.text_join
  have HL := Lib.hid (EvG.text_len he hx)
  have HOK := Lib.hid he
  obtain ⟨q, hq0⟩ : ∃ q, e.q = q := ⟨_, rfl⟩
  obtain ⟨k, hk0⟩ : ∃ k, e.k = k := ⟨_, rfl⟩
  obtain ⟨h, hh0⟩ : ∃ h, e.h = h := ⟨_, rfl⟩
  obtain ⟨t, ht0⟩ : ∃ t, e.t = t := ⟨_, rfl⟩
  obtain ⟨n, hn0⟩ : ∃ n, e.n = n := ⟨_, rfl⟩
  obtain ⟨x, hx0⟩ : ∃ x, e.x = x := ⟨_, rfl⟩
  obtain ⟨p, hp0⟩ : ∃ p, e.p = p := ⟨_, rfl⟩
  have HK : Hid (∀ W, Upd [] [] w0 W → W.cell? ⟨g, 0, none⟩ = some (.int .i64 q) ∧ W.cell? ⟨g, 1, none⟩ = some (.int .i64 k) ∧ W.cell? ⟨g, 2, none⟩ = some (.int .i64 h) ∧ W.cell? ⟨g, 3, none⟩ = some (.int .i64 t) ∧ W.cell? ⟨g, 4, none⟩ = some (.int .i64 n) ∧ W.cell? ⟨g, 5, none⟩ = some (.string x) ∧ (Instr.loadAt 29 (.pointer (some ⟨g, 6, none⟩))).run Tryz.prog W = .ok (.agg ZH) W) := by
    intro W u
    have c := (r0.upd u)
    refine ⟨(c.cell 0).trans ?_, (c.cell 1).trans ?_, (c.cell 2).trans ?_, (c.cell 3).trans ?_, (c.cell 4).trans ?_, (c.cell 5).trans ?_, ?_⟩
    · rw [← hq0]; rfl
    · rw [← hk0]; rfl
    · rw [← hh0]; rfl
    · rw [← ht0]; rfl
    · rw [← hn0]; rfl
    · rw [← hx0]; rfl
    · rw [hZH]; exact run_loadAt_mid W g 6 29 _ _ c.hash Tryz.underlying29 rfl (hashInfoG he.2.2.2.2.2.1)
  have HI : Hid (i64in q ∧ i64in k ∧ i64in h ∧ i64in t ∧ i64in n) := by rw [← hq0, ← hk0, ← hh0, ← ht0, ← hn0]; exact ⟨he.1, he.2.1, he.2.2.1, he.2.2.2.1, he.2.2.2.2.1⟩
  have HP : Hid (p.length = 32 ∧ x.size ≤ 1000000000) := by rw [← hp0, ← hx0]; exact ⟨he.2.2.2.2.2.1, hx⟩
  rw [hp0] at HZH
  have HJ2 : Hid (Lib.join [wEv, Lib.itoa q, Lib.itoa k, Lib.itoa h, Lib.itoa t, Lib.itoa n, hexL p, wordG (bs x)] [32] = e.text) := by
    rw [← hq0, ← hk0, ← hh0, ← ht0, ← hn0, ← hx0, ← hp0]
    exact HJ.out
  have HL2 : Hid (e.text.length ≤ 1000000250) := Nat.le_trans HL.out (by omega)
  have HU0 := Lib.hid u0
  have ud0 : Upd [] [] w0 w0.drew := (Upd.refl _ _).drew
  have HG := Lib.hid hg
  rw [← hEV]
  clear hEV hZH r0 u0 hg he hx HJ HL HOK hq0 hk0 hh0 ht0 hn0 hx0 hp0
  obtain ⟨TX, hTX⟩ : ∃ l, e.text = l := ⟨_, rfl⟩
  rw [hTX] at HJ2 HL2 ⊢
  clear hTX
  go_enter Tryz.func6, Tryz.ntmps6
  go_upto_region 1 with (fail)
  rw [← HG.out]
  clear hw0
  refine wp_region_noPanic ?_
  refine wp_region_held_drew (S := fun wp => wp.cell? ⟨g, 0, none⟩ = some (.int .i64 q) ∧ wp.cell? ⟨g, 1, none⟩ = some (.int .i64 k) ∧ wp.cell? ⟨g, 2, none⟩ = some (.int .i64 h) ∧ wp.cell? ⟨g, 3, none⟩ = some (.int .i64 t) ∧ wp.cell? ⟨g, 4, none⟩ = some (.int .i64 n) ∧ wp.cell? ⟨g, 5, none⟩ = some (.string x) ∧ (Instr.loadAt 29 (.pointer (some ⟨g, 6, none⟩))).run Tryz.prog wp = .ok (.agg ZH) wp) (by kernel_rfl) ?_ (fun hHeld => ?_)
  · exact HK.out _ ud0
  refine tkY 0 hHeld ?_
  refine tkY 1 hHeld ?_
  refine tkY 3 hHeld ?_
  refine tkY 4 hHeld ?_
  refine tkY 6 hHeld ?_
  refine tkY 7 hHeld ?_
  refine tkY 9 hHeld ?_
  refine tkY 10 hHeld ?_
  refine tkY 12 hHeld ?_
  refine tkY 13 hHeld ?_
  refine tkY 15 hHeld ?_
  refine tkL 16 hHeld ZH (fun w hSw => hSw.2.2.2.2.2.2) ?_
  refine tkY 18 hHeld ?_
  refine tkY 19 hHeld ?_
  refine wpAnyH_ready (rs := [2]) (by kernel_rfl) (by simp) ?_
  refine AllReadyH.cons (by simp only [List.getElem?_toArray, List.getElem?_cons_succ, List.getElem?_cons_zero] <;> rfl) (fun K hK => ?_) ?_
  · go_simp; refine (itoa_any q _ HI.out.1 (htab.upd (HU0.out.trans ud0))).mono ?_; rintro e1 wv1 ⟨y1, HY1, hy1, rfl, hq⟩; have ud1 := ud0.trans hq; clear hq; go_wp2_with fail
    refine hK.out _ _ ?_ (fun hHeld => ?_)
    · exact HK.out _ ud1
    clear hK K
    try simp only [Act.put, List.setIfInBounds_toArray, List.set_cons_zero, List.set_cons_succ]
    refine wpAnyH_ready (rs := [5]) (by kernel_rfl) (by simp) ?_
    refine AllReadyH.cons (by simp only [List.getElem?_toArray, List.getElem?_cons_succ, List.getElem?_cons_zero] <;> rfl) (fun K hK => ?_) ?_
    · go_simp; refine (itoa_any k _ HI.out.2.1 (htab.upd (HU0.out.trans ud1))).mono ?_; rintro e2 wv2 ⟨y2, HY2, hy2, rfl, hq⟩; have ud2 := ud1.trans hq; clear hq; go_wp2_with fail
      refine hK.out _ _ ?_ (fun hHeld => ?_)
      · exact HK.out _ ud2
      clear hK K
      try simp only [Act.put, List.setIfInBounds_toArray, List.set_cons_zero, List.set_cons_succ]
      refine wpAnyH_ready (rs := [8]) (by kernel_rfl) (by simp) ?_
      refine AllReadyH.cons (by simp only [List.getElem?_toArray, List.getElem?_cons_succ, List.getElem?_cons_zero] <;> rfl) (fun K hK => ?_) ?_
      · go_simp; refine (itoa_any h _ HI.out.2.2.1 (htab.upd (HU0.out.trans ud2))).mono ?_; rintro e3 wv3 ⟨y3, HY3, hy3, rfl, hq⟩; have ud3 := ud2.trans hq; clear hq; go_wp2_with fail
        refine hK.out _ _ ?_ (fun hHeld => ?_)
        · exact HK.out _ ud3
        clear hK K
        try simp only [Act.put, List.setIfInBounds_toArray, List.set_cons_zero, List.set_cons_succ]
        refine wpAnyH_ready (rs := [11]) (by kernel_rfl) (by simp) ?_
        refine AllReadyH.cons (by simp only [List.getElem?_toArray, List.getElem?_cons_succ, List.getElem?_cons_zero] <;> rfl) (fun K hK => ?_) ?_
        · go_simp; refine (itoa_any t _ HI.out.2.2.2.1 (htab.upd (HU0.out.trans ud3))).mono ?_; rintro e4 wv4 ⟨y4, HY4, hy4, rfl, hq⟩; have ud4 := ud3.trans hq; clear hq; go_wp2_with fail
          refine hK.out _ _ ?_ (fun hHeld => ?_)
          · exact HK.out _ ud4
          clear hK K
          try simp only [Act.put, List.setIfInBounds_toArray, List.set_cons_zero, List.set_cons_succ]
          refine wpAnyH_ready (rs := [14]) (by kernel_rfl) (by simp) ?_
          refine AllReadyH.cons (by simp only [List.getElem?_toArray, List.getElem?_cons_succ, List.getElem?_cons_zero] <;> rfl) (fun K hK => ?_) ?_
          · go_simp; refine (itoa_any n _ HI.out.2.2.2.2 (htab.upd (HU0.out.trans ud4))).mono ?_; rintro e5 wv5 ⟨y5, HY5, hy5, rfl, hq⟩; have ud5 := ud4.trans hq; clear hq; go_wp2_with fail
            refine hK.out _ _ ?_ (fun hHeld => ?_)
            · exact HK.out _ ud5
            clear hK K
            try simp only [Act.put, List.setIfInBounds_toArray, List.set_cons_zero, List.set_cons_succ]
            refine wpAnyH_ready (rs := [17]) (by kernel_rfl) (by simp) ?_
            refine AllReadyH.cons (by simp only [List.getElem?_toArray, List.getElem?_cons_succ, List.getElem?_cons_zero] <;> rfl) (fun K hK => ?_) ?_
            · go_simp; rw [HZH.out]; refine (hexText_any p HP.out.1 _).mono ?_; rintro e6 wv6 ⟨y6, HY6, hy6, rfl, hq⟩; have ud6 := ud5.trans hq; clear hq; go_wp2_with fail
              refine hK.out _ _ ?_ (fun hHeld => ?_)
              · exact HK.out _ ud6
              clear hK K
              try simp only [Act.put, List.setIfInBounds_toArray, List.set_cons_zero, List.set_cons_succ]
              refine wpAnyH_ready (rs := [20]) (by kernel_rfl) (by simp) ?_
              refine AllReadyH.cons (by simp only [List.getElem?_toArray, List.getElem?_cons_succ, List.getElem?_cons_zero] <;> rfl) (fun K hK => ?_) ?_
              · go_simp; refine (dWordG x _ HP.out.2 (htab.upd (HU0.out.trans ud6))).mono ?_; rintro e7 wv7 ⟨y7, HY7, hy7, rfl, hq⟩; have ud7 := ud6.trans hq; clear hq; go_wp2_with fail
                refine hK.out _ _ ?_ (fun hHeld => ?_)
                · exact HK.out _ ud7
                clear hK K
                try simp only [Act.put, List.setIfInBounds_toArray, List.set_cons_zero, List.set_cons_succ]
                refine wpAnyH_ready (rs := [21]) (by kernel_rfl) (by simp) ?_
                refine AllReadyH.cons (by simp only [List.getElem?_toArray, List.getElem?_cons_succ, List.getElem?_cons_zero] <;> rfl) (fun K hK => ?_) ?_
                · go_simp
                  refine hK.out _ _ ?_ (fun hHeld => ?_)
                  · exact HK.out _ (ud7.alloc _)
                  clear hK K
                  try simp only [Act.put, List.setIfInBounds_toArray, List.set_cons_zero, List.set_cons_succ]
                  refine tkY 22 hHeld ?_
                  refine wpAnyH_done (by kernel_rfl) ?_ _
                  refine NoPanic.normal ?_
                  go_wp2_with fail
                  have hXS := strsIn_new wv7 [⟨#[101, 118, 101, 110, 116]⟩, y1, y2, y3, y4, y5, y6, y7] 9
                  have hjoin : Lib.join ([⟨#[101, 118, 101, 110, 116]⟩, y1, y2, y3, y4, y5, y6, (y7 : ByteArray)].map bs) [32] = TX := by
                    rw [← HJ2.out, ← HY1.out, ← HY2.out, ← HY3.out, ← HY4.out, ← HY5.out, ← HY6.out, ← HY7.out]
                    rfl
                  have hj := Tryz.strings_Join wv7.heap.size 0 8 [⟨#[101, 118, 101, 110, 116]⟩, y1, y2, y3, y4, y5, y6, y7] ⟨#[32]⟩ _ hXS.2 hXS.1 (by simp) (by simp) (by
                    show (Lib.join (_) [32]).length ≤ _
                    have e := congrArg List.length hjoin
                    have := HL2.out
                    exact Nat.le_trans (Nat.le_of_eq e) (by omega))
                  refine hj.mono ?_
                  rintro e9 w9 ⟨rfl, hb⟩
                  have hu := upd_of_below hb
                  obtain ⟨T, hT⟩ : ∃ T : ByteArray, T = ⟨(Lib.join ([⟨#[101, 118, 101, 110, 116]⟩, y1, y2, y3, y4, y5, y6, (y7 : ByteArray)].map (·.data.toList)) (⟨#[32]⟩ : ByteArray).data.toList).toArray⟩ := ⟨_, rfl⟩
                  rw [← hT]
                  have HB : Hid (bs T = TX) := by
                    show _ = _
                    rw [hT, bs_mk]
                    exact hjoin
                  have HU := Lib.hid ((HU0.out.trans (ud7.alloc _)).trans hu)
                  clear hj hXS hjoin hb hu hT
                  go_wp2_with fail
                  go_ret
                  exact ⟨T, HB, by rw [← HB.out, bs_length]; exact Nat.le_refl _, rfl, HU.out⟩
                exact AllReadyH.nil
              exact AllReadyH.nil
            exact AllReadyH.nil
          exact AllReadyH.nil
        exact AllReadyH.nil
      exact AllReadyH.nil
    exact AllReadyH.nil
  exact AllReadyH.nil
end Go.Proofs.YtcimcodljjcmgaaGreatDoor

namespace Go.Proofs.YtcimcodljjcmgaaGreatDoor
open Go.RowKit
set_option maxRecDepth 100000

theorem blk_lt {w : World} {b : Nat} {o : Obj} (h : w.heap[b]? = some o) : b < w.heap.size := (Array.getElem?_eq_some_iff.1 h).1

def strVals (ss : List (List UInt8)) : List Value := ss.map strV
def StrRow (w : World) (v : Value) (ss : List (List UInt8)) : Prop := w.ownsRow 0 9 1 v ss.length (strVals ss)

theorem info_str : (Tryz.prog.info? 9).map (fun i => (i.zero, i.size, i.bytes)) = some (some (.string ⟨#[]⟩), 1, 16) := by kernel_rfl

theorem StrRow.same {w w' : World} {v : Value} {ss : List (List UInt8)} (h : StrRow w v ss) (hs : ∀ k, k ∈ foot v → w'.heap[k]? = w.heap[k]?) : StrRow w' v ss := row_same h hs
theorem StrRow.lt {w : World} {v : Value} {ss : List (List UInt8)} (h : StrRow w v ss) : ∀ k, k ∈ foot v → k < w.heap.size := row_foot_lt h
theorem strRow_nil (w : World) : StrRow w (.slice none 0 0) [] := World.ownsRow_nil _ _ _ _

theorem append_str (w : World) (v : Value) (ss : List (List UInt8)) (r : ByteArray) (h : StrRow w v ss) (hl : ss.length ≤ 1099511627776) :
    ∃ v' w1, (Builtin.append_ #[24, 24] 24 #[v, .slice (some ⟨w.heap.size, 0, none⟩) 1 1]).run Tryz.prog (w.alloc (.cells #[.string r] 9)) = .ok v' w1 ∧
      StrRow w1 v' (ss ++ [bs r]) ∧ Upd (foot v) (foot v') w w1 := by
  obtain ⟨i0, hi, hz0, hz1, hz2⟩ := info_parts info_str
  obtain ⟨v', w1, hr, hrow, hup⟩ := append_block (P := Tryz.prog) (w.alloc (.cells #[.string r] 9)) 24 24 9 i0 _ 1 16 Tryz.underlying24 hi hz0 hz1 hz2 rfl (by omega) v ss.length (strVals ss)
    (row_same h (fun k hk => Below.heap_alloc _ _ _ (h.lt k hk))) ⟨w.heap.size, 0, none⟩ 1 1 [.string r] rfl
    (by intro j u hj; match j, hj with
        | 0, hj => simp at hj; subst hj; simp [Addr.add])
    (by intro u hu; simp at hu; subst hu; rfl) (by omega) (by simp [maxLen]; omega)
  refine ⟨v', w1, hr, ?_, hup.fore⟩
  unfold StrRow
  have e : strVals (ss ++ [bs r]) = strVals ss ++ [.string r] := by simp [strVals, strV_bs]
  rw [e, List.length_append]
  exact hrow

theorem Upd.past {a b c : World} {T S S' : List Nat} (u : Upd T T a b) (v : Upd S S' b c) (hS : ∀ k, k ∈ S → a.heap.size ≤ k) : Upd T T a c :=
  ⟨v.os.trans u.os, v.tape.trans u.tape, v.output.trans u.output, Nat.le_trans u.size v.size, fun k hk hn => (v.block k (Nat.lt_of_lt_of_le hk u.size) (fun hm => by have := hS k hm; omega)).trans (u.block k hk hn), fun _ hk => .inl hk⟩
theorem Upd.widen {w w' : World} {S K : List Nat} (h : Upd S S w w') (hS : ∀ k, k ∈ S → k ∈ K) : Upd K K w w' := ⟨h.os, h.tape, h.output, h.size, fun k hk hn => h.block k hk (fun hm => hn (hS k hm)), fun _ hk => .inl hk⟩
theorem Upd.setCellsIn {S S' : List Nat} {a : World} {g : Nat} (hg : g ∈ S) : ∀ (V : List Value) (o : Nat) (b : World), Upd S S' a b → Upd S S' a (b.setCells g o V)
  | [], _, _, h => h
  | v :: V, o, b, h => by
    rw [World.setCells]
    exact Upd.setCellsIn hg V (o + 1) _ (h.setCell (p := ⟨g, o, none⟩) hg v)
theorem row_range {w : World} {g : Nat} {l : List Value} {t : TypeId} {R : Array Value} (hR : R = l.toArray) (h : w.heap[g]? = some (.cells R t (0, 0))) : w.rangeAt g 0 l := by
  intro j v hv
  rw [Nat.zero_add, cell_of_row _ _ _ _ _ _ h, hR, List.getElem?_toArray]
  exact hv
end Go.Proofs.YtcimcodljjcmgaaGreatDoor
