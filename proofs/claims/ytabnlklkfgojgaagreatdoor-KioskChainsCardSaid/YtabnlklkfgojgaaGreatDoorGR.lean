/- sorteslaw27.is: a kiosk compared with a model. sorteslaw27.machine.call on a kiosk that is broken. sorteslaw27.machine.knows: what a kiosk knows, seen by its next receipt. -/
import Derived.Test.YtabnlklkfgojgaaGreatDoorGZ
import Derived.Test.YtabnlklkfgojgaaGreatDoorGQ
import Derived.Test.YtabnlklkfgojgaaGreatDoorGO
namespace Go.Proofs.YtabnlklkfgojgaaGreatDoor
open Go.RowKit
set_option maxRecDepth 100000

section
variable {w : World} {kb jb mb : Nat} {k m : KM} {v u : Value} {br : Bool}
theorem bat_row (W : World) (i : Int) (a : Option Addr) (n c : Nat) : ∃ wC : World, Hid ((W.alloc (.cells #[.int .i64 0, .slice none 0 0] 50)).heap[W.heap.size]? = some (.cells #[.int .i64 0, .slice none 0 0] 50 (0, 0))) ∧ Hid ((W.alloc (.cells #[.int .i64 0, .slice none 0 0] 50)).setRow W.heap.size #[.int .i64 i, .slice a n c] = wC) ∧ Hid (wC.heap[W.heap.size]? = some (.cells #[.int .i64 i, .slice a n c] 50 (0, 0))) ∧ Upd [] [] W wC :=
  ⟨_, heap_alloc_new _ _, rfl, setRow_heap _ _ _ _ _ _ (heap_alloc_new _ _), ((Upd.refl _ _).alloc _).setRowNew (Nat.le_refl _) _⟩
set_option maxHeartbeats 4000000 in
theorem is_any (hk : KBody w kb jb k v br) (hm : Mdl w mb m u) (hid : k.id = m.id) : Calls Tryz.prog 77 #[.pointer (some ⟨kb, 0, none⟩), .pointer (some ⟨mb, 0, none⟩)] w (MkP (k.paper = m.paper ∧ k.rs = m.rs) w) := by
  have BI : Hid ((Tryz.prog.info? 50).map (·.size) = some 2) := by show _ = _; kernel_rfl
  have HK := Lib.hid hk
  have HM := Lib.hid hm
  have HB := Lib.hid (Batch_any hk (-1) 0 (by unfold i64in; omega) (Nat.zero_le _) (fun _ => rfl) (fun h => by omega))
  obtain ⟨R, hR⟩ : ∃ R, R = (rcV (lastR k.rs)).toArray := ⟨_, rfl⟩
  obtain ⟨hLO, _⟩ := lastR_ok hk.ok
  obtain ⟨RI, RO, RZ⟩ := rcLet hLO R hR
  have HLa : Hid (∀ W, Upd [] [] w W → Calls Tryz.prog 18 #[.pointer (some ⟨kb, 0, none⟩)] W (fun e w' => e = .returned (.tuple #[.agg R, .bool (lastB k.rs)]) ∧ Upd [] [] W w')) := by
    intro W u
    rw [hR]
    exact Last_any (hk.quiet u)
  have HPa : Hid (∀ W, Upd [] [] w W → Calls Tryz.prog 16 #[.pointer (some ⟨kb, 0, none⟩)] W (Ret (.int .i64 (k.paper : Int)) W)) := fun W u => Paper_any (hk.quiet u)
  obtain ⟨ao2, cap2, hu2, hc2, hin2⟩ := hm.slice
  have HIN2 := Lib.hid hin2
  obtain ⟨I, hI⟩ : ∃ I, I = m.id := ⟨_, rfl⟩
  obtain ⟨n, hn⟩ : ∃ n, n = k.rs.length := ⟨_, rfl⟩
  obtain ⟨n2, hn2⟩ : ∃ n, n = m.rs.length := ⟨_, rfl⟩
  obtain ⟨p, hp⟩ : ∃ n, n = k.paper := ⟨_, rfl⟩
  obtain ⟨p2, hp2⟩ : ∃ n, n = m.paper := ⟨_, rfl⟩
  have h2000 : n ≤ 2000 := by rw [hn]; exact hk.ok.many
  have h2000b : n2 ≤ 2000 := by rw [hn2]; exact hm.ok.many
  rw [← hn2] at hu2
  have HC : Hid (∀ W, Upd [] [] w W → W.cell? ⟨mb, 2, none⟩ = some (.int .i64 (p2 : Int)) ∧ W.cell? ⟨mb, 0, none⟩ = some (.int .i64 I) ∧ W.cell? ⟨mb, 36, none⟩ = some (.slice ao2 n2 cap2)) := by
    intro W u'
    have q := hm.quiet u'
    exact ⟨by rw [hp2]; exact q.c2, by rw [hI]; exact q.c0, by rw [← hu2]; exact q.c36⟩
  rw [← hp] at HPa
  obtain ⟨lb, hlb⟩ : ∃ lb, lb = lastB k.rs := ⟨_, rfl⟩
  rw [← hlb] at HLa
  have HID : Hid (k.id = I) := by rw [hI]; exact hid
  have HE := Lib.hid (And.intro hn (And.intro hn2 (And.intro hp (And.intro hp2 (And.intro hlb hR)))))
  clear hk hm hid hR hLO hu2 hin2 hI hn hn2 hp hp2 hlb
  go_enter Tryz.func77, Tryz.ntmps77
  go_wp2_with fail
  refine HB.out.mono ?_
  rintro e w1 ⟨ab, cb, HRI, hcb, rfl, hq1⟩
  rw [HID.out, show (k.rs.drop 0).length = n from HE.out.1.symm] at *
  have HRI' : Hid (RcsIn w1 ab k.rs) := HRI.out
  obtain ⟨w2, Z2, W2, B2, hq2⟩ := bat_row w1 I ab n cb
  obtain ⟨gb, hgb⟩ : ∃ g, g = w1.heap.size := ⟨_, rfl⟩
  have HGB := Lib.hid hgb
  rw [← hgb] at B2
  have HU2 := Lib.hid (hq1.trans hq2)
  have HRI2 := Lib.hid (HRI'.out.upd hq2)
  clear HB HRI HRI' hq1 hq2 hgb
  go_upto_region 2 with (first | (refine wpList_store_rowAs rfl 50 _ _ rfl w1.heap.size #[.int .i64 I, .slice ab n cb] rfl rfl _ _ Z2.out BI.out rfl (by simp [Value.oneCell']) w2 W2.out ?_))
  rw [← HGB.out]
  clear Z2 W2 HGB
  go_wp2_with fail
  refine (HLa.out w2 HU2.out).mono ?_
  rintro e w3 ⟨rfl, hq3⟩
  obtain ⟨w4, Z4, W4, R4, hq4⟩ := blk_new w3 37 Tryz.zeroCells37 R
  obtain ⟨gl, hgl⟩ : ∃ g, g = w3.heap.size := ⟨_, rfl⟩
  have HGL := Lib.hid hgl
  rw [← hgl] at R4
  have HU4 := Lib.hid (HU2.out.trans (hq3.trans hq4))
  have HRI4 := Lib.hid (HRI2.out.upd (hq3.trans hq4))
  have B4 := Lib.hid (row_updH B2.out (hq3.trans hq4))
  obtain ⟨_, _, c36⟩ := HC.out w4 HU4.out
  clear HLa HRI2 B2 hq3 hq4 hgl
  go_upto_region 4 with (first | (refine wpList_store_rowAs rfl 37 _ _ rfl w3.heap.size R rfl rfl _ _ Z4.out RI.out RZ.out RO.out w4 W4.out ?_))
  rw [← HGL.out]
  clear Z4 W4 HGL c36
  have ud0 : Upd [] [] w4 w4.drew := (Upd.refl _ _).drew
  have HCB : Hid (∀ W, Upd [] [] w4 W → W.cell? ⟨mb, 2, none⟩ = some (.int .i64 (p2 : Int)) ∧ W.cell? ⟨mb, 0, none⟩ = some (.int .i64 I) ∧ W.cell? ⟨mb, 36, none⟩ = some (.slice ao2 n2 cap2) ∧ W.cell? ⟨gb, 0, none⟩ = some (.int .i64 I) ∧ W.cell? ⟨gb, 1, none⟩ = some (.slice ab n cb)) := by
    intro W u'
    obtain ⟨q1, q2, q3⟩ := HC.out W (HU4.out.trans u')
    have q4 := row_updH B4.out u'
    exact ⟨q1, q2, q3, by rw [cell_of_row _ _ _ _ _ _ q4]; rfl, by rw [cell_of_row _ _ _ _ _ _ q4]; rfl⟩
  have HPw : Hid (Calls Tryz.prog 16 #[.pointer (some ⟨kb, 0, none⟩)] w4.drew (Ret (.int .i64 (p : Int)) w4.drew)) := HPa.out _ (HU4.out.trans ud0)
  have HSa : Hid (∀ W, Upd [] [] w4 W → Calls Tryz.prog 106 #[.slice ab n cb, .slice ao2 n2 cap2] W (MkP (k.rs = m.rs) W)) := by
    intro W u'
    have q := same27_any W ab ao2 k.rs m.rs cb cap2 (HRI4.out.upd u') (HIN2.out.upd (HU4.out.trans u')) (by have := HE.out.1; omega) (by have := HE.out.2.1; omega)
    rw [← HE.out.1, ← HE.out.2.1] at q
    exact q
  by_cases hpp : p = p2
  · subst hpp
    by_cases hrs : k.rs = m.rs
    · have HSt : Hid (∀ W, Upd [] [] w4 W → Calls Tryz.prog 106 #[.slice ab n cb, .slice ao2 n2 cap2] W (fun e w' => e = .returned (.bool true) ∧ Upd [] [] W w')) := by
        intro W u'
        refine (HSa.out W u').mono ?_
        rintro e w' ⟨b, hb, rfl, hq⟩
        have hbt : b = true := hb.out.2 hrs
        subst hbt
        exact ⟨rfl, hq⟩
      have HFIN : Hid (∀ W, Upd [] [] w4 W → MkP (k.paper = m.paper ∧ k.rs = m.rs) w (.returned (.bool true)) W) := fun W u' => ⟨true, ⟨fun _ => ⟨by rw [← HE.out.2.2.1, ← HE.out.2.2.2.1], hrs⟩, fun _ => rfl⟩, rfl, HU4.out.trans u'⟩
      clear HSa HPa HC B4
      by_cases hn0 : n2 = 0
      · have hlb : lb = false := by
          rw [HE.out.2.2.2.2.1, hrs, List.eq_nil_of_length_eq_zero (HE.out.2.1.symm.trans hn0)]
          rfl
        subst hlb
        subst hn0
        refine wp_region_noPanic ?_
        refine wp_region_held_drew (S := fun wp' => wp'.cell? ⟨mb, 2, none⟩ = some (.int .i64 (p : Int)) ∧ wp'.cell? ⟨mb, 0, none⟩ = some (.int .i64 I) ∧ wp'.cell? ⟨mb, 36, none⟩ = some (.slice ao2 0 cap2) ∧ wp'.cell? ⟨gb, 0, none⟩ = some (.int .i64 I) ∧ wp'.cell? ⟨gb, 1, none⟩ = some (.slice ab n cb)) (by kernel_rfl) ?_ (fun hHeld => ?_)
        · exact HCB.out _ ud0
        refine tkY 0 hHeld ?_
        refine tkY 2 hHeld ?_
        refine tkY 3 hHeld ?_
        refine tkY 4 hHeld ?_
        refine tkY 5 hHeld ?_
        refine wpAnyH_ready (rs := [1]) (by kernel_rfl) (by simp) ?_
        refine AllReadyH.cons (by simp only [List.getElem?_toArray, List.getElem?_cons_succ, List.getElem?_cons_zero] <;> rfl) (fun K hK => ?_) ?_
        · go_simp; refine HPw.out.mono ?_; rintro e w' ⟨rfl, rfl⟩; go_wp2_with fail
          refine hK.out _ _ ?_ (fun hHeld => ?_)
          · exact HCB.out _ ud0
          clear hK K
          try simp only [Act.put, List.setIfInBounds_toArray, List.set_cons_zero, List.set_cons_succ]
          refine tkY 6 hHeld ?_
          refine tkY 7 hHeld ?_
          refine tkY 8 hHeld ?_
          refine tkY 9 hHeld ?_
          refine tkY 10 hHeld ?_
          refine tkY 11 hHeld ?_
          refine tkY 12 hHeld ?_
          refine tkY 13 hHeld ?_
          refine tkY 14 hHeld ?_
          refine tkY 15 hHeld ?_
          refine tkY 16 hHeld ?_
          refine tkY 17 hHeld ?_
          refine tkY 18 hHeld ?_
          refine tkY 19 hHeld ?_
          refine tkY 20 hHeld ?_
          refine tkY 21 hHeld ?_
          refine tkY 22 hHeld ?_
          refine wpAnyH_ready (rs := [23]) (by kernel_rfl) (by simp) ?_
          refine AllReadyH.cons (by simp only [List.getElem?_toArray, List.getElem?_cons_succ, List.getElem?_cons_zero] <;> rfl) (fun K hK => ?_) ?_
          · go_simp; refine (HSt.out _ ud0).mono ?_; rintro e w5 ⟨rfl, hq⟩; have ud5 := ud0.trans hq; clear hq; go_wp2_with fail
            refine hK.out _ _ ?_ (fun hHeld => ?_)
            · exact HCB.out _ ud5
            clear hK K
            try simp only [Act.put, List.setIfInBounds_toArray, List.set_cons_zero, List.set_cons_succ]
            refine tkY 24 hHeld ?_
            refine tkY 25 hHeld ?_
            refine tkY 26 hHeld ?_
            refine tkY 27 hHeld ?_
            refine tkY 28 hHeld ?_
            refine tkY 29 hHeld ?_
            refine tkY 30 hHeld ?_
            refine tkY 31 hHeld ?_
            refine tkY 32 hHeld ?_
            refine tkY 33 hHeld ?_
            refine tkY 34 hHeld ?_
            refine tkN 35 hHeld ?_
            refine tkN 36 hHeld ?_
            refine tkN 37 hHeld ?_
            refine tkN 38 hHeld ?_
            refine tkN 39 hHeld ?_
            refine tkN 40 hHeld ?_
            refine tkN 41 hHeld ?_
            refine tkN 42 hHeld ?_
            refine tkN 43 hHeld ?_
            refine tkN 44 hHeld ?_
            refine tkY 45 hHeld ?_
            refine tkY 46 hHeld ?_
            refine tkY 47 hHeld ?_
            refine wpAnyH_done (by kernel_rfl) ?_ _
            refine NoPanic.normal ?_
            go_wp2_with fail
            go_ret
            exact HFIN.out _ ud5
          exact AllReadyH.nil
        exact AllReadyH.nil
      · obtain ⟨kk, hkk⟩ : ∃ kk, kk + 1 = n2 := ⟨n2 - 1, by omega⟩
        obtain ⟨hg, hlb⟩ := lastR_get (rs := m.rs) (k := kk) (by rw [hkk]; exact HE.out.2.1.symm)
        have hlb2 : lb = true := by rw [HE.out.2.2.2.2.1, hrs, hlb]
        subst hlb2
        obtain ⟨g, o, hao⟩ : ∃ g o, ao2 = some ⟨g, o, none⟩ := by
          obtain ⟨_, _, g, o, e, _⟩ := HIN2.out kk _ hg
          exact ⟨g, o, e⟩
        have hw : IntKind.i64.wrap ((n2 : Int) - 1) = (kk : Int) := by rw [show (n2 : Int) - 1 = (kk : Int) by omega]; exact wrap_in (by omega) (by omega)
        have hk0 : (0 : Int) ≤ (kk : Int) := by omega
        have hk1 : (kk : Int) < (n2 : Int) := by omega
        have hkp : (0 : Int) < (n2 : Int) := by omega
        have hkz : ¬ (n2 : Int) = 0 := by omega
        have hkN : 0 < n2 := by omega
        have hz1 : (n2 == 0) = false := by rw [beq_eq_false_iff_ne]; exact hn0
        have hz2 : ((n2 : Int) == 0) = false := by rw [beq_eq_false_iff_ne]; exact hkz
        have hRm : R = (rcV (lastR m.rs)).toArray := by rw [← hrs]; exact HE.out.2.2.2.2.2
        have hLO : (lastR m.rs).ok := (lastR_ok HM.out.ok).1
        have hqr : ∀ W : World, (Op.equalIn 10000 37 (.agg R) (.agg R)).run Tryz.prog W = .ok true W := fun W => eqR_self hRm hLO W
        have HLL : Hid (∀ W, Upd [] [] w4 W → (W.cell? ⟨mb, 2, none⟩ = some (.int .i64 (p : Int)) ∧ W.cell? ⟨mb, 0, none⟩ = some (.int .i64 I) ∧ W.cell? ⟨mb, 36, none⟩ = some (.slice ao2 n2 cap2) ∧ W.cell? ⟨gb, 0, none⟩ = some (.int .i64 I) ∧ W.cell? ⟨gb, 1, none⟩ = some (.slice ab n cb)) ∧ (Instr.loadAt 37 (.pointer (some ⟨gl, 0, none⟩))).run Tryz.prog W = .ok (.agg R) W ∧ (Instr.loadAt 37 (.pointer (some ⟨g, o + kk * 102, none⟩))).run Tryz.prog W = .ok (.agg R) W) := by
          intro W u'
          have q1 := row_updH R4.out u'
          have q2 := HIN2.out.upd (HU4.out.trans u')
          rw [hao] at q2
          refine ⟨HCB.out W u', RcAt.load (by rw [hRm] at q1; exact q1) hLO R hRm, rcs_load q2 hg R hRm⟩
        subst hao
        clear hg hlb hkk hRm hLO HCB R4
        refine wp_region_noPanic ?_
        refine wp_region_held_drew (S := fun wp' => (wp'.cell? ⟨mb, 2, none⟩ = some (.int .i64 (p : Int)) ∧ wp'.cell? ⟨mb, 0, none⟩ = some (.int .i64 I) ∧ wp'.cell? ⟨mb, 36, none⟩ = some (.slice (some ⟨g, o, none⟩) n2 cap2) ∧ wp'.cell? ⟨gb, 0, none⟩ = some (.int .i64 I) ∧ wp'.cell? ⟨gb, 1, none⟩ = some (.slice ab n cb)) ∧ (Instr.loadAt 37 (.pointer (some ⟨gl, 0, none⟩))).run Tryz.prog wp' = .ok (.agg R) wp' ∧ (Instr.loadAt 37 (.pointer (some ⟨g, o + kk * 102, none⟩))).run Tryz.prog wp' = .ok (.agg R) wp') (by kernel_rfl) ?_ (fun hHeld => ?_)
        · exact HLL.out _ ud0
        refine tkY 0 hHeld ?_
        refine tkY 2 hHeld ?_
        refine tkY 3 hHeld ?_
        refine tkY 4 hHeld ?_
        refine tkY 5 hHeld ?_
        refine wpAnyH_ready (rs := [1]) (by kernel_rfl) (by simp) ?_
        refine AllReadyH.cons (by simp only [List.getElem?_toArray, List.getElem?_cons_succ, List.getElem?_cons_zero] <;> rfl) (fun K hK => ?_) ?_
        · go_simp; refine HPw.out.mono ?_; rintro e w' ⟨rfl, rfl⟩; go_wp2_with fail
          refine hK.out _ _ ?_ (fun hHeld => ?_)
          · exact HLL.out _ ud0
          clear hK K
          try simp only [Act.put, List.setIfInBounds_toArray, List.set_cons_zero, List.set_cons_succ]
          refine tkY 6 hHeld ?_
          refine tkY 7 hHeld ?_
          refine tkY 8 hHeld ?_
          refine tkY 9 hHeld ?_
          refine tkY 10 hHeld ?_
          refine tkY 11 hHeld ?_
          refine tkY 12 hHeld ?_
          refine tkY 13 hHeld ?_
          refine tkY 14 hHeld ?_
          refine tkY 15 hHeld ?_
          refine tkY 16 hHeld ?_
          refine tkY 17 hHeld ?_
          refine tkY 18 hHeld ?_
          refine tkY 19 hHeld ?_
          refine tkY 20 hHeld ?_
          refine tkY 21 hHeld ?_
          refine tkY 22 hHeld ?_
          refine wpAnyH_ready (rs := [23]) (by kernel_rfl) (by simp) ?_
          refine AllReadyH.cons (by simp only [List.getElem?_toArray, List.getElem?_cons_succ, List.getElem?_cons_zero] <;> rfl) (fun K hK => ?_) ?_
          · go_simp; refine (HSt.out _ ud0).mono ?_; rintro e w5 ⟨rfl, hq⟩; have ud5 := ud0.trans hq; clear hq; go_wp2_with fail
            refine hK.out _ _ ?_ (fun hHeld => ?_)
            · exact HLL.out _ ud5
            clear hK K
            try simp only [Act.put, List.setIfInBounds_toArray, List.set_cons_zero, List.set_cons_succ]
            refine tkY 24 hHeld ?_
            refine tkY 25 hHeld ?_
            refine tkY 26 hHeld ?_
            refine tkY 27 hHeld ?_
            refine tkY 28 hHeld ?_
            refine tkY 29 hHeld ?_
            refine tkY 30 hHeld ?_
            refine tkY 31 hHeld ?_
            refine tkY 32 hHeld ?_
            refine tkY 33 hHeld ?_
            refine tkY 34 hHeld ?_
            refine tkL 35 hHeld R (fun w hSw => hSw.2.1) ?_
            refine tkY 36 hHeld ?_
            refine tkY 37 hHeld ?_
            refine tkY 38 hHeld ?_
            refine tkY 39 hHeld ?_
            refine tkY 40 hHeld ?_
            refine tkY 41 hHeld ?_
            refine tkY 42 hHeld ?_
            refine tkL 43 hHeld R (fun w hSw => hSw.2.2) ?_
            refine tkY 44 hHeld ?_
            refine tkY 45 hHeld ?_
            refine tkY 46 hHeld ?_
            refine tkY 47 hHeld ?_
            refine wpAnyH_done (by kernel_rfl) ?_ _
            refine NoPanic.normal ?_
            go_wp2_with fail
            go_ret
            exact HFIN.out _ ud5
          exact AllReadyH.nil
        exact AllReadyH.nil
    · have HSt : Hid (∀ W, Upd [] [] w4 W → Calls Tryz.prog 106 #[.slice ab n cb, .slice ao2 n2 cap2] W (fun e w' => e = .returned (.bool false) ∧ Upd [] [] W w')) := by
        intro W u'
        refine (HSa.out W u').mono ?_
        rintro e w' ⟨b, hb, rfl, hq⟩
        have hbt : b = false := by
          cases b with
          | false => rfl
          | true => exact absurd (hb.out.1 rfl) hrs
        subst hbt
        exact ⟨rfl, hq⟩
      have HFIN : Hid (∀ W, Upd [] [] w4 W → MkP (k.paper = m.paper ∧ k.rs = m.rs) w (.returned (.bool false)) W) := fun W u' => ⟨false, ⟨fun h => (by cases h), fun h => absurd h.2 hrs⟩, rfl, HU4.out.trans u'⟩
      clear HSa HPa HC B4
      refine wp_region_noPanic ?_
      refine wp_region_held_drew (S := fun wp' => wp'.cell? ⟨mb, 2, none⟩ = some (.int .i64 (p : Int)) ∧ wp'.cell? ⟨mb, 0, none⟩ = some (.int .i64 I) ∧ wp'.cell? ⟨mb, 36, none⟩ = some (.slice ao2 n2 cap2) ∧ wp'.cell? ⟨gb, 0, none⟩ = some (.int .i64 I) ∧ wp'.cell? ⟨gb, 1, none⟩ = some (.slice ab n cb)) (by kernel_rfl) ?_ (fun hHeld => ?_)
      · exact HCB.out _ ud0
      refine tkY 0 hHeld ?_
      refine tkY 2 hHeld ?_
      refine tkY 3 hHeld ?_
      refine tkY 4 hHeld ?_
      refine tkY 5 hHeld ?_
      refine wpAnyH_ready (rs := [1]) (by kernel_rfl) (by simp) ?_
      refine AllReadyH.cons (by simp only [List.getElem?_toArray, List.getElem?_cons_succ, List.getElem?_cons_zero] <;> rfl) (fun K hK => ?_) ?_
      · go_simp; refine HPw.out.mono ?_; rintro e w' ⟨rfl, rfl⟩; go_wp2_with fail
        refine hK.out _ _ ?_ (fun hHeld => ?_)
        · exact HCB.out _ ud0
        clear hK K
        try simp only [Act.put, List.setIfInBounds_toArray, List.set_cons_zero, List.set_cons_succ]
        refine tkY 6 hHeld ?_
        refine tkY 7 hHeld ?_
        refine tkY 8 hHeld ?_
        refine tkY 9 hHeld ?_
        refine tkY 10 hHeld ?_
        refine tkY 11 hHeld ?_
        refine tkY 12 hHeld ?_
        refine tkY 13 hHeld ?_
        refine tkY 14 hHeld ?_
        refine tkY 15 hHeld ?_
        refine tkY 16 hHeld ?_
        refine tkY 17 hHeld ?_
        refine tkY 18 hHeld ?_
        refine tkY 19 hHeld ?_
        refine tkY 20 hHeld ?_
        refine tkY 21 hHeld ?_
        refine tkY 22 hHeld ?_
        refine wpAnyH_ready (rs := [23]) (by kernel_rfl) (by simp) ?_
        refine AllReadyH.cons (by simp only [List.getElem?_toArray, List.getElem?_cons_succ, List.getElem?_cons_zero] <;> rfl) (fun K hK => ?_) ?_
        · go_simp; refine (HSt.out _ ud0).mono ?_; rintro e w5 ⟨rfl, hq⟩; have ud5 := ud0.trans hq; clear hq; go_wp2_with fail
          refine hK.out _ _ ?_ (fun hHeld => ?_)
          · exact HCB.out _ ud5
          clear hK K
          try simp only [Act.put, List.setIfInBounds_toArray, List.set_cons_zero, List.set_cons_succ]
          refine tkY 24 hHeld ?_
          refine tkY 25 hHeld ?_
          refine tkN 26 hHeld ?_
          refine tkN 27 hHeld ?_
          refine tkN 28 hHeld ?_
          refine tkN 29 hHeld ?_
          refine tkY 30 hHeld ?_
          refine tkY 31 hHeld ?_
          refine tkN 32 hHeld ?_
          refine tkN 33 hHeld ?_
          refine tkN 34 hHeld ?_
          refine tkN 35 hHeld ?_
          refine tkN 36 hHeld ?_
          refine tkN 37 hHeld ?_
          refine tkN 38 hHeld ?_
          refine tkN 39 hHeld ?_
          refine tkN 40 hHeld ?_
          refine tkN 41 hHeld ?_
          refine tkN 42 hHeld ?_
          refine tkN 43 hHeld ?_
          refine tkN 44 hHeld ?_
          refine tkN 45 hHeld ?_
          refine tkY 46 hHeld ?_
          refine tkY 47 hHeld ?_
          refine wpAnyH_done (by kernel_rfl) ?_ _
          refine NoPanic.normal ?_
          go_wp2_with fail
          go_ret
          exact HFIN.out _ ud5
        exact AllReadyH.nil
      exact AllReadyH.nil
  · have hpn : ¬ (p : Int) = (p2 : Int) := by omega
    have HFIN : Hid (∀ W, Upd [] [] w4 W → MkP (k.paper = m.paper ∧ k.rs = m.rs) w (.returned (.bool false)) W) := fun W u' => ⟨false, ⟨fun h => (by cases h), fun h => absurd (by rw [HE.out.2.2.1, HE.out.2.2.2.1]; exact h.1) hpp⟩, rfl, HU4.out.trans u'⟩
    have hpb : ((p : Int) == (p2 : Int)) = false := by rw [beq_eq_false_iff_ne]; exact hpn
    clear HSa HPa HC B4
    refine wp_region_noPanic ?_
    refine wp_region_held_drew (S := fun wp' => wp'.cell? ⟨mb, 2, none⟩ = some (.int .i64 (p2 : Int)) ∧ wp'.cell? ⟨mb, 0, none⟩ = some (.int .i64 I) ∧ wp'.cell? ⟨mb, 36, none⟩ = some (.slice ao2 n2 cap2) ∧ wp'.cell? ⟨gb, 0, none⟩ = some (.int .i64 I) ∧ wp'.cell? ⟨gb, 1, none⟩ = some (.slice ab n cb)) (by kernel_rfl) ?_ (fun hHeld => ?_)
    · exact HCB.out _ ud0
    refine tkY 0 hHeld ?_
    refine tkY 2 hHeld ?_
    refine tkY 3 hHeld ?_
    refine tkY 4 hHeld ?_
    refine tkY 5 hHeld ?_
    refine wpAnyH_ready (rs := [1]) (by kernel_rfl) (by simp) ?_
    refine AllReadyH.cons (by simp only [List.getElem?_toArray, List.getElem?_cons_succ, List.getElem?_cons_zero] <;> rfl) (fun K hK => ?_) ?_
    · go_simp; refine HPw.out.mono ?_; rintro e w' ⟨rfl, rfl⟩; go_wp2_with fail
      refine hK.out _ _ ?_ (fun hHeld => ?_)
      · exact HCB.out _ ud0
      clear hK K
      try simp only [Act.put, List.setIfInBounds_toArray, List.set_cons_zero, List.set_cons_succ]
      refine tkY 6 hHeld ?_
      refine tkY 7 hHeld ?_
      refine tkN 8 hHeld ?_
      refine tkN 9 hHeld ?_
      refine tkN 10 hHeld ?_
      refine tkN 11 hHeld ?_
      refine tkN 12 hHeld ?_
      refine tkN 13 hHeld ?_
      refine tkN 14 hHeld ?_
      refine tkY 15 hHeld ?_
      refine tkY 16 hHeld ?_
      refine tkN 17 hHeld ?_
      refine tkN 18 hHeld ?_
      refine tkN 19 hHeld ?_
      refine tkN 20 hHeld ?_
      refine tkN 21 hHeld ?_
      refine tkN 22 hHeld ?_
      refine tkN 23 hHeld ?_
      refine tkY 24 hHeld ?_
      refine tkY 25 hHeld ?_
      refine tkN 26 hHeld ?_
      refine tkN 27 hHeld ?_
      refine tkN 28 hHeld ?_
      refine tkN 29 hHeld ?_
      refine tkY 30 hHeld ?_
      refine tkY 31 hHeld ?_
      refine tkN 32 hHeld ?_
      refine tkN 33 hHeld ?_
      refine tkN 34 hHeld ?_
      refine tkN 35 hHeld ?_
      refine tkN 36 hHeld ?_
      refine tkN 37 hHeld ?_
      refine tkN 38 hHeld ?_
      refine tkN 39 hHeld ?_
      refine tkN 40 hHeld ?_
      refine tkN 41 hHeld ?_
      refine tkN 42 hHeld ?_
      refine tkN 43 hHeld ?_
      refine tkN 44 hHeld ?_
      refine tkN 45 hHeld ?_
      refine tkY 46 hHeld ?_
      refine tkY 47 hHeld ?_
      refine wpAnyH_done (by kernel_rfl) ?_ _
      refine NoPanic.normal ?_
      go_wp2_with fail
      go_ret
      exact HFIN.out _ ud0
    exact AllReadyH.nil
end
end Go.Proofs.YtabnlklkfgojgaaGreatDoor

namespace Go.Proofs.YtabnlklkfgojgaaGreatDoor
open Go.RowKit
set_option maxRecDepth 100000

def Shut70 (w : World) (e : Ending) (w' : World) : Prop := e = .returned (.tuple #[.agg (rcV Rc.zero).toArray, .int .i64 70]) ∧ Upd [] [] w w'
section
variable {wr : World} {xb kb jb : Nat} {m : KM} {v : Value}
set_option maxHeartbeats 4000000 in
theorem callB_any (hx : ∃ d mp o, wr.heap[xb]? = some (.cells #[.pointer d, .pointer (some ⟨kb, 0, none⟩), .pointer mp, .pointer o] 69 (0, 0))) (hb : KBody wr kb jb m v true) (a : Act27) (ha : a.ok) :
    Calls Tryz.prog 22 #[.pointer (some ⟨xb, 0, none⟩), .agg a.cs] wr (Shut70 wr) := by
  obtain ⟨d, mp, o, hx⟩ := hx
  obtain ⟨Z, hZ⟩ : ∃ Z, Z = (rcV Rc.zero).toArray := ⟨_, rfl⟩
  have HBZ : Hid (Tryz.prog.built 37 [] = some Z) := by show _ = _; rw [hZ]; exact rc_zero_built
  obtain ⟨ZI, ZO, ZZ⟩ := rcLet Rc.zero_ok Z hZ
  have HZE := Lib.hid hZ
  have HZC : Hid (Tryz.zeroCells37 = Z) := by show _ = _; rw [hZ]; exact zero_rc
  obtain ⟨w2, hw2, r0, r1, hu⟩ := two_lay wr a.cs Tryz.zeroCells37 66 37
  have HW2 := Lib.hid hw2
  obtain ⟨ga, hga⟩ : ∃ ga, ga = wr.heap.size := ⟨_, rfl⟩
  rw [← hga] at r0 r1
  have HX2 := row_updH hx hu
  have HG : Hid (ga = wr.heap.size) := hga
  have HXL : Hid (xb < ga) := by show _ < _; rw [hga]; exact blk_lt hx
  have HU := Lib.hid hu
  have R0 := Lib.hid r0
  have R1 := Lib.hid r1
  have X2 := Lib.hid HX2
  have HEND : Hid (∀ W, Upd [] [] w2 W → Shut70 wr (.returned (.tuple #[.agg Z, .int .i64 70])) (W.setRow (ga + 1) Z)) := by
    intro W u
    exact ⟨by rw [hZ], (hu.trans u).setRowNew (by omega) Z⟩
  have ca : w2.cell? ⟨ga, 0, none⟩ = some (.int .i64 a.what) := by rw [cell_of_row _ _ _ _ _ _ r0]; rfl
  have cn : w2.cell? ⟨ga, 1, none⟩ = some (.int .i64 a.n) := by rw [cell_of_row _ _ _ _ _ _ r0]; rfl
  have cw : w2.cell? ⟨ga, 2, none⟩ = some (.bool a.wild) := by rw [cell_of_row _ _ _ _ _ _ r0]; rfl
  have cx : w2.cell? ⟨xb, 1, none⟩ = some (.pointer (some ⟨kb, 0, none⟩)) := by rw [cell_of_row _ _ _ _ _ _ HX2]; rfl
  obtain ⟨z, hz, hz1, hz2⟩ := mod_add a.what 12 (by decide)
  obtain ⟨W, hW⟩ : ∃ W, W = a.what % 12 := ⟨_, rfl⟩
  rw [← hW] at hz2
  obtain ⟨AC, hAC⟩ : ∃ AC, AC = a.cs := ⟨_, rfl⟩
  have HAC := Lib.hid hAC
  have HWH := Lib.hid hW
  have HB2 := Lib.hid (hb.quiet hu)
  rw [← hAC] at R0 HW2 ⊢
  have HAO : Hid (a.ok) := ha
  have HDQ := Lib.hid (doQ_in ha)
  clear hZ hw2 r0 r1 hu HX2 hb hx hga hW hAC
  go_enter Tryz.func22, Tryz.ntmps22
  go_upto_region 1 with (fail)
  rw [HW2.out, ← HG.out]
  clear HW2
  have ud0 : Upd [] [] w2 w2.drew := (Upd.refl _ _).drew
  have HKEEP : Hid (∀ W' : World, Upd [] [] w2 W' → W'.cell? ⟨xb, 1, none⟩ = some (.pointer (some ⟨kb, 0, none⟩)) ∧ W'.cell? ⟨ga, 1, none⟩ = some (.int .i64 a.n) ∧ (Instr.loadAt 66 (.pointer (some ⟨ga, 0, none⟩))).run Tryz.prog W' = .ok (.agg AC) W') := by
    intro W' u
    have h1 := row_updH R0.out u
    have h2 := row_updH X2.out u
    rw [HAC.out] at h1 ⊢
    exact ⟨by rw [cell_of_row _ _ _ _ _ _ h2]; rfl, by rw [cell_of_row _ _ _ _ _ _ h1]; rfl, act_load W' ga a h1⟩
  have HKX : Hid (∀ W' : World, Upd [] [] w2 W' → (W'.setRow (ga + 1) Z).cell? ⟨xb, 1, none⟩ = some (.pointer (some ⟨kb, 0, none⟩)) ∧ (W'.setRow (ga + 1) Z).cell? ⟨ga, 1, none⟩ = some (.int .i64 a.n) ∧ (Instr.loadAt 66 (.pointer (some ⟨ga, 0, none⟩))).run Tryz.prog (W'.setRow (ga + 1) Z) = .ok (.agg AC) (W'.setRow (ga + 1) Z)) := by
    intro W' u
    have h1 : (W'.setRow (ga + 1) Z).heap[ga]? = _ := row_setRowO (row_updH R0.out u) (by omega) Z
    have h2 : (W'.setRow (ga + 1) Z).heap[xb]? = _ := row_setRowO (row_updH X2.out u) (by have := HXL.out; omega) Z
    rw [HAC.out] at h1 ⊢
    exact ⟨by rw [cell_of_row _ _ _ _ _ _ h2]; rfl, by rw [cell_of_row _ _ _ _ _ _ h1]; rfl, act_load _ ga a h1⟩
  by_cases h5 : W = 5
  · subst h5
    obtain ⟨z13, hz13, hz13a, hz13b⟩ := mod_add a.n 13 (by decide)
    obtain ⟨c13, hc13⟩ : ∃ c, c = a.n % 13 := ⟨_, rfl⟩
    rw [← hc13] at hz13b
    obtain ⟨t12, ht12⟩ : ∃ t, t = c13.tdiv 12 := ⟨_, rfl⟩
    have ht12a : c13.tdiv 12 = t12 := ht12.symm
    have ht12c : IntKind.i64.wrap t12 = t12 := by rw [ht12, Int.tdiv_eq_ediv_of_nonneg (by omega)]; exact wrap_in (by omega) (by omega)
    obtain ⟨r, hr⟩ : ∃ r, r = roundN a := ⟨_, rfl⟩
    obtain ⟨hn, hhn⟩ : ∃ hn, IntKind.i64.wrap (r + t12) = hn := ⟨_, rfl⟩
    have hni : i64in hn := by rw [← hhn, IntKind.wrap_i64]; unfold i64in; omega
    obtain ⟨H, hH⟩ : ∃ H, H = (byteVals (hashN hn)).toArray := ⟨_, rfl⟩
    have HRo := Lib.hid (fun W => round_any a W)
    rw [← HAC.out, ← hr] at HRo
    have HHs := Lib.hid (fun W => rHash_any hn hni W)
    rw [← hH] at HHs
    have HLn : Hid (∀ W, Upd [] [] w2 W → Calls Tryz.prog 12 #[.pointer (some ⟨kb, 0, none⟩), .int .i64 r, .agg H] W (RetI 70 W)) := fun W u => Learn_broken (HB2.out.quiet u) r H
    clear hH hni hr ht12 hc13
    go_upto_region 4 with (fail)
    refine wp_region_noPanic ?_
    refine wp_region_held_drew (S := fun wp => wp.cell? ⟨xb, 1, none⟩ = some (.pointer (some ⟨kb, 0, none⟩)) ∧ wp.cell? ⟨ga, 1, none⟩ = some (.int .i64 a.n) ∧ (Instr.loadAt 66 (.pointer (some ⟨ga, 0, none⟩))).run Tryz.prog wp = .ok (.agg AC) wp) (by kernel_rfl) ?_ (fun hHeld => ?_)
    · exact HKEEP.out _ ud0
    refine tkY 0 hHeld ?_
    refine tkY 1 hHeld ?_
    refine tkY 2 hHeld ?_
    refine tkY 3 hHeld ?_
    refine tkY 4 hHeld ?_
    refine tkL 5 hHeld AC (fun w hSw => hSw.2.2) ?_
    refine tkL 7 hHeld AC (fun w hSw => hSw.2.2) ?_
    refine tkY 9 hHeld ?_
    refine tkY 10 hHeld ?_
    refine tkY 11 hHeld ?_
    refine tkY 12 hHeld ?_
    refine tkY 13 hHeld ?_
    refine tkY 14 hHeld ?_
    refine wpAnyH_ready (rs := [6]) (by kernel_rfl) (by simp) ?_
    refine AllReadyH.cons (by simp only [List.getElem?_toArray, List.getElem?_cons_succ, List.getElem?_cons_zero] <;> rfl) (fun K hK => ?_) ?_
    · go_simp; refine (HRo.out _).mono ?_; rintro e wv1 ⟨rfl, hq⟩; have ud1 := ud0.trans hq; clear hq; go_wp2_with fail
      refine hK.out _ _ ?_ (fun hHeld => ?_)
      · exact HKEEP.out _ ud1
      clear hK K
      try simp only [Act.put, List.setIfInBounds_toArray, List.set_cons_zero, List.set_cons_succ]
      refine wpAnyH_ready (rs := [8]) (by kernel_rfl) (by simp) ?_
      refine AllReadyH.cons (by simp only [List.getElem?_toArray, List.getElem?_cons_succ, List.getElem?_cons_zero] <;> rfl) (fun K hK => ?_) ?_
      · go_simp; refine (HRo.out _).mono ?_; rintro e wv2 ⟨rfl, hq⟩; have ud2 := ud1.trans hq; clear hq; go_wp2_with fail
        refine hK.out _ _ ?_ (fun hHeld => ?_)
        · exact HKEEP.out _ ud2
        clear hK K
        try simp only [Act.put, List.setIfInBounds_toArray, List.set_cons_zero, List.set_cons_succ]
        refine tkY 15 hHeld ?_
        refine wpAnyH_ready (rs := [16]) (by kernel_rfl) (by simp) ?_
        refine AllReadyH.cons (by simp only [List.getElem?_toArray, List.getElem?_cons_succ, List.getElem?_cons_zero] <;> rfl) (fun K hK => ?_) ?_
        · go_simp; refine (HHs.out _).mono ?_; rintro e wv3 ⟨rfl, hq⟩; have ud3 := ud2.trans hq; clear hq; go_wp2_with fail
          refine hK.out _ _ ?_ (fun hHeld => ?_)
          · exact HKEEP.out _ ud3
          clear hK K
          try simp only [Act.put, List.setIfInBounds_toArray, List.set_cons_zero, List.set_cons_succ]
          refine wpAnyH_ready (rs := [17]) (by kernel_rfl) (by simp) ?_
          refine AllReadyH.cons (by simp only [List.getElem?_toArray, List.getElem?_cons_succ, List.getElem?_cons_zero] <;> rfl) (fun K hK => ?_) ?_
          · go_simp; refine (HLn.out _ ud3).mono ?_; rintro e wv4 ⟨rfl, hq⟩; have ud4 := ud3.trans hq; clear hq; go_wp2_with fail
            refine hK.out _ _ ?_ (fun hHeld => ?_)
            · exact HKEEP.out _ ud4
            clear hK K
            try simp only [Act.put, List.setIfInBounds_toArray, List.set_cons_zero, List.set_cons_succ]
            refine wpAnyH_ready (rs := [18]) (by kernel_rfl) (by simp) ?_
            refine AllReadyH.cons (by simp only [List.getElem?_toArray, List.getElem?_cons_succ, List.getElem?_cons_zero] <;> rfl) (fun K hK => ?_) ?_
            · rw [if_pos (by rfl)]; rw [HZC.out]; refine wp_store_row 37 _ _ rfl (ga + 1) Z rfl rfl _ _ (row_updH R1.out ud4) ZI.out ZZ.out ZO.out ?_
              refine hK.out _ _ ?_ (fun hHeld => ?_)
              · exact HKX.out _ ud4
              clear hK K
              try simp only [Act.put]
              refine tkY 19 hHeld ?_
              refine wpAnyH_done (by kernel_rfl) ?_ _
              refine NoPanic.normal ?_
              have FIN := Lib.hid (HEND.out _ ud4)
              have ROW := Lib.hid (setRow_heap _ _ _ Z _ _ (row_updH R1.out ud4))
              go_wp2_with fail
              refine bodyPost_ret (results_row_tmp rfl _ _ (ga + 1) _ Z _ _ rfl ROW.out Tryz.underlying37 rfl ZI.out) rfl ?_
              exact FIN.out
            exact AllReadyH.nil
          exact AllReadyH.nil
        exact AllReadyH.nil
      exact AllReadyH.nil
    exact AllReadyH.nil
  by_cases h6 : W = 6
  · subst h6
    obtain ⟨z13, hz13, hz13a, hz13b⟩ := mod_add a.n 13 (by decide)
    obtain ⟨c13, hc13⟩ : ∃ c, c = a.n % 13 := ⟨_, rfl⟩
    rw [← hc13] at hz13b
    obtain ⟨t12, ht12⟩ : ∃ t, t = c13.tdiv 12 := ⟨_, rfl⟩
    have ht12a : c13.tdiv 12 = t12 := ht12.symm
    have ht12c : IntKind.i64.wrap t12 = t12 := by rw [ht12, Int.tdiv_eq_ediv_of_nonneg (by omega)]; exact wrap_in (by omega) (by omega)
    obtain ⟨r, hr⟩ : ∃ r, r = roundN a := ⟨_, rfl⟩
    obtain ⟨hn, hhn⟩ : ∃ hn, IntKind.i64.wrap (r + t12) = hn := ⟨_, rfl⟩
    have hni : i64in hn := by rw [← hhn, IntKind.wrap_i64]; unfold i64in; omega
    obtain ⟨H, hH⟩ : ∃ H, H = (byteVals (hashN hn)).toArray := ⟨_, rfl⟩
    have HRo := Lib.hid (fun W => round_any a W)
    rw [← HAC.out, ← hr] at HRo
    have HHs := Lib.hid (fun W => rHash_any hn hni W)
    rw [← hH] at HHs
    have HLn : Hid (∀ W, Upd [] [] w2 W → Calls Tryz.prog 12 #[.pointer (some ⟨kb, 0, none⟩), .int .i64 r, .agg H] W (RetI 70 W)) := fun W u => Learn_broken (HB2.out.quiet u) r H
    clear hH hni hr ht12 hc13
    go_upto_region 4 with (fail)
    refine wp_region_noPanic ?_
    refine wp_region_held_drew (S := fun wp => wp.cell? ⟨xb, 1, none⟩ = some (.pointer (some ⟨kb, 0, none⟩)) ∧ wp.cell? ⟨ga, 1, none⟩ = some (.int .i64 a.n) ∧ (Instr.loadAt 66 (.pointer (some ⟨ga, 0, none⟩))).run Tryz.prog wp = .ok (.agg AC) wp) (by kernel_rfl) ?_ (fun hHeld => ?_)
    · exact HKEEP.out _ ud0
    refine tkY 0 hHeld ?_
    refine tkY 1 hHeld ?_
    refine tkY 2 hHeld ?_
    refine tkY 3 hHeld ?_
    refine tkY 4 hHeld ?_
    refine tkL 5 hHeld AC (fun w hSw => hSw.2.2) ?_
    refine tkL 7 hHeld AC (fun w hSw => hSw.2.2) ?_
    refine tkY 9 hHeld ?_
    refine tkY 10 hHeld ?_
    refine tkY 11 hHeld ?_
    refine tkY 12 hHeld ?_
    refine tkY 13 hHeld ?_
    refine tkY 14 hHeld ?_
    refine wpAnyH_ready (rs := [6]) (by kernel_rfl) (by simp) ?_
    refine AllReadyH.cons (by simp only [List.getElem?_toArray, List.getElem?_cons_succ, List.getElem?_cons_zero] <;> rfl) (fun K hK => ?_) ?_
    · go_simp; refine (HRo.out _).mono ?_; rintro e wv1 ⟨rfl, hq⟩; have ud1 := ud0.trans hq; clear hq; go_wp2_with fail
      refine hK.out _ _ ?_ (fun hHeld => ?_)
      · exact HKEEP.out _ ud1
      clear hK K
      try simp only [Act.put, List.setIfInBounds_toArray, List.set_cons_zero, List.set_cons_succ]
      refine wpAnyH_ready (rs := [8]) (by kernel_rfl) (by simp) ?_
      refine AllReadyH.cons (by simp only [List.getElem?_toArray, List.getElem?_cons_succ, List.getElem?_cons_zero] <;> rfl) (fun K hK => ?_) ?_
      · go_simp; refine (HRo.out _).mono ?_; rintro e wv2 ⟨rfl, hq⟩; have ud2 := ud1.trans hq; clear hq; go_wp2_with fail
        refine hK.out _ _ ?_ (fun hHeld => ?_)
        · exact HKEEP.out _ ud2
        clear hK K
        try simp only [Act.put, List.setIfInBounds_toArray, List.set_cons_zero, List.set_cons_succ]
        refine tkY 15 hHeld ?_
        refine wpAnyH_ready (rs := [16]) (by kernel_rfl) (by simp) ?_
        refine AllReadyH.cons (by simp only [List.getElem?_toArray, List.getElem?_cons_succ, List.getElem?_cons_zero] <;> rfl) (fun K hK => ?_) ?_
        · go_simp; refine (HHs.out _).mono ?_; rintro e wv3 ⟨rfl, hq⟩; have ud3 := ud2.trans hq; clear hq; go_wp2_with fail
          refine hK.out _ _ ?_ (fun hHeld => ?_)
          · exact HKEEP.out _ ud3
          clear hK K
          try simp only [Act.put, List.setIfInBounds_toArray, List.set_cons_zero, List.set_cons_succ]
          refine wpAnyH_ready (rs := [17]) (by kernel_rfl) (by simp) ?_
          refine AllReadyH.cons (by simp only [List.getElem?_toArray, List.getElem?_cons_succ, List.getElem?_cons_zero] <;> rfl) (fun K hK => ?_) ?_
          · go_simp; refine (HLn.out _ ud3).mono ?_; rintro e wv4 ⟨rfl, hq⟩; have ud4 := ud3.trans hq; clear hq; go_wp2_with fail
            refine hK.out _ _ ?_ (fun hHeld => ?_)
            · exact HKEEP.out _ ud4
            clear hK K
            try simp only [Act.put, List.setIfInBounds_toArray, List.set_cons_zero, List.set_cons_succ]
            refine wpAnyH_ready (rs := [18]) (by kernel_rfl) (by simp) ?_
            refine AllReadyH.cons (by simp only [List.getElem?_toArray, List.getElem?_cons_succ, List.getElem?_cons_zero] <;> rfl) (fun K hK => ?_) ?_
            · rw [if_pos (by rfl)]; rw [HZC.out]; refine wp_store_row 37 _ _ rfl (ga + 1) Z rfl rfl _ _ (row_updH R1.out ud4) ZI.out ZZ.out ZO.out ?_
              refine hK.out _ _ ?_ (fun hHeld => ?_)
              · exact HKX.out _ ud4
              clear hK K
              try simp only [Act.put]
              refine tkY 19 hHeld ?_
              refine wpAnyH_done (by kernel_rfl) ?_ _
              refine NoPanic.normal ?_
              have FIN := Lib.hid (HEND.out _ ud4)
              have ROW := Lib.hid (setRow_heap _ _ _ Z _ _ (row_updH R1.out ud4))
              go_wp2_with fail
              refine bodyPost_ret (results_row_tmp rfl _ _ (ga + 1) _ Z _ _ rfl ROW.out Tryz.underlying37 rfl ZI.out) rfl ?_
              exact FIN.out
            exact AllReadyH.nil
          exact AllReadyH.nil
        exact AllReadyH.nil
      exact AllReadyH.nil
    exact AllReadyH.nil
  by_cases h7 : W = 7
  · subst h7
    obtain ⟨z4, hz4, hz4a, hz4b⟩ := mod_add a.n 4 (by decide)
    obtain ⟨c4, hc4⟩ : ∃ c, c = a.n % 4 := ⟨_, rfl⟩
    rw [← hc4] at hz4b
    have HRf : Hid (∀ q W, Upd [] [] w2 W → Calls Tryz.prog 15 #[.pointer (some ⟨kb, 0, none⟩), .int .i64 q] W (RetI 70 W)) := fun q W u => Refill_broken (HB2.out.quiet u) q
    obtain ⟨wild, hwild⟩ : ∃ wd, wd = a.wild := ⟨_, rfl⟩
    rw [← hwild] at cw
    clear hc4 hwild
    cases wild
    · skip
      go_upto_region 9 with (fail)
      go_wp2_with (first | (refine wpList_build_want (by rfl) 37 #[] rfl Z (Eq.trans (congrArg (fun z => Tryz.prog.built 37 z) (by kernel_rfl)) HBZ.out) ?_))
      refine (HRf.out _ _ (Upd.refl _ _)).mono ?_
      rintro e wv4 ⟨rfl, hq⟩
      have FIN := Lib.hid (HEND.out _ hq)
      have R4 := Lib.hid (row_updH R1.out hq)
      have ROW := Lib.hid (setRow_heap _ _ _ Z _ _ R4.out)
      clear hq
      go_wp2_with (first | (refine wpList_store_row rfl 37 _ _ rfl (ga + 1) Z rfl rfl _ _ R4.out ZI.out ZZ.out ZO.out ?_))
      refine bodyPost_ret (results_row_tmp rfl _ _ (ga + 1) _ Z _ _ rfl ROW.out Tryz.underlying37 rfl ZI.out) rfl ?_
      exact FIN.out
    · skip
      go_upto_region 9 with (fail)
      go_wp2_with (first | (refine wpList_build_want (by rfl) 37 #[] rfl Z (Eq.trans (congrArg (fun z => Tryz.prog.built 37 z) (by kernel_rfl)) HBZ.out) ?_))
      refine (HRf.out _ _ (Upd.refl _ _)).mono ?_
      rintro e wv4 ⟨rfl, hq⟩
      have FIN := Lib.hid (HEND.out _ hq)
      have R4 := Lib.hid (row_updH R1.out hq)
      have ROW := Lib.hid (setRow_heap _ _ _ Z _ _ R4.out)
      clear hq
      go_wp2_with (first | (refine wpList_store_row rfl 37 _ _ rfl (ga + 1) Z rfl rfl _ _ R4.out ZI.out ZZ.out ZO.out ?_))
      refine bodyPost_ret (results_row_tmp rfl _ _ (ga + 1) _ Z _ _ rfl ROW.out Tryz.underlying37 rfl ZI.out) rfl ?_
      exact FIN.out
  · obtain ⟨H, hH⟩ : ∃ H, H = (byteVals (hashN a.n)).toArray := ⟨_, rfl⟩
    have HDr := Lib.hid (fun W => draw_any a W)
    rw [← HAC.out] at HDr
    have HHs := Lib.hid (fun W => rHash_any a.n HAO.out.2 W)
    rw [← hH] at HHs
    have HSl : Hid (∀ W, Upd [] [] w2 W → Calls Tryz.prog 13 #[.pointer (some ⟨kb, 0, none⟩), .string (drawS a), .agg H] W (fun e w' => e = .returned (.tuple #[.agg Z, .int .i64 70]) ∧ Upd [] [] W w')) := by
      intro W u
      rw [HZE.out]
      exact Sell_broken (HB2.out.quiet u) (drawS a) H
    obtain ⟨dr, hdr⟩ : ∃ dr, dr = drawS a := ⟨_, rfl⟩
    rw [← hdr] at HDr HSl
    clear hH hdr
    go_upto_region 10 with (fail)
    refine wp_region_noPanic ?_
    refine wp_region_held_drew (S := fun wp => wp.cell? ⟨xb, 1, none⟩ = some (.pointer (some ⟨kb, 0, none⟩)) ∧ wp.cell? ⟨ga, 1, none⟩ = some (.int .i64 a.n) ∧ (Instr.loadAt 66 (.pointer (some ⟨ga, 0, none⟩))).run Tryz.prog wp = .ok (.agg AC) wp) (by kernel_rfl) ?_ (fun hHeld => ?_)
    · exact HKEEP.out _ ud0
    refine tkY 0 hHeld ?_
    refine tkY 1 hHeld ?_
    refine tkY 2 hHeld ?_
    refine tkY 3 hHeld ?_
    refine tkL 4 hHeld AC (fun w hSw => hSw.2.2) ?_
    refine tkY 6 hHeld ?_
    refine tkY 7 hHeld ?_
    refine wpAnyH_ready (rs := [5]) (by kernel_rfl) (by simp) ?_
    refine AllReadyH.cons (by simp only [List.getElem?_toArray, List.getElem?_cons_succ, List.getElem?_cons_zero] <;> rfl) (fun K hK => ?_) ?_
    · go_simp; refine (HDr.out _).mono ?_; rintro e wv1 ⟨rfl, hq⟩; have ud1 := ud0.trans hq; clear hq; go_wp2_with fail
      refine hK.out _ _ ?_ (fun hHeld => ?_)
      · exact HKEEP.out _ ud1
      clear hK K
      try simp only [Act.put, List.setIfInBounds_toArray, List.set_cons_zero, List.set_cons_succ]
      refine wpAnyH_ready (rs := [8]) (by kernel_rfl) (by simp) ?_
      refine AllReadyH.cons (by simp only [List.getElem?_toArray, List.getElem?_cons_succ, List.getElem?_cons_zero] <;> rfl) (fun K hK => ?_) ?_
      · go_simp; refine (HHs.out _).mono ?_; rintro e wv2 ⟨rfl, hq⟩; have ud2 := ud1.trans hq; clear hq; go_wp2_with fail
        refine hK.out _ _ ?_ (fun hHeld => ?_)
        · exact HKEEP.out _ ud2
        clear hK K
        try simp only [Act.put, List.setIfInBounds_toArray, List.set_cons_zero, List.set_cons_succ]
        refine wpAnyH_ready (rs := [9]) (by kernel_rfl) (by simp) ?_
        refine AllReadyH.cons (by simp only [List.getElem?_toArray, List.getElem?_cons_succ, List.getElem?_cons_zero] <;> rfl) (fun K hK => ?_) ?_
        · go_simp; refine (HSl.out _ ud2).mono ?_; rintro e wv3 ⟨rfl, hq⟩; have ud3 := ud2.trans hq; clear hq; go_wp2_with fail
          refine hK.out _ _ ?_ (fun hHeld => ?_)
          · exact HKEEP.out _ ud3
          clear hK K
          try simp only [Act.put, List.setIfInBounds_toArray, List.set_cons_zero, List.set_cons_succ]
          refine tkY 10 hHeld ?_
          refine tkY 11 hHeld ?_
          refine wpAnyH_ready (rs := [12]) (by kernel_rfl) (by simp) ?_
          refine AllReadyH.cons (by simp only [List.getElem?_toArray, List.getElem?_cons_succ, List.getElem?_cons_zero] <;> rfl) (fun K hK => ?_) ?_
          · rw [if_pos (by rfl)]; refine wp_store_row 37 _ _ rfl (ga + 1) Z rfl rfl _ _ (row_updH R1.out ud3) ZI.out ZZ.out ZO.out ?_
            refine hK.out _ _ ?_ (fun hHeld => ?_)
            · exact HKX.out _ ud3
            clear hK K
            try simp only [Act.put]
            refine tkY 13 hHeld ?_
            refine wpAnyH_done (by kernel_rfl) ?_ _
            refine NoPanic.normal ?_
            have FIN := Lib.hid (HEND.out _ ud3)
            have ROW := Lib.hid (setRow_heap _ _ _ Z _ _ (row_updH R1.out ud3))
            go_wp2_with fail
            refine bodyPost_ret (results_row_tmp rfl _ _ (ga + 1) _ Z _ _ rfl ROW.out Tryz.underlying37 rfl ZI.out) rfl ?_
            exact FIN.out
          exact AllReadyH.nil
        exact AllReadyH.nil
      exact AllReadyH.nil
    exact AllReadyH.nil
end
end Go.Proofs.YtabnlklkfgojgaaGreatDoor

namespace Go.Proofs.YtabnlklkfgojgaaGreatDoor
open Go.RowKit
set_option maxRecDepth 100000

def probe : ByteArray := ⟨#[112, 114, 111, 98, 101]⟩
theorem probe_ok : nameOk (bs probe) = true := by decide
theorem hash9_built : Tryz.prog.built 31 [(0, .int .u8 9)] = some (byteVals (hashB [9])).toArray := by kernel_rfl
structure DkIs (w : World) (b : Nat) (id sec : Int) (z : KM) (n : Nat) : Prop where
  ex : ∃ D S F rs, DiskAt w b D S ∧ D.ok ∧ (∀ sv, JClean (D.crash sv) F) ∧ recsL F = (rs, true) ∧ Hist id sec rs z ∧ spaceL rs ≤ 500 * (n + 1)
theorem DkIs.quiet {w w1 : World} {b : Nat} {id sec : Int} {z : KM} {n : Nat} (h : DkIs w b id sec z n) (u : Upd [] [] w w1) : DkIs w1 b id sec z n := by
  obtain ⟨D, S, F, rs, h1, h2⟩ := h.ex
  exact ⟨D, S, F, rs, h1.kept u (by simp), h2⟩
theorem next_same {z m : KM} (e1 : z.id = m.id) (e2 : z.sec = m.sec) (er : z.rs = m.rs) (d : ByteArray) (h : List UInt8) : nextK (fillM z 1) d h = nextK (fillM m 1) d h ↔ (z.round = m.round ∧ z.out = m.out) := by
  have f : ∀ q : KM, (fillM q 1).id = q.id ∧ (fillM q 1).sec = q.sec ∧ (fillM q 1).rs = q.rs ∧ (fillM q 1).round = q.round ∧ (fillM q 1).out = q.out := by
    intro q
    unfold fillM
    split
    · exact ⟨rfl, rfl, rfl, rfl, rfl⟩
    · exact ⟨rfl, rfl, rfl, rfl, rfl⟩
  obtain ⟨a1, a2, a3, a4, a5⟩ := f z
  obtain ⟨b1, b2, b3, b4, b5⟩ := f m
  constructor
  · intro h'
    have h1 : (nextK (fillM z 1) d h).seen = (nextK (fillM m 1) d h).seen := by rw [h']
    have h2 : (nextK (fillM z 1) d h).out = (nextK (fillM m 1) d h).out := by rw [h']
    have h3 : ((fillM z 1).round : Int) = ((fillM m 1).round : Int) := h1
    have h4 : (fillM z 1).out = (fillM m 1).out := h2
    rw [a4, b4] at h3
    rw [a5, b5] at h4
    exact ⟨by omega, h4⟩
  · rintro ⟨h1, h2⟩
    unfold nextK
    rw [a1, a2, a3, a4, a5, b1, b2, b3, b4, b5, e1, e2, er, h1, h2]
theorem fill_takes {z : KM} (hok : z.ok) (hl : z.rs.length < 2000) : refE (fillM z 1) (bs probe) = 0 := by
  have hp := hok.paper
  unfold refE
  rw [probe_ok, if_neg (by simp)]
  have h1 : (fillM z 1).rs = z.rs := by unfold fillM; split <;> rfl
  have h2 : ¬ (fillM z 1).paper = 0 := by
    unfold fillM
    split
    · show ¬ z.paper + 1 = 0
      omega
    · omega
  rw [if_neg h2, h1, if_neg (by omega)]
section
variable {w : World} {xb b mb : Nat} {id sec : Int} {z mo : KM} {vm : Value} {n : Nat}
set_option maxHeartbeats 8000000 in
theorem knows_any (hx : ∃ kp o, w.heap[xb]? = some (.cells #[.pointer (some ⟨b, 0, none⟩), .pointer kp, .pointer (some ⟨mb, 0, none⟩), .pointer o] 69 (0, 0))) (hd : DkIs w b id sec z n) (hm : Mdl w mb mo vm) (e1 : mo.id = id) (e2 : mo.sec = sec) (ep : z.paper = mo.paper) (er : z.rs = mo.rs) (hl : z.rs.length < 2000)
    (hid : i64in id) (hsec : i64in sec) (hn : n ≤ 900) (htab : Tabs w) : Calls Tryz.prog 78 #[.pointer (some ⟨xb, 0, none⟩)] w (MkP (z.round = mo.round ∧ z.out = mo.out) w) := by
  obtain ⟨kp, o, hx⟩ := hx
  obtain ⟨D, S, F, rs, hda, hok, hcl, hrec, hh, hsp⟩ := hd.ex
  obtain ⟨i1, i2⟩ := hh.ids
  have hc0 := hm.c0
  have hc1 := hm.c1
  rw [e1] at hc0
  rw [e2] at hc1
  obtain ⟨w1, hw1⟩ : ∃ w1, w1 = (w.alloc (.cells #[.int .i64 1] 3)).drew := ⟨_, rfl⟩
  have u1 : Upd [] [] w w1 := by rw [hw1]; exact ((Upd.refl _ _).alloc _).drew
  have HCr : Hid (Calls Tryz.prog 41 #[.pointer (some ⟨b, 0, none⟩), .slice (some ⟨w.heap.size, 0, none⟩) 1 1] w1 (CrashTo D [1] w1)) := by
    show Calls _ _ _ _ _
    rw [hw1]
    exact Crash_to b D S _ [1] _ (hda.kept (hw1 ▸ u1) (by simp)) (show IntsAt (w.alloc (.cells #[.int .i64 1] 3)) _ [1] from ints_new w _ [1] rfl) hok
  have HSS : Hid (∀ W, Upd [] [] w W → W.cell? ⟨xb, 2, none⟩ = some (.pointer (some ⟨mb, 0, none⟩)) ∧ W.cell? ⟨xb, 0, none⟩ = some (.pointer (some ⟨b, 0, none⟩)) ∧ W.cell? ⟨mb, 0, none⟩ = some (.int .i64 id) ∧ W.cell? ⟨mb, 1, none⟩ = some (.int .i64 sec)) := by
    intro W u
    have h1 := row_updH hx u
    have h2 := hm.quiet u
    exact ⟨by rw [cell_of_row _ _ _ _ _ _ h1]; rfl, by rw [cell_of_row _ _ _ _ _ _ h1]; rfl, by rw [← e1]; exact h2.c0, by rw [← e2]; exact h2.c1⟩
  have HM := Lib.hid hm
  have HU1 := Lib.hid u1
  have HW1 := Lib.hid hw1
  have HZ := Lib.hid (And.intro i1 (And.intro i2 (And.intro ep (And.intro er hl))))
  have HE := Lib.hid (And.intro e1 e2)
  have HOp : Hid (∀ (b1 : Nat) (S1 : List Nat) (W : World), DiskAt W b1 (D.crash [1]) S1 → Upd [] S1 w1 W → Calls Tryz.prog 10 #[.int .i64 id, .int .i64 sec, .int .i64 0, .pointer (some ⟨b1, 0, none⟩)] W (fun e w' => ∃ kb K, e = .returned (.tuple #[.pointer (some ⟨kb, 0, none⟩), .int .i64 0]) ∧ KIn w kb b1 z n K w')) := by
    intro b1 S1 W hd1 hu1
    have hbelow : Below w.heap.size w w1 := ⟨u1.os, u1.tape, u1.output, u1.size, fun k hk => u1.block k hk (by simp)⟩
    refine (Open_old id sec 0 hid hsec (by decide) (by decide) (DiskOk.start hbelow u1.size hd1 hu1) (hcl [1]) hrec hh rfl (by show 0 + 6 ≤ 65536; decide) htab rfl).mono ?_
    rintro e w3 ⟨kb, jb, S3, v3, D3, rfl, st3, hu3, hf3, hc3⟩
    have hc0 : (D.crash [1]).calls = 0 := rfl
    exact ⟨kb, _, rfl, jb, D3, F, rs, S3, v3, rfl, st3, hf3, by omega, hsp⟩
  obtain ⟨H, hH⟩ : ∃ H, H = (byteVals (hashB [9])).toArray := ⟨_, rfl⟩
  have HBH : Hid (Tryz.prog.built 31 [(0, .int .u8 9)] = some H) := by show _ = _; rw [hH]; exact hash9_built
  have HHE := Lib.hid hH
  have ud0 : Upd [] [] w w.drew := (Upd.refl _ _).drew
  have HZO : Hid (z.ok) := by
    obtain ⟨p, evs, _, hp, h3⟩ := hh.ex
    exact KM.ok_run evs _ z (KM.ok_new hid hsec hp) h3
  have HMO : Hid (mo.ok) := hm.ok
  clear hx hd hda hok hcl hrec hh hsp hm e1 e2 ep er hl i1 i2 hc0 hc1 u1 hw1 hH
  go_enter Tryz.func78, Tryz.ntmps78
  go_upto_region 1 with (fail)
  refine @_root_.id ((∀ (kb : Nat) (K : List Nat) (b1 : Nat) (W : World), Hid (KIn w kb b1 z n K W) → (?pj1 : Nat → List Nat → Nat → World → Prop) kb K b1 W) → _) (fun hJ => ?mj1) ?jj1
  case mj1 =>
    refine wp_region_noPanic ?_
    refine wp_region_held_drew (S := fun wp => wp.cell? ⟨xb, 2, none⟩ = some (.pointer (some ⟨mb, 0, none⟩)) ∧ wp.cell? ⟨xb, 0, none⟩ = some (.pointer (some ⟨b, 0, none⟩)) ∧ wp.cell? ⟨mb, 0, none⟩ = some (.int .i64 id) ∧ wp.cell? ⟨mb, 1, none⟩ = some (.int .i64 sec)) (by kernel_rfl) ?_ (fun hHeld => ?_)
    · exact HSS.out _ ud0
    refine tkY 0 hHeld ?_
    refine tkY 1 hHeld ?_
    refine tkY 2 hHeld ?_
    refine tkY 3 hHeld ?_
    refine tkY 4 hHeld ?_
    refine tkY 5 hHeld ?_
    refine tkY 6 hHeld ?_
    refine tkY 7 hHeld ?_
    refine tkY 8 hHeld ?_
    refine tkY 9 hHeld ?_
    refine tkY 10 hHeld ?_
    refine tkY 11 hHeld ?_
    refine tkY 12 hHeld ?_
    refine tkY 13 hHeld ?_
    refine tkY 14 hHeld ?_
    refine tkY 15 hHeld ?_
    refine tkY 16 hHeld ?_
    refine tkY 17 hHeld ?_
    refine wpAnyH_ready (rs := [18]) (by kernel_rfl) (by simp) ?_
    refine AllReadyH.cons (by simp only [List.getElem?_toArray, List.getElem?_cons_succ, List.getElem?_cons_zero] <;> rfl) (fun K hK => ?_) ?_
    · go_simp; rw [← HW1.out]
      refine hK.out _ _ ?_ (fun hHeld => ?_)
      · exact HSS.out _ HU1.out
      clear hK K
      try simp only [Act.put, List.setIfInBounds_toArray, List.set_cons_zero, List.set_cons_succ]
      refine wpAnyH_ready (rs := [19]) (by kernel_rfl) (by simp) ?_
      refine AllReadyH.cons (by simp only [List.getElem?_toArray, List.getElem?_cons_succ, List.getElem?_cons_zero] <;> rfl) (fun K hK => ?_) ?_
      · go_simp; refine HCr.out.mono ?_; rintro e w2 ⟨b1, S1, rfl, hd1, hu1⟩; have HD1 := Lib.hid hd1; have HU2 := Lib.hid hu1; clear hd1 hu1; go_wp2_with fail
        refine hK.out _ _ ?_ (fun hHeld => ?_)
        · exact HSS.out _ (HU1.out.trans HU2.out.dropS)
        clear hK K
        try simp only [Act.put, List.setIfInBounds_toArray, List.set_cons_zero, List.set_cons_succ]
        refine wpAnyH_ready (rs := [20]) (by kernel_rfl) (by simp) ?_
        refine AllReadyH.cons (by simp only [List.getElem?_toArray, List.getElem?_cons_succ, List.getElem?_cons_zero] <;> rfl) (fun K hK => ?_) ?_
        · go_simp; refine (HOp.out b1 S1 w2 HD1.out HU2.out).mono ?_; rintro e w3 ⟨kb, K3, rfl, hk3⟩; have HK := Lib.hid hk3; clear hk3; go_wp2_with fail
          refine hK.out _ _ ?_ (fun hHeld => ?_)
          · exact HSS.out _ HK.out.up
          clear hK K
          try simp only [Act.put, List.setIfInBounds_toArray, List.set_cons_zero, List.set_cons_succ]
          refine tkY 21 hHeld ?_
          refine tkY 22 hHeld ?_
          refine tkY 23 hHeld ?_
          refine tkY 24 hHeld ?_
          refine tkY 25 hHeld ?_
          refine wpAnyH_done (by kernel_rfl) ?_ _
          refine NoPanic.normal ?_
          exact hJ kb K3 b1 w3 HK
        exact AllReadyH.nil
      exact AllReadyH.nil
    exact AllReadyH.nil
  intro kb K b1 w3 HK
  clear HCr HOp
  go_upto_region 4 with (fail)
  have HCp := Lib.hid (copy27_any (HM.out.quiet HK.out.up))
  have cm3 : w3.cell? ⟨xb, 2, none⟩ = some (.pointer (some ⟨mb, 0, none⟩)) := (HSS.out _ HK.out.up).1
  go_wp2_with fail
  refine HCp.out.mono ?_
  rintro e w4 ⟨nb, v4, rfl, hm4, hq4, hnb, hnf⟩
  have HK4 := Lib.hid (HK.out.quiet hq4)
  have HOF : Hid (∀ k, k ∈ K → k ≠ nb ∧ k ∉ foot v4) := fun k hk => by
    have h1 := HK.out.lt k hk
    exact ⟨by omega, fun hm => by have := hnf _ hm; omega⟩
  have HAB : Hid (w.heap.size ≤ nb ∧ ∀ x, x ∈ foot v4 → w.heap.size ≤ x) := by
    have h1 := HK.out.up.size
    exact ⟨by omega, fun x hx => by have := hnf x hx; omega⟩
  have HM4 := Lib.hid hm4
  have HRf := Lib.hid (Refill_all HK4.out 1 (by unfold i64in; omega) (by omega) htab)
  clear hm4 hq4 hnb hnf HCp cm3 HK HM
  obtain ⟨x, hx⟩ : ∃ x, x = fillR z 1 := ⟨_, rfl⟩
  have HX : Hid (fillR mo 1 = x) := by show _ = _; rw [hx]; unfold fillR; rw [HZ.out.2.2.1]
  unfold FillAll at HRf
  rw [← hx] at HRf
  clear hx
  go_wp2_with fail
  refine HRf.out.mono ?_
  rintro e w5 ⟨K5, rfl, hK5, hu5⟩
  have HM5 := Lib.hid (HM4.out.kept hu5 (fun hm => (HOF.out _ hm).1 rfl) (fun y hy hm => (HOF.out _ hm).2 hy))
  have HOF5 : Hid (∀ k, k ∈ K5 → k ≠ nb ∧ k ∉ foot v4) := fun k hk => by
    rcases hu5.new k hk with h1 | h1
    · exact HOF.out k h1
    · have h2 := HM4.out.lt
      exact ⟨by omega, fun hm => by have := HM4.out.vlt _ hm; omega⟩
  have HR2 := Lib.hid (rRefill_any HM5.out 1 (by unfold i64in; omega))
  rw [HX.out] at HR2
  have HK5 := Lib.hid hK5
  clear HRf hK5 hu5 HOF HM4 HK4
  go_wp2_with fail
  refine HR2.out.mono ?_
  rintro e w6 ⟨rfl, hm6, hu6⟩
  have hT6 : Above w.heap.size [nb] := fun k hk => by simp at hk; rw [hk]; exact HAB.out.1
  have HK6 := Lib.hid (HK5.out.other hu6 hT6 (fun k hk hm => by simp at hm; exact (HOF5.out k hk).1 hm))
  have HM6 := Lib.hid hm6
  have r0 : refE (fillM z 1) (bs probe) = 0 := fill_takes HZO.out HZ.out.2.2.2.2
  have r1 : refE (fillM mo 1) (bs probe) = 0 := fill_takes HMO.out (by rw [← HZ.out.2.2.2.1]; exact HZ.out.2.2.2.2)
  have HNS : Hid (nextK (fillM z 1) probe (hashB [9]) = nextK (fillM mo 1) probe (hashB [9]) ↔ (z.round = mo.round ∧ z.out = mo.out)) := next_same (by rw [HZ.out.1, HE.out.1]) (by rw [HZ.out.2.1, HE.out.2]) HZ.out.2.2.2.1 _ _
  have HSl := Lib.hid (Sell_in HK6.out probe (hashB [9]) rfl r0 (by omega) htab)
  have HAO : (nextK (fillM z 1) probe (hashB [9])).ok := nextK_ok HK6.out.ok rfl
  have HBO : (nextK (fillM mo 1) probe (hashB [9])).ok := nextK_ok hm6.ok rfl
  obtain ⟨A, hA⟩ : ∃ A, A = nextK (fillM z 1) probe (hashB [9]) := ⟨_, rfl⟩
  obtain ⟨B, hB⟩ : ∃ B, B = nextK (fillM mo 1) probe (hashB [9]) := ⟨_, rfl⟩
  have HRS : Hid (∀ W, Mdl W nb (fillM mo 1) v4 → Calls Tryz.prog 81 #[.pointer (some ⟨nb, 0, none⟩), .string probe, .agg H] W (MdSell nb (selM (fillM mo 1) probe (hashB [9])) v4 (rcV B).toArray 0 W)) := by
    intro W hW
    have q := rSell_any hW probe (hashB [9]) (by decide) rfl
    have e : selR (fillM mo 1) probe (hashB [9]) = B := by unfold selR; rw [if_pos r1, hB]
    rw [r1, e] at q
    rw [HHE.out]
    exact q
  rw [← hA, ← hB] at HNS
  rw [← hA] at HSl HAO
  rw [← hB] at HBO
  obtain ⟨RA, hRA⟩ : ∃ R, R = (rcV A).toArray := ⟨_, rfl⟩
  obtain ⟨RB, hRB⟩ : ∃ R, R = (rcV B).toArray := ⟨_, rfl⟩
  rw [← hRA, ← HHE.out] at HSl
  rw [← hRB] at HRS
  obtain ⟨AI, AO, AZ⟩ := rcLet HAO RA hRA
  obtain ⟨BI, BO, BZ⟩ := rcLet HBO RB hRB
  have heq : ∀ W : World, (Op.equalIn 10000 37 (.agg RA) (.agg RB)).run Tryz.prog W = .ok (eqRc A B) W := by
    intro W
    rw [hRA, hRB, show (10000 : Nat) = 9997 + 3 from rfl, eqRc_run 9997 _ _ HAO HBO W]
  obtain ⟨eb, heb⟩ : ∃ eb, eb = eqRc A B := ⟨_, rfl⟩
  rw [← heb] at heq
  have HEB := Lib.hid heb
  have HLA : Hid (∀ W g, W.heap[g]? = some (.cells RA 37 (0, 0)) → (Instr.loadAt 37 (.pointer (some ⟨g, 0, none⟩))).run Tryz.prog W = .ok (.agg RA) W) := fun W g h => RcAt.load (by rw [hRA] at h; exact h) HAO RA hRA
  have HLB : Hid (∀ W g, W.heap[g]? = some (.cells RB 37 (0, 0)) → (Instr.loadAt 37 (.pointer (some ⟨g, 0, none⟩))).run Tryz.prog W = .ok (.agg RB) W) := fun W g h => RcAt.load (by rw [hRB] at h; exact h) HBO RB hRB
  have HOF6 : Hid (∀ k, k ∈ K5 → k ≠ nb ∧ k ∉ foot v4) := HOF5.out
  clear hm6 hu6 hT6 r0 r1 HAO HBO hA hB hRA hRB heb HX HR2 HM5 HK5 HOF5 HHE
  go_upto_region 7 with (fail)
  go_wp2_with (first | (refine wpList_build_want (by rfl) 31 _ rfl H (Eq.trans (congrArg (fun z => Tryz.prog.built 31 z) (by kernel_rfl)) HBH.out) ?_))
  refine HSl.out.mono ?_
  rintro e w7 ⟨K7, rfl, hK7, hu7⟩
  have hm7 := HM6.out.kept hu7 (fun hm => (HOF6.out _ hm).1 rfl) (fun y hy hm => (HOF6.out _ hm).2 hy)
  obtain ⟨w8, Z8, W8, R8, hq8⟩ := blk_new w7 37 Tryz.zeroCells37 RA
  obtain ⟨g8, hg8⟩ : ∃ g, g = w7.heap.size := ⟨_, rfl⟩
  have HG8 := Lib.hid hg8
  rw [← hg8] at R8
  have HM8 := Lib.hid (hm7.quiet hq8)
  have HU8 := Lib.hid (hK7.up.trans hq8)
  have HO8 : Hid (g8 ∉ nb :: foot v4) := fun hm => by
    rcases List.mem_cons.1 hm with k | k
    · have := hm7.lt; omega
    · have := hm7.vlt _ k; omega
  clear hK7 hu7 hm7 hq8 hg8 HSl HK6 HM6 HOF6
  go_upto_region 8 with (first | (refine wpList_store_rowAs rfl 37 _ _ rfl w7.heap.size RA rfl rfl _ _ Z8.out AI.out AZ.out AO.out w8 W8.out ?_))
  rw [← HG8.out]
  clear Z8 W8 HG8
  go_wp2_with (first | (refine wpList_build_want (by rfl) 31 _ rfl H (Eq.trans (congrArg (fun z => Tryz.prog.built 31 z) (by kernel_rfl)) HBH.out) ?_))
  refine (HRS.out w8 HM8.out).mono ?_
  rintro e w9 ⟨rfl, v9, hm9, hu9⟩
  have R9 : Hid (w9.heap[g8]? = some (.cells RA 37 (0, 0))) := by
    have k := R8.out
    show _ = _
    rw [← k]
    exact hu9.block _ (blk_lt k) HO8.out
  obtain ⟨w10, Z10, W10, R10, hq10⟩ := blk_new w9 37 Tryz.zeroCells37 RB
  obtain ⟨g10, hg10⟩ : ∃ g, g = w9.heap.size := ⟨_, rfl⟩
  have HG10 := Lib.hid hg10
  rw [← hg10] at R10
  have HLA10 := Lib.hid (HLA.out w10 g8 (row_updH R9.out hq10))
  have HLB10 := Lib.hid (HLB.out w10 g10 R10.out)
  have HFIN : Hid (MkP (z.round = mo.round ∧ z.out = mo.out) w (.returned (.bool eb)) w10) := by
    refine ⟨eb, ?_, rfl, ?_⟩
    · show _ ↔ _
      rw [← HNS.out, HEB.out]
      exact eqRc_iff A B
    · have h9 : Upd [] [] w w9 := Upd.past HU8.out hu9 (fun k hk => by
        rcases List.mem_cons.1 hk with q | q
        · rw [q]; exact HAB.out.1
        · exact HAB.out.2 _ q)
      exact h9.trans hq10
  clear hm9 hu9 hq10 hg10 R9 R8 HLA HLB HM8 HRS HU8 HO8
  go_upto_region 9 with (first | (refine wpList_store_rowAs rfl 37 _ _ rfl w9.heap.size RB rfl rfl _ _ Z10.out BI.out BZ.out BO.out w10 W10.out ?_))
  rw [← HG10.out]
  clear Z10 W10 HG10
  cases eb
  · skip
    go_wp2_with (first | (refine wpList_load_atW (by rfl) 37 _ rfl g8 0 rfl RA HLA10.out ?_) | (refine wpList_load_atW (by rfl) 37 _ rfl g10 0 rfl RB HLB10.out ?_))
    go_ret
    exact HFIN.out
  · skip
    go_wp2_with (first | (refine wpList_load_atW (by rfl) 37 _ rfl g8 0 rfl RA HLA10.out ?_) | (refine wpList_load_atW (by rfl) 37 _ rfl g10 0 rfl RB HLB10.out ?_))
    go_ret
    exact HFIN.out
end
end Go.Proofs.YtabnlklkfgojgaaGreatDoor
