/- The walk of EntryKeeps. -/
import Derived.Test.YtmnmhhbldbdpfaaGreatDoorXKpA
namespace Go.Proofs.YtmnmhhbldbdpfaaGreatDoor
open Go.RowKit
set_option maxRecDepth 100000

set_option maxHeartbeats 4000000 in
theorem entryKeeps_walk (p : Psn) (fs : List Fm) (ao : Option Addr) (cap : Nat) (w : World) (hp : p.ok w) (hfs : FmsIn w ao fs) (_hlc : fs.length ≤ cap) (_hcm : cap ≤ 9223372036854775807) (htab : Tabs w) :
    Calls Tryz.prog 10 #[.agg p.V, .slice ao fs.length cap] w (TrueMk w) := by
  have a0 : PsnAt (w.alloc (.cells p.V 69)) w.heap.size p.a p.b p.c (.slice p.ao p.l.length p.cap) p.s := heap_alloc_new w _
  have u0 : Upd [] [] w (w.alloc (.cells p.V 69)) := (Upd.refl _ _).alloc _
  obtain ⟨n, hn⟩ : ∃ n, n = fs.length := ⟨_, rfl⟩
  rw [← hn]
  have HN := Lib.hid hn
  obtain ⟨w0, hw0⟩ : ∃ w0, w.alloc (.cells p.V 69) = w0 := ⟨_, rfl⟩
  rw [hw0] at a0 u0
  have A0 := Lib.hid a0
  have HW := Lib.hid hw0
  have HP := Lib.hid (hp.upd u0)
  have HF := Lib.hid (hfs.upd u0)
  have hpa := hp.1
  have hpb := hp.2.1
  have hpc := hp.2.2.1
  clear hw0 a0 hp hfs hn
  go_enter Tryz.func10, Tryz.ntmps10
  go_upto_region 1 with (fail)
  rw [HW.out]
  clear HW
  go_wp2_with fail
  refine (sanity22_any _ (htab.upd u0)).mono ?_
  rintro e w1 ⟨rfl, hu⟩
  have u1 := u0.trans hu
  have A1 := Lib.hid (A0.out.upd hu)
  have HP1 := Lib.hid (HP.out.upd hu)
  have HF1 := Lib.hid (HF.out.upd hu)
  clear hu A0 u0 HP HF
  obtain ⟨k0, k1, k2, k3, k4⟩ := A1.out.cells
  go_wp2_with fail
  refine (psn_entrant p w1 HP1.out).mono ?_
  rintro e w2 ⟨ao2, cap2, rfl, HI2, hc2, hu⟩
  obtain ⟨E1, w3, HE1, HZ3, EI1, EZ1, EO1, HW3, F3, hu'⟩ := ent_new w2 p.a p.b p.c ao2 p.ls.length cap2
  rw [← HE1.out]
  have HI3 := Lib.hid (HI2.out.upd hu')
  have u3 := u1.trans (hu.trans hu')
  have A3 := Lib.hid (A1.out.upd (hu.trans hu'))
  have HP3 := Lib.hid (HP1.out.upd (hu.trans hu'))
  have HF3 := Lib.hid (HF1.out.upd (hu.trans hu'))
  clear k0 k1 k2 k3 k4 hu hu' A1 HP1 HF1 HI2
  obtain ⟨k0, k1, k2, k3, k4⟩ := A3.out.cells
  go_upto_region 3 with (first | (refine wpList_store_rowAs rfl 71 _ _ rfl w2.heap.size E1 rfl rfl _ _ HZ3.out EI1.out EZ1.out EO1.out w3 HW3.out ?_))
  clear HZ3 EZ1 EO1 HW3
  obtain ⟨G1, hG1⟩ : ∃ G, G = w2.heap.size := ⟨_, rfl⟩
  rw [← hG1] at F3 ⊢
  clear hG1
  go_wp2_with fail
  refine (psn_entrant p w3 HP3.out).mono ?_
  rintro e w4 ⟨ao4, cap4, rfl, HI4, hc4, hu⟩
  obtain ⟨E2, w5, HE2, HZ5, EI2, EZ2, EO2, HW5, F5, hu'⟩ := ent_new w4 p.a p.b p.c ao4 p.ls.length cap4
  rw [← HE2.out]
  have HJ5 := Lib.hid (HI4.out.upd hu')
  have HI5 := Lib.hid (HI3.out.upd (hu.trans hu'))
  have u5 := u3.trans (hu.trans hu')
  have F5' := Lib.hid (row_updH F3.out (hu.trans hu'))
  have HF5 := Lib.hid (HF3.out.upd (hu.trans hu'))
  clear k0 k1 k2 k3 k4 hu hu' A3 HP3 HF3 HI4 HI3 F3
  go_upto_region 4 with (first | (refine wpList_store_rowAs rfl 71 _ _ rfl w4.heap.size E2 rfl rfl _ _ HZ5.out EI2.out EZ2.out EO2.out w5 HW5.out ?_))
  clear HZ5 EZ2 EO2 HW5
  obtain ⟨G2, hG2⟩ : ∃ G, G = w4.heap.size := ⟨_, rfl⟩
  rw [← hG2] at F5 ⊢
  clear hG2
  obtain ⟨SL, hSL⟩ : ∃ SL, SL = p.salt := ⟨_, rfl⟩
  have hsl : SL.size ≤ 100 := by rw [hSL]; exact p.salt_le
  obtain ⟨H1, hH1⟩ : ∃ H, H = (byteVals (sha p.sl)).toArray := ⟨_, rfl⟩
  have CS1 : Hid (∀ W, Upd [] [] w5 W → Calls Tryz.prog 34 #[.agg E1, .string SL] W (Mk (.agg H1) W)) := by
    intro W u
    rw [HE1.out, hSL, hH1]
    exact seal22_any p.a p.b p.c p.ls ao2 cap2 p.salt W hpa hpb hpc (psn_ls p) (HI5.out.upd u) (Nat.le_trans p.salt_le (by omega)) (htab.upd (u5.trans u))
  have CSE : Hid (∀ W, Upd [] [] w5 W → Calls Tryz.prog 38 #[.agg E1, .agg E2] W (fun e w' => e = .returned (.bool true) ∧ Upd [] [] W w')) := by
    intro W u
    rw [HE1.out, HE2.out]
    exact sameEnt_any p.a p.b p.c p.ls ao2 ao4 cap2 cap4 W (psn_ls p) (HI5.out.upd u) (HJ5.out.upd u)
  have HEQ : Hid (∀ W : World, (Op.equalIn 10000 24 (.agg H1) (.agg H1)).run Tryz.prog W = .ok true W) := by
    intro W
    rw [hH1, show (10000 : Nat) = 9998 + 2 from rfl, eqHash_run 9998 _ _ W (sha_len _) (sha_len _)]
    simp
  have XI : Hid ((Tryz.prog.info? 24).map (·.size) = some H1.size) := by show _ = _; rw [hH1]; exact hashInfo (sha_len _)
  have XO : Hid (H1.all (·.oneCell') = true) := by show _ = _; rw [hH1]; exact hashOne _
  have XZ : Hid ((byteVals zero32).toArray.size = H1.size) := by show _ = _; rw [hH1, hashSz (sha_len _)]; rfl
  have HH1 := Lib.hid hH1
  rw [← hSL]
  clear hSL hH1 HI5 HJ5 HE1 HE2 hc2 hc4 hpa hpb hpc u1 u3
  have S1 : BbSt w5 (w5.alloc (.cells #[.int .i64 0, .slice none 0 0] 46)) w5.heap.size 0 (.slice none 0 0) (fmsR fs 0) :=
    ⟨heap_alloc_new _ _, World.ownsRow_nil _ _ _ _, (fun x h => by cases h), Nat.le_refl _, (Upd.refl _ _).alloc _, (fun x h => by cases h)⟩
  have S1H := Lib.hid S1
  obtain ⟨B, hB⟩ : ∃ B, B = w5.heap.size := ⟨_, rfl⟩
  rw [← hB] at S1H
  clear S1
  go_wp2_with fail
  rw [← hB]
  clear hB
  go_loopw [11, 12, 13] (fun i _ _ wr => ∃ (j : Nat) (v : Value), i = .int .i64 (j : Int) ∧ j ≤ n ∧ j ≤ 4 ∧ Hid (BbSt w5 wr B 0 v (fmsR fs j))) (fun i _ _ _ => 4 - (intOf i).toNat)
  case atStart => exact ⟨0, _, rfl, Nat.zero_le _, Nat.zero_le _, S1H⟩
  case round =>
    obtain ⟨j, v, rfl, hj, hj4, HS⟩ := hrel
    by_cases hlt : j < n ∧ j < 4
    · obtain ⟨hl1, hl2⟩ := hlt
      obtain ⟨f, hf⟩ : ∃ f, fs[j]? = some f := ⟨_, List.getElem?_eq_getElem (by rw [← HN.out]; exact hl1)⟩
      obtain ⟨hfo, g, o, rfl, hg, hr⟩ := (HF5.out.upd HS.out.up) j f hf
      have i0 : (0 : Int) ≤ (j : Int) := by omega
      have i1 : (j : Int) < (n : Int) := by omega
      have i2 : (j : Int) < 4 := by omega
      obtain ⟨V, hV⟩ : ∃ V, V = (fmV f).toArray := ⟨_, rfl⟩
      have hld : (Instr.loadAt 27 (.pointer (some ⟨g, o + j * 101, none⟩))).run Tryz.prog wr = .ok (.agg V) wr := by
        rw [hV]
        exact run_loadAt_mid wr _ _ _ _ _ hr Tryz.underlying27 rfl (by rw [fmInfo hfo]; simp)
      have HLD := Lib.hid hld
      have HRC := Lib.hid (fun W hW => receipt_any f hfo W hW)
      rw [← hV] at HRC
      obtain ⟨R, hR⟩ : ∃ R, R = (rcV (fmR f)).toArray := ⟨_, rfl⟩
      rw [← hR] at HRC
      have HRE := Lib.hid hR
      have hRo := Lib.hid (fmR_ok hfo)
      have HRD : Hid ((fmR f).draw.size ≤ 100) := fmR_draw f
      have HFJ := Lib.hid hf
      clear hV hR hld hr hf
      go_wp2_with (first | (refine wpList_load_atW (by rfl) 27 _ rfl g (o + j * 101) rfl V HLD.out ?_))
      refine (HRC.out _ (htab.upd (u5.trans HS.out.up))).mono ?_
      rintro e w2 ⟨rfl, hq⟩
      obtain ⟨w3, w4, HZ2, HW3, HZ3, HW4, RA4, RB4, hq'⟩ := rows_two w2 33 Tryz.zeroCells33 R R
      obtain ⟨HRI, HRO, HRZ⟩ := rcLet hRo.out R HRE.out
      have S4 := Lib.hid (HS.out.upd (hq.trans hq'))
      obtain ⟨a', n', c', wF, HRN, SF, CF, HBR⟩ := S4.out.step (fmR f) ⟨hRo.out, HRD.out⟩ (by rw [fmsR_len (by rw [← HN.out]; exact hj)]; omega) R HRE.out
      rw [← fmsR_step HFJ.out] at SF
      obtain ⟨c0, c1, c2⟩ := S4.out.cells
      obtain ⟨ce, fe⟩ := CF.out
      clear hq hq' HRC HLD HS RB4
      go_wp2_with (first | (refine wpList_store_rowAs rfl 33 _ _ rfl w2.heap.size R rfl rfl _ _ HZ2.out HRI.out HRZ.out HRO.out w3 HW3.out ?_) | (refine wpList_store_rowAs rfl 33 _ _ rfl (w2.heap.size + 1) R rfl rfl _ _ HZ3.out HRI.out HRZ.out HRO.out w4 HW4.out ?_) | (refine wpList_load_row rfl 33 _ rfl w2.heap.size rfl _ R _ _ RA4.out Tryz.underlying33 rfl HRI.out ?_) | (refine wpList_buildRun rfl 44 1 _ rfl _ _ (Eq.trans (congrArg (fun z => (Instr.buildSlice 44 1 z).run Tryz.prog w4) (by kernel_rfl)) HBR.out) ?_) | (refine wpList_append_run _ rfl _ _ _ _ rfl _ _ (.slice a' n' c') wF rfl rfl HRN.out ?_))
      exact ⟨⟨j + 1, .slice a' n' c', by go_num, by omega, by omega, SF⟩, by simp [intOf]; omega⟩
    · obtain ⟨rs, hrs⟩ : ∃ rs, rs = fmsR fs j := ⟨_, rfl⟩
      have hrl : rs.length = j := by rw [hrs]; exact fmsR_len (by rw [← HN.out]; exact hj)
      rw [← hrs] at HS
      clear hrs
      obtain ⟨ao6, cap6, rfl, hcap6, hin⟩ := rcs_of_row HS.out.own (fun x hx => ⟨(HS.out.oks x hx).1, by have := (HS.out.oks x hx).2; omega⟩)
      have HIN := Lib.hid hin
      have HOKS := Lib.hid HS.out.oks
      have ik0 : i64in 0 := by unfold i64in; omega
      obtain ⟨hbl, hbp⟩ := batchL_short ik0 (by omega) HOKS.out
      have hex : (¬ (j : Int) < (n : Int)) ∨ ((j : Int) < (n : Int) ∧ ¬ (j : Int) < 4) := by omega
      have HBL := Lib.hid hbl
      obtain ⟨m, hm⟩ : ∃ m, m = rs.length := ⟨_, rfl⟩
      have hm4 : m ≤ 4 := by omega
      have HM := Lib.hid hm
      have S6 : Hid (wr.heap[B]? = some (.cells #[.int .i64 0, .slice ao6 m cap6] 46 (0, 0))) := by rw [hm]; exact HS.out.bb
      have UR := Lib.hid HS.out.up
      have HBE := Lib.hid (rcs_empty wr)
      have iE := heap_alloc_new wr (.cells #[] 33)
      have uE : Upd [] [] wr (wr.alloc (.cells #[] 33)) := (Upd.refl _ _).alloc _
      obtain ⟨ao7, cap7, w7, HRN, HB7, hc7, hq7⟩ := rcs_copy (wr.alloc (.cells #[] 33)) wr.heap.size rs ao6 cap6 (by omega) (HIN.out.upd uE)
      rw [← hm] at HRN hc7 hcap6
      have U7 := UR.out.trans (uE.trans hq7)
      have S7 := Lib.hid (row_updH S6.out (uE.trans hq7))
      have SE := Lib.hid (row_updH S6.out uE)
      have HIN7 := Lib.hid (HIN.out.upd (uE.trans hq7))
      have hu7 := uE.trans hq7
      have c1 : wr.cell? ⟨B, 1, none⟩ = some (.slice ao6 m cap6) := by rw [cell_of_row _ _ _ _ _ _ S6.out]; rfl
      have c1E : (wr.alloc (.cells #[] 33)).cell? ⟨B, 1, none⟩ = some (.slice ao6 m cap6) := by rw [cell_of_row _ _ _ _ _ _ SE.out]; rfl
      clear hlt hbl hbp hrl hm HS hin HIN uE hq7 iE
      rcases hex with hex | ⟨hex, hex2⟩
      · skip
        go_upto_region 11 with (first | (refine wpList_buildRun rfl 44 0 _ rfl _ _ (Eq.trans (congrArg (fun z => (Instr.buildSlice 44 0 z).run Tryz.prog wr) (by kernel_rfl)) HBE.out) ?_) | (refine wpList_append_run _ rfl _ _ _ _ rfl _ _ (.slice ao7 m cap7) w7 rfl rfl HRN.out ?_))
        have FE7 := Lib.hid (row_updH F5'.out U7)
        have FG7 := Lib.hid (row_updH F5.out U7)
        have ut7 := u5.trans U7
        clear c1 c1E hex HBE HRN SE S6 hu7
        go_wp2_with (first | (refine wpList_load_row rfl 71 _ rfl G1 rfl _ E1 _ _ FE7.out Tryz.underlying71 rfl EI1.out ?_))
        refine (CS1.out _ U7).mono ?_
        rintro e w8 ⟨rfl, hq⟩
        obtain ⟨w9, HZ8, HW9, HR9, hq'⟩ := blk_new w8 24 (byteVals zero32).toArray H1
        have h79 := hq.trans hq'
        have S9 := Lib.hid (row_updH S7.out h79)
        have HIN9 := Lib.hid (HIN7.out.upd h79)
        have HB9 := Lib.hid (HB7.out.upd h79)
        have FE9 := Lib.hid (row_updH FE7.out h79)
        have FG9 := Lib.hid (row_updH FG7.out h79)
        have U9 := U7.trans h79
        have ut9 := ut7.trans h79
        clear hq hq' h79 S7 HIN7 HB7 FE7 FG7 U7 ut7
        go_upto_region 12 with (first | (refine wpList_store_rowAs rfl 24 _ _ rfl w8.heap.size H1 rfl rfl _ _ HZ8.out XI.out XZ.out XO.out w9 HW9.out ?_))
        obtain ⟨gH, hgH⟩ : ∃ gH, gH = w8.heap.size := ⟨_, rfl⟩
        rw [← hgH] at HR9 ⊢
        clear hgH HZ8 HW9
        have b0 : w9.cell? ⟨B, 0, none⟩ = some (.int .i64 0) := by rw [cell_of_row _ _ _ _ _ _ S9.out]; rfl
        have b1 : w9.cell? ⟨B, 1, none⟩ = some (.slice ao6 m cap6) := by rw [cell_of_row _ _ _ _ _ _ S9.out]; rfl
        have HCT := Lib.hid (batchText_any 0 rs ao6 cap6 w9 ik0 (by have := HM.out; omega) (by rw [← HM.out]; exact hcap6) HIN9.out (htab.upd ut9))
        rw [← HM.out] at HCT
        go_wp2_with fail
        refine HCT.out.mono ?_
        rintro e w10 ⟨s, HSB, hs, rfl, hq⟩
        have hss : s.size ≤ 2200 := by have := HBL.out; omega
        have S10 := Lib.hid (row_updH S9.out hq)
        have HIN10 := Lib.hid (HIN9.out.upd hq)
        have HB10 := Lib.hid (HB9.out.upd hq)
        have FE10 := Lib.hid (row_updH FE9.out hq)
        have FG10 := Lib.hid (row_updH FG9.out hq)
        have FH10 := Lib.hid (row_updH HR9.out hq)
        have U10 := U9.trans hq
        have ut10 := ut9.trans hq
        clear hq S9 HIN9 HB9 FE9 FG9 HR9 U9 ut9 b0 b1 HCT hs
        go_wp2_with fail
        refine (readBatch22_any s w10 (by omega) (htab.upd ut10)).mono ?_
        rintro e w11 ⟨k', l', v', ok', HBK, hok', HOW, hfo, rfl, hq⟩
        obtain ⟨e1, e2, e3⟩ := btOk_unique (by rw [bs_length]; omega) HBK.out (btOk_of HSB.out ik0 (fun x hx => (HOKS.out x hx).1))
        subst k' l' ok'
        obtain ⟨ao8, cap8, rfl, hth⟩ := row_there HOW.out
        rw [← HM.out] at hth hfo ⊢
        have z12 := heap_alloc_new w11 (.cells #[.int .i64 0, .slice ao8 m cap8] 46)
        have hu12 : Upd [] [] w11 (w11.alloc (.cells #[.int .i64 0, .slice ao8 m cap8] 46)) := (Upd.refl _ _).alloc _
        have I12 : Hid (Upd [] [] w10 (w11.alloc (.cells #[.int .i64 0, .slice ao8 m cap8] 46)) ∧ (w11.alloc (.cells #[.int .i64 0, .slice ao8 m cap8] 46)).heap[w11.heap.size]? = some (.cells #[.int .i64 0, .slice ao8 m cap8] 46 (0, 0)) ∧ ∀ k, k < m → ∃ g, ao8 = some ⟨g, 0, none⟩ ∧ g ≠ w11.heap.size ∧ w10.heap.size ≤ g ∧ (w11.alloc (.cells #[.int .i64 0, .slice ao8 m cap8] 46)).there g 0 (m * 102)) := by
          refine ⟨hq.trans hu12, z12, fun k hk => ?_⟩
          obtain ⟨g, h1, h2, h3, h4⟩ := hth k hk
          refine ⟨g, h1, by omega, hfo g h2, fun j hj => ?_⟩
          have := h4 j hj
          rw [hu12.cell (p := ⟨g, 0 + j, none⟩) h3 (by simp), hu12.frozen (p := ⟨g, 0 + j, none⟩) h3 (by simp)]
          exact this
        have k1 : (w11.alloc (.cells #[.int .i64 0, .slice ao8 m cap8] 46)).cell? ⟨w11.heap.size, 1, none⟩ = some (.slice ao8 m cap8) := by rw [cell_of_row _ _ _ _ _ _ z12]; rfl
        obtain ⟨w12, hw12⟩ : ∃ w12, w11.alloc (.cells #[.int .i64 0, .slice ao8 m cap8] 46) = w12 := ⟨_, rfl⟩
        obtain ⟨GA, hGA⟩ : ∃ GA, GA = w11.heap.size := ⟨_, rfl⟩
        rw [hw12, ← hGA] at I12 k1
        have HW12 := Lib.hid hw12
        have HGA := Lib.hid hGA
        clear hq hu12 z12 hth hfo HOW HBK hw12 hGA hok'
        go_upto_region 14 with (fail)
        rw [HW12.out, ← HGA.out]
        clear HW12 HGA
        go_wp2_with fail
        have hRz : Tryz.zeroCells33 = (rcV Rc.zero).toArray := rfl
        have ZI : Hid ((Tryz.prog.info? 33).map (·.size) = some (rcV Rc.zero).toArray.size) := rcSz Rc.zero_ok
        have ZO : Hid ((rcV Rc.zero).toArray.all (·.oneCell') = true) := rcOne _
        have ZS : Hid ((rcV Rc.zero).toArray.size = 102) := by show _ = _; simp [rcV_len Rc.zero_ok]
        go_loopw [19, 74] (fun _ i wr => ∃ k : Nat, i = .int .i64 (k : Int) ∧ k ≤ m ∧ Hid (Upd [] [] w10 wr ∧ wr.heap[GA]? = some (.cells #[.int .i64 0, .slice ao8 m cap8] 46 (0, 0)) ∧ ∀ k, k < m → ∃ g, ao8 = some ⟨g, 0, none⟩ ∧ g ≠ GA ∧ w10.heap.size ≤ g ∧ wr.there g 0 (m * 102))) (fun _ i _ => m - (intOf i).toNat)
        case atStart => exact ⟨0, rfl, Nat.zero_le _, I12⟩
        case round =>
          obtain ⟨k, rfl, hk, HI⟩ := hrel
          by_cases hlt : k < m
          · obtain ⟨g, rfl, hg1, hg2, hg3⟩ := HI.out.2.2 k hlt
            have i0 : (0 : Int) ≤ (k : Int) := by omega
            have i1 : (k : Int) < (m : Int) := by omega
            have ka : wr.cell? ⟨GA, 1, none⟩ = some (.slice (some ⟨g, 0, none⟩) m cap8) := by rw [cell_of_row _ _ _ _ _ _ HI.out.2.1]; rfl
            have TH : Hid (wr.there g (k * 102) (rcV Rc.zero).toArray.size) := by rw [ZS.out]; exact there_at hg3 hlt
            obtain ⟨wN, hwN⟩ : ∃ wN, wr.setCells g (k * 102) (rcV Rc.zero) = wN := ⟨_, rfl⟩
            have IN : Hid (Upd [] [] w10 wN ∧ wN.heap[GA]? = some (.cells #[.int .i64 0, .slice (some ⟨g, 0, none⟩) m cap8] 46 (0, 0)) ∧ ∀ k, k < m → ∃ g', some (⟨g, 0, none⟩ : Addr) = some ⟨g', 0, none⟩ ∧ g' ≠ GA ∧ w10.heap.size ≤ g' ∧ wN.there g' 0 (m * 102)) := by
              rw [← hwN]
              exact ⟨Upd.setCellsNew hg2 (rcV Rc.zero) (k * 102) _ HI.out.1, row_setCellsO (Ne.symm hg1) (rcV Rc.zero) (k * 102) _ HI.out.2.1, fun _ _ => ⟨g, rfl, hg1, hg2, World.there_setCells hg3 g (k * 102) _⟩⟩
            have HWN := Lib.hid hwN
            clear hwN hg3 HI
            go_wp2_with (first | (refine wpList_store_midAs rfl 33 _ _ rfl g (k * 102) (rcV Rc.zero).toArray rfl rfl TH.out ZI.out ZO.out wN HWN.out ?_))
            exact ⟨⟨k + 1, by go_num, by omega, IN⟩, by simp [intOf]; omega⟩
          · obtain rfl : k = m := by omega
            have UX := HI.out.1
            have S12 := Lib.hid (row_updH S10.out UX)
            have HIN12 := Lib.hid (HIN10.out.upd UX)
            have HB12 := Lib.hid (HB10.out.upd UX)
            have FE12 := Lib.hid (row_updH FE10.out UX)
            have FG12 := Lib.hid (row_updH FG10.out UX)
            have FH12 := Lib.hid (row_updH FH10.out UX)
            have U12 := U10.trans UX
            have ut12 := ut10.trans UX
            clear hlt hk S10 HIN10 HB10 FE10 FG10 FH10 U10 ut10 HI k1 I12
            go_wp2_with fail
            refine (readBatch22_any s _ (by omega) (htab.upd ut12)).mono ?_
            rintro e w13 ⟨k', l', v', ok', HBK, hok', HOW, hfo, rfl, hq⟩
            obtain ⟨e1, e2, e3⟩ := btOk_unique (by rw [bs_length]; omega) HBK.out (btOk_of HSB.out ik0 (fun x hx => (HOKS.out x hx).1))
            subst k' l' ok'
            obtain ⟨ao9, cap9, rfl, hcap9, hin9⟩ := rcs_of_row HOW.out hok'
            rw [← HM.out]
            have z14 := heap_alloc_new w13 (.cells #[.int .i64 0, .slice ao9 k cap9] 46)
            have hu14 : Upd [] [] w13 (w13.alloc (.cells #[.int .i64 0, .slice ao9 k cap9] 46)) := (Upd.refl _ _).alloc _
            have h14 := hq.trans hu14
            have S14 := Lib.hid (row_updH S12.out h14)
            have HIN14 := Lib.hid (HIN12.out.upd h14)
            have HB14 := Lib.hid (HB12.out.upd h14)
            have HY14 := Lib.hid (RcsIn.upd hin9 hu14)
            have FE14 := Lib.hid (row_updH FE12.out h14)
            have FG14 := Lib.hid (row_updH FG12.out h14)
            have FH14 := Lib.hid (row_updH FH12.out h14)
            have U14 := U12.trans h14
            have ut14 := ut12.trans h14
            obtain ⟨w14, hw14⟩ : ∃ w14, w13.alloc (.cells #[.int .i64 0, .slice ao9 k cap9] 46) = w14 := ⟨_, rfl⟩
            obtain ⟨GY, hGY⟩ : ∃ GY, GY = w13.heap.size := ⟨_, rfl⟩
            rw [hw14] at z14 S14 HIN14 HB14 HY14 FE14 FG14 FH14 U14 ut14
            rw [← hGY] at z14
            have Z14 := Lib.hid z14
            have HW14 := Lib.hid hw14
            have HGY := Lib.hid hGY
            clear hq hu14 h14 z14 HOW HBK hok' hfo hin9 hw14 hGY S12 HIN12 HB12 FE12 FG12 FH12 U12 ut12 UX
            go_upto_region 20 with (fail)
            rw [HW14.out, ← HGY.out]
            clear HW14 HGY
            have hm5 : rs.length ≤ 6000 := by have := HM.out; omega
            have HSM1 : Hid (∀ W, Upd [] [] w14 W → Calls Tryz.prog 20 #[.agg #[.int .i64 0, .slice ao9 k cap9], .agg #[.int .i64 0, .slice ao6 k cap6]] W (fun e w' => e = .returned (.bool true) ∧ Upd [] [] W w')) := by
              intro W u
              have h := same_any 0 0 rs rs ao9 ao6 cap9 cap6 W hm5 hm5 (HY14.out.upd u) (HIN14.out.upd u) true ⟨fun _ => ⟨rfl, rfl⟩, fun _ => rfl⟩
              rw [← HM.out] at h
              exact h
            have HSM2 : Hid (∀ W, Upd [] [] w14 W → Calls Tryz.prog 20 #[.agg #[.int .i64 0, .slice ao6 k cap6], .agg #[.int .i64 0, .slice ao7 k cap7]] W (fun e w' => e = .returned (.bool true) ∧ Upd [] [] W w')) := by
              intro W u
              have h := same_any 0 0 rs rs ao6 ao7 cap6 cap7 W hm5 hm5 (HIN14.out.upd u) (HB14.out.upd u) true ⟨fun _ => ⟨rfl, rfl⟩, fun _ => rfl⟩
              rw [← HM.out] at h
              exact h
            have HK : Hid (∀ W, Upd [] [] w14 W → W.cell? ⟨GY, 0, none⟩ = some (.int .i64 0) ∧ W.cell? ⟨GY, 1, none⟩ = some (.slice ao9 k cap9) ∧ W.cell? ⟨B, 0, none⟩ = some (.int .i64 0) ∧ W.cell? ⟨B, 1, none⟩ = some (.slice ao6 k cap6) ∧ (Instr.loadAt 71 (.pointer (some ⟨G1, 0, none⟩))).run Tryz.prog W = .ok (.agg E1) W ∧ (Instr.loadAt 71 (.pointer (some ⟨G2, 0, none⟩))).run Tryz.prog W = .ok (.agg E2) W ∧ (Instr.loadAt 24 (.pointer (some ⟨gH, 0, none⟩))).run Tryz.prog W = .ok (.agg H1) W) := by
              intro W u
              have hY := row_updH Z14.out u
              have hB := row_updH S14.out u
              exact ⟨by rw [cell_of_row _ _ _ _ _ _ hY]; rfl, by rw [cell_of_row _ _ _ _ _ _ hY]; rfl, by rw [cell_of_row _ _ _ _ _ _ hB]; rfl, by rw [cell_of_row _ _ _ _ _ _ hB]; rfl, ent_load (row_updH FE14.out u) EI1, ent_load (row_updH FG14.out u) EI2, hash_load (sha_len _) H1 HH1.out (row_updH FH14.out u)⟩
            have ud0 : Upd [] [] w14 w14.drew := (Upd.refl _ _).drew
            have heq := HEQ.out
            clear Z14 S14 HIN14 HB14 HY14 FE14 FG14 FH14 hm5
            refine wp_region_noPanic ?_
            refine wp_region_held_drew (S := fun wp => wp.cell? ⟨GY, 0, none⟩ = some (.int .i64 0) ∧ wp.cell? ⟨GY, 1, none⟩ = some (.slice ao9 k cap9) ∧ wp.cell? ⟨B, 0, none⟩ = some (.int .i64 0) ∧ wp.cell? ⟨B, 1, none⟩ = some (.slice ao6 k cap6) ∧ (Instr.loadAt 71 (.pointer (some ⟨G1, 0, none⟩))).run Tryz.prog wp = .ok (.agg E1) wp ∧ (Instr.loadAt 71 (.pointer (some ⟨G2, 0, none⟩))).run Tryz.prog wp = .ok (.agg E2) wp ∧ (Instr.loadAt 24 (.pointer (some ⟨gH, 0, none⟩))).run Tryz.prog wp = .ok (.agg H1) wp) (by kernel_rfl) ?_ (fun hHeld => ?_)
            · exact HK.out _ ud0
            refine wpAnyH_take (i := 0) (v := ?v1) (by simp only [List.getElem?_toArray, List.getElem?_cons_zero] <;> rfl) (by kernel_rfl) (by kernel_rfl) (by kernel_rfl) (fun _ _ _ h => h) (Or.inl ⟨by rfl, ?y1⟩) hHeld ?r1
            case y1 => (intro w hSw; (try dsimp only at hSw); go_simp; first | done | with_reducible rfl | rfl)
            try simp only [Act.put, List.setIfInBounds_toArray, List.set_cons_zero, List.set_cons_succ]
            refine wpAnyH_take (i := 1) (v := ?v2) (by simp only [List.getElem?_toArray, List.getElem?_cons_succ, List.getElem?_cons_zero] <;> rfl) (by kernel_rfl) (by kernel_rfl) (by kernel_rfl) (fun _ _ _ h => h) (Or.inl ⟨by rfl, ?y2⟩) hHeld ?r2
            case y2 => (intro w hSw; (try dsimp only at hSw); go_simp; first | done | with_reducible rfl | rfl)
            try simp only [Act.put, List.setIfInBounds_toArray, List.set_cons_zero, List.set_cons_succ]
            refine wpAnyH_take (i := 2) (v := ?v3) (by simp only [List.getElem?_toArray, List.getElem?_cons_succ, List.getElem?_cons_zero] <;> rfl) (by kernel_rfl) (by kernel_rfl) (by kernel_rfl) (fun _ _ _ h => h) (Or.inl ⟨by rfl, ?y3⟩) hHeld ?r3
            case y3 => (intro w hSw; (try dsimp only at hSw); go_simp; first | done | with_reducible rfl | rfl)
            try simp only [Act.put, List.setIfInBounds_toArray, List.set_cons_zero, List.set_cons_succ]
            refine wpAnyH_take (i := 3) (v := ?v4) (by simp only [List.getElem?_toArray, List.getElem?_cons_succ, List.getElem?_cons_zero] <;> rfl) (by kernel_rfl) (by kernel_rfl) (by kernel_rfl) (fun _ _ _ h => h) (Or.inl ⟨by rfl, ?y4⟩) hHeld ?r4
            case y4 => (intro w hSw; (try dsimp only at hSw); go_simp; first | done | with_reducible rfl | rfl)
            try simp only [Act.put, List.setIfInBounds_toArray, List.set_cons_zero, List.set_cons_succ]
            refine wpAnyH_take (i := 4) (v := ?v5) (by simp only [List.getElem?_toArray, List.getElem?_cons_succ, List.getElem?_cons_zero] <;> rfl) (by kernel_rfl) (by kernel_rfl) (by kernel_rfl) (fun _ _ _ h => h) (Or.inl ⟨by rfl, ?y5⟩) hHeld ?r5
            case y5 => (intro w hSw; (try dsimp only at hSw); go_simp; first | done | with_reducible rfl | rfl)
            try simp only [Act.put, List.setIfInBounds_toArray, List.set_cons_zero, List.set_cons_succ]
            refine wpAnyH_take (i := 5) (v := ?v6) (by simp only [List.getElem?_toArray, List.getElem?_cons_succ, List.getElem?_cons_zero] <;> rfl) (by kernel_rfl) (by kernel_rfl) (by kernel_rfl) (fun _ _ _ h => h) (Or.inl ⟨by rfl, ?y6⟩) hHeld ?r6
            case y6 => (intro w hSw; (try dsimp only at hSw); go_simp; first | done | with_reducible rfl | rfl)
            try simp only [Act.put, List.setIfInBounds_toArray, List.set_cons_zero, List.set_cons_succ]
            refine wpAnyH_take (i := 6) (v := ?v7) (by simp only [List.getElem?_toArray, List.getElem?_cons_succ, List.getElem?_cons_zero] <;> rfl) (by kernel_rfl) (by kernel_rfl) (by kernel_rfl) (fun _ _ _ h => h) (Or.inl ⟨by rfl, ?y7⟩) hHeld ?r7
            case y7 => (intro w hSw; (try dsimp only at hSw); go_simp; first | done | with_reducible rfl | rfl)
            try simp only [Act.put, List.setIfInBounds_toArray, List.set_cons_zero, List.set_cons_succ]
            refine wpAnyH_take (i := 7) (v := ?v8) (by simp only [List.getElem?_toArray, List.getElem?_cons_succ, List.getElem?_cons_zero] <;> rfl) (by kernel_rfl) (by kernel_rfl) (by kernel_rfl) (fun _ _ _ h => h) (Or.inl ⟨by rfl, ?y8⟩) hHeld ?r8
            case y8 => (intro w hSw; (try dsimp only at hSw); go_simp; first | done | with_reducible rfl | rfl)
            try simp only [Act.put, List.setIfInBounds_toArray, List.set_cons_zero, List.set_cons_succ]
            refine wpAnyH_take (i := 8) (v := ?v9) (by simp only [List.getElem?_toArray, List.getElem?_cons_succ, List.getElem?_cons_zero] <;> rfl) (by kernel_rfl) (by kernel_rfl) (by kernel_rfl) (fun _ _ _ h => h) (Or.inl ⟨by rfl, ?y9⟩) hHeld ?r9
            case y9 => (intro w hSw; (try dsimp only at hSw); go_simp; first | done | with_reducible rfl | rfl)
            try simp only [Act.put, List.setIfInBounds_toArray, List.set_cons_zero, List.set_cons_succ]
            refine wpAnyH_take (i := 9) (v := ?v10) (by simp only [List.getElem?_toArray, List.getElem?_cons_succ, List.getElem?_cons_zero] <;> rfl) (by kernel_rfl) (by kernel_rfl) (by kernel_rfl) (fun _ _ _ h => h) (Or.inl ⟨by rfl, ?y10⟩) hHeld ?r10
            case y10 => (intro w hSw; (try dsimp only at hSw); go_simp; first | done | with_reducible rfl | rfl)
            try simp only [Act.put, List.setIfInBounds_toArray, List.set_cons_zero, List.set_cons_succ]
            refine wpAnyH_ready (rs := [10]) (by kernel_rfl) (by simp) ?_
            refine AllReadyH.cons (by simp only [List.getElem?_toArray, List.getElem?_cons_succ, List.getElem?_cons_zero] <;> rfl) (fun K hK => ?_) ?_
            · go_simp; refine (HSM1.out _ (ud0)).mono ?_; rintro e wv1 ⟨rfl, hq⟩; have ud1 := ud0.trans hq; clear hq; go_wp2_with fail
              refine hK.out _ _ ?_ (fun hHeld => ?_)
              · exact HK.out _ ud1
              clear hK K
              try simp only [Act.put, List.setIfInBounds_toArray, List.set_cons_zero, List.set_cons_succ]
              refine wpAnyH_take (i := 11) (v := ?v11) (by simp only [List.getElem?_toArray, List.getElem?_cons_succ, List.getElem?_cons_zero] <;> rfl) (by kernel_rfl) (by kernel_rfl) (by kernel_rfl) (fun _ _ _ h => h) (Or.inl ⟨by rfl, ?y11⟩) hHeld ?r11
              case y11 => (intro w hSw; (try dsimp only at hSw); go_simp; first | done | with_reducible rfl | rfl)
              try simp only [Act.put, List.setIfInBounds_toArray, List.set_cons_zero, List.set_cons_succ]
              refine wpAnyH_take (i := 12) (v := ?v12) (by simp only [List.getElem?_toArray, List.getElem?_cons_succ, List.getElem?_cons_zero] <;> rfl) (by kernel_rfl) (by kernel_rfl) (by kernel_rfl) (fun _ _ _ h => h) (Or.inl ⟨by rfl, ?y12⟩) hHeld ?r12
              case y12 => (intro w hSw; (try dsimp only at hSw); go_simp; first | done | with_reducible rfl | rfl)
              try simp only [Act.put, List.setIfInBounds_toArray, List.set_cons_zero, List.set_cons_succ]
              refine wpAnyH_take (i := 13) (v := ?v13) (by simp only [List.getElem?_toArray, List.getElem?_cons_succ, List.getElem?_cons_zero] <;> rfl) (by kernel_rfl) (by kernel_rfl) (by kernel_rfl) (fun _ _ _ h => h) (Or.inl ⟨by rfl, ?y13⟩) hHeld ?r13
              case y13 => (intro w hSw; (try dsimp only at hSw); go_simp; first | done | with_reducible rfl | rfl)
              try simp only [Act.put, List.setIfInBounds_toArray, List.set_cons_zero, List.set_cons_succ]
              refine wpAnyH_take (i := 14) (v := ?v14) (by simp only [List.getElem?_toArray, List.getElem?_cons_succ, List.getElem?_cons_zero] <;> rfl) (by kernel_rfl) (by kernel_rfl) (by kernel_rfl) (fun _ _ _ h => h) (Or.inl ⟨by rfl, ?y14⟩) hHeld ?r14
              case y14 => (intro w hSw; (try dsimp only at hSw); go_simp; first | done | with_reducible rfl | rfl)
              try simp only [Act.put, List.setIfInBounds_toArray, List.set_cons_zero, List.set_cons_succ]
              refine wpAnyH_take (i := 15) (v := ?v15) (by simp only [List.getElem?_toArray, List.getElem?_cons_succ, List.getElem?_cons_zero] <;> rfl) (by kernel_rfl) (by kernel_rfl) (by kernel_rfl) (fun _ _ _ h => h) (Or.inl ⟨by rfl, ?y15⟩) hHeld ?r15
              case y15 => (intro w hSw; (try dsimp only at hSw); go_simp; first | done | with_reducible rfl | rfl)
              try simp only [Act.put, List.setIfInBounds_toArray, List.set_cons_zero, List.set_cons_succ]
              refine wpAnyH_ready (rs := [16]) (by kernel_rfl) (by simp) ?_
              refine AllReadyH.cons (by simp only [List.getElem?_toArray, List.getElem?_cons_succ, List.getElem?_cons_zero] <;> rfl) (fun K hK => ?_) ?_
              · go_simp; refine (HSM2.out _ (ud1)).mono ?_; rintro e wv2 ⟨rfl, hq⟩; have ud2 := ud1.trans hq; clear hq; go_wp2_with fail
                refine hK.out _ _ ?_ (fun hHeld => ?_)
                · exact HK.out _ ud2
                clear hK K
                try simp only [Act.put, List.setIfInBounds_toArray, List.set_cons_zero, List.set_cons_succ]
                refine wpAnyH_take (i := 17) (v := ?v16) (by simp only [List.getElem?_toArray, List.getElem?_cons_succ, List.getElem?_cons_zero] <;> rfl) (by kernel_rfl) (by kernel_rfl) (by kernel_rfl) (fun _ _ _ h => h) (Or.inl ⟨by rfl, ?y16⟩) hHeld ?r16
                case y16 => (intro w hSw; (try dsimp only at hSw); go_simp; first | done | with_reducible rfl | rfl)
                try simp only [Act.put, List.setIfInBounds_toArray, List.set_cons_zero, List.set_cons_succ]
                refine wpAnyH_take (i := 18) (v := ?v17) (by simp only [List.getElem?_toArray, List.getElem?_cons_succ, List.getElem?_cons_zero] <;> rfl) (by kernel_rfl) (by kernel_rfl) (by kernel_rfl) (fun _ _ _ h => h) (Or.inl ⟨by rfl, ?y17⟩) hHeld ?r17
                case y17 => (intro w hSw; (try dsimp only at hSw); go_simp; first | done | with_reducible rfl | rfl)
                try simp only [Act.put, List.setIfInBounds_toArray, List.set_cons_zero, List.set_cons_succ]
                refine wpAnyH_take (i := 19) (v := .agg E1) (by simp only [List.getElem?_toArray, List.getElem?_cons_succ, List.getElem?_cons_zero] <;> rfl) (by kernel_rfl) (by kernel_rfl) (by kernel_rfl) (fun _ _ _ h => h) (yieldsIf_loadW (by rfl) _ _ rfl _ rfl E1 (fun w hSw => hSw.2.2.2.2.1)) hHeld ?_
                try simp only [Act.put, List.setIfInBounds_toArray, List.set_cons_zero, List.set_cons_succ]
                refine wpAnyH_take (i := 20) (v := .agg E2) (by simp only [List.getElem?_toArray, List.getElem?_cons_succ, List.getElem?_cons_zero] <;> rfl) (by kernel_rfl) (by kernel_rfl) (by kernel_rfl) (fun _ _ _ h => h) (yieldsIf_loadW (by rfl) _ _ rfl _ rfl E2 (fun w hSw => hSw.2.2.2.2.2.1)) hHeld ?_
                try simp only [Act.put, List.setIfInBounds_toArray, List.set_cons_zero, List.set_cons_succ]
                refine wpAnyH_ready (rs := [21]) (by kernel_rfl) (by simp) ?_
                refine AllReadyH.cons (by simp only [List.getElem?_toArray, List.getElem?_cons_succ, List.getElem?_cons_zero] <;> rfl) (fun K hK => ?_) ?_
                · go_simp; refine (CSE.out _ (U14.trans ud2)).mono ?_; rintro e wv3 ⟨rfl, hq⟩; have ud3 := ud2.trans hq; clear hq; go_wp2_with fail
                  refine hK.out _ _ ?_ (fun hHeld => ?_)
                  · exact HK.out _ ud3
                  clear hK K
                  try simp only [Act.put, List.setIfInBounds_toArray, List.set_cons_zero, List.set_cons_succ]
                  refine wpAnyH_take (i := 22) (v := ?v18) (by simp only [List.getElem?_toArray, List.getElem?_cons_succ, List.getElem?_cons_zero] <;> rfl) (by kernel_rfl) (by kernel_rfl) (by kernel_rfl) (fun _ _ _ h => h) (Or.inl ⟨by rfl, ?y18⟩) hHeld ?r18
                  case y18 => (intro w hSw; (try dsimp only at hSw); go_simp; first | done | with_reducible rfl | rfl)
                  try simp only [Act.put, List.setIfInBounds_toArray, List.set_cons_zero, List.set_cons_succ]
                  refine wpAnyH_take (i := 23) (v := ?v19) (by simp only [List.getElem?_toArray, List.getElem?_cons_succ, List.getElem?_cons_zero] <;> rfl) (by kernel_rfl) (by kernel_rfl) (by kernel_rfl) (fun _ _ _ h => h) (Or.inl ⟨by rfl, ?y19⟩) hHeld ?r19
                  case y19 => (intro w hSw; (try dsimp only at hSw); go_simp; first | done | with_reducible rfl | rfl)
                  try simp only [Act.put, List.setIfInBounds_toArray, List.set_cons_zero, List.set_cons_succ]
                  refine wpAnyH_take (i := 24) (v := .agg E1) (by simp only [List.getElem?_toArray, List.getElem?_cons_succ, List.getElem?_cons_zero] <;> rfl) (by kernel_rfl) (by kernel_rfl) (by kernel_rfl) (fun _ _ _ h => h) (yieldsIf_loadW (by rfl) _ _ rfl _ rfl E1 (fun w hSw => hSw.2.2.2.2.1)) hHeld ?_
                  try simp only [Act.put, List.setIfInBounds_toArray, List.set_cons_zero, List.set_cons_succ]
                  refine wpAnyH_take (i := 25) (v := ?v20) (by simp only [List.getElem?_toArray, List.getElem?_cons_succ, List.getElem?_cons_zero] <;> rfl) (by kernel_rfl) (by kernel_rfl) (by kernel_rfl) (fun _ _ _ h => h) (Or.inl ⟨by rfl, ?y20⟩) hHeld ?r20
                  case y20 => (intro w hSw; (try dsimp only at hSw); go_simp; first | done | with_reducible rfl | rfl)
                  try simp only [Act.put, List.setIfInBounds_toArray, List.set_cons_zero, List.set_cons_succ]
                  refine wpAnyH_take (i := 27) (v := .agg H1) (by simp only [List.getElem?_toArray, List.getElem?_cons_succ, List.getElem?_cons_zero] <;> rfl) (by kernel_rfl) (by kernel_rfl) (by kernel_rfl) (fun _ _ _ h => h) (yieldsIf_loadW (by rfl) _ _ rfl _ rfl H1 (fun w hSw => hSw.2.2.2.2.2.2)) hHeld ?_
                  try simp only [Act.put, List.setIfInBounds_toArray, List.set_cons_zero, List.set_cons_succ]
                  refine wpAnyH_ready (rs := [26]) (by kernel_rfl) (by simp) ?_
                  refine AllReadyH.cons (by simp only [List.getElem?_toArray, List.getElem?_cons_succ, List.getElem?_cons_zero] <;> rfl) (fun K hK => ?_) ?_
                  · go_simp; refine (CS1.out _ (U14.trans ud3)).mono ?_; rintro e wv4 ⟨rfl, hq⟩; have ud4 := ud3.trans hq; clear hq; go_wp2_with fail
                    refine hK.out _ _ ?_ (fun hHeld => ?_)
                    · exact HK.out _ ud4
                    clear hK K
                    try simp only [Act.put, List.setIfInBounds_toArray, List.set_cons_zero, List.set_cons_succ]
                    refine wpAnyH_take (i := 28) (v := ?v21) (by simp only [List.getElem?_toArray, List.getElem?_cons_succ, List.getElem?_cons_zero] <;> rfl) (by kernel_rfl) (by kernel_rfl) (by kernel_rfl) (fun _ _ _ h => h) (Or.inl ⟨by rfl, ?y21⟩) hHeld ?r21
                    case y21 => (intro w hSw; (try dsimp only at hSw); go_simp; first | done | with_reducible rfl | rfl)
                    try simp only [Act.put, List.setIfInBounds_toArray, List.set_cons_zero, List.set_cons_succ]
                    refine wpAnyH_take (i := 29) (v := ?v22) (by simp only [List.getElem?_toArray, List.getElem?_cons_succ, List.getElem?_cons_zero] <;> rfl) (by kernel_rfl) (by kernel_rfl) (by kernel_rfl) (fun _ _ _ h => h) (Or.inl ⟨by rfl, ?y22⟩) hHeld ?r22
                    case y22 => (intro w hSw; (try dsimp only at hSw); go_simp; first | done | with_reducible rfl | rfl)
                    try simp only [Act.put, List.setIfInBounds_toArray, List.set_cons_zero, List.set_cons_succ]
                    refine wpAnyH_take (i := 30) (v := ?v23) (by simp only [List.getElem?_toArray, List.getElem?_cons_succ, List.getElem?_cons_zero] <;> rfl) (by kernel_rfl) (by kernel_rfl) (by kernel_rfl) (fun _ _ _ h => h) (Or.inl ⟨by rfl, ?y23⟩) hHeld ?r23
                    case y23 => (intro w hSw; (try dsimp only at hSw); go_simp; first | done | with_reducible rfl | rfl)
                    try simp only [Act.put, List.setIfInBounds_toArray, List.set_cons_zero, List.set_cons_succ]
                    refine wpAnyH_done (by kernel_rfl) ?_ _
                    refine NoPanic.normal ?_
                    go_wp2_with fail
                    go_ret
                    exact ⟨rfl, ut14.trans ud4⟩
                  exact AllReadyH.nil
                exact AllReadyH.nil
              exact AllReadyH.nil
            exact AllReadyH.nil
      · skip
        go_upto_region 11 with (first | (refine wpList_buildRun rfl 44 0 _ rfl _ _ (Eq.trans (congrArg (fun z => (Instr.buildSlice 44 0 z).run Tryz.prog wr) (by kernel_rfl)) HBE.out) ?_) | (refine wpList_append_run _ rfl _ _ _ _ rfl _ _ (.slice ao7 m cap7) w7 rfl rfl HRN.out ?_))
        have FE7 := Lib.hid (row_updH F5'.out U7)
        have FG7 := Lib.hid (row_updH F5.out U7)
        have ut7 := u5.trans U7
        clear c1 c1E hex HBE HRN SE S6 hu7
        go_wp2_with (first | (refine wpList_load_row rfl 71 _ rfl G1 rfl _ E1 _ _ FE7.out Tryz.underlying71 rfl EI1.out ?_))
        refine (CS1.out _ U7).mono ?_
        rintro e w8 ⟨rfl, hq⟩
        obtain ⟨w9, HZ8, HW9, HR9, hq'⟩ := blk_new w8 24 (byteVals zero32).toArray H1
        have h79 := hq.trans hq'
        have S9 := Lib.hid (row_updH S7.out h79)
        have HIN9 := Lib.hid (HIN7.out.upd h79)
        have HB9 := Lib.hid (HB7.out.upd h79)
        have FE9 := Lib.hid (row_updH FE7.out h79)
        have FG9 := Lib.hid (row_updH FG7.out h79)
        have U9 := U7.trans h79
        have ut9 := ut7.trans h79
        clear hq hq' h79 S7 HIN7 HB7 FE7 FG7 U7 ut7
        go_upto_region 12 with (first | (refine wpList_store_rowAs rfl 24 _ _ rfl w8.heap.size H1 rfl rfl _ _ HZ8.out XI.out XZ.out XO.out w9 HW9.out ?_))
        obtain ⟨gH, hgH⟩ : ∃ gH, gH = w8.heap.size := ⟨_, rfl⟩
        rw [← hgH] at HR9 ⊢
        clear hgH HZ8 HW9
        have b0 : w9.cell? ⟨B, 0, none⟩ = some (.int .i64 0) := by rw [cell_of_row _ _ _ _ _ _ S9.out]; rfl
        have b1 : w9.cell? ⟨B, 1, none⟩ = some (.slice ao6 m cap6) := by rw [cell_of_row _ _ _ _ _ _ S9.out]; rfl
        have HCT := Lib.hid (batchText_any 0 rs ao6 cap6 w9 ik0 (by have := HM.out; omega) (by rw [← HM.out]; exact hcap6) HIN9.out (htab.upd ut9))
        rw [← HM.out] at HCT
        go_wp2_with fail
        refine HCT.out.mono ?_
        rintro e w10 ⟨s, HSB, hs, rfl, hq⟩
        have hss : s.size ≤ 2200 := by have := HBL.out; omega
        have S10 := Lib.hid (row_updH S9.out hq)
        have HIN10 := Lib.hid (HIN9.out.upd hq)
        have HB10 := Lib.hid (HB9.out.upd hq)
        have FE10 := Lib.hid (row_updH FE9.out hq)
        have FG10 := Lib.hid (row_updH FG9.out hq)
        have FH10 := Lib.hid (row_updH HR9.out hq)
        have U10 := U9.trans hq
        have ut10 := ut9.trans hq
        clear hq S9 HIN9 HB9 FE9 FG9 HR9 U9 ut9 b0 b1 HCT hs
        go_wp2_with fail
        refine (readBatch22_any s w10 (by omega) (htab.upd ut10)).mono ?_
        rintro e w11 ⟨k', l', v', ok', HBK, hok', HOW, hfo, rfl, hq⟩
        obtain ⟨e1, e2, e3⟩ := btOk_unique (by rw [bs_length]; omega) HBK.out (btOk_of HSB.out ik0 (fun x hx => (HOKS.out x hx).1))
        subst k' l' ok'
        obtain ⟨ao8, cap8, rfl, hth⟩ := row_there HOW.out
        rw [← HM.out] at hth hfo ⊢
        have z12 := heap_alloc_new w11 (.cells #[.int .i64 0, .slice ao8 m cap8] 46)
        have hu12 : Upd [] [] w11 (w11.alloc (.cells #[.int .i64 0, .slice ao8 m cap8] 46)) := (Upd.refl _ _).alloc _
        have I12 : Hid (Upd [] [] w10 (w11.alloc (.cells #[.int .i64 0, .slice ao8 m cap8] 46)) ∧ (w11.alloc (.cells #[.int .i64 0, .slice ao8 m cap8] 46)).heap[w11.heap.size]? = some (.cells #[.int .i64 0, .slice ao8 m cap8] 46 (0, 0)) ∧ ∀ k, k < m → ∃ g, ao8 = some ⟨g, 0, none⟩ ∧ g ≠ w11.heap.size ∧ w10.heap.size ≤ g ∧ (w11.alloc (.cells #[.int .i64 0, .slice ao8 m cap8] 46)).there g 0 (m * 102)) := by
          refine ⟨hq.trans hu12, z12, fun k hk => ?_⟩
          obtain ⟨g, h1, h2, h3, h4⟩ := hth k hk
          refine ⟨g, h1, by omega, hfo g h2, fun j hj => ?_⟩
          have := h4 j hj
          rw [hu12.cell (p := ⟨g, 0 + j, none⟩) h3 (by simp), hu12.frozen (p := ⟨g, 0 + j, none⟩) h3 (by simp)]
          exact this
        have k1 : (w11.alloc (.cells #[.int .i64 0, .slice ao8 m cap8] 46)).cell? ⟨w11.heap.size, 1, none⟩ = some (.slice ao8 m cap8) := by rw [cell_of_row _ _ _ _ _ _ z12]; rfl
        obtain ⟨w12, hw12⟩ : ∃ w12, w11.alloc (.cells #[.int .i64 0, .slice ao8 m cap8] 46) = w12 := ⟨_, rfl⟩
        obtain ⟨GA, hGA⟩ : ∃ GA, GA = w11.heap.size := ⟨_, rfl⟩
        rw [hw12, ← hGA] at I12 k1
        have HW12 := Lib.hid hw12
        have HGA := Lib.hid hGA
        clear hq hu12 z12 hth hfo HOW HBK hw12 hGA hok'
        go_upto_region 14 with (fail)
        rw [HW12.out, ← HGA.out]
        clear HW12 HGA
        go_wp2_with fail
        have hRz : Tryz.zeroCells33 = (rcV Rc.zero).toArray := rfl
        have ZI : Hid ((Tryz.prog.info? 33).map (·.size) = some (rcV Rc.zero).toArray.size) := rcSz Rc.zero_ok
        have ZO : Hid ((rcV Rc.zero).toArray.all (·.oneCell') = true) := rcOne _
        have ZS : Hid ((rcV Rc.zero).toArray.size = 102) := by show _ = _; simp [rcV_len Rc.zero_ok]
        go_loopw [19, 74] (fun _ i wr => ∃ k : Nat, i = .int .i64 (k : Int) ∧ k ≤ m ∧ Hid (Upd [] [] w10 wr ∧ wr.heap[GA]? = some (.cells #[.int .i64 0, .slice ao8 m cap8] 46 (0, 0)) ∧ ∀ k, k < m → ∃ g, ao8 = some ⟨g, 0, none⟩ ∧ g ≠ GA ∧ w10.heap.size ≤ g ∧ wr.there g 0 (m * 102))) (fun _ i _ => m - (intOf i).toNat)
        case atStart => exact ⟨0, rfl, Nat.zero_le _, I12⟩
        case round =>
          obtain ⟨k, rfl, hk, HI⟩ := hrel
          by_cases hlt : k < m
          · obtain ⟨g, rfl, hg1, hg2, hg3⟩ := HI.out.2.2 k hlt
            have i0 : (0 : Int) ≤ (k : Int) := by omega
            have i1 : (k : Int) < (m : Int) := by omega
            have ka : wr.cell? ⟨GA, 1, none⟩ = some (.slice (some ⟨g, 0, none⟩) m cap8) := by rw [cell_of_row _ _ _ _ _ _ HI.out.2.1]; rfl
            have TH : Hid (wr.there g (k * 102) (rcV Rc.zero).toArray.size) := by rw [ZS.out]; exact there_at hg3 hlt
            obtain ⟨wN, hwN⟩ : ∃ wN, wr.setCells g (k * 102) (rcV Rc.zero) = wN := ⟨_, rfl⟩
            have IN : Hid (Upd [] [] w10 wN ∧ wN.heap[GA]? = some (.cells #[.int .i64 0, .slice (some ⟨g, 0, none⟩) m cap8] 46 (0, 0)) ∧ ∀ k, k < m → ∃ g', some (⟨g, 0, none⟩ : Addr) = some ⟨g', 0, none⟩ ∧ g' ≠ GA ∧ w10.heap.size ≤ g' ∧ wN.there g' 0 (m * 102)) := by
              rw [← hwN]
              exact ⟨Upd.setCellsNew hg2 (rcV Rc.zero) (k * 102) _ HI.out.1, row_setCellsO (Ne.symm hg1) (rcV Rc.zero) (k * 102) _ HI.out.2.1, fun _ _ => ⟨g, rfl, hg1, hg2, World.there_setCells hg3 g (k * 102) _⟩⟩
            have HWN := Lib.hid hwN
            clear hwN hg3 HI
            go_wp2_with (first | (refine wpList_store_midAs rfl 33 _ _ rfl g (k * 102) (rcV Rc.zero).toArray rfl rfl TH.out ZI.out ZO.out wN HWN.out ?_))
            exact ⟨⟨k + 1, by go_num, by omega, IN⟩, by simp [intOf]; omega⟩
          · obtain rfl : k = m := by omega
            have UX := HI.out.1
            have S12 := Lib.hid (row_updH S10.out UX)
            have HIN12 := Lib.hid (HIN10.out.upd UX)
            have HB12 := Lib.hid (HB10.out.upd UX)
            have FE12 := Lib.hid (row_updH FE10.out UX)
            have FG12 := Lib.hid (row_updH FG10.out UX)
            have FH12 := Lib.hid (row_updH FH10.out UX)
            have U12 := U10.trans UX
            have ut12 := ut10.trans UX
            clear hlt hk S10 HIN10 HB10 FE10 FG10 FH10 U10 ut10 HI k1 I12
            go_wp2_with fail
            refine (readBatch22_any s _ (by omega) (htab.upd ut12)).mono ?_
            rintro e w13 ⟨k', l', v', ok', HBK, hok', HOW, hfo, rfl, hq⟩
            obtain ⟨e1, e2, e3⟩ := btOk_unique (by rw [bs_length]; omega) HBK.out (btOk_of HSB.out ik0 (fun x hx => (HOKS.out x hx).1))
            subst k' l' ok'
            obtain ⟨ao9, cap9, rfl, hcap9, hin9⟩ := rcs_of_row HOW.out hok'
            rw [← HM.out]
            have z14 := heap_alloc_new w13 (.cells #[.int .i64 0, .slice ao9 k cap9] 46)
            have hu14 : Upd [] [] w13 (w13.alloc (.cells #[.int .i64 0, .slice ao9 k cap9] 46)) := (Upd.refl _ _).alloc _
            have h14 := hq.trans hu14
            have S14 := Lib.hid (row_updH S12.out h14)
            have HIN14 := Lib.hid (HIN12.out.upd h14)
            have HB14 := Lib.hid (HB12.out.upd h14)
            have HY14 := Lib.hid (RcsIn.upd hin9 hu14)
            have FE14 := Lib.hid (row_updH FE12.out h14)
            have FG14 := Lib.hid (row_updH FG12.out h14)
            have FH14 := Lib.hid (row_updH FH12.out h14)
            have U14 := U12.trans h14
            have ut14 := ut12.trans h14
            obtain ⟨w14, hw14⟩ : ∃ w14, w13.alloc (.cells #[.int .i64 0, .slice ao9 k cap9] 46) = w14 := ⟨_, rfl⟩
            obtain ⟨GY, hGY⟩ : ∃ GY, GY = w13.heap.size := ⟨_, rfl⟩
            rw [hw14] at z14 S14 HIN14 HB14 HY14 FE14 FG14 FH14 U14 ut14
            rw [← hGY] at z14
            have Z14 := Lib.hid z14
            have HW14 := Lib.hid hw14
            have HGY := Lib.hid hGY
            clear hq hu14 h14 z14 HOW HBK hok' hfo hin9 hw14 hGY S12 HIN12 HB12 FE12 FG12 FH12 U12 ut12 UX
            go_upto_region 20 with (fail)
            rw [HW14.out, ← HGY.out]
            clear HW14 HGY
            have hm5 : rs.length ≤ 6000 := by have := HM.out; omega
            have HSM1 : Hid (∀ W, Upd [] [] w14 W → Calls Tryz.prog 20 #[.agg #[.int .i64 0, .slice ao9 k cap9], .agg #[.int .i64 0, .slice ao6 k cap6]] W (fun e w' => e = .returned (.bool true) ∧ Upd [] [] W w')) := by
              intro W u
              have h := same_any 0 0 rs rs ao9 ao6 cap9 cap6 W hm5 hm5 (HY14.out.upd u) (HIN14.out.upd u) true ⟨fun _ => ⟨rfl, rfl⟩, fun _ => rfl⟩
              rw [← HM.out] at h
              exact h
            have HSM2 : Hid (∀ W, Upd [] [] w14 W → Calls Tryz.prog 20 #[.agg #[.int .i64 0, .slice ao6 k cap6], .agg #[.int .i64 0, .slice ao7 k cap7]] W (fun e w' => e = .returned (.bool true) ∧ Upd [] [] W w')) := by
              intro W u
              have h := same_any 0 0 rs rs ao6 ao7 cap6 cap7 W hm5 hm5 (HIN14.out.upd u) (HB14.out.upd u) true ⟨fun _ => ⟨rfl, rfl⟩, fun _ => rfl⟩
              rw [← HM.out] at h
              exact h
            have HK : Hid (∀ W, Upd [] [] w14 W → W.cell? ⟨GY, 0, none⟩ = some (.int .i64 0) ∧ W.cell? ⟨GY, 1, none⟩ = some (.slice ao9 k cap9) ∧ W.cell? ⟨B, 0, none⟩ = some (.int .i64 0) ∧ W.cell? ⟨B, 1, none⟩ = some (.slice ao6 k cap6) ∧ (Instr.loadAt 71 (.pointer (some ⟨G1, 0, none⟩))).run Tryz.prog W = .ok (.agg E1) W ∧ (Instr.loadAt 71 (.pointer (some ⟨G2, 0, none⟩))).run Tryz.prog W = .ok (.agg E2) W ∧ (Instr.loadAt 24 (.pointer (some ⟨gH, 0, none⟩))).run Tryz.prog W = .ok (.agg H1) W) := by
              intro W u
              have hY := row_updH Z14.out u
              have hB := row_updH S14.out u
              exact ⟨by rw [cell_of_row _ _ _ _ _ _ hY]; rfl, by rw [cell_of_row _ _ _ _ _ _ hY]; rfl, by rw [cell_of_row _ _ _ _ _ _ hB]; rfl, by rw [cell_of_row _ _ _ _ _ _ hB]; rfl, ent_load (row_updH FE14.out u) EI1, ent_load (row_updH FG14.out u) EI2, hash_load (sha_len _) H1 HH1.out (row_updH FH14.out u)⟩
            have ud0 : Upd [] [] w14 w14.drew := (Upd.refl _ _).drew
            have heq := HEQ.out
            clear Z14 S14 HIN14 HB14 HY14 FE14 FG14 FH14 hm5
            refine wp_region_noPanic ?_
            refine wp_region_held_drew (S := fun wp => wp.cell? ⟨GY, 0, none⟩ = some (.int .i64 0) ∧ wp.cell? ⟨GY, 1, none⟩ = some (.slice ao9 k cap9) ∧ wp.cell? ⟨B, 0, none⟩ = some (.int .i64 0) ∧ wp.cell? ⟨B, 1, none⟩ = some (.slice ao6 k cap6) ∧ (Instr.loadAt 71 (.pointer (some ⟨G1, 0, none⟩))).run Tryz.prog wp = .ok (.agg E1) wp ∧ (Instr.loadAt 71 (.pointer (some ⟨G2, 0, none⟩))).run Tryz.prog wp = .ok (.agg E2) wp ∧ (Instr.loadAt 24 (.pointer (some ⟨gH, 0, none⟩))).run Tryz.prog wp = .ok (.agg H1) wp) (by kernel_rfl) ?_ (fun hHeld => ?_)
            · exact HK.out _ ud0
            refine wpAnyH_take (i := 0) (v := ?v24) (by simp only [List.getElem?_toArray, List.getElem?_cons_zero] <;> rfl) (by kernel_rfl) (by kernel_rfl) (by kernel_rfl) (fun _ _ _ h => h) (Or.inl ⟨by rfl, ?y24⟩) hHeld ?r24
            case y24 => (intro w hSw; (try dsimp only at hSw); go_simp; first | done | with_reducible rfl | rfl)
            try simp only [Act.put, List.setIfInBounds_toArray, List.set_cons_zero, List.set_cons_succ]
            refine wpAnyH_take (i := 1) (v := ?v25) (by simp only [List.getElem?_toArray, List.getElem?_cons_succ, List.getElem?_cons_zero] <;> rfl) (by kernel_rfl) (by kernel_rfl) (by kernel_rfl) (fun _ _ _ h => h) (Or.inl ⟨by rfl, ?y25⟩) hHeld ?r25
            case y25 => (intro w hSw; (try dsimp only at hSw); go_simp; first | done | with_reducible rfl | rfl)
            try simp only [Act.put, List.setIfInBounds_toArray, List.set_cons_zero, List.set_cons_succ]
            refine wpAnyH_take (i := 2) (v := ?v26) (by simp only [List.getElem?_toArray, List.getElem?_cons_succ, List.getElem?_cons_zero] <;> rfl) (by kernel_rfl) (by kernel_rfl) (by kernel_rfl) (fun _ _ _ h => h) (Or.inl ⟨by rfl, ?y26⟩) hHeld ?r26
            case y26 => (intro w hSw; (try dsimp only at hSw); go_simp; first | done | with_reducible rfl | rfl)
            try simp only [Act.put, List.setIfInBounds_toArray, List.set_cons_zero, List.set_cons_succ]
            refine wpAnyH_take (i := 3) (v := ?v27) (by simp only [List.getElem?_toArray, List.getElem?_cons_succ, List.getElem?_cons_zero] <;> rfl) (by kernel_rfl) (by kernel_rfl) (by kernel_rfl) (fun _ _ _ h => h) (Or.inl ⟨by rfl, ?y27⟩) hHeld ?r27
            case y27 => (intro w hSw; (try dsimp only at hSw); go_simp; first | done | with_reducible rfl | rfl)
            try simp only [Act.put, List.setIfInBounds_toArray, List.set_cons_zero, List.set_cons_succ]
            refine wpAnyH_take (i := 4) (v := ?v28) (by simp only [List.getElem?_toArray, List.getElem?_cons_succ, List.getElem?_cons_zero] <;> rfl) (by kernel_rfl) (by kernel_rfl) (by kernel_rfl) (fun _ _ _ h => h) (Or.inl ⟨by rfl, ?y28⟩) hHeld ?r28
            case y28 => (intro w hSw; (try dsimp only at hSw); go_simp; first | done | with_reducible rfl | rfl)
            try simp only [Act.put, List.setIfInBounds_toArray, List.set_cons_zero, List.set_cons_succ]
            refine wpAnyH_take (i := 5) (v := ?v29) (by simp only [List.getElem?_toArray, List.getElem?_cons_succ, List.getElem?_cons_zero] <;> rfl) (by kernel_rfl) (by kernel_rfl) (by kernel_rfl) (fun _ _ _ h => h) (Or.inl ⟨by rfl, ?y29⟩) hHeld ?r29
            case y29 => (intro w hSw; (try dsimp only at hSw); go_simp; first | done | with_reducible rfl | rfl)
            try simp only [Act.put, List.setIfInBounds_toArray, List.set_cons_zero, List.set_cons_succ]
            refine wpAnyH_take (i := 6) (v := ?v30) (by simp only [List.getElem?_toArray, List.getElem?_cons_succ, List.getElem?_cons_zero] <;> rfl) (by kernel_rfl) (by kernel_rfl) (by kernel_rfl) (fun _ _ _ h => h) (Or.inl ⟨by rfl, ?y30⟩) hHeld ?r30
            case y30 => (intro w hSw; (try dsimp only at hSw); go_simp; first | done | with_reducible rfl | rfl)
            try simp only [Act.put, List.setIfInBounds_toArray, List.set_cons_zero, List.set_cons_succ]
            refine wpAnyH_take (i := 7) (v := ?v31) (by simp only [List.getElem?_toArray, List.getElem?_cons_succ, List.getElem?_cons_zero] <;> rfl) (by kernel_rfl) (by kernel_rfl) (by kernel_rfl) (fun _ _ _ h => h) (Or.inl ⟨by rfl, ?y31⟩) hHeld ?r31
            case y31 => (intro w hSw; (try dsimp only at hSw); go_simp; first | done | with_reducible rfl | rfl)
            try simp only [Act.put, List.setIfInBounds_toArray, List.set_cons_zero, List.set_cons_succ]
            refine wpAnyH_take (i := 8) (v := ?v32) (by simp only [List.getElem?_toArray, List.getElem?_cons_succ, List.getElem?_cons_zero] <;> rfl) (by kernel_rfl) (by kernel_rfl) (by kernel_rfl) (fun _ _ _ h => h) (Or.inl ⟨by rfl, ?y32⟩) hHeld ?r32
            case y32 => (intro w hSw; (try dsimp only at hSw); go_simp; first | done | with_reducible rfl | rfl)
            try simp only [Act.put, List.setIfInBounds_toArray, List.set_cons_zero, List.set_cons_succ]
            refine wpAnyH_take (i := 9) (v := ?v33) (by simp only [List.getElem?_toArray, List.getElem?_cons_succ, List.getElem?_cons_zero] <;> rfl) (by kernel_rfl) (by kernel_rfl) (by kernel_rfl) (fun _ _ _ h => h) (Or.inl ⟨by rfl, ?y33⟩) hHeld ?r33
            case y33 => (intro w hSw; (try dsimp only at hSw); go_simp; first | done | with_reducible rfl | rfl)
            try simp only [Act.put, List.setIfInBounds_toArray, List.set_cons_zero, List.set_cons_succ]
            refine wpAnyH_ready (rs := [10]) (by kernel_rfl) (by simp) ?_
            refine AllReadyH.cons (by simp only [List.getElem?_toArray, List.getElem?_cons_succ, List.getElem?_cons_zero] <;> rfl) (fun K hK => ?_) ?_
            · go_simp; refine (HSM1.out _ (ud0)).mono ?_; rintro e wv1 ⟨rfl, hq⟩; have ud1 := ud0.trans hq; clear hq; go_wp2_with fail
              refine hK.out _ _ ?_ (fun hHeld => ?_)
              · exact HK.out _ ud1
              clear hK K
              try simp only [Act.put, List.setIfInBounds_toArray, List.set_cons_zero, List.set_cons_succ]
              refine wpAnyH_take (i := 11) (v := ?v34) (by simp only [List.getElem?_toArray, List.getElem?_cons_succ, List.getElem?_cons_zero] <;> rfl) (by kernel_rfl) (by kernel_rfl) (by kernel_rfl) (fun _ _ _ h => h) (Or.inl ⟨by rfl, ?y34⟩) hHeld ?r34
              case y34 => (intro w hSw; (try dsimp only at hSw); go_simp; first | done | with_reducible rfl | rfl)
              try simp only [Act.put, List.setIfInBounds_toArray, List.set_cons_zero, List.set_cons_succ]
              refine wpAnyH_take (i := 12) (v := ?v35) (by simp only [List.getElem?_toArray, List.getElem?_cons_succ, List.getElem?_cons_zero] <;> rfl) (by kernel_rfl) (by kernel_rfl) (by kernel_rfl) (fun _ _ _ h => h) (Or.inl ⟨by rfl, ?y35⟩) hHeld ?r35
              case y35 => (intro w hSw; (try dsimp only at hSw); go_simp; first | done | with_reducible rfl | rfl)
              try simp only [Act.put, List.setIfInBounds_toArray, List.set_cons_zero, List.set_cons_succ]
              refine wpAnyH_take (i := 13) (v := ?v36) (by simp only [List.getElem?_toArray, List.getElem?_cons_succ, List.getElem?_cons_zero] <;> rfl) (by kernel_rfl) (by kernel_rfl) (by kernel_rfl) (fun _ _ _ h => h) (Or.inl ⟨by rfl, ?y36⟩) hHeld ?r36
              case y36 => (intro w hSw; (try dsimp only at hSw); go_simp; first | done | with_reducible rfl | rfl)
              try simp only [Act.put, List.setIfInBounds_toArray, List.set_cons_zero, List.set_cons_succ]
              refine wpAnyH_take (i := 14) (v := ?v37) (by simp only [List.getElem?_toArray, List.getElem?_cons_succ, List.getElem?_cons_zero] <;> rfl) (by kernel_rfl) (by kernel_rfl) (by kernel_rfl) (fun _ _ _ h => h) (Or.inl ⟨by rfl, ?y37⟩) hHeld ?r37
              case y37 => (intro w hSw; (try dsimp only at hSw); go_simp; first | done | with_reducible rfl | rfl)
              try simp only [Act.put, List.setIfInBounds_toArray, List.set_cons_zero, List.set_cons_succ]
              refine wpAnyH_take (i := 15) (v := ?v38) (by simp only [List.getElem?_toArray, List.getElem?_cons_succ, List.getElem?_cons_zero] <;> rfl) (by kernel_rfl) (by kernel_rfl) (by kernel_rfl) (fun _ _ _ h => h) (Or.inl ⟨by rfl, ?y38⟩) hHeld ?r38
              case y38 => (intro w hSw; (try dsimp only at hSw); go_simp; first | done | with_reducible rfl | rfl)
              try simp only [Act.put, List.setIfInBounds_toArray, List.set_cons_zero, List.set_cons_succ]
              refine wpAnyH_ready (rs := [16]) (by kernel_rfl) (by simp) ?_
              refine AllReadyH.cons (by simp only [List.getElem?_toArray, List.getElem?_cons_succ, List.getElem?_cons_zero] <;> rfl) (fun K hK => ?_) ?_
              · go_simp; refine (HSM2.out _ (ud1)).mono ?_; rintro e wv2 ⟨rfl, hq⟩; have ud2 := ud1.trans hq; clear hq; go_wp2_with fail
                refine hK.out _ _ ?_ (fun hHeld => ?_)
                · exact HK.out _ ud2
                clear hK K
                try simp only [Act.put, List.setIfInBounds_toArray, List.set_cons_zero, List.set_cons_succ]
                refine wpAnyH_take (i := 17) (v := ?v39) (by simp only [List.getElem?_toArray, List.getElem?_cons_succ, List.getElem?_cons_zero] <;> rfl) (by kernel_rfl) (by kernel_rfl) (by kernel_rfl) (fun _ _ _ h => h) (Or.inl ⟨by rfl, ?y39⟩) hHeld ?r39
                case y39 => (intro w hSw; (try dsimp only at hSw); go_simp; first | done | with_reducible rfl | rfl)
                try simp only [Act.put, List.setIfInBounds_toArray, List.set_cons_zero, List.set_cons_succ]
                refine wpAnyH_take (i := 18) (v := ?v40) (by simp only [List.getElem?_toArray, List.getElem?_cons_succ, List.getElem?_cons_zero] <;> rfl) (by kernel_rfl) (by kernel_rfl) (by kernel_rfl) (fun _ _ _ h => h) (Or.inl ⟨by rfl, ?y40⟩) hHeld ?r40
                case y40 => (intro w hSw; (try dsimp only at hSw); go_simp; first | done | with_reducible rfl | rfl)
                try simp only [Act.put, List.setIfInBounds_toArray, List.set_cons_zero, List.set_cons_succ]
                refine wpAnyH_take (i := 19) (v := .agg E1) (by simp only [List.getElem?_toArray, List.getElem?_cons_succ, List.getElem?_cons_zero] <;> rfl) (by kernel_rfl) (by kernel_rfl) (by kernel_rfl) (fun _ _ _ h => h) (yieldsIf_loadW (by rfl) _ _ rfl _ rfl E1 (fun w hSw => hSw.2.2.2.2.1)) hHeld ?_
                try simp only [Act.put, List.setIfInBounds_toArray, List.set_cons_zero, List.set_cons_succ]
                refine wpAnyH_take (i := 20) (v := .agg E2) (by simp only [List.getElem?_toArray, List.getElem?_cons_succ, List.getElem?_cons_zero] <;> rfl) (by kernel_rfl) (by kernel_rfl) (by kernel_rfl) (fun _ _ _ h => h) (yieldsIf_loadW (by rfl) _ _ rfl _ rfl E2 (fun w hSw => hSw.2.2.2.2.2.1)) hHeld ?_
                try simp only [Act.put, List.setIfInBounds_toArray, List.set_cons_zero, List.set_cons_succ]
                refine wpAnyH_ready (rs := [21]) (by kernel_rfl) (by simp) ?_
                refine AllReadyH.cons (by simp only [List.getElem?_toArray, List.getElem?_cons_succ, List.getElem?_cons_zero] <;> rfl) (fun K hK => ?_) ?_
                · go_simp; refine (CSE.out _ (U14.trans ud2)).mono ?_; rintro e wv3 ⟨rfl, hq⟩; have ud3 := ud2.trans hq; clear hq; go_wp2_with fail
                  refine hK.out _ _ ?_ (fun hHeld => ?_)
                  · exact HK.out _ ud3
                  clear hK K
                  try simp only [Act.put, List.setIfInBounds_toArray, List.set_cons_zero, List.set_cons_succ]
                  refine wpAnyH_take (i := 22) (v := ?v41) (by simp only [List.getElem?_toArray, List.getElem?_cons_succ, List.getElem?_cons_zero] <;> rfl) (by kernel_rfl) (by kernel_rfl) (by kernel_rfl) (fun _ _ _ h => h) (Or.inl ⟨by rfl, ?y41⟩) hHeld ?r41
                  case y41 => (intro w hSw; (try dsimp only at hSw); go_simp; first | done | with_reducible rfl | rfl)
                  try simp only [Act.put, List.setIfInBounds_toArray, List.set_cons_zero, List.set_cons_succ]
                  refine wpAnyH_take (i := 23) (v := ?v42) (by simp only [List.getElem?_toArray, List.getElem?_cons_succ, List.getElem?_cons_zero] <;> rfl) (by kernel_rfl) (by kernel_rfl) (by kernel_rfl) (fun _ _ _ h => h) (Or.inl ⟨by rfl, ?y42⟩) hHeld ?r42
                  case y42 => (intro w hSw; (try dsimp only at hSw); go_simp; first | done | with_reducible rfl | rfl)
                  try simp only [Act.put, List.setIfInBounds_toArray, List.set_cons_zero, List.set_cons_succ]
                  refine wpAnyH_take (i := 24) (v := .agg E1) (by simp only [List.getElem?_toArray, List.getElem?_cons_succ, List.getElem?_cons_zero] <;> rfl) (by kernel_rfl) (by kernel_rfl) (by kernel_rfl) (fun _ _ _ h => h) (yieldsIf_loadW (by rfl) _ _ rfl _ rfl E1 (fun w hSw => hSw.2.2.2.2.1)) hHeld ?_
                  try simp only [Act.put, List.setIfInBounds_toArray, List.set_cons_zero, List.set_cons_succ]
                  refine wpAnyH_take (i := 25) (v := ?v43) (by simp only [List.getElem?_toArray, List.getElem?_cons_succ, List.getElem?_cons_zero] <;> rfl) (by kernel_rfl) (by kernel_rfl) (by kernel_rfl) (fun _ _ _ h => h) (Or.inl ⟨by rfl, ?y43⟩) hHeld ?r43
                  case y43 => (intro w hSw; (try dsimp only at hSw); go_simp; first | done | with_reducible rfl | rfl)
                  try simp only [Act.put, List.setIfInBounds_toArray, List.set_cons_zero, List.set_cons_succ]
                  refine wpAnyH_take (i := 27) (v := .agg H1) (by simp only [List.getElem?_toArray, List.getElem?_cons_succ, List.getElem?_cons_zero] <;> rfl) (by kernel_rfl) (by kernel_rfl) (by kernel_rfl) (fun _ _ _ h => h) (yieldsIf_loadW (by rfl) _ _ rfl _ rfl H1 (fun w hSw => hSw.2.2.2.2.2.2)) hHeld ?_
                  try simp only [Act.put, List.setIfInBounds_toArray, List.set_cons_zero, List.set_cons_succ]
                  refine wpAnyH_ready (rs := [26]) (by kernel_rfl) (by simp) ?_
                  refine AllReadyH.cons (by simp only [List.getElem?_toArray, List.getElem?_cons_succ, List.getElem?_cons_zero] <;> rfl) (fun K hK => ?_) ?_
                  · go_simp; refine (CS1.out _ (U14.trans ud3)).mono ?_; rintro e wv4 ⟨rfl, hq⟩; have ud4 := ud3.trans hq; clear hq; go_wp2_with fail
                    refine hK.out _ _ ?_ (fun hHeld => ?_)
                    · exact HK.out _ ud4
                    clear hK K
                    try simp only [Act.put, List.setIfInBounds_toArray, List.set_cons_zero, List.set_cons_succ]
                    refine wpAnyH_take (i := 28) (v := ?v44) (by simp only [List.getElem?_toArray, List.getElem?_cons_succ, List.getElem?_cons_zero] <;> rfl) (by kernel_rfl) (by kernel_rfl) (by kernel_rfl) (fun _ _ _ h => h) (Or.inl ⟨by rfl, ?y44⟩) hHeld ?r44
                    case y44 => (intro w hSw; (try dsimp only at hSw); go_simp; first | done | with_reducible rfl | rfl)
                    try simp only [Act.put, List.setIfInBounds_toArray, List.set_cons_zero, List.set_cons_succ]
                    refine wpAnyH_take (i := 29) (v := ?v45) (by simp only [List.getElem?_toArray, List.getElem?_cons_succ, List.getElem?_cons_zero] <;> rfl) (by kernel_rfl) (by kernel_rfl) (by kernel_rfl) (fun _ _ _ h => h) (Or.inl ⟨by rfl, ?y45⟩) hHeld ?r45
                    case y45 => (intro w hSw; (try dsimp only at hSw); go_simp; first | done | with_reducible rfl | rfl)
                    try simp only [Act.put, List.setIfInBounds_toArray, List.set_cons_zero, List.set_cons_succ]
                    refine wpAnyH_take (i := 30) (v := ?v46) (by simp only [List.getElem?_toArray, List.getElem?_cons_succ, List.getElem?_cons_zero] <;> rfl) (by kernel_rfl) (by kernel_rfl) (by kernel_rfl) (fun _ _ _ h => h) (Or.inl ⟨by rfl, ?y46⟩) hHeld ?r46
                    case y46 => (intro w hSw; (try dsimp only at hSw); go_simp; first | done | with_reducible rfl | rfl)
                    try simp only [Act.put, List.setIfInBounds_toArray, List.set_cons_zero, List.set_cons_succ]
                    refine wpAnyH_done (by kernel_rfl) ?_ _
                    refine NoPanic.normal ?_
                    go_wp2_with fail
                    go_ret
                    exact ⟨rfl, ut14.trans ud4⟩
                  exact AllReadyH.nil
                exact AllReadyH.nil
              exact AllReadyH.nil
            exact AllReadyH.nil
end Go.Proofs.YtmnmhhbldbdpfaaGreatDoor
