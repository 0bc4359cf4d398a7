/- CourtKiosk: the walk up to the end of its loop. -/
import Derived.Test.YtinpenoeohejoaaGreatDoorGZ
import Derived.Test.YtinpenoeohejoaaGreatDoorGV
import Derived.Test.YtinpenoeohejoaaGreatDoorGW
import Derived.Test.YtinpenoeohejoaaGreatDoorGX
import Derived.Test.YtinpenoeohejoaaGreatDoorGY
import Derived.Test.YtinpenoeohejoaaGreatDoorGO
namespace Go.Proofs.YtinpenoeohejoaaGreatDoor
open Go.RowKit
set_option maxRecDepth 100000

set_option maxHeartbeats 40000000 in
theorem courtKiosk_walk (seed : ByteArray) (l : List Act27) (ao : Option Addr) (cap : Nat) (q0 q1 : Int) (w : World) (hsd : seed.size ≤ 140737488355000) (hp : AcsIn w ao l) (_hlc : l.length ≤ cap) (_hcm : cap ≤ 9223372036854775807) (h0 : 0 ≤ q0 ∧ q0 ≤ 255) (h1 : 0 ≤ q1 ∧ q1 ≤ 255) (htab : Tabs w) :
    Calls Tryz.prog 3 #[.string seed, .slice ao l.length cap, .agg #[.int .u8 q0, .int .u8 q1]] w (TrueMk w) := by
  obtain ⟨gq, hgq⟩ : ∃ g, w.heap.size = g := ⟨_, rfl⟩
  obtain ⟨wb, hwb⟩ : ∃ W, w.alloc (.cells #[.int .u8 q0, .int .u8 q1] 23) = W := ⟨_, rfl⟩
  have RQ := Lib.hid (show wb.heap[gq]? = some (.cells #[.int .u8 q0, .int .u8 q1] 23 (0, 0)) by rw [← hgq, ← hwb]; exact heap_alloc_new _ _)
  have UB := Lib.hid (show Upd [] [] w wb by rw [← hwb]; exact (Upd.refl _ _).alloc _)
  have HP := Lib.hid (hp.upd UB.out)
  have tabB := htab.upd UB.out
  have HQB := Lib.hid (And.intro h0 h1)
  clear hp h0 h1
  go_enter Tryz.func3, Tryz.ntmps3
  go_wp2_with fail
  refine (sanity33_any wb tabB).mono ?_
  rintro e w1 ⟨rfl, hq⟩
  have U1 := Lib.hid hq
  clear hq
  go_wp2_with fail
  refine (key_any seed w1 hsd (tabB.upd U1.out)).mono ?_
  rintro e w2 ⟨x, p, HX, HPX, hx, hpx, rfl, hq⟩
  have U2 := Lib.hid (U1.out.trans hq)
  have HPP : Hid (p = gP x) := by show _ = _; rw [HPX.out, HX.out]
  clear hq U1 HPX HX
  go_wp2_with fail
  refine (New_to w2).mono ?_
  rintro e w3 ⟨b, S3, rfl, hd3, hu3⟩
  have ix : i64in (x : Int) := by unfold i64in; omega
  have i70 : i64in 70 := by unfold i64in; omega
  have HOP : Hid (Calls Tryz.prog 7 #[.int .i64 70, .int .i64 (x : Int), .int .i64 30, .pointer (some ⟨b, 0, none⟩)] w3 (fun e w' => ∃ kb K', e = .returned (.tuple #[.pointer (some ⟨kb, 0, none⟩), .int .i64 0]) ∧ Hid (Ckk wb 70 x (KM.new 70 x 30) 0 kb b K' w'))) := Ckk.first 30 i70 ix (by omega) U2.out hd3 hu3 tabB
  clear hd3 hu3 U2
  go_wp2_with fail
  refine HOP.out.mono ?_
  rintro e w4 ⟨kb, K4, rfl, HC4⟩
  have I4 : Hid (∃ K m all, CkI wb x 0 kb b K m (.slice none 0 0) all w4) := ⟨K4, _, [], HC4.out, World.ownsRow_nil _ _ _ _, fun x hx => by simp at hx, fun k hk => by simp [foot, Value.ownBlock] at hk, fun k hk => by simp [foot, Value.ownBlock] at hk, Nat.zero_le _⟩
  clear HOP HC4
  go_wp2_with fail
  go_loopw [10, 11, 12, 13, 14] (fun dv kv ev av nv wr => ∃ (n b kb : Nat) (vr : Value), dv = .pointer (some ⟨b, 0, none⟩) ∧ kv = .pointer (some ⟨kb, 0, none⟩) ∧ ev = .int .i64 0 ∧ vr = av ∧ nv = .int .i64 (n : Int) ∧ n ≤ 25 ∧ n ≤ l.length ∧ Hid (∃ K m all, CkI wb x n kb b K m vr all wr)) (fun _ _ _ _ nv _ => 25 - (intOf nv).toNat)
  case atStart => exact ⟨0, b, kb, _, rfl, rfl, rfl, rfl, rfl, by omega, by omega, I4⟩
  case round =>
    clear I4
    obtain ⟨n, b, kb, vr, rfl, rfl, rfl, rfl, rfl, hn, hnl, HI⟩ := hrel
    by_cases hlt : n < l.length
    · by_cases h25 : n < 25
      · obtain ⟨a, ha⟩ : ∃ a, l[n]? = some a := ⟨_, List.getElem?_eq_getElem hlt⟩
        obtain ⟨K, m, all, HI⟩ := HI.out
        have HI := Lib.hid HI
        obtain ⟨haok, g, o, hao, hg, _⟩ := HP.out n a ha
        have HAC : Hid (∀ W, Upd [] [] wb W → W.cell? ⟨g, o + n * 3, none⟩ = some (.int .i64 a.what) ∧ W.cell? ⟨g, o + n * 3 + 1, none⟩ = some (.int .i64 a.n)) := by
          intro W u
          obtain ⟨_, g', o', hao', _, hr⟩ := (HP.out.upd u) n a ha
          rw [hao] at hao'
          cases hao'
          exact ⟨(act_cells hr).1, (act_cells hr).2.1⟩
        subst hao
        obtain ⟨c1, c2⟩ := HAC.out wr HI.out.ck.up
        have i0 : (0 : Int) ≤ (n : Int) := by omega
        have i1 : (n : Int) < (l.length : Int) := by omega
        have i2 : (n : Int) < 25 := by omega
        obtain ⟨z, hz, hz1, hz2⟩ := mod_add a.what 12 (by decide)
        obtain ⟨W, hW⟩ : ∃ W, W = a.what % 12 := ⟨_, rfl⟩
        rw [← hW] at hz2
        have W0 : 0 ≤ W := by omega
        have W12 : W < 12 := by omega
        have HAOK := Lib.hid haok
        clear ha haok hW hg
        have hn0 : n ≤ 1000 := by omega
        clear c1
        by_cases h5 : W < 5
        · obtain ⟨c1, c2⟩ := HAC.out wr HI.out.ck.up
          go_wp2_with fail
          obtain ⟨H, hH⟩ : ∃ H, H = (byteVals (hashN a.n)).toArray := ⟨_, rfl⟩
          refine (rHash_any a.n HAOK.out.2 wr).mono ?_
          rintro e v1 ⟨rfl, hq⟩
          rw [← hH]
          have HI1 := Lib.hid (HI.out.quiet hq)
          have HSL := Lib.hid (HI1.out.ck.sell ⟨#[108, 111, 116, 116, 111]⟩ (hashN a.n) (by decide) (hashN_len _) hn0 tabB)
          rw [← hH] at HSL
          clear hq hH HI c1 c2
          go_wp2_with fail
          refine HSL.out.mono ?_
          rintro e v2 ⟨y, xx, m', K', rfl, HYO, hu, HXX⟩
          have HS := Lib.hid (HI1.out.step hu HXX.out.1 HXX.out.2.1)
          have HYM : Hid (xx = 0 → y ∈ m'.rs) := HXX.out.2.2
          obtain ⟨Y, hY⟩ : ∃ Y, Y = (rcV y).toArray := ⟨_, rfl⟩
          rw [← hY]
          obtain ⟨YI, YO, YZ⟩ := rcLet HYO.out Y hY
          obtain ⟨v3, Z3, W3, R3, hq3⟩ := blk_new v2 41 Tryz.zeroCells41 Y
          obtain ⟨gr, hgr⟩ : ∃ g, v2.heap.size = g := ⟨_, rfl⟩
          rw [hgr] at Z3 W3 R3
          have HS3 := Lib.hid (HS.out.quiet hq3)
          have HLN := Lib.hid HI1.out.len
          clear hu HXX hq3 HS HI1 HSL
          by_cases hx0 : xx = 0
          · subst hx0
            have hyo := HYO.out
            obtain ⟨v', w', hrun, hown, hup⟩ := append_rc v3 vr all y hyo HS3.out.row (by have := HLN.out; omega)
            have HBR : Hid ((Instr.buildSlice 33 1 #[(0, .agg Y)]).run Tryz.prog v3 = .ok (.slice (some ⟨v3.heap.size, 0, none⟩) 1 1) (v3.alloc (.cells Y 41))) := by rw [hY]; exact rc_build y hyo v3
            rw [← hY] at hrun
            have HRUN := Lib.hid hrun
            have HS4 : Hid (∃ K m all, CkI wb x (n + 1) kb b K m v' all w') := ⟨_, _, _, HS3.out.more hup hown (fun z hz => by rw [List.mem_singleton] at hz; rw [hz]; exact HYM.out rfl) (by rw [List.length_append]; have := HLN.out; simp; omega)⟩
            clear hrun hown hup hyo hY HYM HS3 HLN
            go_wp2_with (first | (refine wpList_store_rowAs rfl 41 _ _ rfl gr Y rfl rfl _ _ Z3.out YI.out YZ.out YO.out v3 W3.out ?_) | (refine wpList_load_row rfl 41 _ rfl gr rfl _ Y _ _ R3.out Tryz.underlying41 rfl YI.out ?_) | (refine wpList_buildRun rfl 33 1 _ rfl _ _ (Eq.trans (congrArg (fun z => (Instr.buildSlice 33 1 z).run Tryz.prog v3) (by kernel_rfl)) HBR.out) ?_) | (refine wpList_append_run _ rfl _ _ _ _ rfl _ _ v' w' rfl rfl HRUN.out ?_))
            exact ⟨⟨n + 1, b, kb, v', rfl, rfl, rfl, rfl, by go_num, by omega, by omega, HS4⟩, by simp [intOf]; omega⟩
          · have hb0 : (xx == 0) = false := by rw [beq_eq_false_iff_ne]; exact hx0
            have HS4 : Hid (∃ K m all, CkI wb x (n + 1) kb b K m vr all v3) := ⟨_, _, _, HS3.out⟩
            clear hY HYM HS3 HLN
            go_wp2_with (first | (refine wpList_store_rowAs rfl 41 _ _ rfl gr Y rfl rfl _ _ Z3.out YI.out YZ.out YO.out v3 W3.out ?_))
            exact ⟨⟨n + 1, b, kb, vr, rfl, rfl, rfl, rfl, by go_num, by omega, by omega, HS4⟩, by simp [intOf]; omega⟩
        · by_cases h8 : W < 8
          · obtain ⟨c1, c2⟩ := HAC.out wr HI.out.ck.up
            go_wp2_with fail
            obtain ⟨H, hH⟩ : ∃ H, H = (byteVals (hashN (n : Int))).toArray := ⟨_, rfl⟩
            refine (rHash_any (n : Int) (by unfold i64in; omega) wr).mono ?_
            rintro e v1 ⟨rfl, hq⟩
            rw [← hH]
            have HI1 := Lib.hid (HI.out.quiet hq)
            have HLE := Lib.hid (HI1.out.ck.learn (1 + (n : Int)) (hashN (n : Int)) (by unfold i64in; omega) (hashN_len _) hn0 tabB)
            rw [← hH] at HLE
            clear hq hH HI c1 c2
            go_wp2_with fail
            refine HLE.out.mono ?_
            rintro e v2 ⟨xx, m', K', rfl, hu, HXX⟩
            have HS4 : Hid (∃ K m all, CkI wb x (n + 1) kb b K m vr all v2) := ⟨_, _, _, HI1.out.step hu HXX.out.1 HXX.out.2⟩
            clear hu HXX HLE HI1
            go_wp2_with fail
            exact ⟨⟨n + 1, b, kb, vr, rfl, rfl, rfl, rfl, by go_num, by omega, by omega, HS4⟩, by simp [intOf]; omega⟩
          · by_cases h10 : W < 10
            · obtain ⟨c1, c2⟩ := HAC.out wr HI.out.ck.up
              obtain ⟨z8, hz8, hz8a, hz8b⟩ := mod_add a.n 8 (by decide)
              obtain ⟨c8, hc8⟩ : ∃ c, c = a.n % 8 := ⟨_, rfl⟩
              rw [← hc8] at hz8b
              have HFL := Lib.hid (HI.out.ck.fail c8 (by omega))
              clear hc8
              go_wp2_with fail
              refine HFL.out.mono ?_
              rintro e v1 ⟨rfl, HK1, hu⟩
              have HS4 : Hid (∃ K m all, CkI wb x (n + 1) kb b K m vr all v1) := ⟨_, _, _, HI.out.step hu (HK1.out.mono (Nat.le_succ n)) (Pre.refl m)⟩
              clear hu HK1 HFL HI c1 c2
              go_wp2_with fail
              exact ⟨⟨n + 1, b, kb, vr, rfl, rfl, rfl, rfl, by go_num, by omega, by omega, HS4⟩, by simp [intOf]; omega⟩
            · obtain ⟨c1, c2⟩ := HAC.out wr HI.out.ck.up
              have uA : Upd [] [] wr (wr.alloc (.cells #[.int .i64 a.n, .int .i64 1, .int .i64 0] 3)) := (Upd.refl _ _).alloc _
              have HIA := Lib.hid (HI.out.quiet uA)
              have HCR := Lib.hid (HIA.out.ck.crash (.slice (some ⟨wr.heap.size, 0, none⟩) 3 3) [a.n, 1, 0] (ints_new wr _ _ rfl))
              have hfb := field_bat
              clear uA
              go_wp2_with fail
              refine HCR.out.mono ?_
              rintro e v1 ⟨b1, rfl, HC1⟩
              have HOP := Lib.hid (HC1.out.open i70 ix tabB)
              clear HC1 HCR HI c1 c2
              go_wp2_with fail
              refine HOP.out.mono ?_
              rintro e v2 ⟨kb2, m2, K2, rfl, HO⟩
              have HR := Lib.hid (HIA.out.reopen HO.out.1 HO.out.2.1 HO.out.2.2.1 HO.out.2.2.2)
              have HBT := Lib.hid HR.out.ck.batch
              clear HO HOP HIA
              go_wp2_with fail
              refine HBT.out.mono ?_
              rintro e v3 ⟨ao3, cap3, HB, hc3, rfl, hq⟩
              have HR3 := Lib.hid (HR.out.quiet hq)
              have hmany := HR3.out.ok.many
              have hlen := HR3.out.len
              obtain ⟨v', w', hrun, hown, hup⟩ := append_rcs v3 vr all m2.rs ao3 cap3 HR3.out.row HB.out (by omega)
              have HRUN := Lib.hid hrun
              have HS4 : Hid (∃ K m all, CkI wb x (n + 1) kb2 b1 K m v' all w') := ⟨_, _, _, (HR3.out.mono (Nat.le_succ n)).more hup hown (fun z hz => hz) (by rw [List.length_append]; omega)⟩
              have m0 : (0 : Int) ≤ (m2.rs.length : Int) := by omega
              clear hrun hown hup hq HB HR HR3 HBT hmany hlen
              go_wp2_with (first | (refine wpList_append_run _ rfl _ _ _ _ rfl _ _ v' w' rfl rfl HRUN.out ?_))
              exact ⟨⟨n + 1, b1, kb2, v', rfl, rfl, rfl, rfl, by go_num, by omega, by omega, HS4⟩, by simp [intOf]; omega⟩
      · obtain rfl : n = 25 := by omega
        obtain ⟨K, m, all, HI⟩ := HI.out
        have HE := Lib.hid (HI.mono (show _ ≤ 25 by omega))
        have hfb := field_bat
        have HBT := Lib.hid HE.out.ck.batch
        clear HI
        go_wp2_with fail
        refine HBT.out.mono ?_
        rintro e v3 ⟨ao3, cap3, HB, hc3, rfl, hq⟩
        have HR3 := Lib.hid (HE.out.quiet hq)
        have hmany := HR3.out.ok.many
        have hlen := HR3.out.len
        have m0 : (0 : Int) ≤ (m.rs.length : Int) := by omega
        obtain ⟨v', w', hrun, hown, hup⟩ := append_rcs v3 vr all m.rs ao3 cap3 HR3.out.row HB.out (by omega)
        have HS := Lib.hid ((HR3.out.mono (show 25 ≤ 26 by omega)).more hup hown (fun z hz => hz) (by rw [List.length_append]; omega))
        obtain ⟨L, hL⟩ : ∃ L, L = all ++ m.rs := ⟨_, rfl⟩
        rw [← hL] at HS
        have HOK : Hid (∀ y, y ∈ L → y.ok ∧ y.draw.size ≤ 1000000) := fun y hy => ⟨(HS.out.ok.each y (HS.out.sub y hy)).1, by have := (HS.out.ok.each y (HS.out.sub y hy)).2.1; omega⟩
        obtain ⟨ao4, cap4, rfl, hc4, HIN⟩ := rcs_of_row HS.out.row HOK.out
        have HIN := Lib.hid HIN
        have HRUN := Lib.hid hrun
        have UF := Lib.hid (UB.out.trans HS.out.ck.up)
        have RQF := Lib.hid (row_updH RQ.out HS.out.ck.up)
        have hLl : L.length ≤ 60000 := by have := HS.out.len; omega
        clear hrun hown hup hq HB HR3 HE HBT hmany hlen hL
        by_cases hz0 : L.length = 0
        · have hb : ((L.length : Int) == 0) = true := by rw [beq_iff_eq]; omega
          have hb2 : (L.length == 0) = true := by rw [beq_iff_eq]; exact hz0
          go_wp2_with (first | (refine wpList_append_run _ rfl _ _ _ _ rfl _ _ _ w' rfl rfl HRUN.out ?_))
          go_ret
          exact ⟨rfl, UF.out⟩
        · have hb : ((L.length : Int) == 0) = false := by rw [beq_eq_false_iff_ne]; omega
          have hb2 : (L.length == 0) = false := by rw [beq_eq_false_iff_ne]; exact hz0
          obtain ⟨gM, hgM⟩ : ∃ g, w'.heap.size = g := ⟨_, rfl⟩
          obtain ⟨w5, hw5⟩ : ∃ W, w'.alloc (.cells #[.int .i64 70, .int .i64 0, .int .i64 (p : Int)] 53) = W := ⟨_, rfl⟩
          have RM := Lib.hid (show w5.heap[gM]? = some (.cells (mbrV 70 0 p) 53 (0, 0)) by rw [← hgM, ← hw5]; exact heap_alloc_new _ _)
          have u5 : Upd [] [] w' w5 := by rw [← hw5]; exact (Upd.refl _ _).alloc _
          obtain ⟨w6, Z6, W6, RS, hq6⟩ := blk_new w5 59 #[.slice none 0 0, .slice none 0 0, .slice none 0 0, .slice none 0 0, .int .i64 0, .int .i64 0] (supK gM)
          obtain ⟨gS, hgS⟩ : ∃ g, w5.heap.size = g := ⟨_, rfl⟩
          rw [hgS] at Z6 W6 RS
          have HSI : Hid ((Tryz.prog.info? 59).map (·.size) = some (supK gM).size) := by show _ = some 6; kernel_rfl
          have HSO : Hid ((supK gM).all (·.oneCell') = true) := by show _ = _; simp [supK, Value.oneCell']
          have RM6 := Lib.hid (row_updH RM.out hq6)
          have RQ6 := Lib.hid (row_updH RQF.out (u5.trans hq6))
          have HIN6 := Lib.hid (HIN.out.upd (u5.trans hq6))
          have U6 := Lib.hid (UF.out.trans (u5.trans hq6))
          obtain ⟨h00, h01⟩ := HQB.out.1
          obtain ⟨h10, h11⟩ := HQB.out.2
          obtain ⟨i, hi⟩ : ∃ i : Nat, (i : Int) = q0 % (L.length : Int) := ⟨(q0 % (L.length : Int)).toNat, by have := Int.emod_nonneg q0 (show (L.length : Int) ≠ 0 by omega); omega⟩
          obtain ⟨j, hj⟩ : ∃ j : Nat, (j : Int) = q1 % (L.length : Int) := ⟨(q1 % (L.length : Int)).toNat, by have := Int.emod_nonneg q1 (show (L.length : Int) ≠ 0 by omega); omega⟩
          have hil : i < L.length := by have := Int.emod_lt_of_pos q0 (show (0 : Int) < (L.length : Int) by omega); omega
          have hjl : j < L.length := by have := Int.emod_lt_of_pos q1 (show (0 : Int) < (L.length : Int) by omega); omega
          obtain ⟨rx, hrx⟩ : ∃ y, L[i]? = some y := ⟨_, List.getElem?_eq_getElem hil⟩
          obtain ⟨ry, hry⟩ : ∃ y, L[j]? = some y := ⟨_, List.getElem?_eq_getElem hjl⟩
          obtain ⟨rxo, rxd, gA, oA, rfl, hgA, _⟩ := HIN6.out i rx hrx
          have ryo := (HIN6.out j ry hry).1
          have ryd := (HIN6.out j ry hry).2.1
          obtain ⟨RX, hRX⟩ : ∃ R, R = (rcV rx).toArray := ⟨_, rfl⟩
          obtain ⟨RY, hRY⟩ : ∃ R, R = (rcV ry).toArray := ⟨_, rfl⟩
          have HK : Hid (∀ W, Upd [] [] w6 W → W.cell? ⟨gq, 0, none⟩ = some (.int .u8 q0) ∧ W.cell? ⟨gq, 1, none⟩ = some (.int .u8 q1) ∧ (Instr.loadAt 41 (.pointer (some ⟨gA, oA + i * 102, none⟩))).run Tryz.prog W = .ok (.agg RX) W ∧ (Instr.loadAt 41 (.pointer (some ⟨gA, oA + j * 102, none⟩))).run Tryz.prog W = .ok (.agg RY) W) := by
            intro W u
            have q := row_updH RQ6.out u
            obtain ⟨_, _, g1, o1, e1, _, k1⟩ := (HIN6.out.upd u) i rx hrx
            obtain ⟨_, _, g2, o2, e2, _, k2⟩ := (HIN6.out.upd u) j ry hry
            cases e1
            cases e2
            exact ⟨cell_of_row _ gq 0 _ _ _ q, cell_of_row _ gq 1 _ _ _ q, by rw [hRX]; exact run_loadAt_mid W gA _ 41 _ _ k1 Tryz.underlying41 rfl (rcInfo rxo), by rw [hRY]; exact run_loadAt_mid W gA _ 41 _ _ k2 Tryz.underlying41 rfl (rcInfo ryo)⟩
          have t0 : q0.tmod (L.length : Int) = (i : Int) := by rw [Int.tmod_eq_emod_of_nonneg h00]; exact hi.symm
          have t1 : q1.tmod (L.length : Int) = (j : Int) := by rw [Int.tmod_eq_emod_of_nonneg h10]; exact hj.symm
          have t0e := hi.symm
          have t1e := hj.symm
          have wi : IntKind.i64.wrap (i : Int) = (i : Int) := wrap_in (by omega) (by omega)
          have wj : IntKind.i64.wrap (j : Int) = (j : Int) := wrap_in (by omega) (by omega)
          have wq0 : IntKind.i64.wrap q0 = q0 := wrap_in (by omega) (by omega)
          have wq1 : IntKind.i64.wrap q1 = q1 := wrap_in (by omega) (by omega)
          have i0 : (0 : Int) ≤ (i : Int) := by omega
          have i1 : (i : Int) < (L.length : Int) := by omega
          have j0 : (0 : Int) ≤ (j : Int) := by omega
          have j1 : (j : Int) < (L.length : Int) := by omega
          have hz1 : ¬ (L.length : Int) = 0 := by omega
          have hmx := HS.out.sub rx (List.mem_of_getElem? hrx)
          have hmy := HS.out.sub ry (List.mem_of_getElem? hry)
          have HJL := Lib.hid (judge_law HS.out.ck.ck HS.out.ok hmx hmy)
          have hexp : expN (x : Int) = x := expN_of hx
          have HKX : Hid (rx.kiosk = 70 ∧ verB (p : Int) (bodyL rx) rx.r rx.s = true) := by
            obtain ⟨k, hk⟩ := List.mem_iff_getElem?.1 hmx
            obtain ⟨a1, _, a3, _⟩ := HS.out.ck.ck.each k rx hk
            exact ⟨a1, by rw [HPP.out]; rw [hexp] at a3; exact a3⟩
          have HKY : Hid (ry.kiosk = 70 ∧ verB (p : Int) (bodyL ry) ry.r ry.s = true) := by
            obtain ⟨k, hk⟩ := List.mem_iff_getElem?.1 hmy
            obtain ⟨a1, _, a3, _⟩ := HS.out.ck.ck.each k ry hk
            exact ⟨a1, by rw [HPP.out]; rw [hexp] at a3; exact a3⟩
          have HRR := Lib.hid (And.intro rxo (And.intro rxd (And.intro ryo (And.intro ryd (And.intro hRX hRY)))))
          have ud0 : Upd [] [] w6 w6.drew := (Upd.refl _ _).drew
          clear u5 hq6 RM hrx hry hgA hi hj hRX hRY hmx hmy hexp HIN HIN6 RQF RQ6 HS HOK rxo ryo rxd ryd hil hjl
          go_upto_region 29 with (first | (refine wpList_append_run _ rfl _ _ _ _ rfl _ _ _ w' rfl rfl HRUN.out ?_) | (refine wpList_store_rowAs rfl 59 _ _ rfl gS (supK gM) rfl rfl _ _ Z6.out HSI.out rfl HSO.out w6 W6.out ?_))
          refine @_root_.id ((∀ (TA TB : ByteArray) (W : World), Hid (bs TA = textL rx) → Hid (bs TB = textL ry) → Hid (Upd [] [] w6 W) → (?pj1 : ByteArray → ByteArray → World → Prop) TA TB W) → _) (fun hJ => ?mj1) ?jj1
          case mj1 =>
            refine wp_region_noPanic ?_
            refine wp_region_held_drew (S := fun wp => wp.cell? ⟨gq, 0, none⟩ = some (.int .u8 q0) ∧ wp.cell? ⟨gq, 1, none⟩ = some (.int .u8 q1) ∧ (Instr.loadAt 41 (.pointer (some ⟨gA, oA + i * 102, none⟩))).run Tryz.prog wp = .ok (.agg RX) wp ∧ (Instr.loadAt 41 (.pointer (some ⟨gA, oA + j * 102, none⟩))).run Tryz.prog wp = .ok (.agg RY) wp) (by kernel_rfl) ?_ (fun hHeld => ?_)
            · exact HK.out _ ud0
            refine tkY 0 hHeld ?_
            refine tkY 1 hHeld ?_
            refine tkY 2 hHeld ?_
            refine tkY 3 hHeld ?_
            refine tkY 4 hHeld ?_
            refine tkY 5 hHeld ?_
            refine tkY 6 hHeld ?_
            refine tkY 7 hHeld ?_
            refine tkL 8 hHeld RX (fun w hSw => hSw.2.2.1) ?_
            refine tkY 10 hHeld ?_
            refine tkY 11 hHeld ?_
            refine tkY 12 hHeld ?_
            refine tkY 13 hHeld ?_
            refine tkY 14 hHeld ?_
            refine tkY 15 hHeld ?_
            refine tkY 16 hHeld ?_
            refine tkY 17 hHeld ?_
            refine tkL 18 hHeld RY (fun w hSw => hSw.2.2.2) ?_
            refine wpAnyH_ready (rs := [9]) (by kernel_rfl) (by simp) ?_
            refine AllReadyH.cons (by simp only [List.getElem?_toArray, List.getElem?_cons_succ, List.getElem?_cons_zero] <;> rfl) (fun K hK => ?_) ?_
            · go_simp; rw [HRR.out.2.2.2.2.1]; refine (text22_any rx HRR.out.1 (by have := HRR.out.2.1; omega) _ (htab.upd (U6.out.trans ud0))).mono ?_; rintro e wv1 ⟨TA, HTA, _, rfl, hq⟩; have ud1 := ud0.trans hq; clear hq; go_wp2_with fail
              refine hK.out _ _ ?_ (fun hHeld => ?_)
              · exact HK.out _ ud1
              clear hK K
              try simp only [Act.put, List.setIfInBounds_toArray, List.set_cons_zero, List.set_cons_succ]
              refine wpAnyH_ready (rs := [19]) (by kernel_rfl) (by simp) ?_
              refine AllReadyH.cons (by simp only [List.getElem?_toArray, List.getElem?_cons_succ, List.getElem?_cons_zero] <;> rfl) (fun K hK => ?_) ?_
              · go_simp; rw [HRR.out.2.2.2.2.2]; refine (text22_any ry HRR.out.2.2.1 (by have := HRR.out.2.2.2.1; omega) _ (htab.upd (U6.out.trans ud1))).mono ?_; rintro e wv2 ⟨TB, HTB, _, rfl, hq⟩; have ud2 := ud1.trans hq; clear hq; go_wp2_with fail
                refine hK.out _ _ ?_ (fun hHeld => ?_)
                · exact HK.out _ ud2
                clear hK K
                try simp only [Act.put, List.setIfInBounds_toArray, List.set_cons_zero, List.set_cons_succ]
                refine tkY 20 hHeld ?_
                refine tkY 21 hHeld ?_
                refine wpAnyH_done (by kernel_rfl) ?_ _
                refine NoPanic.normal ?_
                exact hJ TA TB wv2 HTA HTB (Lib.hid ud2)
              exact AllReadyH.nil
            exact AllReadyH.nil
          intro TA TB w7 HTA HTB V7
          clear HK ud0
          obtain ⟨gI, hgI⟩ : ∃ g, w7.heap.size = g := ⟨_, rfl⟩
          obtain ⟨w8, hw8⟩ : ∃ W, w7.alloc (.cells #[.int .i64 6, .int .i64 7] 3) = W := ⟨_, rfl⟩
          have RI := Lib.hid (show w8.heap[gI]? = some (.cells #[.int .i64 6, .int .i64 7] 3 (0, 0)) by rw [← hgI, ← hw8]; exact heap_alloc_new _ _)
          have u8 : Upd [] [] w7 w8 := by rw [← hw8]; exact (Upd.refl _ _).alloc _
          have U8 := Lib.hid ((U6.out.trans V7.out).trans u8)
          have RM8 := Lib.hid (row_updH (row_updH RM6.out V7.out) u8)
          have RS8 := Lib.hid (row_updH (row_updH RS.out V7.out) u8)
          have ipp : i64in (p : Int) := by unfold i64in; omega
          have HJ1 : Hid (∀ W, Upd [] [] w8 W → Calls Tryz.prog 15 #[.agg (supK gM), .agg (evdL 6 70 0 TA 0 0 0 TB 0 0 0 0 ⟨#[]⟩ ⟨#[]⟩ ⟨#[]⟩).toArray] W (Mk (.tuple #[.int .i64 0, .int .i64 25]) W)) := by
            intro W u
            obtain ⟨rxo, rxd, ryo, ryd, hRX, hRY⟩ := HRR.out
            exact judge_backdate gM 70 0 TA 0 0 0 TB 0 0 0 0 _ _ _ 0 p true false W (row_updH RM8.out u)
              (fun W' u' => formR_any (MtIs.of _ _ _ _ _ _ _ _ _ _ _ _ _ _ _ _ _ _ _ _ _ _) rx ry rxo ryo rxd ryd HTA.out HTB.out RX RY hRX hRY W' (htab.upd ((U8.out.trans u).trans u')))
              (fun W' u' => sigR_any (MtIs.of _ _ _ _ _ _ _ _ _ _ _ _ _ _ _ _ _ _ _ _ _ _) rx ry rxo ryo rxd ryd HTA.out HTB.out RX RY hRX hRY ipp HKX.out.1 HKY.out.1 HKX.out.2 HKY.out.2 W' (htab.upd ((U8.out.trans u).trans u')))
              (fun W' u' => backdate_any (MtIs.of _ _ _ _ _ _ _ _ _ _ _ _ _ _ _ _ _ _ _ _ _ _) rx ry rxo ryo rxd ryd HTA.out HTB.out RX RY hRX hRY (fun h => by have hq := HJL.out.1 h; omega) W' (htab.upd ((U8.out.trans u).trans u')))
          have HJ2 : Hid (∀ W, Upd [] [] w8 W → Calls Tryz.prog 15 #[.agg (supK gM), .agg (evdL 7 70 0 TA 0 0 0 TB 0 0 0 0 ⟨#[]⟩ ⟨#[]⟩ ⟨#[]⟩).toArray] W (Mk (.tuple #[.int .i64 0, .int .i64 25]) W)) := by
            intro W u
            obtain ⟨rxo, rxd, ryo, ryd, hRX, hRY⟩ := HRR.out
            exact judge_cloned gM 70 0 TA 0 0 0 TB 0 0 0 0 _ _ _ 0 p true false W (row_updH RM8.out u)
              (fun W' u' => formR_any (MtIs.of _ _ _ _ _ _ _ _ _ _ _ _ _ _ _ _ _ _ _ _ _ _) rx ry rxo ryo rxd ryd HTA.out HTB.out RX RY hRX hRY W' (htab.upd ((U8.out.trans u).trans u')))
              (fun W' u' => sigR_any (MtIs.of _ _ _ _ _ _ _ _ _ _ _ _ _ _ _ _ _ _ _ _ _ _) rx ry rxo ryo rxd ryd HTA.out HTB.out RX RY hRX hRY ipp HKX.out.1 HKY.out.1 HKX.out.2 HKY.out.2 W' (htab.upd ((U8.out.trans u).trans u')))
              (fun W' u' => cloned_any (MtIs.of _ _ _ _ _ _ _ _ _ _ _ _ _ _ _ _ _ _ _ _ _ _) rx ry rxo ryo rxd ryd HTA.out HTB.out RX RY hRX hRY HJL.out.2 W' (htab.upd ((U8.out.trans u).trans u')))
          have ci0 : w8.cell? ⟨gI, 0, none⟩ = some (.int .i64 6) := cell_of_row _ gI 0 _ _ _ RI.out
          clear u8 V7 HJL HKX HKY RM8
          go_wp2_with fail
          refine wp_loop_rounds 3 ?_
          rw [rounds_succ]
          go_wp2_with (first | (refine wpList_load_row rfl 59 _ rfl gS rfl _ (supK gM) _ _ RS8.out Tryz.underlying59 rfl HSI.out ?_))
          refine (HJ1.out w8 (Upd.refl _ _)).mono ?_
          rintro e w9 ⟨rfl, hq⟩
          have ci1 : w9.cell? ⟨gI, 1, none⟩ = some (.int .i64 7) := cell_of_row _ gI 1 _ _ _ (row_updH RI.out hq)
          have RS9 := Lib.hid (row_updH RS8.out hq)
          have U9 := Lib.hid (U8.out.trans hq)
          have HJ2' := Lib.hid (HJ2.out w9 hq)
          clear hq HJ1 HJ2 RS8 ci0 RI U8
          go_wp2_with fail
          rw [rounds_succ]
          go_wp2_with (first | (refine wpList_load_row rfl 59 _ rfl gS rfl _ (supK gM) _ _ RS9.out Tryz.underlying59 rfl HSI.out ?_))
          refine HJ2'.out.mono ?_
          rintro e w10 ⟨rfl, hq⟩
          have U10 := Lib.hid (U9.out.trans hq)
          clear hq HJ2' RS9 ci1 U9
          go_wp2_with fail
          rw [rounds_succ]
          go_wp2_with fail
          go_ret
          exact ⟨rfl, U10.out⟩
    · obtain rfl : n = l.length := by omega
      obtain ⟨K, m, all, HI⟩ := HI.out
      have HE := Lib.hid (HI.mono (show _ ≤ 25 by omega))
      have hfb := field_bat
      have HBT := Lib.hid HE.out.ck.batch
      clear HI
      go_wp2_with fail
      refine HBT.out.mono ?_
      rintro e v3 ⟨ao3, cap3, HB, hc3, rfl, hq⟩
      have HR3 := Lib.hid (HE.out.quiet hq)
      have hmany := HR3.out.ok.many
      have hlen := HR3.out.len
      have m0 : (0 : Int) ≤ (m.rs.length : Int) := by omega
      obtain ⟨v', w', hrun, hown, hup⟩ := append_rcs v3 vr all m.rs ao3 cap3 HR3.out.row HB.out (by omega)
      have HS := Lib.hid ((HR3.out.mono (show 25 ≤ 26 by omega)).more hup hown (fun z hz => hz) (by rw [List.length_append]; omega))
      obtain ⟨L, hL⟩ : ∃ L, L = all ++ m.rs := ⟨_, rfl⟩
      rw [← hL] at HS
      have HOK : Hid (∀ y, y ∈ L → y.ok ∧ y.draw.size ≤ 1000000) := fun y hy => ⟨(HS.out.ok.each y (HS.out.sub y hy)).1, by have := (HS.out.ok.each y (HS.out.sub y hy)).2.1; omega⟩
      obtain ⟨ao4, cap4, rfl, hc4, HIN⟩ := rcs_of_row HS.out.row HOK.out
      have HIN := Lib.hid HIN
      have HRUN := Lib.hid hrun
      have UF := Lib.hid (UB.out.trans HS.out.ck.up)
      have RQF := Lib.hid (row_updH RQ.out HS.out.ck.up)
      have hLl : L.length ≤ 60000 := by have := HS.out.len; omega
      clear hrun hown hup hq HB HR3 HE HBT hmany hlen hL
      by_cases hz0 : L.length = 0
      · have hb : ((L.length : Int) == 0) = true := by rw [beq_iff_eq]; omega
        have hb2 : (L.length == 0) = true := by rw [beq_iff_eq]; exact hz0
        go_wp2_with (first | (refine wpList_append_run _ rfl _ _ _ _ rfl _ _ _ w' rfl rfl HRUN.out ?_))
        go_ret
        exact ⟨rfl, UF.out⟩
      · have hb : ((L.length : Int) == 0) = false := by rw [beq_eq_false_iff_ne]; omega
        have hb2 : (L.length == 0) = false := by rw [beq_eq_false_iff_ne]; exact hz0
        obtain ⟨gM, hgM⟩ : ∃ g, w'.heap.size = g := ⟨_, rfl⟩
        obtain ⟨w5, hw5⟩ : ∃ W, w'.alloc (.cells #[.int .i64 70, .int .i64 0, .int .i64 (p : Int)] 53) = W := ⟨_, rfl⟩
        have RM := Lib.hid (show w5.heap[gM]? = some (.cells (mbrV 70 0 p) 53 (0, 0)) by rw [← hgM, ← hw5]; exact heap_alloc_new _ _)
        have u5 : Upd [] [] w' w5 := by rw [← hw5]; exact (Upd.refl _ _).alloc _
        obtain ⟨w6, Z6, W6, RS, hq6⟩ := blk_new w5 59 #[.slice none 0 0, .slice none 0 0, .slice none 0 0, .slice none 0 0, .int .i64 0, .int .i64 0] (supK gM)
        obtain ⟨gS, hgS⟩ : ∃ g, w5.heap.size = g := ⟨_, rfl⟩
        rw [hgS] at Z6 W6 RS
        have HSI : Hid ((Tryz.prog.info? 59).map (·.size) = some (supK gM).size) := by show _ = some 6; kernel_rfl
        have HSO : Hid ((supK gM).all (·.oneCell') = true) := by show _ = _; simp [supK, Value.oneCell']
        have RM6 := Lib.hid (row_updH RM.out hq6)
        have RQ6 := Lib.hid (row_updH RQF.out (u5.trans hq6))
        have HIN6 := Lib.hid (HIN.out.upd (u5.trans hq6))
        have U6 := Lib.hid (UF.out.trans (u5.trans hq6))
        obtain ⟨h00, h01⟩ := HQB.out.1
        obtain ⟨h10, h11⟩ := HQB.out.2
        obtain ⟨i, hi⟩ : ∃ i : Nat, (i : Int) = q0 % (L.length : Int) := ⟨(q0 % (L.length : Int)).toNat, by have := Int.emod_nonneg q0 (show (L.length : Int) ≠ 0 by omega); omega⟩
        obtain ⟨j, hj⟩ : ∃ j : Nat, (j : Int) = q1 % (L.length : Int) := ⟨(q1 % (L.length : Int)).toNat, by have := Int.emod_nonneg q1 (show (L.length : Int) ≠ 0 by omega); omega⟩
        have hil : i < L.length := by have := Int.emod_lt_of_pos q0 (show (0 : Int) < (L.length : Int) by omega); omega
        have hjl : j < L.length := by have := Int.emod_lt_of_pos q1 (show (0 : Int) < (L.length : Int) by omega); omega
        obtain ⟨rx, hrx⟩ : ∃ y, L[i]? = some y := ⟨_, List.getElem?_eq_getElem hil⟩
        obtain ⟨ry, hry⟩ : ∃ y, L[j]? = some y := ⟨_, List.getElem?_eq_getElem hjl⟩
        obtain ⟨rxo, rxd, gA, oA, rfl, hgA, _⟩ := HIN6.out i rx hrx
        have ryo := (HIN6.out j ry hry).1
        have ryd := (HIN6.out j ry hry).2.1
        obtain ⟨RX, hRX⟩ : ∃ R, R = (rcV rx).toArray := ⟨_, rfl⟩
        obtain ⟨RY, hRY⟩ : ∃ R, R = (rcV ry).toArray := ⟨_, rfl⟩
        have HK : Hid (∀ W, Upd [] [] w6 W → W.cell? ⟨gq, 0, none⟩ = some (.int .u8 q0) ∧ W.cell? ⟨gq, 1, none⟩ = some (.int .u8 q1) ∧ (Instr.loadAt 41 (.pointer (some ⟨gA, oA + i * 102, none⟩))).run Tryz.prog W = .ok (.agg RX) W ∧ (Instr.loadAt 41 (.pointer (some ⟨gA, oA + j * 102, none⟩))).run Tryz.prog W = .ok (.agg RY) W) := by
          intro W u
          have q := row_updH RQ6.out u
          obtain ⟨_, _, g1, o1, e1, _, k1⟩ := (HIN6.out.upd u) i rx hrx
          obtain ⟨_, _, g2, o2, e2, _, k2⟩ := (HIN6.out.upd u) j ry hry
          cases e1
          cases e2
          exact ⟨cell_of_row _ gq 0 _ _ _ q, cell_of_row _ gq 1 _ _ _ q, by rw [hRX]; exact run_loadAt_mid W gA _ 41 _ _ k1 Tryz.underlying41 rfl (rcInfo rxo), by rw [hRY]; exact run_loadAt_mid W gA _ 41 _ _ k2 Tryz.underlying41 rfl (rcInfo ryo)⟩
        have t0 : q0.tmod (L.length : Int) = (i : Int) := by rw [Int.tmod_eq_emod_of_nonneg h00]; exact hi.symm
        have t1 : q1.tmod (L.length : Int) = (j : Int) := by rw [Int.tmod_eq_emod_of_nonneg h10]; exact hj.symm
        have t0e := hi.symm
        have t1e := hj.symm
        have wi : IntKind.i64.wrap (i : Int) = (i : Int) := wrap_in (by omega) (by omega)
        have wj : IntKind.i64.wrap (j : Int) = (j : Int) := wrap_in (by omega) (by omega)
        have wq0 : IntKind.i64.wrap q0 = q0 := wrap_in (by omega) (by omega)
        have wq1 : IntKind.i64.wrap q1 = q1 := wrap_in (by omega) (by omega)
        have i0 : (0 : Int) ≤ (i : Int) := by omega
        have i1 : (i : Int) < (L.length : Int) := by omega
        have j0 : (0 : Int) ≤ (j : Int) := by omega
        have j1 : (j : Int) < (L.length : Int) := by omega
        have hz1 : ¬ (L.length : Int) = 0 := by omega
        have hmx := HS.out.sub rx (List.mem_of_getElem? hrx)
        have hmy := HS.out.sub ry (List.mem_of_getElem? hry)
        have HJL := Lib.hid (judge_law HS.out.ck.ck HS.out.ok hmx hmy)
        have hexp : expN (x : Int) = x := expN_of hx
        have HKX : Hid (rx.kiosk = 70 ∧ verB (p : Int) (bodyL rx) rx.r rx.s = true) := by
          obtain ⟨k, hk⟩ := List.mem_iff_getElem?.1 hmx
          obtain ⟨a1, _, a3, _⟩ := HS.out.ck.ck.each k rx hk
          exact ⟨a1, by rw [HPP.out]; rw [hexp] at a3; exact a3⟩
        have HKY : Hid (ry.kiosk = 70 ∧ verB (p : Int) (bodyL ry) ry.r ry.s = true) := by
          obtain ⟨k, hk⟩ := List.mem_iff_getElem?.1 hmy
          obtain ⟨a1, _, a3, _⟩ := HS.out.ck.ck.each k ry hk
          exact ⟨a1, by rw [HPP.out]; rw [hexp] at a3; exact a3⟩
        have HRR := Lib.hid (And.intro rxo (And.intro rxd (And.intro ryo (And.intro ryd (And.intro hRX hRY)))))
        have ud0 : Upd [] [] w6 w6.drew := (Upd.refl _ _).drew
        clear u5 hq6 RM hrx hry hgA hi hj hRX hRY hmx hmy hexp HIN HIN6 RQF RQ6 HS HOK rxo ryo rxd ryd hil hjl
        go_upto_region 29 with (first | (refine wpList_append_run _ rfl _ _ _ _ rfl _ _ _ w' rfl rfl HRUN.out ?_) | (refine wpList_store_rowAs rfl 59 _ _ rfl gS (supK gM) rfl rfl _ _ Z6.out HSI.out rfl HSO.out w6 W6.out ?_))
        refine @_root_.id ((∀ (TA TB : ByteArray) (W : World), Hid (bs TA = textL rx) → Hid (bs TB = textL ry) → Hid (Upd [] [] w6 W) → (?pj20 : ByteArray → ByteArray → World → Prop) TA TB W) → _) (fun hJ => ?mj20) ?jj20
        case mj20 =>
          refine wp_region_noPanic ?_
          refine wp_region_held_drew (S := fun wp => wp.cell? ⟨gq, 0, none⟩ = some (.int .u8 q0) ∧ wp.cell? ⟨gq, 1, none⟩ = some (.int .u8 q1) ∧ (Instr.loadAt 41 (.pointer (some ⟨gA, oA + i * 102, none⟩))).run Tryz.prog wp = .ok (.agg RX) wp ∧ (Instr.loadAt 41 (.pointer (some ⟨gA, oA + j * 102, none⟩))).run Tryz.prog wp = .ok (.agg RY) wp) (by kernel_rfl) ?_ (fun hHeld => ?_)
          · exact HK.out _ ud0
          refine tkY 0 hHeld ?_
          refine tkY 1 hHeld ?_
          refine tkY 2 hHeld ?_
          refine tkY 3 hHeld ?_
          refine tkY 4 hHeld ?_
          refine tkY 5 hHeld ?_
          refine tkY 6 hHeld ?_
          refine tkY 7 hHeld ?_
          refine tkL 8 hHeld RX (fun w hSw => hSw.2.2.1) ?_
          refine tkY 10 hHeld ?_
          refine tkY 11 hHeld ?_
          refine tkY 12 hHeld ?_
          refine tkY 13 hHeld ?_
          refine tkY 14 hHeld ?_
          refine tkY 15 hHeld ?_
          refine tkY 16 hHeld ?_
          refine tkY 17 hHeld ?_
          refine tkL 18 hHeld RY (fun w hSw => hSw.2.2.2) ?_
          refine wpAnyH_ready (rs := [9]) (by kernel_rfl) (by simp) ?_
          refine AllReadyH.cons (by simp only [List.getElem?_toArray, List.getElem?_cons_succ, List.getElem?_cons_zero] <;> rfl) (fun K hK => ?_) ?_
          · go_simp; rw [HRR.out.2.2.2.2.1]; refine (text22_any rx HRR.out.1 (by have := HRR.out.2.1; omega) _ (htab.upd (U6.out.trans ud0))).mono ?_; rintro e wv1 ⟨TA, HTA, _, rfl, hq⟩; have ud1 := ud0.trans hq; clear hq; go_wp2_with fail
            refine hK.out _ _ ?_ (fun hHeld => ?_)
            · exact HK.out _ ud1
            clear hK K
            try simp only [Act.put, List.setIfInBounds_toArray, List.set_cons_zero, List.set_cons_succ]
            refine wpAnyH_ready (rs := [19]) (by kernel_rfl) (by simp) ?_
            refine AllReadyH.cons (by simp only [List.getElem?_toArray, List.getElem?_cons_succ, List.getElem?_cons_zero] <;> rfl) (fun K hK => ?_) ?_
            · go_simp; rw [HRR.out.2.2.2.2.2]; refine (text22_any ry HRR.out.2.2.1 (by have := HRR.out.2.2.2.1; omega) _ (htab.upd (U6.out.trans ud1))).mono ?_; rintro e wv2 ⟨TB, HTB, _, rfl, hq⟩; have ud2 := ud1.trans hq; clear hq; go_wp2_with fail
              refine hK.out _ _ ?_ (fun hHeld => ?_)
              · exact HK.out _ ud2
              clear hK K
              try simp only [Act.put, List.setIfInBounds_toArray, List.set_cons_zero, List.set_cons_succ]
              refine tkY 20 hHeld ?_
              refine tkY 21 hHeld ?_
              refine wpAnyH_done (by kernel_rfl) ?_ _
              refine NoPanic.normal ?_
              exact hJ TA TB wv2 HTA HTB (Lib.hid ud2)
            exact AllReadyH.nil
          exact AllReadyH.nil
        intro TA TB w7 HTA HTB V7
        clear HK ud0
        obtain ⟨gI, hgI⟩ : ∃ g, w7.heap.size = g := ⟨_, rfl⟩
        obtain ⟨w8, hw8⟩ : ∃ W, w7.alloc (.cells #[.int .i64 6, .int .i64 7] 3) = W := ⟨_, rfl⟩
        have RI := Lib.hid (show w8.heap[gI]? = some (.cells #[.int .i64 6, .int .i64 7] 3 (0, 0)) by rw [← hgI, ← hw8]; exact heap_alloc_new _ _)
        have u8 : Upd [] [] w7 w8 := by rw [← hw8]; exact (Upd.refl _ _).alloc _
        have U8 := Lib.hid ((U6.out.trans V7.out).trans u8)
        have RM8 := Lib.hid (row_updH (row_updH RM6.out V7.out) u8)
        have RS8 := Lib.hid (row_updH (row_updH RS.out V7.out) u8)
        have ipp : i64in (p : Int) := by unfold i64in; omega
        have HJ1 : Hid (∀ W, Upd [] [] w8 W → Calls Tryz.prog 15 #[.agg (supK gM), .agg (evdL 6 70 0 TA 0 0 0 TB 0 0 0 0 ⟨#[]⟩ ⟨#[]⟩ ⟨#[]⟩).toArray] W (Mk (.tuple #[.int .i64 0, .int .i64 25]) W)) := by
          intro W u
          obtain ⟨rxo, rxd, ryo, ryd, hRX, hRY⟩ := HRR.out
          exact judge_backdate gM 70 0 TA 0 0 0 TB 0 0 0 0 _ _ _ 0 p true false W (row_updH RM8.out u)
            (fun W' u' => formR_any (MtIs.of _ _ _ _ _ _ _ _ _ _ _ _ _ _ _ _ _ _ _ _ _ _) rx ry rxo ryo rxd ryd HTA.out HTB.out RX RY hRX hRY W' (htab.upd ((U8.out.trans u).trans u')))
            (fun W' u' => sigR_any (MtIs.of _ _ _ _ _ _ _ _ _ _ _ _ _ _ _ _ _ _ _ _ _ _) rx ry rxo ryo rxd ryd HTA.out HTB.out RX RY hRX hRY ipp HKX.out.1 HKY.out.1 HKX.out.2 HKY.out.2 W' (htab.upd ((U8.out.trans u).trans u')))
            (fun W' u' => backdate_any (MtIs.of _ _ _ _ _ _ _ _ _ _ _ _ _ _ _ _ _ _ _ _ _ _) rx ry rxo ryo rxd ryd HTA.out HTB.out RX RY hRX hRY (fun h => by have hq := HJL.out.1 h; omega) W' (htab.upd ((U8.out.trans u).trans u')))
        have HJ2 : Hid (∀ W, Upd [] [] w8 W → Calls Tryz.prog 15 #[.agg (supK gM), .agg (evdL 7 70 0 TA 0 0 0 TB 0 0 0 0 ⟨#[]⟩ ⟨#[]⟩ ⟨#[]⟩).toArray] W (Mk (.tuple #[.int .i64 0, .int .i64 25]) W)) := by
          intro W u
          obtain ⟨rxo, rxd, ryo, ryd, hRX, hRY⟩ := HRR.out
          exact judge_cloned gM 70 0 TA 0 0 0 TB 0 0 0 0 _ _ _ 0 p true false W (row_updH RM8.out u)
            (fun W' u' => formR_any (MtIs.of _ _ _ _ _ _ _ _ _ _ _ _ _ _ _ _ _ _ _ _ _ _) rx ry rxo ryo rxd ryd HTA.out HTB.out RX RY hRX hRY W' (htab.upd ((U8.out.trans u).trans u')))
            (fun W' u' => sigR_any (MtIs.of _ _ _ _ _ _ _ _ _ _ _ _ _ _ _ _ _ _ _ _ _ _) rx ry rxo ryo rxd ryd HTA.out HTB.out RX RY hRX hRY ipp HKX.out.1 HKY.out.1 HKX.out.2 HKY.out.2 W' (htab.upd ((U8.out.trans u).trans u')))
            (fun W' u' => cloned_any (MtIs.of _ _ _ _ _ _ _ _ _ _ _ _ _ _ _ _ _ _ _ _ _ _) rx ry rxo ryo rxd ryd HTA.out HTB.out RX RY hRX hRY HJL.out.2 W' (htab.upd ((U8.out.trans u).trans u')))
        have ci0 : w8.cell? ⟨gI, 0, none⟩ = some (.int .i64 6) := cell_of_row _ gI 0 _ _ _ RI.out
        clear u8 V7 HJL HKX HKY RM8
        go_wp2_with fail
        refine wp_loop_rounds 3 ?_
        rw [rounds_succ]
        go_wp2_with (first | (refine wpList_load_row rfl 59 _ rfl gS rfl _ (supK gM) _ _ RS8.out Tryz.underlying59 rfl HSI.out ?_))
        refine (HJ1.out w8 (Upd.refl _ _)).mono ?_
        rintro e w9 ⟨rfl, hq⟩
        have ci1 : w9.cell? ⟨gI, 1, none⟩ = some (.int .i64 7) := cell_of_row _ gI 1 _ _ _ (row_updH RI.out hq)
        have RS9 := Lib.hid (row_updH RS8.out hq)
        have U9 := Lib.hid (U8.out.trans hq)
        have HJ2' := Lib.hid (HJ2.out w9 hq)
        clear hq HJ1 HJ2 RS8 ci0 RI U8
        go_wp2_with fail
        rw [rounds_succ]
        go_wp2_with (first | (refine wpList_load_row rfl 59 _ rfl gS rfl _ (supK gM) _ _ RS9.out Tryz.underlying59 rfl HSI.out ?_))
        refine HJ2'.out.mono ?_
        rintro e w10 ⟨rfl, hq⟩
        have U10 := Lib.hid (U9.out.trans hq)
        clear hq HJ2' RS9 ci1 U9
        go_wp2_with fail
        rw [rounds_succ]
        go_wp2_with fail
        go_ret
        exact ⟨rfl, U10.out⟩
end Go.Proofs.YtinpenoeohejoaaGreatDoor
