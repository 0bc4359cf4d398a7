/- The walk of EntryBatches. -/
import Derived.Test.YtmnmhhbldbdpfaaGreatDoorXBbS
namespace Go.Proofs.YtmnmhhbldbdpfaaGreatDoor
open Go.RowKit
set_option maxRecDepth 100000

set_option maxHeartbeats 4000000 in
theorem entryBatches_walk (fs : List Fm) (raw : ByteArray) (q0 q1 q2 q3 : Int) (ao : Option Addr) (cap : Nat) (w : World) (hfs : FmsIn w ao fs) (_hlc : fs.length ≤ cap) (_hcm : cap ≤ 9223372036854775807) (hraw : raw.size ≤ 9223372036854775807) (_hq0 : -9223372036854775808 ≤ q0 ∧ q0 ≤ 9223372036854775807) (_hq1 : -9223372036854775808 ≤ q1 ∧ q1 ≤ 9223372036854775807) (_hq2 : -9223372036854775808 ≤ q2 ∧ q2 ≤ 9223372036854775807) (hq3 : -9223372036854775808 ≤ q3 ∧ q3 ≤ 9223372036854775807) (htab : Tabs w) :
    Calls Tryz.prog 4 #[.slice ao fs.length cap, .string raw, .agg #[.int .i64 q0, .int .i64 q1, .int .i64 q2, .int .i64 q3]] w (TrueMk w) := by
  have b0 := two_box w 22 #[.int .i64 q0, .int .i64 q1, .int .i64 q2, .int .i64 q3]
  have u0 : Upd [] [] w (w.alloc (.cells #[.int .i64 q0, .int .i64 q1, .int .i64 q2, .int .i64 q3] 22)) := (Upd.refl _ _).alloc _
  obtain ⟨n, hn⟩ : ∃ n, n = fs.length := ⟨_, rfl⟩
  have HFS := Lib.hid (hfs.upd u0)
  rw [← hn]
  have HN := Lib.hid hn
  have B0 := Lib.hid b0
  have iq3 : i64in q3 := hq3
  clear hn hfs b0
  go_enter Tryz.func4, Tryz.ntmps4
  go_wp2_with fail
  refine (sanity22_any _ (htab.upd u0)).mono ?_
  rintro e w1 ⟨rfl, hq⟩
  have u1 := u0.trans hq
  have HF1 := Lib.hid (HFS.out.upd hq)
  have B1 := Lib.hid (row_updH B0.out hq)
  have kq : w1.cell? ⟨w.heap.size, 3, none⟩ = some (.int .i64 q3) := by rw [cell_of_row _ _ _ _ _ _ B1.out]; rfl
  have S1 : BbSt w1 (w1.alloc (.cells #[.int .i64 q3, .slice none 0 0] 46)) w1.heap.size q3 (.slice none 0 0) (fmsR fs 0) :=
    ⟨heap_alloc_new _ _, World.ownsRow_nil _ _ _ _, (fun x h => by cases h), Nat.le_refl _, (Upd.refl _ _).alloc _, (fun x h => by cases h)⟩
  have S1H := Lib.hid S1
  obtain ⟨B, hB⟩ : ∃ B, B = w1.heap.size := ⟨_, rfl⟩
  rw [← hB] at S1H
  clear hq u0 HFS B0 S1
  go_wp2_with fail
  rw [← hB]
  clear hB kq
  go_loopw [9, 10, 11] (fun i _ _ wr => ∃ (j : Nat) (v : Value), i = .int .i64 (j : Int) ∧ j ≤ n ∧ j ≤ 4 ∧ Hid (BbSt w1 wr B q3 v (fmsR fs j))) (fun i _ _ _ => 4 - (intOf i).toNat)
  case atStart => exact ⟨0, _, rfl, Nat.zero_le _, Nat.zero_le _, S1H⟩
  case round =>
    obtain ⟨j, v, rfl, hj, hj4, HS⟩ := hrel
    by_cases hlt : j < n ∧ j < 4
    · obtain ⟨hl1, hl2⟩ := hlt
      obtain ⟨f, hf⟩ : ∃ f, fs[j]? = some f := ⟨_, List.getElem?_eq_getElem (by rw [← HN.out]; exact hl1)⟩
      obtain ⟨hfo, g, o, rfl, hg, hr⟩ := (HF1.out.upd HS.out.up) j f hf
      have i0 : (0 : Int) ≤ (j : Int) := by omega
      have i1 : (j : Int) < (n : Int) := by omega
      have i2 : (j : Int) < 4 := by omega
      obtain ⟨V, hV⟩ : ∃ V, V = (fmV f).toArray := ⟨_, rfl⟩
      have hld : (Instr.loadAt 27 (.pointer (some ⟨g, o + j * 101, none⟩))).run Tryz.prog wr = .ok (.agg V) wr := by
        rw [hV]
        exact run_loadAt_mid wr _ _ _ _ _ hr Tryz.underlying27 rfl (by rw [fmInfo hfo]; simp)
      have HLD := Lib.hid hld
      have HRC := Lib.hid (fun W hW => receipt_any f hfo W hW)
      rw [← hV] at HRC
      obtain ⟨R, hR⟩ : ∃ R, R = (rcV (fmR f)).toArray := ⟨_, rfl⟩
      rw [← hR] at HRC
      have HRE := Lib.hid hR
      have hRo := Lib.hid (fmR_ok hfo)
      have HRD : Hid ((fmR f).draw.size ≤ 100) := fmR_draw f
      have HFJ := Lib.hid hf
      clear hV hR hld hr hf
      go_wp2_with (first | (refine wpList_load_atW (by rfl) 27 _ rfl g (o + j * 101) rfl V HLD.out ?_))
      refine (HRC.out _ (htab.upd (u1.trans HS.out.up))).mono ?_
      rintro e w2 ⟨rfl, hq⟩
      obtain ⟨w3, w4, HZ2, HW3, HZ3, HW4, RA4, RB4, hq'⟩ := rows_two w2 33 Tryz.zeroCells33 R R
      obtain ⟨HRI, HRO, HRZ⟩ := rcLet hRo.out R HRE.out
      have S4 := Lib.hid (HS.out.upd (hq.trans hq'))
      obtain ⟨a', n', c', wF, HRN, SF, CF, HBR⟩ := S4.out.step (fmR f) ⟨hRo.out, HRD.out⟩ (by rw [fmsR_len (by rw [← HN.out]; exact hj)]; omega) R HRE.out
      rw [← fmsR_step HFJ.out] at SF
      obtain ⟨c0, c1, c2⟩ := S4.out.cells
      obtain ⟨ce, fe⟩ := CF.out
      clear hq hq' HRC HLD HS RB4
      go_wp2_with (first | (refine wpList_store_rowAs rfl 33 _ _ rfl w2.heap.size R rfl rfl _ _ HZ2.out HRI.out HRZ.out HRO.out w3 HW3.out ?_) | (refine wpList_store_rowAs rfl 33 _ _ rfl (w2.heap.size + 1) R rfl rfl _ _ HZ3.out HRI.out HRZ.out HRO.out w4 HW4.out ?_) | (refine wpList_load_row rfl 33 _ rfl w2.heap.size rfl _ R _ _ RA4.out Tryz.underlying33 rfl HRI.out ?_) | (refine wpList_buildRun rfl 44 1 _ rfl _ _ (Eq.trans (congrArg (fun z => (Instr.buildSlice 44 1 z).run Tryz.prog w4) (by kernel_rfl)) HBR.out) ?_) | (refine wpList_append_run _ rfl _ _ _ _ rfl _ _ (.slice a' n' c') wF rfl rfl HRN.out ?_))
      exact ⟨⟨j + 1, .slice a' n' c', by go_num, by omega, by omega, SF⟩, by simp [intOf]; omega⟩
    · obtain ⟨rs, hrs⟩ : ∃ rs, rs = fmsR fs j := ⟨_, rfl⟩
      have hrl : rs.length = j := by rw [hrs]; exact fmsR_len (by rw [← HN.out]; exact hj)
      rw [← hrs] at HS
      clear hrs
      obtain ⟨ao2, cap2, rfl, hcap2, hin⟩ := rcs_of_row HS.out.own (fun x hx => ⟨(HS.out.oks x hx).1, by have := (HS.out.oks x hx).2; omega⟩)
      have HIN := Lib.hid hin
      have HOKS := Lib.hid HS.out.oks
      obtain ⟨c0, c1, c2⟩ := HS.out.cells
      have U := u1.trans HS.out.up
      obtain ⟨hbl, hbp⟩ := batchL_short iq3 (by omega) HOKS.out
      have hex : (¬ (j : Int) < (n : Int)) ∨ ((j : Int) < (n : Int) ∧ ¬ (j : Int) < 4) := by omega
      have HCT := Lib.hid (batchText_any q3 rs ao2 cap2 wr iq3 (by omega) hcap2 HIN.out (htab.upd U))
      have HBL := Lib.hid hbl
      have HBP := Lib.hid hbp
      have HRL := Lib.hid hrl
      have HJ4 := Lib.hid hj4
      obtain ⟨m, hm⟩ : ∃ m, m = rs.length := ⟨_, rfl⟩
      have HM := Lib.hid hm
      rw [← hm] at c1 HCT hcap2 HS
      clear hlt hin hbl hbp hrl hj4 hm
      rcases hex with hex | ⟨hex, hex2⟩
      · skip
        go_wp2_with fail
        refine HCT.out.mono ?_
        rintro e w5 ⟨s, HSB, hs, rfl, hq⟩
        have hss : s.size ≤ 2200 := by have := HBL.out; omega
        have hsp : 0 < s.size := by rw [← bs_length, HSB.out]; exact HBP.out
        have S5 := Lib.hid (HS.out.upd hq)
        have u5 := U.trans hq
        have HIN5 := Lib.hid (HIN.out.upd hq)
        clear hq c0 c1 c2 HS U HCT HIN hs hex
        go_wp2_with fail
        refine (readBatch22_any s w5 (by omega) (htab.upd u5)).mono ?_
        rintro e w6 ⟨k', l', v', ok', HBK, hok', HOW, hfo, rfl, hq⟩
        obtain ⟨e1, e2, e3⟩ := btOk_unique (by rw [bs_length]; omega) HBK.out (btOk_of HSB.out iq3 (fun x hx => (HOKS.out x hx).1))
        subst k' l' ok'
        obtain ⟨ao3, cap3, rfl, hcap3, hin3⟩ := rcs_of_row HOW.out hok'
        have HIN6 := Lib.hid hin3
        rw [← HM.out]
        have z7 := heap_alloc_new w6 (.cells #[.int .i64 q3, .slice ao3 m cap3] 46)
        have hu7 : Upd [] [] w6 (w6.alloc (.cells #[.int .i64 q3, .slice ao3 m cap3] 46)) := (Upd.refl _ _).alloc _
        have S7 := Lib.hid (S5.out.upd (hq.trans hu7))
        have HIN7 := Lib.hid (HIN6.out.upd hu7)
        have HIN5' := Lib.hid (HIN5.out.upd (hq.trans hu7))
        have u7 := u5.trans (hq.trans hu7)
        obtain ⟨w7, hw7⟩ : ∃ w7, w6.alloc (.cells #[.int .i64 q3, .slice ao3 m cap3] 46) = w7 := ⟨_, rfl⟩
        rw [hw7] at z7 hu7 S7 HIN7 HIN5' u7
        obtain ⟨G, hG⟩ : ∃ G, G = w6.heap.size := ⟨_, rfl⟩
        rw [← hG] at z7
        have Z7 := Lib.hid z7
        have HW7 := Lib.hid hw7
        have HG := Lib.hid hG
        have HRT := Lib.hid (rbatchText_any q3 rs ao2 cap2 w7 iq3 (by have := HRL.out; have := HJ4.out; omega) (by rw [← HM.out]; exact hcap2) HIN5'.out)
        rw [← HM.out] at HRT
        obtain ⟨c0, c1, c2⟩ := S7.out.cells
        have g0 : w7.cell? ⟨G, 0, none⟩ = some (.int .i64 q3) := by rw [cell_of_row _ _ _ _ _ _ Z7.out]; rfl
        have g1 : w7.cell? ⟨G, 1, none⟩ = some (.slice ao3 m cap3) := by rw [cell_of_row _ _ _ _ _ _ Z7.out]; rfl
        clear hw7 hG z7 hq hin3 HIN6 HIN5 S5 hu7
        go_upto_region 10 with (fail)
        rw [← HG.out, HW7.out]
        clear HW7 HG
        go_wp2_with fail
        refine HRT.out.mono ?_
        rintro e w8 ⟨s2, HS2, hs2, rfl, hq⟩
        have hbe : (s.toList == s2.toList) = true := beq_str (by rw [HSB.out, HS2.out])
        have S8 := Lib.hid (S7.out.upd hq)
        have Z8 := Lib.hid (row_updH Z7.out hq)
        have HSM := Lib.hid (same_any q3 q3 rs rs ao3 ao2 cap3 cap2 w8 (by have := HRL.out; have := HJ4.out; omega) (by have := HRL.out; have := HJ4.out; omega) (HIN7.out.upd hq) (HIN5'.out.upd hq) true ⟨fun _ => ⟨rfl, rfl⟩, fun _ => rfl⟩)
        rw [← HM.out] at HSM
        have u8 := u7.trans hq
        clear c0 c1 c2 g0 g1 hq S7 Z7 HIN7 HIN5' HRT hs2
        obtain ⟨c0, c1, c2⟩ := S8.out.cells
        have g0 : w8.cell? ⟨G, 0, none⟩ = some (.int .i64 q3) := by rw [cell_of_row _ _ _ _ _ _ Z8.out]; rfl
        have g1 : w8.cell? ⟨G, 1, none⟩ = some (.slice ao3 m cap3) := by rw [cell_of_row _ _ _ _ _ _ Z8.out]; rfl
        go_wp2_with fail
        refine HSM.out.mono ?_
        rintro e w9 ⟨rfl, hq⟩
        have u9 := u8.trans hq
        have B9 := Lib.hid (row_updH B1.out (S8.out.up.trans hq))
        have hs0 : ((s.size : Int) == 0) = false := by rw [beq_eq_false_iff_ne]; omega
        clear c0 c1 c2 g0 g1 hq S8 Z8 HSM hbe HS2
        obtain ⟨raw2, hraw2⟩ : ∃ r2 : ByteArray, r2 = raw.extract 0 (min (raw.size : Int) 200).toNat := ⟨_, rfl⟩
        have hr2s : raw2.size ≤ 200 := by rw [hraw2, ByteArray.size_extract]; omega
        have hraw2' := hraw2.symm
        have k0 : w9.cell? ⟨w.heap.size, 0, none⟩ = some (.int .i64 q0) := by rw [cell_of_row _ _ _ _ _ _ B9.out]; rfl
        clear hraw2
        go_wp2_with fail
        have hsi : (s.size : Int) ≤ 4611686018427387904 := by omega
        refine (mod_any q0 (s.size : Int) w9 ⟨by omega, hsi⟩).mono ?_
        rintro e w8 ⟨at0, HA, hat, rfl, rfl⟩
        have B9o := Lib.hid B9.out
        have u9o := u9
        clear hraw2' k0 hraw hs0 B9 u9
        go_upto_region 14 with (fail)
        obtain ⟨b, hb⟩ := byte_wrap q2
        obtain ⟨r2, hr2⟩ : ∃ r2 : Nat, (r2 : Int) = q1 % 2 := ⟨(q1 % 2).toNat, by omega⟩
        obtain ⟨at2, hat2⟩ : ∃ at2 : Nat, at2 = at0 + r2 := ⟨_, rfl⟩
        have hr2b : r2 ≤ 1 := by omega
        have hw2 : IntKind.i64.wrap ((at0 : Int) + (r2 : Int)) = (at2 : Int) := by rw [IntWalk.i64_in _ (by omega)]; omega
        obtain ⟨L, hL⟩ : ∃ L : ByteArray, L = s.extract 0 at0 := ⟨_, rfl⟩
        obtain ⟨T, hT⟩ : ∃ T : ByteArray, T = s.extract at2 s.size := ⟨_, rfl⟩
        obtain ⟨z, hz⟩ : ∃ z : ByteArray, z = ⟨#[b]⟩ := ⟨_, rfl⟩
        have hLs : L.size ≤ 2200 := by rw [hL, ByteArray.size_extract]; omega
        have hTs : T.size ≤ 2200 := by rw [hT, ByteArray.size_extract]; omega
        have hzs : z.size = 1 := by rw [hz]; rfl
        have hL' := hL.symm
        have HLE := Lib.hid hL
        have hT' := hT.symm
        have i0 : (0 : Int) ≤ (at0 : Int) := by omega
        have i1 : (at0 : Int) ≤ (s.size : Int) := by omega
        have i2 : (0 : Int) ≤ (at2 : Int) := by omega
        have i3 : (at2 : Int) ≤ (s.size : Int) := by omega
        have s1 : ¬ 9223372036854775807 < L.size + 1 := by omega
        have s2 : ¬ 9223372036854775807 < L.size + 1 + T.size := by omega
        have HCV : Hid ((convert 40 9 (.slice (some ⟨w8.heap.size, 0, none⟩) 1 1)).run Tryz.prog (w8.alloc (.cells #[.int .u8 (b.toNat : Int)] 5)).drew = .ok (.string z) (w8.alloc (.cells #[.int .u8 (b.toNat : Int)] 5)).drew) := by
          have h := byte_strAt (w8.alloc (.cells #[.int .u8 (b.toNat : Int)] 5)).drew w8.heap.size b (heap_alloc_new w8 _)
          rw [← hz] at h
          exact h
        have HM := Lib.hid (fun W => mod_is q1 2 r2 W (by omega) hr2)
        have B8 := Lib.hid (row_updH B9o.out (Upd.refl [] w8).drew)
        have HK : Hid (∀ W : World, W.heap[w.heap.size]? = some (.cells #[.int .i64 q0, .int .i64 q1, .int .i64 q2, .int .i64 q3] 22 (0, 0)) → W.cell? ⟨w.heap.size, 1, none⟩ = some (.int .i64 q1) ∧ W.cell? ⟨w.heap.size, 2, none⟩ = some (.int .i64 q2)) := by
          intro W h
          exact ⟨by rw [cell_of_row _ _ _ _ _ _ h]; rfl, by rw [cell_of_row _ _ _ _ _ _ h]; rfl⟩
        have B9 := Lib.hid (row_updH B9o.out ((Upd.refl [] w8).alloc (.cells #[.int .u8 (b.toNat : Int)] 5)).drew)
        have HAT := Lib.hid hat
        clear hL hT hz hr2 hat2 HA hat
        refine @id ((?pj1 : Prop) → _) (fun hJ => ?mj1) ?jj1
        case mj1 =>
          refine wp_region_noPanic ?_
          refine wp_region_held_drew (S := fun wp => wp.cell? ⟨w.heap.size, 1, none⟩ = some (.int .i64 q1) ∧ wp.cell? ⟨w.heap.size, 2, none⟩ = some (.int .i64 q2)) (by kernel_rfl) ?_ (fun hHeld => ?_)
          · exact HK.out _ B8.out
          refine wpAnyH_take (i := 0) (v := ?v2) (by simp only [List.getElem?_toArray, List.getElem?_cons_zero] <;> rfl) (by kernel_rfl) (by kernel_rfl) (by kernel_rfl) (fun _ _ _ h => h) (Or.inl ⟨by rfl, ?y2⟩) hHeld ?r2
          case y2 => (intro w hSw; (try dsimp only at hSw); go_simp; first | done | with_reducible rfl | rfl)
          try simp only [Act.put, List.setIfInBounds_toArray, List.set_cons_zero, List.set_cons_succ]
          refine wpAnyH_take (i := 1) (v := ?v3) (by simp only [List.getElem?_toArray, List.getElem?_cons_succ, List.getElem?_cons_zero] <;> rfl) (by kernel_rfl) (by kernel_rfl) (by kernel_rfl) (fun _ _ _ h => h) (Or.inl ⟨by rfl, ?y3⟩) hHeld ?r3
          case y3 => (intro w hSw; (try dsimp only at hSw); go_simp; first | done | with_reducible rfl | rfl)
          try simp only [Act.put, List.setIfInBounds_toArray, List.set_cons_zero, List.set_cons_succ]
          refine wpAnyH_take (i := 2) (v := ?v4) (by simp only [List.getElem?_toArray, List.getElem?_cons_succ, List.getElem?_cons_zero] <;> rfl) (by kernel_rfl) (by kernel_rfl) (by kernel_rfl) (fun _ _ _ h => h) (Or.inl ⟨by rfl, ?y4⟩) hHeld ?r4
          case y4 => (intro w hSw; (try dsimp only at hSw); go_simp; first | done | with_reducible rfl | rfl)
          try simp only [Act.put, List.setIfInBounds_toArray, List.set_cons_zero, List.set_cons_succ]
          refine wpAnyH_take (i := 3) (v := ?v5) (by simp only [List.getElem?_toArray, List.getElem?_cons_succ, List.getElem?_cons_zero] <;> rfl) (by kernel_rfl) (by kernel_rfl) (by kernel_rfl) (fun _ _ _ h => h) (Or.inl ⟨by rfl, ?y5⟩) hHeld ?r5
          case y5 => (intro w hSw; (try dsimp only at hSw); go_simp; first | done | with_reducible rfl | rfl)
          try simp only [Act.put, List.setIfInBounds_toArray, List.set_cons_zero, List.set_cons_succ]
          refine wpAnyH_take (i := 4) (v := ?v6) (by simp only [List.getElem?_toArray, List.getElem?_cons_succ, List.getElem?_cons_zero] <;> rfl) (by kernel_rfl) (by kernel_rfl) (by kernel_rfl) (fun _ _ _ h => h) (Or.inl ⟨by rfl, ?y6⟩) hHeld ?r6
          case y6 => (intro w hSw; (try dsimp only at hSw); go_simp; first | done | with_reducible rfl | rfl)
          try simp only [Act.put, List.setIfInBounds_toArray, List.set_cons_zero, List.set_cons_succ]
          refine wpAnyH_take (i := 5) (v := ?v7) (by simp only [List.getElem?_toArray, List.getElem?_cons_succ, List.getElem?_cons_zero] <;> rfl) (by kernel_rfl) (by kernel_rfl) (by kernel_rfl) (fun _ _ _ h => h) (Or.inl ⟨by rfl, ?y7⟩) hHeld ?r7
          case y7 => (intro w hSw; (try dsimp only at hSw); go_simp; first | done | with_reducible rfl | rfl)
          try simp only [Act.put, List.setIfInBounds_toArray, List.set_cons_zero, List.set_cons_succ]
          refine wpAnyH_take (i := 9) (v := ?v8) (by simp only [List.getElem?_toArray, List.getElem?_cons_succ, List.getElem?_cons_zero] <;> rfl) (by kernel_rfl) (by kernel_rfl) (by kernel_rfl) (fun _ _ _ h => h) (Or.inl ⟨by rfl, ?y8⟩) hHeld ?r8
          case y8 => (intro w hSw; (try dsimp only at hSw); go_simp; first | done | with_reducible rfl | rfl)
          try simp only [Act.put, List.setIfInBounds_toArray, List.set_cons_zero, List.set_cons_succ]
          refine wpAnyH_take (i := 10) (v := ?v9) (by simp only [List.getElem?_toArray, List.getElem?_cons_succ, List.getElem?_cons_zero] <;> rfl) (by kernel_rfl) (by kernel_rfl) (by kernel_rfl) (fun _ _ _ h => h) (Or.inl ⟨by rfl, ?y9⟩) hHeld ?r9
          case y9 => (intro w hSw; (try dsimp only at hSw); go_simp; first | done | with_reducible rfl | rfl)
          try simp only [Act.put, List.setIfInBounds_toArray, List.set_cons_zero, List.set_cons_succ]
          refine wpAnyH_take (i := 11) (v := ?v10) (by simp only [List.getElem?_toArray, List.getElem?_cons_succ, List.getElem?_cons_zero] <;> rfl) (by kernel_rfl) (by kernel_rfl) (by kernel_rfl) (fun _ _ _ h => h) (Or.inl ⟨by rfl, ?y10⟩) hHeld ?r10
          case y10 => (intro w hSw; (try dsimp only at hSw); go_simp; first | done | with_reducible rfl | rfl)
          try simp only [Act.put, List.setIfInBounds_toArray, List.set_cons_zero, List.set_cons_succ]
          refine wpAnyH_take (i := 12) (v := ?v11) (by simp only [List.getElem?_toArray, List.getElem?_cons_succ, List.getElem?_cons_zero] <;> rfl) (by kernel_rfl) (by kernel_rfl) (by kernel_rfl) (fun _ _ _ h => h) (Or.inl ⟨by rfl, ?y11⟩) hHeld ?r11
          case y11 => (intro w hSw; (try dsimp only at hSw); go_simp; first | done | with_reducible rfl | rfl)
          try simp only [Act.put, List.setIfInBounds_toArray, List.set_cons_zero, List.set_cons_succ]
          refine wpAnyH_ready (rs := [6, 13]) (by kernel_rfl) (by simp) ?_
          refine AllReadyH.cons (by simp only [List.getElem?_toArray, List.getElem?_cons_succ, List.getElem?_cons_zero] <;> rfl) (fun K hK => ?_) ?_
          · go_simp
            refine hK.out _ _ ?_ (fun hHeld => ?_)
            · exact HK.out _ B9.out
            clear hK K
            try simp only [Act.put, List.setIfInBounds_toArray, List.set_cons_zero, List.set_cons_succ]
            refine wpAnyH_ready (rs := [7, 13]) (by kernel_rfl) (by simp) ?_
            refine AllReadyH.cons (by simp only [List.getElem?_toArray, List.getElem?_cons_succ, List.getElem?_cons_zero] <;> rfl) (fun K hK => ?_) ?_
            · have hcv := HCV.out; go_simp
              refine hK.out _ _ ?_ (fun hHeld => ?_)
              · exact HK.out _ B9.out
              clear hK K
              try simp only [Act.put, List.setIfInBounds_toArray, List.set_cons_zero, List.set_cons_succ]
              refine wpAnyH_take (i := 8) (v := ?v12) (by simp only [List.getElem?_toArray, List.getElem?_cons_succ, List.getElem?_cons_zero] <;> rfl) (by kernel_rfl) (by kernel_rfl) (by kernel_rfl) (fun _ _ _ h => h) (Or.inl ⟨by rfl, ?y12⟩) hHeld ?r12
              case y12 => (intro w hSw; (try dsimp only at hSw); go_simp; first | done | with_reducible rfl | rfl)
              try simp only [Act.put, List.setIfInBounds_toArray, List.set_cons_zero, List.set_cons_succ]
              refine wpAnyH_ready (rs := [13]) (by kernel_rfl) (by simp) ?_
              refine AllReadyH.cons (by simp only [List.getElem?_toArray, List.getElem?_cons_succ, List.getElem?_cons_zero] <;> rfl) (fun K hK => ?_) ?_
              · go_simp; refine (HM.out _).mono ?_; rintro e wz ⟨rfl, rfl⟩; go_wp2_with fail
                refine hK.out _ _ ?_ (fun hHeld => ?_)
                · exact HK.out _ B9.out
                clear hK K
                try simp only [Act.put, List.setIfInBounds_toArray, List.set_cons_zero, List.set_cons_succ]
                refine wpAnyH_take (i := 14) (v := ?v13) (by simp only [List.getElem?_toArray, List.getElem?_cons_succ, List.getElem?_cons_zero] <;> rfl) (by kernel_rfl) (by kernel_rfl) (by kernel_rfl) (fun _ _ _ h => h) (Or.inl ⟨by rfl, ?y13⟩) hHeld ?r13
                case y13 => (intro w hSw; (try dsimp only at hSw); go_simp; first | done | with_reducible rfl | rfl)
                try simp only [Act.put, List.setIfInBounds_toArray, List.set_cons_zero, List.set_cons_succ]
                refine wpAnyH_take (i := 15) (v := ?v14) (by simp only [List.getElem?_toArray, List.getElem?_cons_succ, List.getElem?_cons_zero] <;> rfl) (by kernel_rfl) (by kernel_rfl) (by kernel_rfl) (fun _ _ _ h => h) (Or.inl ⟨by rfl, ?y14⟩) hHeld ?r14
                case y14 => (intro w hSw; (try dsimp only at hSw); go_simp; first | done | with_reducible rfl | rfl)
                try simp only [Act.put, List.setIfInBounds_toArray, List.set_cons_zero, List.set_cons_succ]
                refine wpAnyH_take (i := 16) (v := ?v15) (by simp only [List.getElem?_toArray, List.getElem?_cons_succ, List.getElem?_cons_zero] <;> rfl) (by kernel_rfl) (by kernel_rfl) (by kernel_rfl) (fun _ _ _ h => h) (Or.inl ⟨by rfl, ?y15⟩) hHeld ?r15
                case y15 => (intro w hSw; (try dsimp only at hSw); go_simp; first | done | with_reducible rfl | rfl)
                try simp only [Act.put, List.setIfInBounds_toArray, List.set_cons_zero, List.set_cons_succ]
                refine wpAnyH_take (i := 17) (v := ?v16) (by simp only [List.getElem?_toArray, List.getElem?_cons_succ, List.getElem?_cons_zero] <;> rfl) (by kernel_rfl) (by kernel_rfl) (by kernel_rfl) (fun _ _ _ h => h) (Or.inl ⟨by rfl, ?y16⟩) hHeld ?r16
                case y16 => (intro w hSw; (try dsimp only at hSw); go_simp; first | done | with_reducible rfl | rfl)
                try simp only [Act.put, List.setIfInBounds_toArray, List.set_cons_zero, List.set_cons_succ]
                refine wpAnyH_done (by kernel_rfl) ?_ _
                refine NoPanic.normal ?_
                exact hJ
              exact AllReadyH.nil
            refine AllReadyH.cons (by simp only [List.getElem?_toArray, List.getElem?_cons_succ, List.getElem?_cons_zero] <;> rfl) (fun K hK => ?_) ?_
            · go_simp; refine (HM.out _).mono ?_; rintro e wz ⟨rfl, rfl⟩; go_wp2_with fail
              refine hK.out _ _ ?_ (fun hHeld => ?_)
              · exact HK.out _ B9.out
              clear hK K
              try simp only [Act.put, List.setIfInBounds_toArray, List.set_cons_zero, List.set_cons_succ]
              refine wpAnyH_take (i := 14) (v := ?v17) (by simp only [List.getElem?_toArray, List.getElem?_cons_succ, List.getElem?_cons_zero] <;> rfl) (by kernel_rfl) (by kernel_rfl) (by kernel_rfl) (fun _ _ _ h => h) (Or.inl ⟨by rfl, ?y17⟩) hHeld ?r17
              case y17 => (intro w hSw; (try dsimp only at hSw); go_simp; first | done | with_reducible rfl | rfl)
              try simp only [Act.put, List.setIfInBounds_toArray, List.set_cons_zero, List.set_cons_succ]
              refine wpAnyH_take (i := 15) (v := ?v18) (by simp only [List.getElem?_toArray, List.getElem?_cons_succ, List.getElem?_cons_zero] <;> rfl) (by kernel_rfl) (by kernel_rfl) (by kernel_rfl) (fun _ _ _ h => h) (Or.inl ⟨by rfl, ?y18⟩) hHeld ?r18
              case y18 => (intro w hSw; (try dsimp only at hSw); go_simp; first | done | with_reducible rfl | rfl)
              try simp only [Act.put, List.setIfInBounds_toArray, List.set_cons_zero, List.set_cons_succ]
              refine wpAnyH_ready (rs := [7]) (by kernel_rfl) (by simp) ?_
              refine AllReadyH.cons (by simp only [List.getElem?_toArray, List.getElem?_cons_succ, List.getElem?_cons_zero] <;> rfl) (fun K hK => ?_) ?_
              · have hcv := HCV.out; go_simp
                refine hK.out _ _ ?_ (fun hHeld => ?_)
                · exact HK.out _ B9.out
                clear hK K
                try simp only [Act.put, List.setIfInBounds_toArray, List.set_cons_zero, List.set_cons_succ]
                refine wpAnyH_take (i := 8) (v := ?v19) (by simp only [List.getElem?_toArray, List.getElem?_cons_succ, List.getElem?_cons_zero] <;> rfl) (by kernel_rfl) (by kernel_rfl) (by kernel_rfl) (fun _ _ _ h => h) (Or.inl ⟨by rfl, ?y19⟩) hHeld ?r19
                case y19 => (intro w hSw; (try dsimp only at hSw); go_simp; first | done | with_reducible rfl | rfl)
                try simp only [Act.put, List.setIfInBounds_toArray, List.set_cons_zero, List.set_cons_succ]
                refine wpAnyH_take (i := 16) (v := ?v20) (by simp only [List.getElem?_toArray, List.getElem?_cons_succ, List.getElem?_cons_zero] <;> rfl) (by kernel_rfl) (by kernel_rfl) (by kernel_rfl) (fun _ _ _ h => h) (Or.inl ⟨by rfl, ?y20⟩) hHeld ?r20
                case y20 => (intro w hSw; (try dsimp only at hSw); go_simp; first | done | with_reducible rfl | rfl)
                try simp only [Act.put, List.setIfInBounds_toArray, List.set_cons_zero, List.set_cons_succ]
                refine wpAnyH_take (i := 17) (v := ?v21) (by simp only [List.getElem?_toArray, List.getElem?_cons_succ, List.getElem?_cons_zero] <;> rfl) (by kernel_rfl) (by kernel_rfl) (by kernel_rfl) (fun _ _ _ h => h) (Or.inl ⟨by rfl, ?y21⟩) hHeld ?r21
                case y21 => (intro w hSw; (try dsimp only at hSw); go_simp; first | done | with_reducible rfl | rfl)
                try simp only [Act.put, List.setIfInBounds_toArray, List.set_cons_zero, List.set_cons_succ]
                refine wpAnyH_done (by kernel_rfl) ?_ _
                refine NoPanic.normal ?_
                exact hJ
              exact AllReadyH.nil
            exact AllReadyH.nil
          refine AllReadyH.cons (by simp only [List.getElem?_toArray, List.getElem?_cons_succ, List.getElem?_cons_zero] <;> rfl) (fun K hK => ?_) ?_
          · go_simp; refine (HM.out _).mono ?_; rintro e wz ⟨rfl, rfl⟩; go_wp2_with fail
            refine hK.out _ _ ?_ (fun hHeld => ?_)
            · exact HK.out _ B8.out
            clear hK K
            try simp only [Act.put, List.setIfInBounds_toArray, List.set_cons_zero, List.set_cons_succ]
            refine wpAnyH_take (i := 14) (v := ?v22) (by simp only [List.getElem?_toArray, List.getElem?_cons_succ, List.getElem?_cons_zero] <;> rfl) (by kernel_rfl) (by kernel_rfl) (by kernel_rfl) (fun _ _ _ h => h) (Or.inl ⟨by rfl, ?y22⟩) hHeld ?r22
            case y22 => (intro w hSw; (try dsimp only at hSw); go_simp; first | done | with_reducible rfl | rfl)
            try simp only [Act.put, List.setIfInBounds_toArray, List.set_cons_zero, List.set_cons_succ]
            refine wpAnyH_take (i := 15) (v := ?v23) (by simp only [List.getElem?_toArray, List.getElem?_cons_succ, List.getElem?_cons_zero] <;> rfl) (by kernel_rfl) (by kernel_rfl) (by kernel_rfl) (fun _ _ _ h => h) (Or.inl ⟨by rfl, ?y23⟩) hHeld ?r23
            case y23 => (intro w hSw; (try dsimp only at hSw); go_simp; first | done | with_reducible rfl | rfl)
            try simp only [Act.put, List.setIfInBounds_toArray, List.set_cons_zero, List.set_cons_succ]
            refine wpAnyH_ready (rs := [6]) (by kernel_rfl) (by simp) ?_
            refine AllReadyH.cons (by simp only [List.getElem?_toArray, List.getElem?_cons_succ, List.getElem?_cons_zero] <;> rfl) (fun K hK => ?_) ?_
            · go_simp
              refine hK.out _ _ ?_ (fun hHeld => ?_)
              · exact HK.out _ B9.out
              clear hK K
              try simp only [Act.put, List.setIfInBounds_toArray, List.set_cons_zero, List.set_cons_succ]
              refine wpAnyH_ready (rs := [7]) (by kernel_rfl) (by simp) ?_
              refine AllReadyH.cons (by simp only [List.getElem?_toArray, List.getElem?_cons_succ, List.getElem?_cons_zero] <;> rfl) (fun K hK => ?_) ?_
              · have hcv := HCV.out; go_simp
                refine hK.out _ _ ?_ (fun hHeld => ?_)
                · exact HK.out _ B9.out
                clear hK K
                try simp only [Act.put, List.setIfInBounds_toArray, List.set_cons_zero, List.set_cons_succ]
                refine wpAnyH_take (i := 8) (v := ?v24) (by simp only [List.getElem?_toArray, List.getElem?_cons_succ, List.getElem?_cons_zero] <;> rfl) (by kernel_rfl) (by kernel_rfl) (by kernel_rfl) (fun _ _ _ h => h) (Or.inl ⟨by rfl, ?y24⟩) hHeld ?r24
                case y24 => (intro w hSw; (try dsimp only at hSw); go_simp; first | done | with_reducible rfl | rfl)
                try simp only [Act.put, List.setIfInBounds_toArray, List.set_cons_zero, List.set_cons_succ]
                refine wpAnyH_take (i := 16) (v := ?v25) (by simp only [List.getElem?_toArray, List.getElem?_cons_succ, List.getElem?_cons_zero] <;> rfl) (by kernel_rfl) (by kernel_rfl) (by kernel_rfl) (fun _ _ _ h => h) (Or.inl ⟨by rfl, ?y25⟩) hHeld ?r25
                case y25 => (intro w hSw; (try dsimp only at hSw); go_simp; first | done | with_reducible rfl | rfl)
                try simp only [Act.put, List.setIfInBounds_toArray, List.set_cons_zero, List.set_cons_succ]
                refine wpAnyH_take (i := 17) (v := ?v26) (by simp only [List.getElem?_toArray, List.getElem?_cons_succ, List.getElem?_cons_zero] <;> rfl) (by kernel_rfl) (by kernel_rfl) (by kernel_rfl) (fun _ _ _ h => h) (Or.inl ⟨by rfl, ?y26⟩) hHeld ?r26
                case y26 => (intro w hSw; (try dsimp only at hSw); go_simp; first | done | with_reducible rfl | rfl)
                try simp only [Act.put, List.setIfInBounds_toArray, List.set_cons_zero, List.set_cons_succ]
                refine wpAnyH_done (by kernel_rfl) ?_ _
                refine NoPanic.normal ?_
                exact hJ
              exact AllReadyH.nil
            exact AllReadyH.nil
          exact AllReadyH.nil
        have hu9 : Upd [] [] w8 (w8.alloc (.cells #[.int .u8 (b.toNat : Int)] 5)).drew := ((Upd.refl [] _).alloc _).drew
        have u9 := u9o.trans hu9
        clear HCV HM B8 HK B9 hL' hT' i0 i1 i2 i3 s1 s2 hw2 B9o
        obtain ⟨w9, hw9⟩ : ∃ w9, (w8.alloc (.cells #[.int .u8 (b.toNat : Int)] 5)).drew = w9 := ⟨_, rfl⟩
        rw [hw9] at hu9 u9 ⊢
        clear hw9 hb
        obtain ⟨bent, hbent⟩ : ∃ bent : ByteArray, bent = L ++ z ++ T := ⟨_, rfl⟩
        have hbs : bent.size ≤ 4401 := by rw [hbent, ByteArray.size_append, ByteArray.size_append]; omega
        rw [← hbent]
        have hq32 : (ByteArray.mk #[32]).size = 1 := rfl
        have hq8 : (ByteArray.mk #[98, 97, 116, 99, 104, 32, 49, 32]).size = 8 := rfl
        obtain ⟨us, hus⟩ : ∃ us : List ByteArray, us = [bent, raw2, s ++ raw2, L, s ++ ByteArray.mk #[32], ByteArray.mk #[98, 97, 116, 99, 104, 32, 49, 32] ++ raw2] := ⟨_, rfl⟩
        have husl : ∀ u ∈ us, u.size ≤ 5000 := by
          intro u hu
          rw [hus] at hu
          simp only [List.mem_cons, List.not_mem_nil, or_false] at hu
          rcases hu with rfl | rfl | rfl | rfl | rfl | rfl
          · omega
          · omega
          · rw [ByteArray.size_append]; omega
          · omega
          · rw [ByteArray.size_append]; omega
          · rw [ByteArray.size_append, hq8]; omega
        have hrow : StrAt (w9.alloc (.cells #[.string bent, .string raw2, .string (s ++ raw2), .string L, .string (s ++ ByteArray.mk #[32]), .string (ByteArray.mk #[98, 97, 116, 99, 104, 32, 49, 32] ++ raw2)] 9)) w9.heap.size us := by
          rw [hus]
          exact heap_alloc_new w9 _
        have hlen : us.length = 6 := by rw [hus]; rfl
        have u10 := u9.alloc (.cells #[.string bent, .string raw2, .string (s ++ raw2), .string L, .string (s ++ ByteArray.mk #[32]), .string (ByteArray.mk #[98, 97, 116, 99, 104, 32, 49, 32] ++ raw2)] 9)
        have s1 : ¬ 9223372036854775807 < s.size + raw2.size := by omega
        have s2 : ¬ 9223372036854775807 < s.size + 1 := by omega
        have s3 : ¬ 9223372036854775807 < 8 + raw2.size := by omega
        have i0 : (0 : Int) ≤ (at0 : Int) := by omega
        have i1 : (at0 : Int) ≤ (s.size : Int) := by have := HAT.out; omega
        have HUSL := Lib.hid husl
        have HROW := Lib.hid hrow
        have HLEN := Lib.hid hlen
        have hL2 : s.extract 0 at0 = L := HLE.out.symm
        clear hus husl hrow hlen hbent hbs
        go_wp2_with fail
        generalize (w9.alloc (.cells #[.string bent, .string raw2, .string (s ++ raw2), .string L, .string (s ++ ByteArray.mk #[32]), .string (ByteArray.mk #[98, 97, 116, 99, 104, 32, 49, 32] ++ raw2)] 9)) = w10 at *
        clear hL2 s1 s2 s3 i0 i1 hu9 u9
        obtain ⟨SB, hSB⟩ : ∃ SB, SB = w9.heap.size := ⟨_, rfl⟩
        rw [← hSB] at HROW ⊢
        clear hSB
        have I10 : Hid (StrAt w10 SB us ∧ Upd [] [] w w10) := ⟨HROW.out, u10⟩
        clear HROW u10
        go_loopw [18, 19, 20, 21, 22, 118] (fun _ _ _ _ _ i wr => ∃ j : Nat, i = .int .i64 (j : Int) ∧ j ≤ 6 ∧ Hid (StrAt wr SB us ∧ Upd [] [] w wr)) (fun _ _ _ _ _ i _ => 6 - (intOf i).toNat)
        case atStart => exact ⟨0, rfl, Nat.zero_le _, I10⟩
        case round =>
          obtain ⟨j2, rfl, hj2, HI⟩ := hrel
          by_cases hlt2 : j2 < 6
          · obtain ⟨u, hu⟩ : ∃ u, us[j2]? = some u := ⟨_, List.getElem?_eq_getElem (by rw [HLEN.out]; exact hlt2)⟩
            have hus : u.size ≤ 5000 := HUSL.out u (List.mem_of_getElem? hu)
            have k0 := HI.out.1.cell hu
            have p0 : (0 : Int) ≤ (j2 : Int) := by omega
            have p1 : (j2 : Int) < 6 := by omega
            clear hu
            go_wp2_with fail
            refine (readBatch22_any u wr (by omega) (htab.upd HI.out.2)).mono ?_
            rintro e wa ⟨kx, lx, vx, p, HX, hox, HOWX, hfx, rfl, hq⟩
            obtain ⟨aox, capx, rfl, hcx, hinx⟩ := rcs_of_row HOWX.out hox
            have zb := heap_alloc_new wa (.cells #[.int .i64 kx, .slice aox lx.length capx] 46)
            have hub : Upd [] [] wa (wa.alloc (.cells #[.int .i64 kx, .slice aox lx.length capx] 46)) := (Upd.refl _ _).alloc _
            have IB : Hid (StrAt (wa.alloc (.cells #[.int .i64 kx, .slice aox lx.length capx] 46)) SB us ∧ Upd [] [] w (wa.alloc (.cells #[.int .i64 kx, .slice aox lx.length capx] 46))) := ⟨HI.out.1.upd (hq.trans hub), HI.out.2.trans (hq.trans hub)⟩
            have HIX := Lib.hid (hinx.upd hub)
            obtain ⟨wb, hwb⟩ : ∃ wb, wa.alloc (.cells #[.int .i64 kx, .slice aox lx.length capx] 46) = wb := ⟨_, rfl⟩
            rw [hwb] at zb IB HIX
            obtain ⟨GA, hGA⟩ : ∃ GA, GA = wa.heap.size := ⟨_, rfl⟩
            rw [← hGA] at zb
            have ZB := Lib.hid zb
            have HWB := Lib.hid hwb
            have HGA := Lib.hid hGA
            clear hq hub hinx hwb hGA zb HI k0 HOWX
            go_upto_region 19 with (fail)
            rw [← HGA.out, HWB.out]
            clear HWB HGA
            go_wp2_with fail
            refine (rreadBatch22_any u wb (by omega)).mono ?_
            rintro e wc ⟨ky, ly, vy, p2, HY, hoy, HOWY, hfy, rfl, hq⟩
            obtain ⟨e1, e2, e3⟩ := btOk_unique (by rw [bs_length]; omega) HX.out HY.out
            subst ky ly p2
            obtain ⟨aoy, capy, rfl, hcy, hiny⟩ := rcs_of_row HOWY.out hoy
            have zd := heap_alloc_new wc (.cells #[.int .i64 kx, .slice aoy lx.length capy] 46)
            have hud : Upd [] [] wc (wc.alloc (.cells #[.int .i64 kx, .slice aoy lx.length capy] 46)) := (Upd.refl _ _).alloc _
            have ID : Hid (StrAt (wc.alloc (.cells #[.int .i64 kx, .slice aoy lx.length capy] 46)) SB us ∧ Upd [] [] w (wc.alloc (.cells #[.int .i64 kx, .slice aoy lx.length capy] 46))) := ⟨IB.out.1.upd (hq.trans hud), IB.out.2.trans (hq.trans hud)⟩
            have HIY := Lib.hid (hiny.upd hud)
            have HIX2 := Lib.hid (HIX.out.upd (hq.trans hud))
            have za := row_updH ZB.out (hq.trans hud)
            obtain ⟨wd, hwd⟩ : ∃ wd, wc.alloc (.cells #[.int .i64 kx, .slice aoy lx.length capy] 46) = wd := ⟨_, rfl⟩
            rw [hwd] at zd ID HIY HIX2 za
            obtain ⟨GB, hGB⟩ : ∃ GB, GB = wc.heap.size := ⟨_, rfl⟩
            rw [← hGB] at zd
            have ZD := Lib.hid zd
            have ZA := Lib.hid za
            have HWD := Lib.hid hwd
            have HGB := Lib.hid hGB
            have hlx := btOk_len HX.out hus
            have HSM := Lib.hid (same_any kx kx lx lx aox aoy capx capy wd hlx hlx HIX2.out HIY.out true ⟨fun _ => ⟨rfl, rfl⟩, fun _ => rfl⟩)
            have g0 : wd.cell? ⟨GA, 0, none⟩ = some (.int .i64 kx) := by rw [cell_of_row _ _ _ _ _ _ ZA.out]; rfl
            have g1 : wd.cell? ⟨GA, 1, none⟩ = some (.slice aox lx.length capx) := by rw [cell_of_row _ _ _ _ _ _ ZA.out]; rfl
            have g2 : wd.cell? ⟨GB, 0, none⟩ = some (.int .i64 kx) := by rw [cell_of_row _ _ _ _ _ _ ZD.out]; rfl
            have g3 : wd.cell? ⟨GB, 1, none⟩ = some (.slice aoy lx.length capy) := by rw [cell_of_row _ _ _ _ _ _ ZD.out]; rfl
            clear hq hud hiny hwd hGB zd za IB HOWY HX HY ZB HIX HIY HIX2 hlx
            go_upto_region 20 with (fail)
            rw [← HGB.out, HWD.out]
            clear HWD HGB
            cases p
            all_goals
              go_wp2_with fail
              refine HSM.out.mono ?_
              rintro e we ⟨rfl, hq⟩
              have IE : Hid (StrAt we SB us ∧ Upd [] [] w we) := ⟨ID.out.1.upd hq, ID.out.2.trans hq⟩
              clear hq g0 g1 g2 g3
              go_wp2_with fail
              exact ⟨⟨j2 + 1, by go_num, by omega, IE⟩, by simp [intOf]; omega⟩
          · obtain rfl : j2 = 6 := by omega
            clear hlt2 hj2
            go_wp2_with fail
            go_ret
            exact ⟨rfl, HI.out.2⟩
      · skip
        go_wp2_with fail
        refine HCT.out.mono ?_
        rintro e w5 ⟨s, HSB, hs, rfl, hq⟩
        have hss : s.size ≤ 2200 := by have := HBL.out; omega
        have hsp : 0 < s.size := by rw [← bs_length, HSB.out]; exact HBP.out
        have S5 := Lib.hid (HS.out.upd hq)
        have u5 := U.trans hq
        have HIN5 := Lib.hid (HIN.out.upd hq)
        clear hq c0 c1 c2 HS U HCT HIN hs hex
        go_wp2_with fail
        refine (readBatch22_any s w5 (by omega) (htab.upd u5)).mono ?_
        rintro e w6 ⟨k', l', v', ok', HBK, hok', HOW, hfo, rfl, hq⟩
        obtain ⟨e1, e2, e3⟩ := btOk_unique (by rw [bs_length]; omega) HBK.out (btOk_of HSB.out iq3 (fun x hx => (HOKS.out x hx).1))
        subst k' l' ok'
        obtain ⟨ao3, cap3, rfl, hcap3, hin3⟩ := rcs_of_row HOW.out hok'
        have HIN6 := Lib.hid hin3
        rw [← HM.out]
        have z7 := heap_alloc_new w6 (.cells #[.int .i64 q3, .slice ao3 m cap3] 46)
        have hu7 : Upd [] [] w6 (w6.alloc (.cells #[.int .i64 q3, .slice ao3 m cap3] 46)) := (Upd.refl _ _).alloc _
        have S7 := Lib.hid (S5.out.upd (hq.trans hu7))
        have HIN7 := Lib.hid (HIN6.out.upd hu7)
        have HIN5' := Lib.hid (HIN5.out.upd (hq.trans hu7))
        have u7 := u5.trans (hq.trans hu7)
        obtain ⟨w7, hw7⟩ : ∃ w7, w6.alloc (.cells #[.int .i64 q3, .slice ao3 m cap3] 46) = w7 := ⟨_, rfl⟩
        rw [hw7] at z7 hu7 S7 HIN7 HIN5' u7
        obtain ⟨G, hG⟩ : ∃ G, G = w6.heap.size := ⟨_, rfl⟩
        rw [← hG] at z7
        have Z7 := Lib.hid z7
        have HW7 := Lib.hid hw7
        have HG := Lib.hid hG
        have HRT := Lib.hid (rbatchText_any q3 rs ao2 cap2 w7 iq3 (by have := HRL.out; have := HJ4.out; omega) (by rw [← HM.out]; exact hcap2) HIN5'.out)
        rw [← HM.out] at HRT
        obtain ⟨c0, c1, c2⟩ := S7.out.cells
        have g0 : w7.cell? ⟨G, 0, none⟩ = some (.int .i64 q3) := by rw [cell_of_row _ _ _ _ _ _ Z7.out]; rfl
        have g1 : w7.cell? ⟨G, 1, none⟩ = some (.slice ao3 m cap3) := by rw [cell_of_row _ _ _ _ _ _ Z7.out]; rfl
        clear hw7 hG z7 hq hin3 HIN6 HIN5 S5 hu7
        go_upto_region 10 with (fail)
        rw [← HG.out, HW7.out]
        clear HW7 HG
        go_wp2_with fail
        refine HRT.out.mono ?_
        rintro e w8 ⟨s2, HS2, hs2, rfl, hq⟩
        have hbe : (s.toList == s2.toList) = true := beq_str (by rw [HSB.out, HS2.out])
        have S8 := Lib.hid (S7.out.upd hq)
        have Z8 := Lib.hid (row_updH Z7.out hq)
        have HSM := Lib.hid (same_any q3 q3 rs rs ao3 ao2 cap3 cap2 w8 (by have := HRL.out; have := HJ4.out; omega) (by have := HRL.out; have := HJ4.out; omega) (HIN7.out.upd hq) (HIN5'.out.upd hq) true ⟨fun _ => ⟨rfl, rfl⟩, fun _ => rfl⟩)
        rw [← HM.out] at HSM
        have u8 := u7.trans hq
        clear c0 c1 c2 g0 g1 hq S7 Z7 HIN7 HIN5' HRT hs2
        obtain ⟨c0, c1, c2⟩ := S8.out.cells
        have g0 : w8.cell? ⟨G, 0, none⟩ = some (.int .i64 q3) := by rw [cell_of_row _ _ _ _ _ _ Z8.out]; rfl
        have g1 : w8.cell? ⟨G, 1, none⟩ = some (.slice ao3 m cap3) := by rw [cell_of_row _ _ _ _ _ _ Z8.out]; rfl
        go_wp2_with fail
        refine HSM.out.mono ?_
        rintro e w9 ⟨rfl, hq⟩
        have u9 := u8.trans hq
        have B9 := Lib.hid (row_updH B1.out (S8.out.up.trans hq))
        have hs0 : ((s.size : Int) == 0) = false := by rw [beq_eq_false_iff_ne]; omega
        clear c0 c1 c2 g0 g1 hq S8 Z8 HSM hbe HS2
        obtain ⟨raw2, hraw2⟩ : ∃ r2 : ByteArray, r2 = raw.extract 0 (min (raw.size : Int) 200).toNat := ⟨_, rfl⟩
        have hr2s : raw2.size ≤ 200 := by rw [hraw2, ByteArray.size_extract]; omega
        have hraw2' := hraw2.symm
        have k0 : w9.cell? ⟨w.heap.size, 0, none⟩ = some (.int .i64 q0) := by rw [cell_of_row _ _ _ _ _ _ B9.out]; rfl
        clear hraw2
        go_wp2_with fail
        have hsi : (s.size : Int) ≤ 4611686018427387904 := by omega
        refine (mod_any q0 (s.size : Int) w9 ⟨by omega, hsi⟩).mono ?_
        rintro e w8 ⟨at0, HA, hat, rfl, rfl⟩
        have B9o := Lib.hid B9.out
        have u9o := u9
        clear hraw2' k0 hraw hs0 B9 u9
        go_upto_region 14 with (fail)
        obtain ⟨b, hb⟩ := byte_wrap q2
        obtain ⟨r2, hr2⟩ : ∃ r2 : Nat, (r2 : Int) = q1 % 2 := ⟨(q1 % 2).toNat, by omega⟩
        obtain ⟨at2, hat2⟩ : ∃ at2 : Nat, at2 = at0 + r2 := ⟨_, rfl⟩
        have hr2b : r2 ≤ 1 := by omega
        have hw2 : IntKind.i64.wrap ((at0 : Int) + (r2 : Int)) = (at2 : Int) := by rw [IntWalk.i64_in _ (by omega)]; omega
        obtain ⟨L, hL⟩ : ∃ L : ByteArray, L = s.extract 0 at0 := ⟨_, rfl⟩
        obtain ⟨T, hT⟩ : ∃ T : ByteArray, T = s.extract at2 s.size := ⟨_, rfl⟩
        obtain ⟨z, hz⟩ : ∃ z : ByteArray, z = ⟨#[b]⟩ := ⟨_, rfl⟩
        have hLs : L.size ≤ 2200 := by rw [hL, ByteArray.size_extract]; omega
        have hTs : T.size ≤ 2200 := by rw [hT, ByteArray.size_extract]; omega
        have hzs : z.size = 1 := by rw [hz]; rfl
        have hL' := hL.symm
        have HLE := Lib.hid hL
        have hT' := hT.symm
        have i0 : (0 : Int) ≤ (at0 : Int) := by omega
        have i1 : (at0 : Int) ≤ (s.size : Int) := by omega
        have i2 : (0 : Int) ≤ (at2 : Int) := by omega
        have i3 : (at2 : Int) ≤ (s.size : Int) := by omega
        have s1 : ¬ 9223372036854775807 < L.size + 1 := by omega
        have s2 : ¬ 9223372036854775807 < L.size + 1 + T.size := by omega
        have HCV : Hid ((convert 40 9 (.slice (some ⟨w8.heap.size, 0, none⟩) 1 1)).run Tryz.prog (w8.alloc (.cells #[.int .u8 (b.toNat : Int)] 5)).drew = .ok (.string z) (w8.alloc (.cells #[.int .u8 (b.toNat : Int)] 5)).drew) := by
          have h := byte_strAt (w8.alloc (.cells #[.int .u8 (b.toNat : Int)] 5)).drew w8.heap.size b (heap_alloc_new w8 _)
          rw [← hz] at h
          exact h
        have HM := Lib.hid (fun W => mod_is q1 2 r2 W (by omega) hr2)
        have B8 := Lib.hid (row_updH B9o.out (Upd.refl [] w8).drew)
        have HK : Hid (∀ W : World, W.heap[w.heap.size]? = some (.cells #[.int .i64 q0, .int .i64 q1, .int .i64 q2, .int .i64 q3] 22 (0, 0)) → W.cell? ⟨w.heap.size, 1, none⟩ = some (.int .i64 q1) ∧ W.cell? ⟨w.heap.size, 2, none⟩ = some (.int .i64 q2)) := by
          intro W h
          exact ⟨by rw [cell_of_row _ _ _ _ _ _ h]; rfl, by rw [cell_of_row _ _ _ _ _ _ h]; rfl⟩
        have B9 := Lib.hid (row_updH B9o.out ((Upd.refl [] w8).alloc (.cells #[.int .u8 (b.toNat : Int)] 5)).drew)
        have HAT := Lib.hid hat
        clear hL hT hz hr2 hat2 HA hat
        refine @id ((?pj27 : Prop) → _) (fun hJ => ?mj27) ?jj27
        case mj27 =>
          refine wp_region_noPanic ?_
          refine wp_region_held_drew (S := fun wp => wp.cell? ⟨w.heap.size, 1, none⟩ = some (.int .i64 q1) ∧ wp.cell? ⟨w.heap.size, 2, none⟩ = some (.int .i64 q2)) (by kernel_rfl) ?_ (fun hHeld => ?_)
          · exact HK.out _ B8.out
          refine wpAnyH_take (i := 0) (v := ?v28) (by simp only [List.getElem?_toArray, List.getElem?_cons_zero] <;> rfl) (by kernel_rfl) (by kernel_rfl) (by kernel_rfl) (fun _ _ _ h => h) (Or.inl ⟨by rfl, ?y28⟩) hHeld ?r28
          case y28 => (intro w hSw; (try dsimp only at hSw); go_simp; first | done | with_reducible rfl | rfl)
          try simp only [Act.put, List.setIfInBounds_toArray, List.set_cons_zero, List.set_cons_succ]
          refine wpAnyH_take (i := 1) (v := ?v29) (by simp only [List.getElem?_toArray, List.getElem?_cons_succ, List.getElem?_cons_zero] <;> rfl) (by kernel_rfl) (by kernel_rfl) (by kernel_rfl) (fun _ _ _ h => h) (Or.inl ⟨by rfl, ?y29⟩) hHeld ?r29
          case y29 => (intro w hSw; (try dsimp only at hSw); go_simp; first | done | with_reducible rfl | rfl)
          try simp only [Act.put, List.setIfInBounds_toArray, List.set_cons_zero, List.set_cons_succ]
          refine wpAnyH_take (i := 2) (v := ?v30) (by simp only [List.getElem?_toArray, List.getElem?_cons_succ, List.getElem?_cons_zero] <;> rfl) (by kernel_rfl) (by kernel_rfl) (by kernel_rfl) (fun _ _ _ h => h) (Or.inl ⟨by rfl, ?y30⟩) hHeld ?r30
          case y30 => (intro w hSw; (try dsimp only at hSw); go_simp; first | done | with_reducible rfl | rfl)
          try simp only [Act.put, List.setIfInBounds_toArray, List.set_cons_zero, List.set_cons_succ]
          refine wpAnyH_take (i := 3) (v := ?v31) (by simp only [List.getElem?_toArray, List.getElem?_cons_succ, List.getElem?_cons_zero] <;> rfl) (by kernel_rfl) (by kernel_rfl) (by kernel_rfl) (fun _ _ _ h => h) (Or.inl ⟨by rfl, ?y31⟩) hHeld ?r31
          case y31 => (intro w hSw; (try dsimp only at hSw); go_simp; first | done | with_reducible rfl | rfl)
          try simp only [Act.put, List.setIfInBounds_toArray, List.set_cons_zero, List.set_cons_succ]
          refine wpAnyH_take (i := 4) (v := ?v32) (by simp only [List.getElem?_toArray, List.getElem?_cons_succ, List.getElem?_cons_zero] <;> rfl) (by kernel_rfl) (by kernel_rfl) (by kernel_rfl) (fun _ _ _ h => h) (Or.inl ⟨by rfl, ?y32⟩) hHeld ?r32
          case y32 => (intro w hSw; (try dsimp only at hSw); go_simp; first | done | with_reducible rfl | rfl)
          try simp only [Act.put, List.setIfInBounds_toArray, List.set_cons_zero, List.set_cons_succ]
          refine wpAnyH_take (i := 5) (v := ?v33) (by simp only [List.getElem?_toArray, List.getElem?_cons_succ, List.getElem?_cons_zero] <;> rfl) (by kernel_rfl) (by kernel_rfl) (by kernel_rfl) (fun _ _ _ h => h) (Or.inl ⟨by rfl, ?y33⟩) hHeld ?r33
          case y33 => (intro w hSw; (try dsimp only at hSw); go_simp; first | done | with_reducible rfl | rfl)
          try simp only [Act.put, List.setIfInBounds_toArray, List.set_cons_zero, List.set_cons_succ]
          refine wpAnyH_take (i := 9) (v := ?v34) (by simp only [List.getElem?_toArray, List.getElem?_cons_succ, List.getElem?_cons_zero] <;> rfl) (by kernel_rfl) (by kernel_rfl) (by kernel_rfl) (fun _ _ _ h => h) (Or.inl ⟨by rfl, ?y34⟩) hHeld ?r34
          case y34 => (intro w hSw; (try dsimp only at hSw); go_simp; first | done | with_reducible rfl | rfl)
          try simp only [Act.put, List.setIfInBounds_toArray, List.set_cons_zero, List.set_cons_succ]
          refine wpAnyH_take (i := 10) (v := ?v35) (by simp only [List.getElem?_toArray, List.getElem?_cons_succ, List.getElem?_cons_zero] <;> rfl) (by kernel_rfl) (by kernel_rfl) (by kernel_rfl) (fun _ _ _ h => h) (Or.inl ⟨by rfl, ?y35⟩) hHeld ?r35
          case y35 => (intro w hSw; (try dsimp only at hSw); go_simp; first | done | with_reducible rfl | rfl)
          try simp only [Act.put, List.setIfInBounds_toArray, List.set_cons_zero, List.set_cons_succ]
          refine wpAnyH_take (i := 11) (v := ?v36) (by simp only [List.getElem?_toArray, List.getElem?_cons_succ, List.getElem?_cons_zero] <;> rfl) (by kernel_rfl) (by kernel_rfl) (by kernel_rfl) (fun _ _ _ h => h) (Or.inl ⟨by rfl, ?y36⟩) hHeld ?r36
          case y36 => (intro w hSw; (try dsimp only at hSw); go_simp; first | done | with_reducible rfl | rfl)
          try simp only [Act.put, List.setIfInBounds_toArray, List.set_cons_zero, List.set_cons_succ]
          refine wpAnyH_take (i := 12) (v := ?v37) (by simp only [List.getElem?_toArray, List.getElem?_cons_succ, List.getElem?_cons_zero] <;> rfl) (by kernel_rfl) (by kernel_rfl) (by kernel_rfl) (fun _ _ _ h => h) (Or.inl ⟨by rfl, ?y37⟩) hHeld ?r37
          case y37 => (intro w hSw; (try dsimp only at hSw); go_simp; first | done | with_reducible rfl | rfl)
          try simp only [Act.put, List.setIfInBounds_toArray, List.set_cons_zero, List.set_cons_succ]
          refine wpAnyH_ready (rs := [6, 13]) (by kernel_rfl) (by simp) ?_
          refine AllReadyH.cons (by simp only [List.getElem?_toArray, List.getElem?_cons_succ, List.getElem?_cons_zero] <;> rfl) (fun K hK => ?_) ?_
          · go_simp
            refine hK.out _ _ ?_ (fun hHeld => ?_)
            · exact HK.out _ B9.out
            clear hK K
            try simp only [Act.put, List.setIfInBounds_toArray, List.set_cons_zero, List.set_cons_succ]
            refine wpAnyH_ready (rs := [7, 13]) (by kernel_rfl) (by simp) ?_
            refine AllReadyH.cons (by simp only [List.getElem?_toArray, List.getElem?_cons_succ, List.getElem?_cons_zero] <;> rfl) (fun K hK => ?_) ?_
            · have hcv := HCV.out; go_simp
              refine hK.out _ _ ?_ (fun hHeld => ?_)
              · exact HK.out _ B9.out
              clear hK K
              try simp only [Act.put, List.setIfInBounds_toArray, List.set_cons_zero, List.set_cons_succ]
              refine wpAnyH_take (i := 8) (v := ?v38) (by simp only [List.getElem?_toArray, List.getElem?_cons_succ, List.getElem?_cons_zero] <;> rfl) (by kernel_rfl) (by kernel_rfl) (by kernel_rfl) (fun _ _ _ h => h) (Or.inl ⟨by rfl, ?y38⟩) hHeld ?r38
              case y38 => (intro w hSw; (try dsimp only at hSw); go_simp; first | done | with_reducible rfl | rfl)
              try simp only [Act.put, List.setIfInBounds_toArray, List.set_cons_zero, List.set_cons_succ]
              refine wpAnyH_ready (rs := [13]) (by kernel_rfl) (by simp) ?_
              refine AllReadyH.cons (by simp only [List.getElem?_toArray, List.getElem?_cons_succ, List.getElem?_cons_zero] <;> rfl) (fun K hK => ?_) ?_
              · go_simp; refine (HM.out _).mono ?_; rintro e wz ⟨rfl, rfl⟩; go_wp2_with fail
                refine hK.out _ _ ?_ (fun hHeld => ?_)
                · exact HK.out _ B9.out
                clear hK K
                try simp only [Act.put, List.setIfInBounds_toArray, List.set_cons_zero, List.set_cons_succ]
                refine wpAnyH_take (i := 14) (v := ?v39) (by simp only [List.getElem?_toArray, List.getElem?_cons_succ, List.getElem?_cons_zero] <;> rfl) (by kernel_rfl) (by kernel_rfl) (by kernel_rfl) (fun _ _ _ h => h) (Or.inl ⟨by rfl, ?y39⟩) hHeld ?r39
                case y39 => (intro w hSw; (try dsimp only at hSw); go_simp; first | done | with_reducible rfl | rfl)
                try simp only [Act.put, List.setIfInBounds_toArray, List.set_cons_zero, List.set_cons_succ]
                refine wpAnyH_take (i := 15) (v := ?v40) (by simp only [List.getElem?_toArray, List.getElem?_cons_succ, List.getElem?_cons_zero] <;> rfl) (by kernel_rfl) (by kernel_rfl) (by kernel_rfl) (fun _ _ _ h => h) (Or.inl ⟨by rfl, ?y40⟩) hHeld ?r40
                case y40 => (intro w hSw; (try dsimp only at hSw); go_simp; first | done | with_reducible rfl | rfl)
                try simp only [Act.put, List.setIfInBounds_toArray, List.set_cons_zero, List.set_cons_succ]
                refine wpAnyH_take (i := 16) (v := ?v41) (by simp only [List.getElem?_toArray, List.getElem?_cons_succ, List.getElem?_cons_zero] <;> rfl) (by kernel_rfl) (by kernel_rfl) (by kernel_rfl) (fun _ _ _ h => h) (Or.inl ⟨by rfl, ?y41⟩) hHeld ?r41
                case y41 => (intro w hSw; (try dsimp only at hSw); go_simp; first | done | with_reducible rfl | rfl)
                try simp only [Act.put, List.setIfInBounds_toArray, List.set_cons_zero, List.set_cons_succ]
                refine wpAnyH_take (i := 17) (v := ?v42) (by simp only [List.getElem?_toArray, List.getElem?_cons_succ, List.getElem?_cons_zero] <;> rfl) (by kernel_rfl) (by kernel_rfl) (by kernel_rfl) (fun _ _ _ h => h) (Or.inl ⟨by rfl, ?y42⟩) hHeld ?r42
                case y42 => (intro w hSw; (try dsimp only at hSw); go_simp; first | done | with_reducible rfl | rfl)
                try simp only [Act.put, List.setIfInBounds_toArray, List.set_cons_zero, List.set_cons_succ]
                refine wpAnyH_done (by kernel_rfl) ?_ _
                refine NoPanic.normal ?_
                exact hJ
              exact AllReadyH.nil
            refine AllReadyH.cons (by simp only [List.getElem?_toArray, List.getElem?_cons_succ, List.getElem?_cons_zero] <;> rfl) (fun K hK => ?_) ?_
            · go_simp; refine (HM.out _).mono ?_; rintro e wz ⟨rfl, rfl⟩; go_wp2_with fail
              refine hK.out _ _ ?_ (fun hHeld => ?_)
              · exact HK.out _ B9.out
              clear hK K
              try simp only [Act.put, List.setIfInBounds_toArray, List.set_cons_zero, List.set_cons_succ]
              refine wpAnyH_take (i := 14) (v := ?v43) (by simp only [List.getElem?_toArray, List.getElem?_cons_succ, List.getElem?_cons_zero] <;> rfl) (by kernel_rfl) (by kernel_rfl) (by kernel_rfl) (fun _ _ _ h => h) (Or.inl ⟨by rfl, ?y43⟩) hHeld ?r43
              case y43 => (intro w hSw; (try dsimp only at hSw); go_simp; first | done | with_reducible rfl | rfl)
              try simp only [Act.put, List.setIfInBounds_toArray, List.set_cons_zero, List.set_cons_succ]
              refine wpAnyH_take (i := 15) (v := ?v44) (by simp only [List.getElem?_toArray, List.getElem?_cons_succ, List.getElem?_cons_zero] <;> rfl) (by kernel_rfl) (by kernel_rfl) (by kernel_rfl) (fun _ _ _ h => h) (Or.inl ⟨by rfl, ?y44⟩) hHeld ?r44
              case y44 => (intro w hSw; (try dsimp only at hSw); go_simp; first | done | with_reducible rfl | rfl)
              try simp only [Act.put, List.setIfInBounds_toArray, List.set_cons_zero, List.set_cons_succ]
              refine wpAnyH_ready (rs := [7]) (by kernel_rfl) (by simp) ?_
              refine AllReadyH.cons (by simp only [List.getElem?_toArray, List.getElem?_cons_succ, List.getElem?_cons_zero] <;> rfl) (fun K hK => ?_) ?_
              · have hcv := HCV.out; go_simp
                refine hK.out _ _ ?_ (fun hHeld => ?_)
                · exact HK.out _ B9.out
                clear hK K
                try simp only [Act.put, List.setIfInBounds_toArray, List.set_cons_zero, List.set_cons_succ]
                refine wpAnyH_take (i := 8) (v := ?v45) (by simp only [List.getElem?_toArray, List.getElem?_cons_succ, List.getElem?_cons_zero] <;> rfl) (by kernel_rfl) (by kernel_rfl) (by kernel_rfl) (fun _ _ _ h => h) (Or.inl ⟨by rfl, ?y45⟩) hHeld ?r45
                case y45 => (intro w hSw; (try dsimp only at hSw); go_simp; first | done | with_reducible rfl | rfl)
                try simp only [Act.put, List.setIfInBounds_toArray, List.set_cons_zero, List.set_cons_succ]
                refine wpAnyH_take (i := 16) (v := ?v46) (by simp only [List.getElem?_toArray, List.getElem?_cons_succ, List.getElem?_cons_zero] <;> rfl) (by kernel_rfl) (by kernel_rfl) (by kernel_rfl) (fun _ _ _ h => h) (Or.inl ⟨by rfl, ?y46⟩) hHeld ?r46
                case y46 => (intro w hSw; (try dsimp only at hSw); go_simp; first | done | with_reducible rfl | rfl)
                try simp only [Act.put, List.setIfInBounds_toArray, List.set_cons_zero, List.set_cons_succ]
                refine wpAnyH_take (i := 17) (v := ?v47) (by simp only [List.getElem?_toArray, List.getElem?_cons_succ, List.getElem?_cons_zero] <;> rfl) (by kernel_rfl) (by kernel_rfl) (by kernel_rfl) (fun _ _ _ h => h) (Or.inl ⟨by rfl, ?y47⟩) hHeld ?r47
                case y47 => (intro w hSw; (try dsimp only at hSw); go_simp; first | done | with_reducible rfl | rfl)
                try simp only [Act.put, List.setIfInBounds_toArray, List.set_cons_zero, List.set_cons_succ]
                refine wpAnyH_done (by kernel_rfl) ?_ _
                refine NoPanic.normal ?_
                exact hJ
              exact AllReadyH.nil
            exact AllReadyH.nil
          refine AllReadyH.cons (by simp only [List.getElem?_toArray, List.getElem?_cons_succ, List.getElem?_cons_zero] <;> rfl) (fun K hK => ?_) ?_
          · go_simp; refine (HM.out _).mono ?_; rintro e wz ⟨rfl, rfl⟩; go_wp2_with fail
            refine hK.out _ _ ?_ (fun hHeld => ?_)
            · exact HK.out _ B8.out
            clear hK K
            try simp only [Act.put, List.setIfInBounds_toArray, List.set_cons_zero, List.set_cons_succ]
            refine wpAnyH_take (i := 14) (v := ?v48) (by simp only [List.getElem?_toArray, List.getElem?_cons_succ, List.getElem?_cons_zero] <;> rfl) (by kernel_rfl) (by kernel_rfl) (by kernel_rfl) (fun _ _ _ h => h) (Or.inl ⟨by rfl, ?y48⟩) hHeld ?r48
            case y48 => (intro w hSw; (try dsimp only at hSw); go_simp; first | done | with_reducible rfl | rfl)
            try simp only [Act.put, List.setIfInBounds_toArray, List.set_cons_zero, List.set_cons_succ]
            refine wpAnyH_take (i := 15) (v := ?v49) (by simp only [List.getElem?_toArray, List.getElem?_cons_succ, List.getElem?_cons_zero] <;> rfl) (by kernel_rfl) (by kernel_rfl) (by kernel_rfl) (fun _ _ _ h => h) (Or.inl ⟨by rfl, ?y49⟩) hHeld ?r49
            case y49 => (intro w hSw; (try dsimp only at hSw); go_simp; first | done | with_reducible rfl | rfl)
            try simp only [Act.put, List.setIfInBounds_toArray, List.set_cons_zero, List.set_cons_succ]
            refine wpAnyH_ready (rs := [6]) (by kernel_rfl) (by simp) ?_
            refine AllReadyH.cons (by simp only [List.getElem?_toArray, List.getElem?_cons_succ, List.getElem?_cons_zero] <;> rfl) (fun K hK => ?_) ?_
            · go_simp
              refine hK.out _ _ ?_ (fun hHeld => ?_)
              · exact HK.out _ B9.out
              clear hK K
              try simp only [Act.put, List.setIfInBounds_toArray, List.set_cons_zero, List.set_cons_succ]
              refine wpAnyH_ready (rs := [7]) (by kernel_rfl) (by simp) ?_
              refine AllReadyH.cons (by simp only [List.getElem?_toArray, List.getElem?_cons_succ, List.getElem?_cons_zero] <;> rfl) (fun K hK => ?_) ?_
              · have hcv := HCV.out; go_simp
                refine hK.out _ _ ?_ (fun hHeld => ?_)
                · exact HK.out _ B9.out
                clear hK K
                try simp only [Act.put, List.setIfInBounds_toArray, List.set_cons_zero, List.set_cons_succ]
                refine wpAnyH_take (i := 8) (v := ?v50) (by simp only [List.getElem?_toArray, List.getElem?_cons_succ, List.getElem?_cons_zero] <;> rfl) (by kernel_rfl) (by kernel_rfl) (by kernel_rfl) (fun _ _ _ h => h) (Or.inl ⟨by rfl, ?y50⟩) hHeld ?r50
                case y50 => (intro w hSw; (try dsimp only at hSw); go_simp; first | done | with_reducible rfl | rfl)
                try simp only [Act.put, List.setIfInBounds_toArray, List.set_cons_zero, List.set_cons_succ]
                refine wpAnyH_take (i := 16) (v := ?v51) (by simp only [List.getElem?_toArray, List.getElem?_cons_succ, List.getElem?_cons_zero] <;> rfl) (by kernel_rfl) (by kernel_rfl) (by kernel_rfl) (fun _ _ _ h => h) (Or.inl ⟨by rfl, ?y51⟩) hHeld ?r51
                case y51 => (intro w hSw; (try dsimp only at hSw); go_simp; first | done | with_reducible rfl | rfl)
                try simp only [Act.put, List.setIfInBounds_toArray, List.set_cons_zero, List.set_cons_succ]
                refine wpAnyH_take (i := 17) (v := ?v52) (by simp only [List.getElem?_toArray, List.getElem?_cons_succ, List.getElem?_cons_zero] <;> rfl) (by kernel_rfl) (by kernel_rfl) (by kernel_rfl) (fun _ _ _ h => h) (Or.inl ⟨by rfl, ?y52⟩) hHeld ?r52
                case y52 => (intro w hSw; (try dsimp only at hSw); go_simp; first | done | with_reducible rfl | rfl)
                try simp only [Act.put, List.setIfInBounds_toArray, List.set_cons_zero, List.set_cons_succ]
                refine wpAnyH_done (by kernel_rfl) ?_ _
                refine NoPanic.normal ?_
                exact hJ
              exact AllReadyH.nil
            exact AllReadyH.nil
          exact AllReadyH.nil
        have hu9 : Upd [] [] w8 (w8.alloc (.cells #[.int .u8 (b.toNat : Int)] 5)).drew := ((Upd.refl [] _).alloc _).drew
        have u9 := u9o.trans hu9
        clear HCV HM B8 HK B9 hL' hT' i0 i1 i2 i3 s1 s2 hw2 B9o
        obtain ⟨w9, hw9⟩ : ∃ w9, (w8.alloc (.cells #[.int .u8 (b.toNat : Int)] 5)).drew = w9 := ⟨_, rfl⟩
        rw [hw9] at hu9 u9 ⊢
        clear hw9 hb
        obtain ⟨bent, hbent⟩ : ∃ bent : ByteArray, bent = L ++ z ++ T := ⟨_, rfl⟩
        have hbs : bent.size ≤ 4401 := by rw [hbent, ByteArray.size_append, ByteArray.size_append]; omega
        rw [← hbent]
        have hq32 : (ByteArray.mk #[32]).size = 1 := rfl
        have hq8 : (ByteArray.mk #[98, 97, 116, 99, 104, 32, 49, 32]).size = 8 := rfl
        obtain ⟨us, hus⟩ : ∃ us : List ByteArray, us = [bent, raw2, s ++ raw2, L, s ++ ByteArray.mk #[32], ByteArray.mk #[98, 97, 116, 99, 104, 32, 49, 32] ++ raw2] := ⟨_, rfl⟩
        have husl : ∀ u ∈ us, u.size ≤ 5000 := by
          intro u hu
          rw [hus] at hu
          simp only [List.mem_cons, List.not_mem_nil, or_false] at hu
          rcases hu with rfl | rfl | rfl | rfl | rfl | rfl
          · omega
          · omega
          · rw [ByteArray.size_append]; omega
          · omega
          · rw [ByteArray.size_append]; omega
          · rw [ByteArray.size_append, hq8]; omega
        have hrow : StrAt (w9.alloc (.cells #[.string bent, .string raw2, .string (s ++ raw2), .string L, .string (s ++ ByteArray.mk #[32]), .string (ByteArray.mk #[98, 97, 116, 99, 104, 32, 49, 32] ++ raw2)] 9)) w9.heap.size us := by
          rw [hus]
          exact heap_alloc_new w9 _
        have hlen : us.length = 6 := by rw [hus]; rfl
        have u10 := u9.alloc (.cells #[.string bent, .string raw2, .string (s ++ raw2), .string L, .string (s ++ ByteArray.mk #[32]), .string (ByteArray.mk #[98, 97, 116, 99, 104, 32, 49, 32] ++ raw2)] 9)
        have s1 : ¬ 9223372036854775807 < s.size + raw2.size := by omega
        have s2 : ¬ 9223372036854775807 < s.size + 1 := by omega
        have s3 : ¬ 9223372036854775807 < 8 + raw2.size := by omega
        have i0 : (0 : Int) ≤ (at0 : Int) := by omega
        have i1 : (at0 : Int) ≤ (s.size : Int) := by have := HAT.out; omega
        have HUSL := Lib.hid husl
        have HROW := Lib.hid hrow
        have HLEN := Lib.hid hlen
        have hL2 : s.extract 0 at0 = L := HLE.out.symm
        clear hus husl hrow hlen hbent hbs
        go_wp2_with fail
        generalize (w9.alloc (.cells #[.string bent, .string raw2, .string (s ++ raw2), .string L, .string (s ++ ByteArray.mk #[32]), .string (ByteArray.mk #[98, 97, 116, 99, 104, 32, 49, 32] ++ raw2)] 9)) = w10 at *
        clear hL2 s1 s2 s3 i0 i1 hu9 u9
        obtain ⟨SB, hSB⟩ : ∃ SB, SB = w9.heap.size := ⟨_, rfl⟩
        rw [← hSB] at HROW ⊢
        clear hSB
        have I10 : Hid (StrAt w10 SB us ∧ Upd [] [] w w10) := ⟨HROW.out, u10⟩
        clear HROW u10
        go_loopw [18, 19, 20, 21, 22, 118] (fun _ _ _ _ _ i wr => ∃ j : Nat, i = .int .i64 (j : Int) ∧ j ≤ 6 ∧ Hid (StrAt wr SB us ∧ Upd [] [] w wr)) (fun _ _ _ _ _ i _ => 6 - (intOf i).toNat)
        case atStart => exact ⟨0, rfl, Nat.zero_le _, I10⟩
        case round =>
          obtain ⟨j2, rfl, hj2, HI⟩ := hrel
          by_cases hlt2 : j2 < 6
          · obtain ⟨u, hu⟩ : ∃ u, us[j2]? = some u := ⟨_, List.getElem?_eq_getElem (by rw [HLEN.out]; exact hlt2)⟩
            have hus : u.size ≤ 5000 := HUSL.out u (List.mem_of_getElem? hu)
            have k0 := HI.out.1.cell hu
            have p0 : (0 : Int) ≤ (j2 : Int) := by omega
            have p1 : (j2 : Int) < 6 := by omega
            clear hu
            go_wp2_with fail
            refine (readBatch22_any u wr (by omega) (htab.upd HI.out.2)).mono ?_
            rintro e wa ⟨kx, lx, vx, p, HX, hox, HOWX, hfx, rfl, hq⟩
            obtain ⟨aox, capx, rfl, hcx, hinx⟩ := rcs_of_row HOWX.out hox
            have zb := heap_alloc_new wa (.cells #[.int .i64 kx, .slice aox lx.length capx] 46)
            have hub : Upd [] [] wa (wa.alloc (.cells #[.int .i64 kx, .slice aox lx.length capx] 46)) := (Upd.refl _ _).alloc _
            have IB : Hid (StrAt (wa.alloc (.cells #[.int .i64 kx, .slice aox lx.length capx] 46)) SB us ∧ Upd [] [] w (wa.alloc (.cells #[.int .i64 kx, .slice aox lx.length capx] 46))) := ⟨HI.out.1.upd (hq.trans hub), HI.out.2.trans (hq.trans hub)⟩
            have HIX := Lib.hid (hinx.upd hub)
            obtain ⟨wb, hwb⟩ : ∃ wb, wa.alloc (.cells #[.int .i64 kx, .slice aox lx.length capx] 46) = wb := ⟨_, rfl⟩
            rw [hwb] at zb IB HIX
            obtain ⟨GA, hGA⟩ : ∃ GA, GA = wa.heap.size := ⟨_, rfl⟩
            rw [← hGA] at zb
            have ZB := Lib.hid zb
            have HWB := Lib.hid hwb
            have HGA := Lib.hid hGA
            clear hq hub hinx hwb hGA zb HI k0 HOWX
            go_upto_region 19 with (fail)
            rw [← HGA.out, HWB.out]
            clear HWB HGA
            go_wp2_with fail
            refine (rreadBatch22_any u wb (by omega)).mono ?_
            rintro e wc ⟨ky, ly, vy, p2, HY, hoy, HOWY, hfy, rfl, hq⟩
            obtain ⟨e1, e2, e3⟩ := btOk_unique (by rw [bs_length]; omega) HX.out HY.out
            subst ky ly p2
            obtain ⟨aoy, capy, rfl, hcy, hiny⟩ := rcs_of_row HOWY.out hoy
            have zd := heap_alloc_new wc (.cells #[.int .i64 kx, .slice aoy lx.length capy] 46)
            have hud : Upd [] [] wc (wc.alloc (.cells #[.int .i64 kx, .slice aoy lx.length capy] 46)) := (Upd.refl _ _).alloc _
            have ID : Hid (StrAt (wc.alloc (.cells #[.int .i64 kx, .slice aoy lx.length capy] 46)) SB us ∧ Upd [] [] w (wc.alloc (.cells #[.int .i64 kx, .slice aoy lx.length capy] 46))) := ⟨IB.out.1.upd (hq.trans hud), IB.out.2.trans (hq.trans hud)⟩
            have HIY := Lib.hid (hiny.upd hud)
            have HIX2 := Lib.hid (HIX.out.upd (hq.trans hud))
            have za := row_updH ZB.out (hq.trans hud)
            obtain ⟨wd, hwd⟩ : ∃ wd, wc.alloc (.cells #[.int .i64 kx, .slice aoy lx.length capy] 46) = wd := ⟨_, rfl⟩
            rw [hwd] at zd ID HIY HIX2 za
            obtain ⟨GB, hGB⟩ : ∃ GB, GB = wc.heap.size := ⟨_, rfl⟩
            rw [← hGB] at zd
            have ZD := Lib.hid zd
            have ZA := Lib.hid za
            have HWD := Lib.hid hwd
            have HGB := Lib.hid hGB
            have hlx := btOk_len HX.out hus
            have HSM := Lib.hid (same_any kx kx lx lx aox aoy capx capy wd hlx hlx HIX2.out HIY.out true ⟨fun _ => ⟨rfl, rfl⟩, fun _ => rfl⟩)
            have g0 : wd.cell? ⟨GA, 0, none⟩ = some (.int .i64 kx) := by rw [cell_of_row _ _ _ _ _ _ ZA.out]; rfl
            have g1 : wd.cell? ⟨GA, 1, none⟩ = some (.slice aox lx.length capx) := by rw [cell_of_row _ _ _ _ _ _ ZA.out]; rfl
            have g2 : wd.cell? ⟨GB, 0, none⟩ = some (.int .i64 kx) := by rw [cell_of_row _ _ _ _ _ _ ZD.out]; rfl
            have g3 : wd.cell? ⟨GB, 1, none⟩ = some (.slice aoy lx.length capy) := by rw [cell_of_row _ _ _ _ _ _ ZD.out]; rfl
            clear hq hud hiny hwd hGB zd za IB HOWY HX HY ZB HIX HIY HIX2 hlx
            go_upto_region 20 with (fail)
            rw [← HGB.out, HWD.out]
            clear HWD HGB
            cases p
            all_goals
              go_wp2_with fail
              refine HSM.out.mono ?_
              rintro e we ⟨rfl, hq⟩
              have IE : Hid (StrAt we SB us ∧ Upd [] [] w we) := ⟨ID.out.1.upd hq, ID.out.2.trans hq⟩
              clear hq g0 g1 g2 g3
              go_wp2_with fail
              exact ⟨⟨j2 + 1, by go_num, by omega, IE⟩, by simp [intOf]; omega⟩
          · obtain rfl : j2 = 6 := by omega
            clear hlt2 hj2
            go_wp2_with fail
            go_ret
            exact ⟨rfl, HI.out.2⟩
end Go.Proofs.YtmnmhhbldbdpfaaGreatDoor
