/- sortesref22.Read: the walk. -/
import Derived.Test.YtmnmhhbldbdpfaaGreatDoorXECuD
import Derived.Test.YtmnmhhbldbdpfaaGreatDoorXLawP1
namespace Go.Proofs.YtmnmhhbldbdpfaaGreatDoor
open Go.RowKit
set_option maxRecDepth 100000

set_option maxHeartbeats 4000000 in
theorem rread22_any (s : ByteArray) (w : World) (hs : s.size ≤ 1000000000) : Calls Tryz.prog 16 #[.string s] w (MkRc (bs s) w) := by
  have hz : Tryz.zeroCells33 = (rcV Rc.zero).toArray := rfl
  have z0 : RcAt ((w.alloc (.cells Tryz.zeroCells33 33)).alloc (.cells #[.string s, .int .i64 0, .bool false] 92)) w.heap.size Rc.zero := by
    rw [hz]
    exact row_updH (heap_alloc_new w _) ((Upd.refl [] _).alloc _)
  have d0 : CuAt ((w.alloc (.cells Tryz.zeroCells33 33)).alloc (.cells #[.string s, .int .i64 0, .bool false] 92)) (w.heap.size + 1) s 0 false := by
    have h := heap_alloc_new (w.alloc (.cells Tryz.zeroCells33 33)) (.cells #[.string s, .int .i64 0, .bool false] 92)
    rw [World.size_alloc] at h
    exact h
  have u0 : Upd [] [] w ((w.alloc (.cells Tryz.zeroCells33 33)).alloc (.cells #[.string s, .int .i64 0, .bool false] 92)) := ((Upd.refl _ _).alloc _).alloc _
  have g0 : w.heap.size ≤ w.heap.size + 1 := by omega
  clear hz
  go_enter Tryz.func16, Tryz.ntmps16
  go_wp2_with fail
  refine (cuUntil_any (w.heap.size + 1) s 0 false 32 _ d0 (Nat.zero_le _) (by omega)).mono ?_
  rintro e w1 ⟨l1, a1, b1, H1, _, ha1, hl1, rfl, D1, hu⟩
  have z1 := row_updG z0 hu (by omega)
  have u1 := u0.own2 hu g0
  clear hu z0 u0 d0
  go_wp2_with fail
  refine (rread5_any l1 w1 (by omega)).mono ?_
  rintro e w2 ⟨ra, rb, ok1, HV, ira, irb, rfl, hq⟩
  have z2 := row_updH z1 hq
  have u2 := u1.trans hq
  have D2 := D1.out.upd hq
  have hgs : w.heap.size + 1 < w2.heap.size := (Array.getElem?_eq_some_iff.1 D2).1
  have S3 := SigAt.start w2 ra rb
  have z3 := Lib.hid (row_updH z2 S3.up)
  have u3 := u2.trans S3.up
  have D3 := D2.upd S3.up
  clear hq z1 u1 D1 z2 D2 u2
  go_wp2_with fail
  refine (cuUntil_any (w.heap.size + 1) s a1 b1 32 _ D3 ha1 (by omega)).mono ?_
  rintro e w4 ⟨l2, a2, b2, H2, _, ha2, hl2, rfl, D4, hu⟩
  have Z4 : Hid (RcAt w4 w.heap.size Rc.zero) := row_updG z3.out hu (by omega)
  have SG4 : Hid (w4.heap[w2.heap.size]? = some (.cells #[.int .i64 ra, .int .i64 rb] 31 (0, 0))) := row_updG S3.row hu (by omega)
  have U4 := Lib.hid (u3.own2 hu g0)
  have HZL := Lib.hid (rcSz Rc.zero_ok)
  clear z3 u3 D3
  have FALS : Hid (¬ (ok1 = true ∧ bs l2 = wRc) → rcOk (bs s) Rc.zero false) := fun hn => ⟨Rc.zero_ok, (fun h => by cases h), fun _ => ⟨rfl, fun y hy e => by
    obtain ⟨q1, q2, _⟩ := chainA H1.out HV.out H2.out hy e
    exact hn ⟨q1, q2⟩⟩⟩
  cases ok1 with
  | false =>
    have HB := Lib.hid (FALS.out (fun h => by cases h.1))
    go_wp2_with (first | (refine wpList_store_row rfl 33 _ _ rfl w.heap.size (rcV Rc.zero).toArray rfl rfl _ _ Z4.out HZL.out rfl (rcOne _) ?_))
    refine bodyPost_ret (results_row_tmp rfl _ _ w.heap.size _ (rcV Rc.zero).toArray _ _ rfl (Z4.out.setRow Rc.zero) Tryz.underlying33 rfl HZL.out) rfl ⟨Rc.zero, false, HB.out, rfl, U4.out.setRowNew (Nat.le_refl _) _⟩
  | true =>
    have hrw : bs (ByteArray.mk #[114, 101, 99, 101, 105, 112, 116]) = wRc := rfl
    by_cases hl : l2 = ByteArray.mk #[114, 101, 99, 101, 105, 112, 116]
    case neg =>
      have HB := Lib.hid (FALS.out (fun h => hl (bs_injE (h.2.trans hrw.symm))))
      have hb4 : (l2.toList == [114, 101, 99, 101, 105, 112, 116]) = false := by
        rw [beq_eq_false_iff_ne]
        intro e
        exact hl (bs_injE (by rw [ByteArray.toList_eq] at e; exact e))
      clear hl
      go_wp2_with (first | (refine wpList_store_row rfl 33 _ _ rfl w.heap.size (rcV Rc.zero).toArray rfl rfl _ _ Z4.out HZL.out rfl (rcOne _) ?_))
      refine bodyPost_ret (results_row_tmp rfl _ _ w.heap.size _ (rcV Rc.zero).toArray _ _ rfl (Z4.out.setRow Rc.zero) Tryz.underlying33 rfl HZL.out) rfl ⟨Rc.zero, false, HB.out, rfl, U4.out.setRowNew (Nat.le_refl _) _⟩
    case pos =>
      subst hl
      have k0 : w4.cell? ⟨w2.heap.size, 0, none⟩ = some (.int .i64 ra) := by rw [cell_of_row _ _ _ _ _ _ SG4.out]; rfl
      have k1 : w4.cell? ⟨w2.heap.size, 1, none⟩ = some (.int .i64 rb) := by rw [cell_of_row _ _ _ _ _ _ SG4.out]; rfl
      have HBD := Lib.hid (built_sig ra rb)
      have hx0 : ({ Rc.zero with r := ra, s := rb } : Rc).ok := ⟨Rc.zero_ok.1, Rc.zero_ok.2.1, Rc.zero_ok.2.2.1, Rc.zero_ok.2.2.2.1, Rc.zero_ok.2.2.2.2.1, Rc.zero_ok.2.2.2.2.2.1, ira, irb⟩
      obtain ⟨C, w5, HC, HZ5, HCI, HCZ, HCO, HW5, R5, hq5⟩ := rc_new w4 _ hx0
      rw [← HC.out] at HBD
      have hB4 : w.heap.size + 1 < w4.heap.size := (Array.getElem?_eq_some_iff.1 D4.out).1
      have S5 : CuSt w w5 s a2 b2 w4.heap.size { Rc.zero with r := ra, s := rb } := ⟨Z4.out.upd hq5, D4.out.upd hq5, R5.out, hB4, U4.out.trans hq5, hx0⟩
      have S5H := Lib.hid S5
      clear hq5 S5 R5 SG4
      go_wp2_with (first | (refine wpList_buildTo rfl 33 _ rfl _ rfl C (Eq.trans (congrArg (fun z => Tryz.prog.built 33 z) (by kernel_rfl)) HBD.out) ?_) | (refine wpList_store_rowAs rfl 33 _ _ rfl w4.heap.size C rfl rfl _ _ HZ5.out HCI.out HCZ.out HCO.out w5 HW5.out ?_))
      obtain ⟨B, hB⟩ : ∃ B, B = w4.heap.size := ⟨_, rfl⟩
      rw [← hB] at S5H ⊢
      clear HC HZ5 HCI HCZ HCO HW5 hB4 hB HBD k0 k1
      have S5 := S5H.out
      clear S5H
      refine (cuNumber_any (w.heap.size + 1) s a2 b2 32 w5 S5.cu ha2 (by omega)).mono ?_
      rintro e w6 ⟨k, a3, b3, H3, ik, _, ha3, rfl, D6, hu⟩
      have S6 := S5.step hu D6.out
      clear hu S5 D6
      have f0 := S6.rc.frozen 0
      have c0 := S6.rc.head.1
      have S7 := S6.cell 0 (.int .i64 k) (S6.rc.kiosk k) (⟨ik, S6.ok.2⟩)
      clear S6
      go_wp2_with fail
      clear f0 c0
      generalize (w6.setCell ⟨B, 0, none⟩ (.int .i64 k)) = w7 at *
      clear w6
      refine (cuNumber_any (w.heap.size + 1) s a3 b3 32 w7 S7.cu ha3 (by omega)).mono ?_
      rintro e w8 ⟨m, a4, b4, H4, im, _, ha4, rfl, D8, hu⟩
      have S8 := S7.step hu D8.out
      clear hu S7 D8
      have f0 := S8.rc.frozen 1
      have c0 := S8.rc.head.2.1
      have S9 := S8.cell 1 (.int .i64 m) (S8.rc.serial m) (⟨S8.ok.1, im, S8.ok.2.2⟩)
      clear S8
      go_wp2_with fail
      clear f0 c0
      generalize (w8.setCell ⟨B, 1, none⟩ (.int .i64 m)) = w9 at *
      clear w8
      refine (cuNumber_any (w.heap.size + 1) s a4 b4 32 w9 S9.cu ha4 (by omega)).mono ?_
      rintro e w10 ⟨z, a5, b5, H5, iz, _, ha5, rfl, D10, hu⟩
      have S10 := S9.step hu D10.out
      clear hu S9 D10
      have f0 := S10.rc.frozen 3
      have c0 := S10.rc.head.2.2.2
      have S11 := S10.cell 3 (.int .i64 z) (S10.rc.seen z) (⟨S10.ok.1, S10.ok.2.1, iz, S10.ok.2.2.2⟩)
      clear S10
      go_wp2_with fail
      clear f0 c0
      generalize (w10.setCell ⟨B, 3, none⟩ (.int .i64 z)) = w11 at *
      clear w10
      refine (cuHash_any (w.heap.size + 1) s a5 b5 w11 S11.cu ha5 (by omega)).mono ?_
      rintro e w12 ⟨h1, a6, b6, H6, lh1, _, ha6, rfl, D12, hu⟩
      have S12 := S11.step hu D12.out
      clear hu S11 D12
      have S13 := S12.cells 4 (byteVals h1) (S12.rc.out S12.ok lh1) ⟨S12.ok.1, S12.ok.2.1, S12.ok.2.2.1, lh1, S12.ok.2.2.2.2⟩
      have TH := Lib.hid (S12.rc.there S12.ok 4 (byteVals h1).toArray.size (by rw [hashSz lh1]; omega))
      clear S12
      obtain ⟨w13, hw⟩ : ∃ w13, w12.setCells B 4 (byteVals h1) = w13 := ⟨_, rfl⟩
      rw [hw] at S13
      have HW := Lib.hid hw
      have LH1 := Lib.hid lh1
      clear hw lh1
      go_wp2_with (first | (refine wpList_store_midAs rfl 24 _ _ rfl B 4 (byteVals h1).toArray rfl rfl TH.out (hashInfo LH1.out) (hashOne _) w13 HW.out ?_))
      clear TH HW w12
      refine (cuHash_any (w.heap.size + 1) s a6 b6 w13 S13.cu ha6 (by omega)).mono ?_
      rintro e w14 ⟨h2, a7, b7, H7, lh2, _, ha7, rfl, D14, hu⟩
      have S14 := S13.step hu D14.out
      clear hu S13 D14
      have S15 := S14.cells 36 (byteVals h2) (S14.rc.hash S14.ok lh2) ⟨S14.ok.1, S14.ok.2.1, S14.ok.2.2.1, S14.ok.2.2.2.1, lh2, S14.ok.2.2.2.2.2⟩
      have TH := Lib.hid (S14.rc.there S14.ok 36 (byteVals h2).toArray.size (by rw [hashSz lh2]; omega))
      clear S14
      obtain ⟨w15, hw⟩ : ∃ w15, w14.setCells B 36 (byteVals h2) = w15 := ⟨_, rfl⟩
      rw [hw] at S15
      have HW := Lib.hid hw
      have LH2 := Lib.hid lh2
      clear hw lh2
      go_wp2_with (first | (refine wpList_store_midAs rfl 24 _ _ rfl B 36 (byteVals h2).toArray rfl rfl TH.out (hashInfo LH2.out) (hashOne _) w15 HW.out ?_))
      clear TH HW w14
      refine (cuHash_any (w.heap.size + 1) s a7 b7 w15 S15.cu ha7 (by omega)).mono ?_
      rintro e w16 ⟨h3, a8, b8, H8, lh3, _, ha8, rfl, D16, hu⟩
      have S16 := S15.step hu D16.out
      clear hu S15 D16
      have S17 := S16.cells 68 (byteVals h3) (S16.rc.prev S16.ok lh3) ⟨S16.ok.1, S16.ok.2.1, S16.ok.2.2.1, S16.ok.2.2.2.1, S16.ok.2.2.2.2.1, lh3, S16.ok.2.2.2.2.2.2⟩
      have TH := Lib.hid (S16.rc.there S16.ok 68 (byteVals h3).toArray.size (by rw [hashSz lh3]; omega))
      clear S16
      obtain ⟨w17, hw⟩ : ∃ w17, w16.setCells B 68 (byteVals h3) = w17 := ⟨_, rfl⟩
      rw [hw] at S17
      have HW := Lib.hid hw
      have LH3 := Lib.hid lh3
      clear hw lh3
      obtain ⟨c0, c1, c2, c3, c4⟩ := S17.cu.cells
      have HZ17 := Lib.hid S17.rz
      have U17 := Lib.hid S17.up
      cases b8 with
      | true =>
        have HB : Hid (rcOk (bs s) Rc.zero false) := ⟨Rc.zero_ok, (fun h => by cases h), fun _ => ⟨rfl, fun y hy e => by
          obtain ⟨_, _, q3, _, _, q6⟩ := chainA H1.out HV.out H2.out hy e
          have := chainB H3.out H4.out H5.out H6.out H7.out H8.out hy q6 q3
          cases this⟩⟩
        clear S17
        go_wp2_with (first | (refine wpList_store_midAs rfl 24 _ _ rfl B 68 (byteVals h3).toArray rfl rfl TH.out (hashInfo LH3.out) (hashOne _) w17 HW.out ?_) | (refine wpList_store_row rfl 33 _ _ rfl w.heap.size (rcV Rc.zero).toArray rfl rfl _ _ HZ17.out HZL.out rfl (rcOne _) ?_))
        refine bodyPost_ret (results_row_tmp rfl _ _ w.heap.size _ (rcV Rc.zero).toArray _ _ rfl (HZ17.out.setRow Rc.zero) Tryz.underlying33 rfl HZL.out) rfl ⟨Rc.zero, false, HB.out, rfl, U17.out.setRowNew (Nat.le_refl _) _⟩
      | false =>
        obtain ⟨d, hd⟩ : ∃ d : ByteArray, d = s.extract a8 s.size := ⟨_, rfl⟩
        have hbd : bs d = (bs s).drop a8 := by rw [hd, bs_right]
        have a0 : (0 : Int) ≤ (a8 : Int) := by omega
        have a1' : (a8 : Int) ≤ (s.size : Int) := by omega
        have S18 := S17.cell 2 (.string d) (S17.rc.draw d) S17.ok
        have f2 := S17.rc.frozen 2
        have c5 := S17.rc.head.2.2.1
        have HB : Hid (rcOk (bs s) ⟨k, m, z, d, h1, h2, h3, ra, rb⟩ true) := ⟨S18.ok, fun _ => chainC H1.out HV.out H2.out hrw H3.out H4.out H5.out H6.out H7.out H8.out rfl hbd, fun h => by cases h⟩
        have hd' := hd.symm
        obtain ⟨Y, hY⟩ : ∃ Y : Rc, Y = ⟨k, m, z, d, h1, h2, h3, ra, rb⟩ := ⟨_, rfl⟩
        have S18' : CuSt w (w17.setCell ⟨B, 2, none⟩ (.string d)) s a8 false B Y := by rw [hY]; exact S18
        rw [← hY] at HB
        obtain ⟨E, hE⟩ : ∃ E, E = (rcV Y).toArray := ⟨_, rfl⟩
        have HEE := Lib.hid hE
        have HLD := Lib.hid (S18'.rc.load S18'.ok E hE)
        obtain ⟨HEI, HEO, HEZ⟩ := rcLet S18'.ok E hE
        have HZ18 : Hid ((w17.setCell ⟨B, 2, none⟩ (.string d)).heap[w.heap.size]? = some (.cells (rcV Rc.zero).toArray 33 (0, 0))) := S18'.rz
        have U18 := Lib.hid S18'.up
        have HZS : Hid ((rcV Rc.zero).toArray.size = E.size) := by show _ = _; rw [hE]; simp [rcV_len S18'.ok, rcV_len Rc.zero_ok]
        clear hd hbd hY S18 S18' hE S17
        go_wp2_with (first | (refine wpList_store_midAs rfl 24 _ _ rfl B 68 (byteVals h3).toArray rfl rfl TH.out (hashInfo LH3.out) (hashOne _) w17 HW.out ?_) | (refine wpList_load_atW (by rfl) 33 _ rfl B 0 rfl E HLD.out ?_) | (refine wpList_store_row rfl 33 _ _ rfl w.heap.size E rfl rfl _ _ HZ18.out HEI.out HZS.out HEO.out ?_))
        refine bodyPost_ret (results_row_tmp rfl _ _ w.heap.size _ E _ _ rfl (setRow_heap _ _ _ E _ _ HZ18.out) Tryz.underlying33 rfl HEI.out) rfl ⟨Y, true, HB.out, by rw [HEE.out]; rfl, U18.out.setRowNew (Nat.le_refl _) _⟩
end Go.Proofs.YtmnmhhbldbdpfaaGreatDoor
