/- The walk of KioskNil. -/
import Derived.Test.YtabnlklkfgojgaaGreatDoorGM
import Derived.Test.YtabnlklkfgojgaaGreatDoorXKShut
namespace Go.Proofs.YtabnlklkfgojgaaGreatDoor
open Go.RowKit
set_option maxRecDepth 100000

/-- The cells of a zero kiosk. -/
def kz : List Value := [.pointer none, .int .i64 0, .int .i64 0, .slice none 0 0, .int .i64 0, .int .i64 0] ++ (byteVals zero32 ++ [.bool false])
theorem kz_built : Tryz.prog.built 55 [] = some kz.toArray := by kernel_rfl
theorem Upd.drop {w w' : World} {S : List Nat} (h : Upd [] S w w') : Upd [] [] w w' := ⟨h.os, h.tape, h.output, h.size, h.block, fun _ hk => by simp at hk⟩
/-- What the law's loop over the two kiosks keeps. -/
structure NilI (w : World) (gk gs : Nat) (Z : Array Value) (wr : World) : Prop where
  k : wr.heap[gk]? = some (.cells Z 55 (0, 0))
  s : wr.heap[gs]? = some (.cells #[.pointer none, .pointer (some ⟨gk, 0, none⟩)] 24 (0, 0))
  u : Upd [] [] w wr
theorem NilI.upd {w : World} {gk gs : Nat} {Z : Array Value} {wr w' : World} (h : NilI w gk gs Z wr) (u : Upd [] [] wr w') : NilI w gk gs Z w' := ⟨row_updH h.k u, row_updH h.s u, h.u.trans u⟩
theorem nil_get {w : World} {gk gs : Nat} {Z : Array Value} {wr : World} (h : NilI w gk gs Z wr) (hz : Z[0]? = some (.pointer none)) {k : Nat} (hk : k < 2) :
    ∃ q, wr.cell? ⟨gs, k, none⟩ = some q ∧ ∀ W, Upd [] [] wr W → Calls Tryz.prog 32 #[q] W (Ret (.bool false) W) := by
  obtain h0 | h0 : k = 0 ∨ k = 1 := by omega
  · subst h0
    exact ⟨.pointer none, by rw [cell_of_row _ _ _ _ _ _ h.s]; rfl, fun W _ => isOpen_nil W⟩
  · subst h0
    exact ⟨.pointer (some ⟨gk, 0, none⟩), by rw [cell_of_row _ _ _ _ _ _ h.s]; rfl, fun W u => isOpen_zero W gk (by rw [cell_of_row _ _ _ _ _ _ (h.upd u).k, hz])⟩
theorem fail0_ok : (DiskM.empty.fail 0).ok := DiskM.ok_empty.fail 0 (by decide)
set_option maxHeartbeats 4000000 in
theorem kioskNil_walk (rd : Int) (a : ByteArray) (pp : Int) (w : World) (_hr : -9223372036854775808 ≤ rd ∧ rd ≤ 9223372036854775807) (_ha : a.size ≤ 9223372036854775807) (hp : -9223372036854775808 ≤ pp ∧ pp ≤ 9223372036854775807) (htab : Tabs w) :
    Calls Tryz.prog 6 #[.int .i64 rd, .string a, .int .i64 pp] w (TrueMk w) := by
  obtain ⟨Z, hZ⟩ : ∃ Z, Z = (rcV Rc.zero).toArray := ⟨_, rfl⟩
  have HBZ : Hid (Tryz.prog.built 37 [] = some Z) := by show _ = _; rw [hZ]; exact rc_zero_built
  obtain ⟨ZI, ZO, ZZ⟩ := rcLet Rc.zero_ok Z hZ
  have hqz : ∀ W : World, (Op.equalIn 10000 37 (.agg Z) (.agg Z)).run Tryz.prog W = .ok true W := fun W => eqR_self hZ Rc.zero_ok W
  have HQZ := Lib.hid hqz
  have HZE := Lib.hid hZ
  obtain ⟨H0, hH0⟩ : ∃ H, H = (byteVals zero32).toArray := ⟨_, rfl⟩
  have HB0 : Hid (Tryz.prog.built 31 [] = some H0) := by show _ = _; rw [hH0]; exact hash0_built
  obtain ⟨H1, hH1⟩ : ∃ H, H = (byteVals (hashB [1])).toArray := ⟨_, rfl⟩
  have HB1 : Hid (Tryz.prog.built 31 [(0, .int .u8 1)] = some H1) := by show _ = _; rw [hH1]; exact hash1_built
  obtain ⟨KZ, hKZ⟩ : ∃ K, K = kz.toArray := ⟨_, rfl⟩
  have HBK : Hid (Tryz.prog.built 55 [] = some KZ) := by show _ = _; rw [hKZ]; exact kz_built
  have HK0 : Hid (KZ[0]? = some (.pointer none)) := by show _ = _; rw [hKZ]; rfl
  clear hZ hqz hH0 hH1 hKZ
  go_enter Tryz.func6, Tryz.ntmps6
  go_wp2_with fail
  refine (sanity27_any _ htab).mono ?_
  rintro e w1 ⟨rfl, hu1⟩
  have HU1 := Lib.hid hu1
  clear hu1
  go_upto_region 2 with (fail)
  go_wp2_with (first | (refine wpList_build_want (by rfl) 55 #[] rfl KZ (Eq.trans (congrArg (fun z => Tryz.prog.built 55 z) (by kernel_rfl)) HBK.out) ?_))
  obtain ⟨gk, hgk⟩ : ∃ gk, gk = w1.heap.size := ⟨_, rfl⟩
  obtain ⟨w2, hw2, I2⟩ : ∃ w2, (w1.alloc (.cells KZ 55)).alloc (.cells #[.pointer none, .pointer (some ⟨w1.heap.size, 0, none⟩)] 24) = w2 ∧ Hid (NilI w gk (gk + 1) KZ w2) := by
    refine ⟨_, rfl, ?_⟩
    rw [hgk]
    have h1 := heap_alloc_new w1 (.cells KZ 55)
    have h2 := heap_alloc_new (w1.alloc (.cells KZ 55)) (.cells #[.pointer none, .pointer (some ⟨w1.heap.size, 0, none⟩)] 24)
    rw [World.size_alloc] at h2
    exact ⟨row_updH h1 ((Upd.refl [] _).alloc _), h2, HU1.out.trans (((Upd.refl [] _).alloc _).alloc _)⟩
  rw [hw2, ← hgk]
  clear hw2 hgk HU1 HBK
  go_loopw [28] (fun i wr => ∃ k : Nat, i = .int .i64 (k : Int) ∧ k ≤ 2 ∧ Hid (NilI w gk (gk + 1) KZ wr)) (fun i _ => 2 - (intOf i).toNat)
  case atStart => exact ⟨0, rfl, by omega, I2⟩
  case round =>
    clear I2
    obtain ⟨k, rfl, hk, HI⟩ := hrel
    by_cases hlt : k < 2
    · obtain ⟨q, hc, hq⟩ := nil_get HI.out HK0.out hlt
      have HQ := Lib.hid hq
      have i0 : (0 : Int) ≤ (k : Int) := by omega
      have i1 : (k : Int) < 2 := by omega
      have HS := Lib.hid (Sell_shut q (fun W u => hq W u) a H1)
      clear hq
      go_upto_region 5 with (fail)
      go_wp2_with (first | (refine wpList_build_want (by rfl) 31 #[(0, .const (.int .u8 1))] rfl H1 (Eq.trans (congrArg (fun z => Tryz.prog.built 31 z) (by kernel_rfl)) HB1.out) ?_))
      refine HS.out.mono ?_
      rintro e w5 ⟨rfl, hq5⟩
      rw [← HZE.out]
      obtain ⟨w6, Z5, W5, R5, hq⟩ := blk_new w5 37 Tryz.zeroCells37 Z
      have u6 := hq5.trans hq
      have HL := Lib.hid (Last_shut q (fun W u => HQ.out W (u6.trans u)))
      obtain ⟨ga, hga⟩ : ∃ g, g = w5.heap.size := ⟨_, rfl⟩
      have HGA := Lib.hid hga
      have A6 : Hid (w6.heap[ga]? = some (.cells Z 37 (0, 0))) := by show _ = _; rw [hga]; exact R5.out
      have U6 := Lib.hid u6
      clear HS hq5 hq R5 u6 hga hc
      go_upto_region 6 with (first | (refine wpList_store_rowAs rfl 37 _ _ rfl w5.heap.size Z rfl rfl _ _ Z5.out ZI.out ZZ.out ZO.out w6 W5.out ?_))
      rw [← HGA.out]
      clear Z5 W5 HGA
      go_wp2_with fail
      refine HL.out.mono ?_
      rintro e w7 ⟨rfl, hq7⟩
      rw [show lastR [] = Rc.zero from rfl, show lastB [] = false from rfl, ← HZE.out]
      obtain ⟨w8, Z7, W7, R7, hq⟩ := blk_new w7 37 Tryz.zeroCells37 Z
      have u8 := hq7.trans hq
      have HBt := Lib.hid (Batch_shut q (fun W u => HQ.out W ((U6.out.trans u8).trans u)) rd)
      obtain ⟨gb, hgb⟩ : ∃ g, g = w7.heap.size := ⟨_, rfl⟩
      have HGB := Lib.hid hgb
      have B8 : Hid (w8.heap[gb]? = some (.cells Z 37 (0, 0))) := by show _ = _; rw [hgb]; exact R7.out
      have A8 := Lib.hid (row_updH A6.out u8)
      have U8 := Lib.hid (U6.out.trans u8)
      clear HL hq7 hq R7 u8 hgb A6 U6
      go_upto_region 7 with (first | (refine wpList_store_rowAs rfl 37 _ _ rfl w7.heap.size Z rfl rfl _ _ Z7.out ZI.out ZZ.out ZO.out w8 W7.out ?_))
      rw [← HGB.out]
      clear Z7 W7 HGB
      go_wp2_with fail
      refine HBt.out.mono ?_
      rintro e w9 ⟨ao, cap, _, _, rfl, hq9⟩
      rw [show ([] : List Rc).length = 0 from rfl]
      obtain ⟨C, hC⟩ : ∃ C : Array Value, C = #[.int .i64 0, .slice ao 0 cap] := ⟨_, rfl⟩
      obtain ⟨w10, Z9, W9, R9, hq⟩ := blk_new w9 50 #[.int .i64 0, .slice none 0 0] C
      have u10 := hq9.trans hq
      obtain ⟨gc, hgc⟩ : ∃ g, g = w9.heap.size := ⟨_, rfl⟩
      have HGC := Lib.hid hgc
      have k0 : w10.cell? ⟨gc, 0, none⟩ = some (.int .i64 0) := by rw [hgc, cell_of_row _ _ _ _ _ _ R9.out, hC]; rfl
      have k1 : w10.cell? ⟨gc, 1, none⟩ = some (.slice ao 0 cap) := by rw [hgc, cell_of_row _ _ _ _ _ _ R9.out, hC]; rfl
      have HKK : Hid (∀ W, Upd [] [] w10 W → W.cell? ⟨gc, 0, none⟩ = some (.int .i64 0) ∧ W.cell? ⟨gc, 1, none⟩ = some (.slice ao 0 cap)) := by
        intro W u
        have hl : gc < w10.heap.size := by rw [hgc]; exact blk_lt R9.out
        exact ⟨(u.cell (p := ⟨gc, 0, none⟩) hl (by simp)).trans k0, (u.cell (p := ⟨gc, 1, none⟩) hl (by simp)).trans k1⟩
      have BI : Hid ((Tryz.prog.info? 50).map (·.size) = some C.size) := by show _ = _; rw [hC]; kernel_rfl
      have BO : Hid (C.all (·.oneCell') = true) := by show _ = _; rw [hC]; simp [Value.oneCell']
      have BZ : Hid ((#[.int .i64 0, .slice none 0 0] : Array Value).size = C.size) := by show _ = _; rw [hC]; rfl
      have A10 := Lib.hid (row_updH A8.out u10)
      have B10 := Lib.hid (row_updH B8.out u10)
      have U10 := Lib.hid (U8.out.trans u10)
      have HLn := Lib.hid (fun W (u : Upd [] [] w10 W) => Learn_shut q (fun V v => HQ.out V (U10.out.trans (u.trans v))) rd H0)
      have HRf := Lib.hid (fun W (u : Upd [] [] w10 W) => Refill_shut q (HQ.out W (U10.out.trans u)) pp)
      have HPp := Lib.hid (fun W (u : Upd [] [] w10 W) => Paper_shut q (HQ.out W (U10.out.trans u)))
      rw [← hC]
      have HLA : Hid (∀ W, Upd [] [] w10 W → (Instr.loadAt 37 (.pointer (some ⟨ga, 0, none⟩))).run Tryz.prog W = .ok (.agg Z) W ∧ (Instr.loadAt 37 (.pointer (some ⟨gb, 0, none⟩))).run Tryz.prog W = .ok (.agg Z) W) := by
        intro W u
        have r1 := run_loadAt_mid W _ _ _ _ _ (row_range HZE.out (row_updH A10.out u)) Tryz.underlying37 rfl (rcInfo Rc.zero_ok)
        have r2 := run_loadAt_mid W _ _ _ _ _ (row_range HZE.out (row_updH B10.out u)) Tryz.underlying37 rfl (rcInfo Rc.zero_ok)
        rw [← HZE.out] at r1 r2
        exact ⟨r1, r2⟩
      have HLA10 := Lib.hid (HLA.out w10 (Upd.refl _ _)).1
      have hqz := HQZ.out
      clear hq9 hq R9 u10 hgc hC A8 B8 U8 HBt k0 k1 A10 B10
      go_upto_region 8 with (first | (refine wpList_store_rowAs rfl 50 _ _ rfl w9.heap.size C rfl rfl _ _ Z9.out BI.out BZ.out BO.out w10 W9.out ?_))
      rw [← HGC.out]
      clear Z9 W9 HGC BI BO BZ
      go_wp2_with (first | (refine wpList_load_want (by rfl) 37 _ rfl ga rfl Z HLA10.out ?_) | (refine wpList_build_want (by rfl) 37 #[] rfl Z (Eq.trans (congrArg (fun z => Tryz.prog.built 37 z) (by kernel_rfl)) HBZ.out) ?_) | (refine wpList_build_want (by rfl) 31 #[] rfl H0 (Eq.trans (congrArg (fun z => Tryz.prog.built 31 z) (by kernel_rfl)) HB0.out) ?_))
      refine (HLn.out _ (Upd.refl _ _)).mono ?_
      rintro e w11 ⟨rfl, u11⟩
      have U11 := Lib.hid u11
      clear u11 HLA10 HLn
      go_wp2_with fail
      refine (HRf.out _ U11.out).mono ?_
      rintro e w12 ⟨rfl, u12⟩
      have U12 := Lib.hid (U11.out.trans u12)
      clear u12 HRf U11
      go_wp2_with fail
      refine (HPp.out _ U12.out).mono ?_
      rintro e w13 ⟨rfl, rfl⟩
      obtain ⟨k0, k1⟩ := HKK.out _ U12.out
      have HLB := Lib.hid (HLA.out w12 U12.out).2
      have IN : Hid (NilI w gk (gk + 1) KZ w12) := HI.out.upd (U10.out.trans U12.out)
      clear HPp HKK HLA U12 HI U10 HQ
      go_wp2_with (first | (refine wpList_load_want (by rfl) 37 _ rfl gb rfl Z HLB.out ?_) | (refine wpList_build_want (by rfl) 37 #[] rfl Z (Eq.trans (congrArg (fun z => Tryz.prog.built 37 z) (by kernel_rfl)) HBZ.out) ?_))
      exact ⟨⟨k + 1, by go_num, by omega, IN⟩, by simp [intOf]; omega⟩
    · obtain rfl : k = 2 := by omega
      have HU := Lib.hid HI.out.u
      clear HI hlt hk HB1 HBZ HB0
      go_wp2_with fail
      refine (OpenArg_nil 1 2 pp).mono ?_
      rintro e w3 ⟨rfl, rfl⟩
      go_wp2_with fail
      refine (New_to wr).mono ?_
      rintro e w4 ⟨b, S4, rfl, hd4, hu4⟩
      have HD4 := Lib.hid hd4
      have HU4 := Lib.hid hu4
      clear hd4 hu4
      by_cases hfit : 0 ≤ pp ∧ pp ≤ 1000000000
      · obtain ⟨p, hpn⟩ : ∃ p : Nat, (p : Int) = pp := ⟨pp.toNat, by omega⟩
        subst hpn
        have g1 : (0 : Int) ≤ (p : Int) := by omega
        have g2 : (p : Int) ≤ 1000000000 := hfit.2
        clear hfit
        go_wp2_with fail
        refine (Open_in 1 2 p (by unfold i64in; omega) (by unfold i64in; omega) (by omega) HU.out HD4.out HU4.out htab).mono ?_
        rintro e w5 ⟨kb, K5, rfl, hk5, _⟩
        have UU : Hid (Upd [] [] w w5) := hk5.up
        clear hk5 HU HD4 HU4
        go_wp2_with fail
        refine (New_to w5).mono ?_
        rintro e w6 ⟨b2, S6, rfl, hd6, hu6⟩
        have HD6 := Lib.hid hd6
        have HU6 := Lib.hid hu6
        clear hd6 hu6
        go_wp2_with fail
        refine (Fail_any b2 .empty S6 0 w6 HD6.out).mono ?_
        rintro e w7 ⟨rfl, hd7, hu7⟩
        have HD7 := Lib.hid hd7
        have HU7 := Lib.hid (HU6.out.trans hu7)
        clear hd7 hu7 HD6 HU6
        go_wp2_with fail
        refine (OpenK_off 1 2 5 b2 _ S6 (by decide) (by decide) HD7.out fail0_ok (by decide) rfl).mono ?_
        rintro e w8 ⟨S8, rfl, _, hu8⟩
        have FIN := Lib.hid (UU.out.trans (HU7.out.trans hu8).drop)
        clear hu8 HD7 HU7 UU
        go_wp2_with fail
        go_ret
        exact ⟨rfl, FIN.out⟩
      · have UU : Hid (Upd [] [] w w4) := HU.out.trans HU4.out.drop
        by_cases hneg : pp < 0
        · go_wp2_with fail
          refine (OpenArg_paper 1 2 pp b hfit).mono ?_
          rintro e w5 ⟨rfl, rfl⟩
          clear HU HD4 HU4 hfit
          go_wp2_with fail
          refine (New_to w4).mono ?_
          rintro e w6 ⟨b2, S6, rfl, hd6, hu6⟩
          have HD6 := Lib.hid hd6
          have HU6 := Lib.hid hu6
          clear hd6 hu6
          go_wp2_with fail
          refine (Fail_any b2 .empty S6 0 w6 HD6.out).mono ?_
          rintro e w7 ⟨rfl, hd7, hu7⟩
          have HD7 := Lib.hid hd7
          have HU7 := Lib.hid (HU6.out.trans hu7)
          clear hd7 hu7 HD6 HU6
          go_wp2_with fail
          refine (OpenK_off 1 2 5 b2 _ S6 (by decide) (by decide) HD7.out fail0_ok (by decide) rfl).mono ?_
          rintro e w8 ⟨S8, rfl, _, hu8⟩
          have FIN := Lib.hid (UU.out.trans (HU7.out.trans hu8).drop)
          clear hu8 HD7 HU7 UU
          go_wp2_with fail
          go_ret
          exact ⟨rfl, FIN.out⟩
        · have hbig : (1000000000 : Int) < pp := by omega
          have hpos : (0 : Int) ≤ pp := by omega
          clear hneg
          go_wp2_with fail
          refine (OpenArg_paper 1 2 pp b hfit).mono ?_
          rintro e w5 ⟨rfl, rfl⟩
          clear HU HD4 HU4 hfit
          go_wp2_with fail
          refine (New_to w4).mono ?_
          rintro e w6 ⟨b2, S6, rfl, hd6, hu6⟩
          have HD6 := Lib.hid hd6
          have HU6 := Lib.hid hu6
          clear hd6 hu6
          go_wp2_with fail
          refine (Fail_any b2 .empty S6 0 w6 HD6.out).mono ?_
          rintro e w7 ⟨rfl, hd7, hu7⟩
          have HD7 := Lib.hid hd7
          have HU7 := Lib.hid (HU6.out.trans hu7)
          clear hd7 hu7 HD6 HU6
          go_wp2_with fail
          refine (OpenK_off 1 2 5 b2 _ S6 (by decide) (by decide) HD7.out fail0_ok (by decide) rfl).mono ?_
          rintro e w8 ⟨S8, rfl, _, hu8⟩
          have FIN := Lib.hid (UU.out.trans (HU7.out.trans hu8).drop)
          clear hu8 HD7 HU7 UU
          go_wp2_with fail
          go_ret
          refine ⟨?_, FIN.out⟩
          show Ending.returned (.bool (!decide (pp ≤ 1000000000))) = _
          rw [decide_eq_false (by omega)]
          rfl
end Go.Proofs.YtabnlklkfgojgaaGreatDoor
