/- The walk of KioskPaper. -/
import Derived.Test.YtabnlklkfgojgaaGreatDoorGM
namespace Go.Proofs.YtabnlklkfgojgaaGreatDoor
open Go.RowKit
set_option maxRecDepth 100000

/-- The kiosk in KioskPaper's rounds: its paper and what is sold are as the law counts. -/
structure PapI (w0 : World) (kb b : Nat) (m : KM) (n : Nat) (K : List Nat) (P S c : Nat) (wr : World) : Prop where
  k : KIn w0 kb b m n K wr
  p : m.paper = P
  s : m.rs.length = S
  n : n ≤ c
  pb : P ≤ 5 + c
  sb : S ≤ c
set_option maxHeartbeats 4000000 in
theorem kioskPaper_walk (n0 : Int) (l : List (Int × Int)) (ao : Option Addr) (cap : Nat) (w : World) (hn : 0 ≤ n0 ∧ n0 ≤ 255) (hp : PrsIn .u8 0 255 w ao l) (hlc : l.length ≤ cap) (hcm : cap ≤ 9223372036854775807) (htab : Tabs w) :
    Calls Tryz.prog 5 #[.int .u8 n0, .slice ao l.length cap] w (TrueMk w) := by
  obtain ⟨Z, hZ⟩ : ∃ Z, Z = (rcV Rc.zero).toArray := ⟨_, rfl⟩
  have HBZ : Hid (Tryz.prog.built 37 [] = some Z) := by show _ = _; rw [hZ]; exact rc_zero_built
  obtain ⟨ZI, ZO, ZZ⟩ := rcLet Rc.zero_ok Z hZ
  have hqz : ∀ W : World, (Op.equalIn 10000 37 (.agg Z) (.agg Z)).run Tryz.prog W = .ok true W := fun W => eqR_self hZ Rc.zero_ok W
  have HQZ := Lib.hid hqz
  have HZE := Lib.hid hZ
  have HP := Lib.hid hp
  clear hp hZ hqz
  go_enter Tryz.func5, Tryz.ntmps5
  go_wp2_with fail
  refine (sanity27_any _ htab).mono ?_
  rintro e w1 ⟨rfl, hu1⟩
  have HU1 := Lib.hid hu1
  clear hu1
  obtain ⟨p0, hp0⟩ : ∃ p : Nat, (p : Int) = n0 % 6 := ⟨(n0 % 6).toNat, by omega⟩
  have hp6 : p0 < 6 := by omega
  go_wp2_with fail
  rw [hp0.symm]
  refine (New_to w1).mono ?_
  rintro e w2 ⟨b, S2, rfl, hd2, hu2⟩
  have HD2 := Lib.hid hd2
  have HU2 := Lib.hid hu2
  clear hd2 hu2 hp0
  go_wp2_with fail
  refine (Open_in 3 4 p0 (by unfold i64in; omega) (by unfold i64in; omega) (by omega) HU1.out HD2.out HU2.out htab).mono ?_
  rintro e w3 ⟨kb, K3, rfl, hk3, hu3⟩
  have I3 : Hid (PapI w kb b (KM.new 3 4 p0) 0 K3 p0 0 (8 * 0) w3) := ⟨hk3, rfl, rfl, Nat.le_refl _, by omega, Nat.le_refl _⟩
  clear hk3 hu3 HD2 HU2
  go_wp2_with fail
  go_loopw [6, 9, 10] (fun p s i wr => ∃ (k : Nat) (m : KM) (n : Nat) (K : List Nat) (P S : Nat), p = .int .i64 (P : Int) ∧ s = .int .i64 (S : Int) ∧ i = .int .i64 (k : Int) ∧ k ≤ 20 ∧ k ≤ l.length ∧ Hid (PapI w kb b m n K P S (8 * k) wr)) (fun _ _ i _ => 20 - (intOf i).toNat)
  case atStart => exact ⟨0, _, 0, K3, p0, 0, rfl, rfl, rfl, by omega, by omega, I3⟩
  case round =>
    clear I3
    obtain ⟨k, m, n, K, P, S, rfl, rfl, rfl, hk, hkl, HI⟩ := hrel
    by_cases hlt : k < l.length
    · by_cases h20 : k < 20
      · obtain ⟨q, hq⟩ : ∃ q, l[k]? = some q := ⟨_, List.getElem?_eq_getElem hlt⟩
        obtain ⟨q1, q2, g, o, hao, hg, _, _⟩ := HP.out k q hq
        have HPQ : Hid (∀ W, Upd [] [] w W → W.cell? ⟨g, o + k * 2, none⟩ = some (.int .u8 q.1) ∧ W.cell? ⟨g, o + k * 2 + 1, none⟩ = some (.int .u8 q.2)) := by
          intro W u
          obtain ⟨_, _, g', o', hao', _, c1, c2⟩ := (HP.out.upd u) k q hq
          rw [hao] at hao'
          cases hao'
          exact ⟨c1, c2⟩
        subst hao
        obtain ⟨a, b'⟩ := q
        simp only at q1 q2 HPQ
        obtain ⟨x, hx⟩ : ∃ x : Nat, (x : Int) = a % 4 := ⟨(a % 4).toNat, by omega⟩
        obtain ⟨y, hy⟩ : ∃ y : Nat, (y : Int) = b' % 4 := ⟨(b' % 4).toNat, by omega⟩
        have hx3 : x ≤ 3 := by omega
        have hy3 : y ≤ 3 := by omega
        have hxe : a % 4 = (x : Int) := hx.symm
        have hye : b' % 4 = (y : Int) := hy.symm
        have i0 : (0 : Int) ≤ (k : Int) := by omega
        have i1 : (k : Int) < (l.length : Int) := by omega
        have i2 : (k : Int) < 20 := by omega
        have I0 : Hid (PapI w kb b m n K P S (8 * k + 0) wr) := HI.out
        clear hx hy hq HI hlt h20
        go_wp2_with fail
        go_loopw [6, 9, 11] (fun p s j wr => ∃ (jn : Nat) (m : KM) (n : Nat) (K : List Nat) (P S : Nat), p = .int .i64 (P : Int) ∧ s = .int .i64 (S : Int) ∧ j = .int .i64 (jn : Int) ∧ jn ≤ x ∧ Hid (PapI w kb b m n K P S (8 * k + jn) wr)) (fun _ _ j _ => x - (intOf j).toNat)
        case atStart => exact ⟨0, m, n, K, P, S, rfl, rfl, rfl, by omega, I0⟩
        case round =>
          clear I0
          obtain ⟨j, m, n, K, P, S, rfl, rfl, rfl, hj, HI⟩ := hrel
          have c1 := (HPQ.out wr HI.out.k.up).1
          have c2 := (HPQ.out wr HI.out.k.up).2
          by_cases hjx : j < x
          · have j1 : (j : Int) < (x : Int) := by omega
            have j0 : (0 : Int) ≤ (j : Int) := by omega
            have j3 : (j : Int) ≤ 3 := by omega
            obtain ⟨xk, hxk⟩ := byte_of (k : Int) (by omega) (by omega)
            obtain ⟨xj, hxj⟩ := byte_of (j : Int) (by omega) (by omega)
            obtain ⟨hs, hhs⟩ : ∃ h, h = hashB [xk, xj] := ⟨_, rfl⟩
            have hsl : hs.length = 32 := by rw [hhs]; rfl
            obtain ⟨H, hH⟩ : ∃ H, H = (byteVals hs).toArray := ⟨_, rfl⟩
            have HB : Hid (Tryz.prog.built 31 [(0, .int .u8 (k : Int)), (1, .int .u8 (j : Int))] = some H) := by show _ = _; rw [hH, hhs, ← hxk, ← hxj]; exact hashII_built xk xj
            have hSb : (S : Int) ≤ 1000 := by have := HI.out.sb; omega
            have hS0 : (0 : Int) ≤ (S : Int) := by omega
            have hPb : (P : Int) ≤ 1000 := by have := HI.out.pb; omega
            by_cases hP : P = 0
            · subst hP
              have CS := Lib.hid (SellNo_in HI.out.k lot H (by decide) 50 (by unfold refE; rw [lot_ok, if_neg (by decide), if_pos HI.out.p]) (by decide))
              clear hH hhs hxk hxj hsl
              go_upto_region 13 with (fail)
              go_wp2_with (first | (refine wpList_build_want (by rfl) 31 _ rfl H (Eq.trans (congrArg (fun z => Tryz.prog.built 31 z) (by kernel_rfl)) HB.out) ?_))
              refine CS.out.mono ?_
              rintro e w5 ⟨rfl, hq5⟩
              rw [← HZE.out]
              obtain ⟨w6, Z5, W5, R5, hq⟩ := blk_new w5 37 Tryz.zeroCells37 Z
              have hq6 := hq5.trans hq
              have IN : Hid (PapI w kb b m n K 0 S (8 * k + (j + 1)) w6) := ⟨HI.out.k.quiet hq6, HI.out.p, HI.out.s, by have := HI.out.n; omega, by have := HI.out.pb; omega, by have := HI.out.sb; omega⟩
              have HLD : Hid ((Instr.loadAt 37 (.pointer (some ⟨w5.heap.size, 0, none⟩))).run Tryz.prog w6 = .ok (.agg Z) w6) := by
                have r1 := run_loadAt_mid w6 _ _ _ _ _ (row_range HZE.out R5.out) Tryz.underlying37 rfl (rcInfo Rc.zero_ok)
                rw [← HZE.out] at r1
                exact r1
              have hqz := HQZ.out
              clear CS hq hq5 hq6 R5 HI
              go_upto_region 14 with (first | (refine wpList_store_rowAs rfl 37 _ _ rfl w5.heap.size Z rfl rfl _ _ Z5.out ZI.out ZZ.out ZO.out w6 W5.out ?_))
              clear Z5 W5
              go_wp2_with (first | (refine wpList_load_want (by rfl) 37 _ rfl w5.heap.size rfl Z HLD.out ?_) | (refine wpList_build_want (by rfl) 37 #[] rfl Z (Eq.trans (congrArg (fun z => Tryz.prog.built 37 z) (by kernel_rfl)) HBZ.out) ?_))
              exact ⟨⟨j + 1, m, n, K, 0, S, rfl, rfl, by go_num, by omega, IN⟩, by simp [intOf]; omega⟩
            · obtain ⟨P', rfl⟩ : ∃ P', P = P' + 1 := ⟨P - 1, by omega⟩
              have r0 : refE m (bs lot) = 0 := by unfold refE; rw [lot_ok, if_neg (by decide), if_neg (by have := HI.out.p; omega), if_neg (by have := HI.out.s; omega)]
              have CS := Lib.hid (Sell_in HI.out.k lot hs hsl r0 (by have := HI.out.n; omega) htab)
              have hxo : (nextK m lot hs).ok := nextK_ok HI.out.k.ok hsl
              have hser : (nextK m lot hs).serial = (S : Int) + 1 := by show ((m.rs.length + 1 : Nat) : Int) = _; rw [HI.out.s]; omega
              have hpap : (m.sold (nextK m lot hs)).paper = P' := by show m.paper - 1 = P'; rw [HI.out.p]; omega
              have hlen : (m.sold (nextK m lot hs)).rs.length = S + 1 := by show (m.rs ++ [_]).length = _; rw [List.length_append, HI.out.s]; rfl
              obtain ⟨X, hX⟩ : ∃ X, X = nextK m lot hs := ⟨_, rfl⟩
              rw [← hX] at hxo hser hpap hlen CS
              obtain ⟨R, hR⟩ : ∃ R, R = (rcV X).toArray := ⟨_, rfl⟩
              obtain ⟨RI, RO, RZ⟩ := rcLet hxo R hR
              rw [← hR, ← hH] at CS
              have HR := Lib.hid hR
              have HXO := Lib.hid (And.intro hxo hser)
              have HML := Lib.hid (And.intro hpap hlen)
              have w1 : IntKind.i64.wrap (((P' + 1 : Nat) : Int) - 1) = (P' : Int) := by rw [IntWalk.i64_in _ (by omega)]; omega
              have ne0 : ¬ ((P' + 1 : Nat) : Int) = 0 := by omega
              clear hH hhs hxk hxj hsl hX hxo hser hpap hlen hR hP r0
              go_upto_region 13 with (fail)
              go_wp2_with (first | (refine wpList_build_want (by rfl) 31 _ rfl H (Eq.trans (congrArg (fun z => Tryz.prog.built 31 z) (by kernel_rfl)) HB.out) ?_))
              refine CS.out.mono ?_
              rintro e w5 ⟨K5, rfl, hk5, hu5⟩
              obtain ⟨w6, Z5, W5, R5, hq⟩ := blk_new w5 37 Tryz.zeroCells37 R
              have IN : Hid (PapI w kb b (m.sold X) (n + 1) K5 P' (S + 1) (8 * k + (j + 1)) w6) := ⟨hk5.quiet hq, HML.out.1, HML.out.2, by have := HI.out.n; omega, by have := HI.out.pb; omega, by have := HI.out.sb; omega⟩
              have hser : w6.cell? ⟨w5.heap.size, 1, none⟩ = some (.int .i64 ((S : Int) + 1)) := by rw [cell_of_row _ _ _ _ _ _ R5.out, HR.out, (rc_parts HXO.out.1).2.2.2.2.2.1, HXO.out.2]
              clear CS hq hk5 hu5 R5 HI HML
              go_upto_region 14 with (first | (refine wpList_store_rowAs rfl 37 _ _ rfl w5.heap.size R rfl rfl _ _ Z5.out RI.out RZ.out RO.out w6 W5.out ?_))
              clear Z5 W5
              go_wp2_with fail
              exact ⟨⟨j + 1, _, n + 1, K5, P', S + 1, rfl, by go_num, by go_num, by omega, IN⟩, by simp [intOf]; omega⟩
          · obtain rfl : j = x := by omega
            have hSb : (S : Int) ≤ 1000 := by have := HI.out.sb; omega
            have hS0 : (0 : Int) ≤ (S : Int) := by omega
            have hPb : (P : Int) ≤ 1000 := by have := HI.out.pb; omega
            have hP0 : (0 : Int) ≤ (P : Int) := by omega
            clear hj hjx
            -- what Refill makes of the kiosk
            by_cases hy0 : y = 0
            · subst hy0
              have CR := Lib.hid (RefillNo_in HI.out.k (((0 : Nat) : Int)) (by unfold i64in; omega) (by omega))
              go_wp2_with fail
              refine CR.out.mono ?_
              rintro e w5 ⟨rfl, hq5⟩
              have hK5 := HI.out.k.quiet hq5
              have CP := Lib.hid (Paper_in hK5)
              rw [HI.out.p] at CP
              have hdl : (m.rs.drop 0).length = S := by rw [List.drop_zero]; exact HI.out.s
              have CB := Lib.hid (fun W (u : Upd [] [] w5 W) => Batch_in (hK5.quiet u) 0 0 (by unfold i64in; omega) (by omega) (by omega) (by omega))
              have HDL := Lib.hid hdl
              have IN : Hid (∀ W, Upd [] [] w5 W → PapI w kb b m n K P S (8 * (k + 1)) W) := fun W u => ⟨hK5.quiet u, HI.out.p, HI.out.s, by have := HI.out.n; omega, by have := HI.out.pb; omega, by have := HI.out.sb; omega⟩
              have hfld : ∀ (i : Int) (a : Option Addr) (n c : Nat) (W : World), (Instr.field 50 (.agg #[.int .i64 i, .slice a n c]) 1).run Tryz.prog W = .ok (.slice a n c) W := field_bat
              clear CR hq5 hK5 hdl HI
              go_wp2_with fail
              refine CP.out.mono ?_
              rintro e w6 ⟨rfl, rfl⟩
              go_wp2_with fail
              refine (CB.out _ (Upd.refl _ _)).mono ?_
              rintro e w7 ⟨ab, cb, _, _, rfl, hq⟩
              rw [HDL.out]
              have IN2 := Lib.hid (IN.out w7 hq)
              clear IN CP CB hq
              go_wp2_with fail
              exact ⟨⟨k + 1, m, n, K, P, S, by go_num, rfl, by go_num, by omega, by omega, IN2⟩, by simp [intOf]; omega⟩
            · have y1 : (0 : Int) < (y : Int) := by omega
              have y2 : ¬ (y : Int) = 0 := by omega
              have y3 : (y : Int) ≤ 3 := by omega
              have CR := Lib.hid (Refill_in HI.out.k y (by omega) (by have := HI.out.p; omega) (by have := HI.out.n; omega) htab)
              go_wp2_with fail
              refine CR.out.mono ?_
              rintro e w5 ⟨K5, rfl, hK5, hu5⟩
              have hp5 : ((m.fill y).paper : Int) = (P : Int) + (y : Int) := by show ((m.paper + y : Nat) : Int) = _; rw [HI.out.p]; omega
              have CP := Lib.hid (Paper_in hK5)
              rw [hp5] at CP
              have hdl : ((m.fill y).rs.drop 0).length = S := by rw [List.drop_zero]; exact HI.out.s
              have CB := Lib.hid (fun W (u : Upd [] [] w5 W) => Batch_in (hK5.quiet u) 0 0 (by unfold i64in; omega) (by omega) (by omega) (by omega))
              have HDL := Lib.hid hdl
              have IN : Hid (∀ W, Upd [] [] w5 W → PapI w kb b (m.fill y) (n + 1) K5 (P + y) S (8 * (k + 1)) W) := fun W u => ⟨hK5.quiet u, by omega, HI.out.s, by have := HI.out.n; omega, by have := HI.out.pb; omega, by have := HI.out.sb; omega⟩
              have hfld : ∀ (i : Int) (a : Option Addr) (n c : Nat) (W : World), (Instr.field 50 (.agg #[.int .i64 i, .slice a n c]) 1).run Tryz.prog W = .ok (.slice a n c) W := field_bat
              clear CR hu5 hK5 hdl HI hp5
              go_wp2_with fail
              refine CP.out.mono ?_
              rintro e w6 ⟨rfl, rfl⟩
              go_wp2_with fail
              refine (CB.out _ (Upd.refl _ _)).mono ?_
              rintro e w7 ⟨ab, cb, _, _, rfl, hq⟩
              rw [HDL.out]
              have IN2 := Lib.hid (IN.out w7 hq)
              clear IN CP CB hq
              go_wp2_with fail
              exact ⟨⟨k + 1, _, n + 1, K5, P + y, S, by go_num, rfl, by go_num, by omega, by omega, IN2⟩, by simp [intOf]; omega⟩
      · obtain rfl : k = 20 := by omega
        have h20' := Lib.hid h20
        clear h20
        have j0 : (P : Int) ≤ 1000 := by have := HI.out.pb; omega
        have HN1 := Lib.hid (fun (W : World) (u : Upd [] [] wr W) => RefillNo_in (HI.out.k.quiet u) (1000000000 - (P : Int) + 1) (by unfold i64in; omega) (by rw [HI.out.p]; omega))
        have HN2 := Lib.hid (fun (W : World) (u : Upd [] [] wr W) => RefillNo_in (HI.out.k.quiet u) (-1) (by unfold i64in; omega) (by omega))
        have hup := Lib.hid HI.out.k.up
        have e1 : IntKind.i64.wrap (1000000000 - (P : Int)) = 1000000000 - (P : Int) := wrap_in (by omega) (by omega)
        have e2 : IntKind.i64.wrap (1000000000 - (P : Int) + 1) = 1000000000 - (P : Int) + 1 := wrap_in (by omega) (by omega)
        clear HI hk hkl
        go_wp2_with fail
        refine (HN1.out _ (Upd.refl _ _)).mono ?_
        rintro e w5 ⟨rfl, hq⟩
        have HQ := Lib.hid hq
        clear hq HN1
        go_wp2_with fail
        refine (HN2.out _ HQ.out).mono ?_
        rintro e w6 ⟨rfl, hq⟩
        have HQ6 := Lib.hid (HQ.out.trans hq)
        clear hq HN2
        go_wp2_with fail
        go_ret
        exact ⟨rfl, hup.out.trans HQ6.out⟩
    · obtain rfl : k = l.length := by omega
      clear hlt
      have j0 : (P : Int) ≤ 1000 := by have := HI.out.pb; omega
      have HN1 := Lib.hid (fun (W : World) (u : Upd [] [] wr W) => RefillNo_in (HI.out.k.quiet u) (1000000000 - (P : Int) + 1) (by unfold i64in; omega) (by rw [HI.out.p]; omega))
      have HN2 := Lib.hid (fun (W : World) (u : Upd [] [] wr W) => RefillNo_in (HI.out.k.quiet u) (-1) (by unfold i64in; omega) (by omega))
      have hup := Lib.hid HI.out.k.up
      have e1 : IntKind.i64.wrap (1000000000 - (P : Int)) = 1000000000 - (P : Int) := wrap_in (by omega) (by omega)
      have e2 : IntKind.i64.wrap (1000000000 - (P : Int) + 1) = 1000000000 - (P : Int) + 1 := wrap_in (by omega) (by omega)
      clear HI hk hkl
      go_wp2_with fail
      refine (HN1.out _ (Upd.refl _ _)).mono ?_
      rintro e w5 ⟨rfl, hq⟩
      have HQ := Lib.hid hq
      clear hq HN1
      go_wp2_with fail
      refine (HN2.out _ HQ.out).mono ?_
      rintro e w6 ⟨rfl, hq⟩
      have HQ6 := Lib.hid (HQ.out.trans hq)
      clear hq HN2
      go_wp2_with fail
      go_ret
      exact ⟨rfl, hup.out.trans HQ6.out⟩
end Go.Proofs.YtabnlklkfgojgaaGreatDoor
