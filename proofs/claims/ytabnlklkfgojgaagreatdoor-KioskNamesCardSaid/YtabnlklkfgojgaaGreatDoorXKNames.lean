/- sortesref27.IsName, and the walk of KioskNames. -/
import Derived.Test.YtabnlklkfgojgaaGreatDoorGM
namespace Go.Proofs.YtabnlklkfgojgaaGreatDoor
open Go.RowKit
set_option maxRecDepth 100000

theorem nameOk_of_all {l : List UInt8} (h : ∀ (j : Nat) c, l[j]? = some c → nameC c = true) : nameOk l = (decide (1 ≤ l.length) && decide (l.length ≤ 30)) := by
  by_cases h1 : 1 ≤ l.length
  · by_cases h2 : l.length ≤ 30
    · rw [nameOk_all h1 h2 h, decide_eq_true h1, decide_eq_true h2]; rfl
    · rw [nameOk_long (by omega), decide_eq_false h2, Bool.and_false]
  · have : l = [] := List.eq_nil_of_length_eq_zero (by omega)
    subst this
    decide
set_option maxHeartbeats 2000000 in
theorem rIsName_any (s : ByteArray) (w : World) (hs : s.size ≤ 9223372036854775807) : Calls Tryz.prog 14 #[.string s] w (MkB (nameOk (bs s)) w) := by
  go_enter Tryz.func14, Tryz.ntmps14
  go_wp2_with fail
  go_loopw [3] (fun i wr => ∃ k : Nat, i = .int .i64 (k : Int) ∧ k ≤ s.size ∧ Hid (∀ j c, j < k → (bs s)[j]? = some c → nameC c = true) ∧ wr = w) (fun i _ => s.size - (intOf i).toNat)
  case atStart => exact ⟨0, rfl, Nat.zero_le _, fun j c h => absurd h (Nat.not_lt_zero j), rfl⟩
  case round =>
    obtain ⟨k, rfl, hk, HA, rfl⟩ := hrel
    by_cases hlt : k < s.size
    · have hg : (bs s)[k]? = some s[k] := by
        rw [List.getElem?_eq_getElem (show k < (bs s).length from hlt)]
        rfl
      have HG := Lib.hid hg
      clear hg
      obtain ⟨c, hc⟩ : ∃ c, c = s[k]'hlt := ⟨_, rfl⟩
      have HG2 : Hid ((bs s)[k]? = some c) := by show _ = _; rw [HG.out, hc]
      have hlt' : (k : Int) < (s.size : Int) := by omega
      clear HG
      go_upto_region 5 with (fail)
      rw [← hc]
      have hcn : c.toNat < 256 := UInt8.toNat_lt _
      have HC : Hid (nameC c = (decide (97 ≤ c.toNat ∧ c.toNat ≤ 122 ∨ 65 ≤ c.toNat ∧ c.toNat ≤ 90 ∨ 48 ≤ c.toNat ∧ c.toNat ≤ 57 ∨ c.toNat = 95))) := nameC_iff c
      generalize c.toNat = n at *
      clear hc
      have hcase : (97 ≤ n ∧ n ≤ 122) ∨ (97 ≤ n ∧ 122 < n) ∨ (n < 97 ∧ 65 ≤ n ∧ n ≤ 90) ∨ (n < 97 ∧ 90 < n ∧ n = 95) ∨ (n < 97 ∧ 90 < n ∧ n ≠ 95) ∨ (n < 65 ∧ 48 ≤ n ∧ n ≤ 57) ∨ (n < 65 ∧ 57 < n) ∨ n < 48 := by omega
      have HOK : Hid (nameC c = true → ∀ (j : Nat) c, j < k + 1 → (bs s)[j]? = some c → nameC c = true) := by
        intro hh
        intro j d hj hd
        by_cases hjk : j < k
        · exact HA.out j d hjk hd
        · obtain rfl : j = k := by omega
          rw [HG2.out] at hd
          cases hd
          exact hh
      have HBAD : Hid (nameC c = false → false = nameOk (bs s)) := fun hh => (nameOk_bad HG2.out hh).symm
      clear HA HG2
      rcases hcase with ⟨h1, h2⟩ | ⟨h1, h2⟩ | ⟨h1, h2, h3⟩ | ⟨h1, h2, h3⟩ | ⟨h1, h2, h3⟩ | ⟨h1, h2, h3⟩ | ⟨h1, h2⟩ | h1
      all_goals
        go_wp2_with fail
      all_goals
        first
          | exact ⟨⟨k + 1, by go_num, by omega, HOK.out (by rw [HC.out]; exact decide_eq_true (by omega)), trivial⟩, by simp [intOf]; omega⟩
          | (go_ret; exact ⟨false, HBAD.out (by rw [HC.out]; exact decide_eq_false (by omega)), rfl, Upd.refl _ _⟩)
          | (exfalso; clear HC HOK HBAD; simp only [Bool.not_eq_eq_eq_not, Bool.not_false, decide_eq_true_eq, beq_iff_eq] at *; omega)
    · obtain rfl : k = s.size := by omega
      have HN : Hid (nameOk (bs s) = (decide (1 ≤ s.size) && decide (s.size ≤ 30))) := by
        show _ = _
        rw [nameOk_of_all (fun j c hj => HA.out j c (by have := (List.getElem?_eq_some_iff.1 hj).1; rw [bs_length] at this; exact this) hj), bs_length]
      clear HA hlt hk
      by_cases h1 : 1 ≤ s.size
      · by_cases h2 : s.size ≤ 30
        · have HN' : Hid (true = nameOk (bs s)) := by show _ = _; rw [HN.out, decide_eq_true h1, decide_eq_true h2]; rfl
          have g1 : (1 : Int) ≤ (s.size : Int) := by omega
          have g2 : (s.size : Int) ≤ 30 := by omega
          clear HN h1 h2
          go_wp2_with fail
          go_ret
          exact ⟨true, HN'.out, rfl, Upd.refl _ _⟩
        · have HN' : Hid (false = nameOk (bs s)) := by show _ = _; rw [HN.out, decide_eq_false h2, Bool.and_false]
          have g1 : (1 : Int) ≤ (s.size : Int) := by omega
          have g2 : (30 : Int) < (s.size : Int) := by omega
          clear HN h1 h2
          go_wp2_with fail
          go_ret
          refine ⟨_, ?_, rfl, Upd.refl _ _⟩
          show decide _ = _
          rw [← HN'.out]
          exact decide_eq_false (by omega)
      · have HN' : Hid (false = nameOk (bs s)) := by show _ = _; rw [HN.out, decide_eq_false h1]; rfl
        have g1 : (s.size : Int) < 1 := by omega
        clear HN h1
        go_wp2_with fail
        go_ret
        exact ⟨false, HN'.out, rfl, Upd.refl _ _⟩
theorem hash5_built : Tryz.prog.built 31 [(0, .int .u8 5)] = some (byteVals (hashB [5])).toArray := by kernel_rfl
/-- A kiosk of a law's loop: k rounds, at most k sold. -/
def KLoop (w0 : World) (kb b k : Nat) (wr : World) : Prop := ∃ m n K, KIn w0 kb b m n K wr ∧ n ≤ k ∧ 100 ≤ m.paper + k ∧ m.rs.length ≤ k
/-- The names that the law tries. -/
def names5 (a l : ByteArray) : List ByteArray := [a, l, ⟨#[76, 111, 116, 116, 111, 95, 55]⟩, ⟨#[97, 45, 98]⟩, ⟨#[32]⟩]
theorem names5_get {a l : ByteArray} (ha : a.size ≤ 9223372036854775807) (hl : l.size ≤ 9223372036854775807) {k : Nat} (hk : k < 5) : ∃ s : ByteArray, ((names5 a l).map Value.string)[k]? = some (.string s) ∧ s.size ≤ 9223372036854775807 := by
  obtain h | h | h | h | h : k = 0 ∨ k = 1 ∨ k = 2 ∨ k = 3 ∨ k = 4 := by omega
  · subst h; exact ⟨_, rfl, ha⟩
  · subst h; exact ⟨_, rfl, hl⟩
  · subst h; exact ⟨_, rfl, by decide⟩
  · subst h; exact ⟨_, rfl, by decide⟩
  · subst h; exact ⟨_, rfl, by decide⟩
set_option maxHeartbeats 4000000 in
theorem kioskNames_walk (a0 : ByteArray) (n : Int) (w : World) (h0 : a0.size ≤ 9223372036854775807) (hn : 0 ≤ n ∧ n ≤ 255) (htab : Tabs w) : Calls Tryz.prog 4 #[.string a0, .int .u8 n] w (TrueMk w) := by
  obtain ⟨h5, hh5⟩ : ∃ h5, h5 = hashB [5] := ⟨_, rfl⟩
  have hl5 : h5.length = 32 := by rw [hh5]; rfl
  obtain ⟨H5, hH5⟩ : ∃ H, H = (byteVals h5).toArray := ⟨_, rfl⟩
  have HB5 : Hid (Tryz.prog.built 31 [(0, .int .u8 5)] = some H5) := by show _ = _; rw [hH5, hh5]; exact hash5_built
  have HH5 := Lib.hid hH5
  have HL5 := Lib.hid hl5
  obtain ⟨Z, hZ⟩ : ∃ Z, Z = (rcV Rc.zero).toArray := ⟨_, rfl⟩
  have HBZ : Hid (Tryz.prog.built 37 [] = some Z) := by show _ = _; rw [hZ]; exact rc_zero_built
  obtain ⟨ZI, ZO, ZZ⟩ := rcLet Rc.zero_ok Z hZ
  have hqz : ∀ W : World, (Op.equalIn 10000 37 (.agg Z) (.agg Z)).run Tryz.prog W = .ok true W := fun W => eqR_self hZ Rc.zero_ok W
  have HQZ := Lib.hid hqz
  have HZE := Lib.hid hZ
  clear hh5 hl5 hH5 hZ hqz
  go_enter Tryz.func4, Tryz.ntmps4
  go_wp2_with fail
  refine (sanity27_any _ htab).mono ?_
  rintro e w1 ⟨rfl, hu1⟩
  have HU1 := Lib.hid hu1
  clear hu1
  go_wp2_with fail
  refine (New_to w1).mono ?_
  rintro e w2 ⟨b, S2, rfl, hd2, hu2⟩
  have HD2 := Lib.hid hd2
  have HU2 := Lib.hid hu2
  clear hd2 hu2
  go_wp2_with fail
  refine (Open_in 3 4 100 (by unfold i64in; omega) (by unfold i64in; omega) (by decide) HU1.out HD2.out HU2.out htab).mono ?_
  rintro e w3 ⟨kb, K3, rfl, hk3, hu3⟩
  have K3I := Lib.hid hk3
  obtain ⟨N, hN⟩ : ∃ N : Nat, (N : Int) = n % 40 := ⟨(n % 40).toNat, by omega⟩
  have hN40 : N < 40 := by omega
  clear hk3 hu3 HD2 HU2 HU1
  go_wp2_with fail
  go_loopw [8] (fun l wr => ∃ L : ByteArray, l = .string L ∧ L.size ≤ N ∧ wr = w3) (fun l _ => N - (match l with | .string L => L.size | _ => 0))
  case atStart => exact ⟨⟨#[]⟩, rfl, Nat.zero_le _, rfl⟩
  case round =>
    obtain ⟨L, rfl, hL, rfl⟩ := hrel
    by_cases hlt : L.size < N
    · go_wp2_with fail
      exact ⟨⟨_, rfl, by simp only [ByteArray.size_append]; show L.size + 1 ≤ N; omega, trivial⟩, by simp only [ByteArray.size_append]; show N - (L.size + 1) < N - L.size; omega⟩
    · obtain rfl : N = L.size := by omega
      clear hlt
      go_wp2_with fail
      obtain ⟨g, hg⟩ : ∃ g, g = wr.heap.size := ⟨_, rfl⟩
      obtain ⟨X, hX⟩ : ∃ X, X = ((names5 a0 L).map Value.string).toArray := ⟨_, rfl⟩
      have hlet : ∃ w4, wr.alloc (.cells #[.string a0, .string L, .string ⟨#[76, 111, 116, 116, 111, 95, 55]⟩, .string ⟨#[97, 45, 98]⟩, .string ⟨#[32]⟩] 9) = w4 ∧ Hid (KIn w kb b (KM.new 3 4 100) 0 K3 w4 ∧ Blk w4 K3 g (.cells X 9 (0, 0))) := by
        refine ⟨_, rfl, K3I.out.quiet ((Upd.refl _ _).alloc _), ?_⟩
        rw [hg, hX]
        exact K3I.out.new
      obtain ⟨w4, hw4, I4⟩ := hlet
      rw [hw4, ← hg]
      have HX := Lib.hid hX
      have hLs : L.size ≤ 9223372036854775807 := by omega
      have I4' : Hid (∃ m n K, KIn w kb b m n K w4 ∧ n ≤ 0 ∧ 100 ≤ m.paper + 0 ∧ m.rs.length ≤ 0 ∧ Blk w4 K g (.cells X 9 (0, 0))) := ⟨_, 0, K3, I4.out.1, Nat.le_refl _, by decide, Nat.le_refl _, I4.out.2⟩
      clear hg hX hw4 K3I I4
      go_loopw [37] (fun i wr => ∃ k : Nat, i = .int .i64 (k : Int) ∧ k ≤ 5 ∧ Hid (∃ m n K, KIn w kb b m n K wr ∧ n ≤ k ∧ 100 ≤ m.paper + k ∧ m.rs.length ≤ k ∧ Blk wr K g (.cells X 9 (0, 0)))) (fun i _ => 5 - (intOf i).toNat)
      case atStart => exact ⟨0, rfl, by omega, I4'⟩
      case round =>
        clear I4'
        obtain ⟨k, rfl, hk, HI⟩ := hrel
        by_cases hlt5 : k < 5
        · obtain ⟨m, nn, K, hin, hnk, hpk, hrk, hX⟩ := HI.out
          obtain ⟨s, hs, hss⟩ := names5_get h0 hLs hlt5
          have hc : wr.cell? ⟨g, k, none⟩ = some (.string s) := by rw [cell_of_row _ _ _ _ _ _ hX.at_, HX.out, List.getElem?_toArray, hs]
          have HIN := Lib.hid hin
          have HXB := Lib.hid hX
          have i0 : (0 : Int) ≤ (k : Int) := by omega
          have i1 : (k : Int) < 5 := by omega
          obtain ⟨y, hy⟩ : ∃ y, y = refE m (bs s) := ⟨_, rfl⟩
          have CS := Lib.hid (Sell_all hin s h5 hss HL5.out (by omega) htab)
          have HY : Hid ((nameOk (bs s) = true ∧ y = 0 ∧ (selR m s h5).draw = s) ∨ (nameOk (bs s) = false ∧ y = 13 ∧ selR m s h5 = Rc.zero)) := by
            cases hb : nameOk (bs s) with
            | true =>
              have : refE m (bs s) = 0 := by unfold refE; rw [hb, if_neg (by decide), if_neg (by omega), if_neg (by omega)]
              exact .inl ⟨rfl, hy.trans this, by unfold selR; rw [if_pos this]; rfl⟩
            | false =>
              have : refE m (bs s) = 13 := by unfold refE; rw [hb, if_pos rfl]
              exact .inr ⟨rfl, hy.trans this, by unfold selR; rw [if_neg (by omega)]⟩
          have hxo : (selR m s h5).ok := selR_ok hin.ok HL5.out
          obtain ⟨x, hx⟩ : ∃ x, x = selR m s h5 := ⟨_, rfl⟩
          rw [← hx] at hxo HY
          obtain ⟨R, hR⟩ : ∃ R, R = (rcV x).toArray := ⟨_, rfl⟩
          obtain ⟨RI, RO, RZ⟩ := rcLet hxo R hR
          have CS' : Hid (Calls Tryz.prog 13 #[.pointer (some ⟨kb, 0, none⟩), .string s, .agg H5] wr (fun e w' => ∃ K' n', e = .returned (.tuple #[.agg R, .int .i64 y]) ∧ n' ≤ nn + 1 ∧ KIn w kb b (selM m s h5) n' K' w' ∧ Upd K K' wr w')) := by
            show Calls _ _ _ _ _
            rw [hR, hx, hy, HH5.out]
            exact CS.out
          have HM : Hid (100 ≤ (selM m s h5).paper + (k + 1) ∧ (selM m s h5).rs.length ≤ k + 1) := by
            show _ ∧ _
            unfold selM
            split
            · refine ⟨?_, ?_⟩
              · show 100 ≤ m.paper - 1 + (k + 1); omega
              · show (m.rs ++ [_]).length ≤ _; rw [List.length_append]; show _ + 1 ≤ _; omega
            · exact ⟨by omega, by omega⟩
          have HNM := Lib.hid (fun W => rIsName_any s W hss)
          have hxo' := Lib.hid hxo
          have HR := Lib.hid hR
          clear hy hx hR CS hin hX hs hxo hpk hrk
          go_upto_region 11 with (fail)
          go_wp2_with (first | (refine wpList_build_want (by rfl) 31 #[(0, .const (.int .u8 5))] rfl H5 (Eq.trans (congrArg (fun z => Tryz.prog.built 31 z) (by kernel_rfl)) HB5.out) ?_))
          refine CS'.out.mono ?_
          rintro e w5 ⟨K5, n5, rfl, hn5, hk5, hu5⟩
          have B5 := HXB.out.upd hu5
          obtain ⟨w6, Z5, W5, R5, hq⟩ := blk_new w5 37 Tryz.zeroCells37 R
          have B6 := Lib.hid (B5.quiet hq)
          have C6 : Hid (Blk w6 K5 w5.heap.size (.cells R 37 (0, 0))) := ⟨R5.out, hk5.fresh (Nat.le_refl _)⟩
          have K6 := Lib.hid (hk5.quiet hq)
          have N5 : Hid (n5 ≤ k + 1) := by show _ ≤ _; omega
          clear CS' B5 R5 hq hk5 hu5 hn5 hnk
          go_upto_region 12 with (first | (refine wpList_store_rowAs rfl 37 _ _ rfl w5.heap.size R rfl rfl _ _ Z5.out RI.out RZ.out RO.out w6 W5.out ?_))
          rcases HY.out with ⟨hok, hy0, hdr⟩ | ⟨hok, hy0, hzr⟩
          · subst hy0
            have CD : Hid (∀ W, Upd [] [] w6 W → W.cell? ⟨w5.heap.size, 2, none⟩ = some (.string s)) := by
              intro W u
              rw [cell_of_row _ _ _ _ _ _ (C6.out.quiet u).at_, HR.out, (rc_parts hxo'.out).2.2.2.2.2.2.1, hdr]
            have HOK := Lib.hid hok
            clear hok hdr HY
            go_wp2_with fail
            refine (HNM.out w6).mono ?_
            rintro e w7 ⟨z, HZ, rfl, hq⟩
            obtain rfl : z = true := HZ.out.trans HOK.out
            have hcd := CD.out w7 hq
            have IN : Hid (∃ m n K, KIn w kb b m n K w7 ∧ n ≤ k + 1 ∧ 100 ≤ m.paper + (k + 1) ∧ m.rs.length ≤ k + 1 ∧ Blk w7 K g (.cells X 9 (0, 0))) := ⟨_, n5, K5, K6.out.quiet hq, N5.out, HM.out.1, HM.out.2, B6.out.quiet hq⟩
            clear hq HNM CD
            go_wp2_with fail
            exact ⟨⟨k + 1, by go_num, by omega, IN⟩, by simp [intOf]; omega⟩
          · subst hy0
            obtain rfl : R = Z := by rw [HR.out, HZE.out, hzr]
            have HOK := Lib.hid hok
            clear hok hzr HY
            go_wp2_with fail
            refine (HNM.out w6).mono ?_
            rintro e w7 ⟨z, HZ, rfl, hq⟩
            obtain rfl : z = false := HZ.out.trans HOK.out
            have HLD : Hid ((Instr.loadAt 37 (.pointer (some ⟨w5.heap.size, 0, none⟩))).run Tryz.prog w7 = .ok (.agg R) w7) := by
              have r1 := run_loadAt_mid w7 _ _ _ _ _ (row_range HZE.out (C6.out.quiet hq).at_) Tryz.underlying37 rfl (rcInfo Rc.zero_ok)
              rw [← HZE.out] at r1
              exact r1
            have IN : Hid (∃ m n K, KIn w kb b m n K w7 ∧ n ≤ k + 1 ∧ 100 ≤ m.paper + (k + 1) ∧ m.rs.length ≤ k + 1 ∧ Blk w7 K g (.cells X 9 (0, 0))) := ⟨_, n5, K5, K6.out.quiet hq, N5.out, HM.out.1, HM.out.2, B6.out.quiet hq⟩
            have hqz := HQZ.out
            clear hq HNM
            go_wp2_with (first | (refine wpList_load_want (by rfl) 37 _ rfl w5.heap.size rfl R HLD.out ?_) | (refine wpList_build_want (by rfl) 37 #[] rfl R (Eq.trans (congrArg (fun z => Tryz.prog.built 37 z) (by kernel_rfl)) HBZ.out) ?_))
            exact ⟨⟨k + 1, by go_num, by omega, IN⟩, by simp [intOf]; omega⟩
        · obtain rfl : k = 5 := by omega
          clear hlt5 hk
          go_wp2_with fail
          go_ret
          obtain ⟨m, nn, K, hin, _⟩ := HI.out
          exact ⟨rfl, hin.up⟩
end Go.Proofs.YtabnlklkfgojgaaGreatDoor
