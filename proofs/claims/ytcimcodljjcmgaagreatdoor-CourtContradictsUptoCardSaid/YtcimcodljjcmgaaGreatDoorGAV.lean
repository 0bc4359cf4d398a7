/- sortesref01: small at any bound, Int of a large number, Add. sortesref01.Mul by ten. What sortesref01.Parse takes: digits, plainly. -/
import Derived.Test.YtcimcodljjcmgaaGreatDoorGAU
import Derived.Test.YtcimcodljjcmgaaGreatDoorGAH
import Derived.Test.YtcimcodljjcmgaaGreatDoorGAS
import Derived.Test.YtcimcodljjcmgaaGreatDoorGAA
namespace Go.Proofs.YtcimcodljjcmgaaGreatDoor
open Go.RowKit
set_option maxRecDepth 100000

theorem pow7 : (256 : Nat) ^ 7 = 72057594037927936 := by decide
theorem be_le7 {x n : Nat} (hn : n ≤ 7) (h : (be x).length ≤ n) : x < 72057594037927936 := by
  have := be_small h
  have e : (256 : Nat) ^ n ≤ 256 ^ 7 := Nat.pow_le_pow_right (by omega) hn
  rw [pow7] at e
  omega
theorem smallN (s : ByteArray) (x n : Nat) (w : World) (hs : s.size ≤ 1000000000000) (hx : x = natB (bs s)) (hn : n ≤ 7) :
    Calls Tryz.prog 84 #[.string s, .int .i64 (n : Int)] w (fun e w' => ∃ (z : Int) (p : Bool), Hid ((p = true ↔ (be x).length ≤ n) ∧ (p = true → z = (x : Int))) ∧ (-9223372036854775808 ≤ z ∧ z ≤ 9223372036854775807) ∧ e = .returned (.tuple #[.int .i64 z, .bool p]) ∧ w = w') := by
  have HX := Lib.hid hx
  clear hx
  by_cases hb : (be x).length ≤ n
  · have hlt : x < 9223372036854775808 := by have := be_le7 hn hb; omega
    go_enter Tryz.func84, Tryz.ntmps84
    go_wp2_with fail
    refine (canon_any s w hs).mono ?_
    rintro e w' ⟨r, HR, rfl, rfl⟩
    have hl : r.size ≤ n := by
      have := size_of_be HR.out
      rw [← HX.out] at this
      omega
    have HB := Lib.hid hb
    clear hb
    go_wp2_with fail
    refine (int_any s x w hs HX.out hlt).mono ?_
    rintro e w' ⟨rfl, rfl⟩
    go_wp2_with fail
    go_ret2
    exact ⟨(x : Int), true, ⟨⟨fun _ => HB.out, fun _ => rfl⟩, fun _ => rfl⟩, by omega, rfl, rfl⟩
  · go_enter Tryz.func84, Tryz.ntmps84
    go_wp2_with fail
    refine (canon_any s w hs).mono ?_
    rintro e w' ⟨r, HR, rfl, rfl⟩
    have hl : n < r.size := by
      have := size_of_be HR.out
      rw [← HX.out] at this
      omega
    have HB := Lib.hid hb
    clear hb
    go_wp2_with fail
    go_ret2
    exact ⟨0, false, ⟨⟨(fun h => by cases h), fun h => absurd h HB.out⟩, fun h => by cases h⟩, by omega, rfl, rfl⟩
theorem take_getD (l : List Nat) (k : Nat) : valL (l.take (k + 1)) = valL (l.take k) + 16777216 ^ k * l.getD k 0 := by
  by_cases h : k < l.length
  · rw [valL_take_step (List.getElem?_eq_getElem h), getD_of (List.getElem?_eq_getElem h)]
  · rw [List.take_of_length_le (by omega), List.take_of_length_le (by omega), getD_none (by omega)]
    omega
theorem add_step {u v out : List Nat} {k a b r q c s : Nat} (ha : u.getD k 0 = a) (hb : v.getD k 0 = b) (hl : out.length = k) (h : valL out + 16777216 ^ k * c = valL (u.take k) + valL (v.take k)) (hs : s = c + a + b) (hr : r = s % 16777216) (hq : q = s / 16777216) :
    valL (out ++ [r]) + 16777216 ^ (k + 1) * q = valL (u.take (k + 1)) + valL (v.take (k + 1)) := by
  have e : 16777216 * q + r = c + a + b := by omega
  have e2 : 16777216 ^ k * (16777216 * q + r) = 16777216 ^ k * (c + a + b) := by rw [e]
  rw [valL_snoc, hl, take_getD, take_getD, ha, hb, Nat.pow_succ, Nat.mul_assoc]
  rw [Nat.mul_add, Nat.mul_add, Nat.mul_add] at e2
  omega
theorem dig_or (x k : Nat) : (dg x).getD k 0 < 16777216 := by
  by_cases h : k < (dg x).length
  · rw [getD_of (List.getElem?_eq_getElem h)]
    exact dg_ok x _ (List.getElem_mem h)
  · rw [getD_none (by omega)]
    omega
set_option maxHeartbeats 4000000 in
theorem bigAdd_any (a b : ByteArray) (x y : Nat) (w : World) (ha : bs a = be x) (hb : bs b = be y) (lx : (be x).length ≤ 2000000) (ly : (be y).length ≤ 2000000) :
    Calls Tryz.prog 37 #[.string a, .string b] w (MkNat (x + y) w) := by
  have hx : x = natB (bs a) := by rw [ha, natB_be]
  have hy : y = natB (bs b) := by rw [hb, natB_be]
  have sa : a.size ≤ 20000000 := by rw [size_of_be ha]; omega
  have sb : b.size ≤ 20000000 := by rw [size_of_be hb]; omega
  have dx : (dg x).length ≤ 2000000 := Nat.le_trans (dg_len_be x) lx
  have dy : (dg y).length ≤ 2000000 := Nat.le_trans (dg_len_be y) ly
  have HX := Lib.hid hx
  have HY := Lib.hid hy
  have HD := Lib.hid (And.intro dx dy)
  clear hx hy ha hb lx ly dx dy
  go_enter Tryz.func37, Tryz.ntmps37
  go_wp2_with fail
  refine (smallN a x 7 w (by omega) HX.out (by omega)).mono ?_
  rintro e w' ⟨z1, p1, HP1, hz1, rfl, rfl⟩
  go_wp2_with fail
  refine (smallN b y 7 w (by omega) HY.out (by omega)).mono ?_
  rintro e w' ⟨z2, p2, HP2, hz2, rfl, rfl⟩
  by_cases hpq : p1 = true ∧ p2 = true
  · obtain ⟨rfl, rfl⟩ := hpq
    have e1 : z1 = (x : Int) := HP1.out.2 rfl
    have e2 : z2 = (y : Int) := HP2.out.2 rfl
    have b1 := be_le7 (by omega) (HP1.out.1.1 rfl)
    have b2 := be_le7 (by omega) (HP2.out.1.1 rfl)
    subst e1
    subst e2
    have h1 : (x : Int) + (y : Int) ≤ 9223372036854775807 := by omega
    have h2 : -9223372036854775808 ≤ (x : Int) + (y : Int) := by omega
    clear HP1 HP2
    go_wp2_with fail
    rw [show (x : Int) + (y : Int) = ((x + y : Nat) : Int) by omega]
    refine (of_int (x + y) w (by omega)).mono ?_
    rintro e w1 ⟨r, HR, rfl, hu⟩
    go_wp2_with fail
    go_ret
    exact ⟨r, HR, rfl, hu⟩
  have HNP : Hid (p1 = true → p2 = false) := fun h => by cases p2 with
    | false => rfl
    | true => exact absurd ⟨h, rfl⟩ hpq
  clear hpq HP1 HP2
  cases p1
  · clear HNP
    go_wp2_with fail
    refine (of_big a x w HX.out (by omega) (by have := HD.out.1; omega)).mono ?_
    rintro e w1 ⟨u, SU, rfl, hq⟩
    have U1 := Lib.hid hq
    clear hq
    go_wp2_with fail
    refine (of_big b y w1 HY.out (by omega) (by have := HD.out.2; omega)).mono ?_
    rintro e w2 ⟨v, SV, rfl, hq⟩
    have SU2 := Lib.hid (SU.out.upd hq)
    have U2 := Lib.hid (U1.out.trans hq)
    clear hq U1 SU
    obtain ⟨ao, cap, rfl, hu1, hu2⟩ := SU2.out.form
    obtain ⟨bo, cbp, rfl, hv1, hv2⟩ := SV.out.form
    obtain ⟨n, hn⟩ : ∃ n, n = (dg x).length := ⟨_, rfl⟩
    obtain ⟨m, hm⟩ : ∃ m, m = (dg y).length := ⟨_, rfl⟩
    obtain ⟨N, hN⟩ : ∃ N, N = max n m := ⟨_, rfl⟩
    have hn1 : n ≤ 2000000 := by have := HD.out.1; omega
    have hm1 : m ≤ 2000000 := by have := HD.out.2; omega
    rw [← hn] at hu1 SU2
    rw [← hm] at hv1 SV
    rw [← hn, ← hm]
    have HN := Lib.hid (And.intro hn hm)
    have hN1 : n ≤ N := by omega
    have hN2 : m ≤ N := by omega
    have hN3 : N ≤ 2000000 := by omega
    clear hn hm hN
    go_wp2_with fail
    go_loopw [11, 12, 13] (fun o c i wr => ∃ (k cy : Nat) (out : List Nat), i = .int .i64 (k : Int) ∧ c = .int .i64 (cy : Int) ∧ cy ≤ 1 ∧ (k ≤ N ∨ (k = N + 1 ∧ cy = 0)) ∧ Hid (out.length = k ∧ okL out ∧ valL out + 16777216 ^ k * cy = valL ((dg x).take k) + valL ((dg y).take k)) ∧ Hid (wr.ownsRow 0 3 1 o k (digVals out)) ∧ Hid (Upd [] (foot o) w2 wr)) (fun _ _ i _ => N + 2 - (intOf i).toNat)
    case atStart => exact ⟨0, 0, [], rfl, rfl, by omega, .inl (Nat.zero_le _), ⟨rfl, okL_nil, by simp [valL]⟩, ⟨by simp [digVals], .inl ⟨rfl, rfl⟩⟩, Upd.refl _ _⟩
    case round =>
      obtain ⟨k, cy, out, rfl, rfl, hcy, hkN, HI, HR, HUP⟩ := hrel
      have hup0 : Upd [] [] w2 wr := HUP.out.mono (fun _ h => h) (fun _ h => absurd h (by simp))
      have hkk : k ≤ 2000001 := by omega
      obtain ⟨a1, hA⟩ : ∃ a1, (dg x).getD k 0 = a1 := ⟨_, rfl⟩
      obtain ⟨b1, hB⟩ : ∃ b1, (dg y).getD k 0 = b1 := ⟨_, rfl⟩
      have ha2 : a1 < 16777216 := by rw [← hA]; exact dig_or x k
      have hb2 : b1 < 16777216 := by rw [← hB]; exact dig_or y k
      obtain ⟨s, hs⟩ : ∃ s, s = cy + a1 + b1 := ⟨_, rfl⟩
      obtain ⟨r, hr⟩ : ∃ r, r = s % 16777216 := ⟨_, rfl⟩
      obtain ⟨q, hq⟩ : ∃ q, q = s / 16777216 := ⟨_, rfl⟩
      have hst := add_step hA hB HI.out.1 HI.out.2.2 hs hr hq
      have hr1 : (s : Int) % 16777216 = (r : Int) := by omega
      have hq1 : (s : Int) / 16777216 = (q : Int) := by omega
      have hr2 : r < 16777216 := by omega
      have hq2 : q ≤ 1 := by omega
      obtain ⟨v', w', hrun, hown', hup'⟩ := append_int wr _ k _ (r : Int) HR.out (by omega)
      rw [← digVals_snoc] at hown'
      have hl : (out ++ [r]).length = k + 1 := by rw [List.length_append, HI.out.1]; rfl
      have HRUN := Lib.hid hrun
      have HOWN := Lib.hid hown'
      have HUPP := Lib.hid (HUP.out.trans hup')
      have HST := Lib.hid (And.intro hl (And.intro (okL_snoc HI.out.2.1 hr2) hst))
      clear hrun hown' hup' hst hr hq hl
      have hkc : ((k + 1 : Nat) : Int) = (k : Int) + 1 := by omega
      by_cases hlt1 : k < n
      · by_cases hlt2 : k < m
        · skip
          obtain ⟨g1, rfl, c1⟩ := (SU2.out.upd hup0).get (show (dg x)[k]? = some a1 by rw [← hA, List.getD_eq_getElem?_getD, List.getElem?_eq_getElem (by rw [← HN.out.1]; exact hlt1)]; rfl)
          obtain ⟨g2, rfl, c2⟩ := (SV.out.upd hup0).get (show (dg y)[k]? = some b1 by rw [← hB, List.getD_eq_getElem?_getD, List.getElem?_eq_getElem (by rw [← HN.out.2]; exact hlt2)]; rfl)
          obtain ⟨t1, ht1⟩ : ∃ t1, t1 = cy + a1 := ⟨_, rfl⟩
          have hs1 : (cy : Int) + (a1 : Int) = (t1 : Int) := by omega
          have hs2 : (t1 : Int) + (b1 : Int) = (s : Int) := by omega
          have hs3 : t1 < 33554432 := by omega
          clear ht1
          
          clear hA hB hs HUP HR hup0
          go_wp2_with (refine wpList_append_run _ rfl _ _ _ _ rfl _ _ v' w' rfl rfl HRUN.out ?_)
          exact ⟨⟨k + 1, q, out ++ [r], by go_num, rfl, hq2, by omega, HST.out, HOWN.out, HUPP.out⟩, by simp [intOf]; omega⟩
        · skip
          obtain ⟨g1, rfl, c1⟩ := (SU2.out.upd hup0).get (show (dg x)[k]? = some a1 by rw [← hA, List.getD_eq_getElem?_getD, List.getElem?_eq_getElem (by rw [← HN.out.1]; exact hlt1)]; rfl)
          have hb0 : b1 = 0 := by rw [← hB]; exact getD_none (by rw [← HN.out.2]; omega)
          have hs1 : (cy : Int) + (a1 : Int) = (s : Int) := by omega
          
          clear hA hB hs HUP HR hup0
          go_wp2_with (refine wpList_append_run _ rfl _ _ _ _ rfl _ _ v' w' rfl rfl HRUN.out ?_)
          exact ⟨⟨k + 1, q, out ++ [r], by go_num, rfl, hq2, by omega, HST.out, HOWN.out, HUPP.out⟩, by simp [intOf]; omega⟩
      by_cases hlt2 : k < m
      · skip
        obtain ⟨g2, rfl, c2⟩ := (SV.out.upd hup0).get (show (dg y)[k]? = some b1 by rw [← hB, List.getD_eq_getElem?_getD, List.getElem?_eq_getElem (by rw [← HN.out.2]; exact hlt2)]; rfl)
        have ha0 : a1 = 0 := by rw [← hA]; exact getD_none (by rw [← HN.out.1]; omega)
        have hs1 : (cy : Int) + (b1 : Int) = (s : Int) := by omega
        
        clear hA hB hs HUP HR hup0
        go_wp2_with (refine wpList_append_run _ rfl _ _ _ _ rfl _ _ v' w' rfl rfl HRUN.out ?_)
        exact ⟨⟨k + 1, q, out ++ [r], by go_num, rfl, hq2, by omega, HST.out, HOWN.out, HUPP.out⟩, by simp [intOf]; omega⟩
      by_cases hc0 : 0 < cy
      · skip
        have ha0 : a1 = 0 := by rw [← hA]; exact getD_none (by rw [← HN.out.1]; omega)
        have hb0 : b1 = 0 := by rw [← hB]; exact getD_none (by rw [← HN.out.2]; omega)
        obtain rfl : s = cy := by omega
        
        clear hA hB hs HUP HR hup0
        go_wp2_with (refine wpList_append_run _ rfl _ _ _ _ rfl _ _ v' w' rfl rfl HRUN.out ?_)
        exact ⟨⟨k + 1, q, out ++ [r], by go_num, rfl, hq2, by omega, HST.out, HOWN.out, HUPP.out⟩, by simp [intOf]; omega⟩
      obtain rfl : cy = 0 := by omega
      have hv : valL out = x + y := by
        have h := HI.out.2.2
        rw [List.take_of_length_le (by rw [← HN.out.1]; omega), List.take_of_length_le (by rw [← HN.out.2]; omega), valL_dg, valL_dg] at h
        omega
      have HV := Lib.hid hv
      have hl : out.length = k := HI.out.1
      rw [← hl] at HR
      have HSL := Lib.hid (Sl.of_row HR.out)
      have HOK := Lib.hid HI.out.2.1
      have HUU := Lib.hid hup0
      clear HI HR HUP HRUN HOWN HUPP HST hA hB hs hv hup0
      go_wp2_with fail
      refine (number_big _ out wr HSL.out HOK.out (by omega)).mono ?_
      rintro e w3 ⟨z, HZ, rfl, hq⟩
      go_wp2_with fail
      go_ret
      exact ⟨z, by show _ = _; rw [HZ.out, HV.out], rfl, (U2.out.trans HUU.out).trans hq⟩
  have hp2 := HNP.out rfl
  subst hp2
  clear HNP
  go_wp2_with fail
  refine (of_big a x w HX.out (by omega) (by have := HD.out.1; omega)).mono ?_
  rintro e w1 ⟨u, SU, rfl, hq⟩
  have U1 := Lib.hid hq
  clear hq
  go_wp2_with fail
  refine (of_big b y w1 HY.out (by omega) (by have := HD.out.2; omega)).mono ?_
  rintro e w2 ⟨v, SV, rfl, hq⟩
  have SU2 := Lib.hid (SU.out.upd hq)
  have U2 := Lib.hid (U1.out.trans hq)
  clear hq U1 SU
  obtain ⟨ao, cap, rfl, hu1, hu2⟩ := SU2.out.form
  obtain ⟨bo, cbp, rfl, hv1, hv2⟩ := SV.out.form
  obtain ⟨n, hn⟩ : ∃ n, n = (dg x).length := ⟨_, rfl⟩
  obtain ⟨m, hm⟩ : ∃ m, m = (dg y).length := ⟨_, rfl⟩
  obtain ⟨N, hN⟩ : ∃ N, N = max n m := ⟨_, rfl⟩
  have hn1 : n ≤ 2000000 := by have := HD.out.1; omega
  have hm1 : m ≤ 2000000 := by have := HD.out.2; omega
  rw [← hn] at hu1 SU2
  rw [← hm] at hv1 SV
  rw [← hn, ← hm]
  have HN := Lib.hid (And.intro hn hm)
  have hN1 : n ≤ N := by omega
  have hN2 : m ≤ N := by omega
  have hN3 : N ≤ 2000000 := by omega
  clear hn hm hN
  go_wp2_with fail
  go_loopw [11, 12, 13] (fun o c i wr => ∃ (k cy : Nat) (out : List Nat), i = .int .i64 (k : Int) ∧ c = .int .i64 (cy : Int) ∧ cy ≤ 1 ∧ (k ≤ N ∨ (k = N + 1 ∧ cy = 0)) ∧ Hid (out.length = k ∧ okL out ∧ valL out + 16777216 ^ k * cy = valL ((dg x).take k) + valL ((dg y).take k)) ∧ Hid (wr.ownsRow 0 3 1 o k (digVals out)) ∧ Hid (Upd [] (foot o) w2 wr)) (fun _ _ i _ => N + 2 - (intOf i).toNat)
  case atStart => exact ⟨0, 0, [], rfl, rfl, by omega, .inl (Nat.zero_le _), ⟨rfl, okL_nil, by simp [valL]⟩, ⟨by simp [digVals], .inl ⟨rfl, rfl⟩⟩, Upd.refl _ _⟩
  case round =>
    obtain ⟨k, cy, out, rfl, rfl, hcy, hkN, HI, HR, HUP⟩ := hrel
    have hup0 : Upd [] [] w2 wr := HUP.out.mono (fun _ h => h) (fun _ h => absurd h (by simp))
    have hkk : k ≤ 2000001 := by omega
    obtain ⟨a1, hA⟩ : ∃ a1, (dg x).getD k 0 = a1 := ⟨_, rfl⟩
    obtain ⟨b1, hB⟩ : ∃ b1, (dg y).getD k 0 = b1 := ⟨_, rfl⟩
    have ha2 : a1 < 16777216 := by rw [← hA]; exact dig_or x k
    have hb2 : b1 < 16777216 := by rw [← hB]; exact dig_or y k
    obtain ⟨s, hs⟩ : ∃ s, s = cy + a1 + b1 := ⟨_, rfl⟩
    obtain ⟨r, hr⟩ : ∃ r, r = s % 16777216 := ⟨_, rfl⟩
    obtain ⟨q, hq⟩ : ∃ q, q = s / 16777216 := ⟨_, rfl⟩
    have hst := add_step hA hB HI.out.1 HI.out.2.2 hs hr hq
    have hr1 : (s : Int) % 16777216 = (r : Int) := by omega
    have hq1 : (s : Int) / 16777216 = (q : Int) := by omega
    have hr2 : r < 16777216 := by omega
    have hq2 : q ≤ 1 := by omega
    obtain ⟨v', w', hrun, hown', hup'⟩ := append_int wr _ k _ (r : Int) HR.out (by omega)
    rw [← digVals_snoc] at hown'
    have hl : (out ++ [r]).length = k + 1 := by rw [List.length_append, HI.out.1]; rfl
    have HRUN := Lib.hid hrun
    have HOWN := Lib.hid hown'
    have HUPP := Lib.hid (HUP.out.trans hup')
    have HST := Lib.hid (And.intro hl (And.intro (okL_snoc HI.out.2.1 hr2) hst))
    clear hrun hown' hup' hst hr hq hl
    have hkc : ((k + 1 : Nat) : Int) = (k : Int) + 1 := by omega
    by_cases hlt1 : k < n
    · by_cases hlt2 : k < m
      · skip
        obtain ⟨g1, rfl, c1⟩ := (SU2.out.upd hup0).get (show (dg x)[k]? = some a1 by rw [← hA, List.getD_eq_getElem?_getD, List.getElem?_eq_getElem (by rw [← HN.out.1]; exact hlt1)]; rfl)
        obtain ⟨g2, rfl, c2⟩ := (SV.out.upd hup0).get (show (dg y)[k]? = some b1 by rw [← hB, List.getD_eq_getElem?_getD, List.getElem?_eq_getElem (by rw [← HN.out.2]; exact hlt2)]; rfl)
        obtain ⟨t1, ht1⟩ : ∃ t1, t1 = cy + a1 := ⟨_, rfl⟩
        have hs1 : (cy : Int) + (a1 : Int) = (t1 : Int) := by omega
        have hs2 : (t1 : Int) + (b1 : Int) = (s : Int) := by omega
        have hs3 : t1 < 33554432 := by omega
        clear ht1
        
        clear hA hB hs HUP HR hup0
        go_wp2_with (refine wpList_append_run _ rfl _ _ _ _ rfl _ _ v' w' rfl rfl HRUN.out ?_)
        exact ⟨⟨k + 1, q, out ++ [r], by go_num, rfl, hq2, by omega, HST.out, HOWN.out, HUPP.out⟩, by simp [intOf]; omega⟩
      · skip
        obtain ⟨g1, rfl, c1⟩ := (SU2.out.upd hup0).get (show (dg x)[k]? = some a1 by rw [← hA, List.getD_eq_getElem?_getD, List.getElem?_eq_getElem (by rw [← HN.out.1]; exact hlt1)]; rfl)
        have hb0 : b1 = 0 := by rw [← hB]; exact getD_none (by rw [← HN.out.2]; omega)
        have hs1 : (cy : Int) + (a1 : Int) = (s : Int) := by omega
        
        clear hA hB hs HUP HR hup0
        go_wp2_with (refine wpList_append_run _ rfl _ _ _ _ rfl _ _ v' w' rfl rfl HRUN.out ?_)
        exact ⟨⟨k + 1, q, out ++ [r], by go_num, rfl, hq2, by omega, HST.out, HOWN.out, HUPP.out⟩, by simp [intOf]; omega⟩
    by_cases hlt2 : k < m
    · skip
      obtain ⟨g2, rfl, c2⟩ := (SV.out.upd hup0).get (show (dg y)[k]? = some b1 by rw [← hB, List.getD_eq_getElem?_getD, List.getElem?_eq_getElem (by rw [← HN.out.2]; exact hlt2)]; rfl)
      have ha0 : a1 = 0 := by rw [← hA]; exact getD_none (by rw [← HN.out.1]; omega)
      have hs1 : (cy : Int) + (b1 : Int) = (s : Int) := by omega
      
      clear hA hB hs HUP HR hup0
      go_wp2_with (refine wpList_append_run _ rfl _ _ _ _ rfl _ _ v' w' rfl rfl HRUN.out ?_)
      exact ⟨⟨k + 1, q, out ++ [r], by go_num, rfl, hq2, by omega, HST.out, HOWN.out, HUPP.out⟩, by simp [intOf]; omega⟩
    by_cases hc0 : 0 < cy
    · skip
      have ha0 : a1 = 0 := by rw [← hA]; exact getD_none (by rw [← HN.out.1]; omega)
      have hb0 : b1 = 0 := by rw [← hB]; exact getD_none (by rw [← HN.out.2]; omega)
      obtain rfl : s = cy := by omega
      
      clear hA hB hs HUP HR hup0
      go_wp2_with (refine wpList_append_run _ rfl _ _ _ _ rfl _ _ v' w' rfl rfl HRUN.out ?_)
      exact ⟨⟨k + 1, q, out ++ [r], by go_num, rfl, hq2, by omega, HST.out, HOWN.out, HUPP.out⟩, by simp [intOf]; omega⟩
    obtain rfl : cy = 0 := by omega
    have hv : valL out = x + y := by
      have h := HI.out.2.2
      rw [List.take_of_length_le (by rw [← HN.out.1]; omega), List.take_of_length_le (by rw [← HN.out.2]; omega), valL_dg, valL_dg] at h
      omega
    have HV := Lib.hid hv
    have hl : out.length = k := HI.out.1
    rw [← hl] at HR
    have HSL := Lib.hid (Sl.of_row HR.out)
    have HOK := Lib.hid HI.out.2.1
    have HUU := Lib.hid hup0
    clear HI HR HUP HRUN HOWN HUPP HST hA hB hs hv hup0
    go_wp2_with fail
    refine (number_big _ out wr HSL.out HOK.out (by omega)).mono ?_
    rintro e w3 ⟨z, HZ, rfl, hq⟩
    go_wp2_with fail
    go_ret
    exact ⟨z, by show _ = _; rw [HZ.out, HV.out], rfl, (U2.out.trans HUU.out).trans hq⟩
end Go.Proofs.YtcimcodljjcmgaaGreatDoor

namespace Go.Proofs.YtcimcodljjcmgaaGreatDoor
open Go.RowKit
set_option maxRecDepth 100000

theorem dg_ten : dg 10 = [10] := by
  rw [dg_pos (by omega), Nat.mod_eq_of_lt (by omega), Nat.div_eq_of_lt (by omega), dg_zero]
theorem mul_take {O : List Nat} {k r q : Nat} (h : k + 1 < O.length) : valL (((O.set k r).set (k + 1) q).take (k + 2)) = valL (O.take k) + 16777216 ^ k * r + 16777216 ^ (k + 1) * q := by
  have e : ((O.set k r).set (k + 1) q).take (k + 2) = O.take k ++ [r, q] := by
    apply List.ext_getElem?
    intro j
    rw [List.getElem?_take]
    by_cases hj : j < k
    · rw [if_pos (by omega), List.getElem?_set_ne (by omega), List.getElem?_set_ne (by omega), List.getElem?_append_left (by rw [List.length_take]; omega), List.getElem?_take, if_pos hj]
    · rw [List.getElem?_append_right (by rw [List.length_take]; omega), List.length_take, Nat.min_eq_left (by omega)]
      by_cases h1 : j = k
      · subst h1
        rw [if_pos (by omega), List.getElem?_set_ne (by omega), List.getElem?_set_self (by omega), Nat.sub_self]
        rfl
      · by_cases h2 : j = k + 1
        · subst h2
          rw [if_pos (by omega), List.getElem?_set_self (by rw [List.length_set]; omega), show k + 1 - k = 1 by omega]
          rfl
        · rw [if_neg (by omega), List.getElem?_eq_none]
          simp
          omega
  rw [e, show ([r, q] : List Nat) = [r] ++ [q] from rfl, ← List.append_assoc, valL_snoc, valL_snoc, List.length_append, List.length_take, Nat.min_eq_left (by omega)]
  rfl

theorem mul_step {x k u d s r q : Nat} {O : List Nat} (hu : (dg x)[k]? = some u) (hd : O[k]? = some d) (hl : k + 1 < O.length) (h : valL (O.take (k + 1)) = valL ((dg x).take k) * 10) (hs : s = d + u * 10) (hr : r = s % 16777216) (hq : q = s / 16777216) :
    valL (((O.set k r).set (k + 1) q).take (k + 2)) = valL ((dg x).take (k + 1)) * 10 := by
  have e : 16777216 * q + r = d + u * 10 := by omega
  have e2 : 16777216 ^ k * (16777216 * q + r) = 16777216 ^ k * (d + u * 10) := by rw [e]
  rw [valL_take_step hd] at h
  rw [mul_take hl, valL_take_step hu, Nat.pow_succ, Nat.mul_assoc]
  rw [Nat.mul_add, Nat.mul_add, ← Nat.mul_assoc _ u 10] at e2
  rw [Nat.add_mul]
  omega
set_option maxHeartbeats 4000000 in
theorem bigMulTen_any (a b : ByteArray) (x : Nat) (w : World) (ha : bs a = be x) (hb : bs b = be 10) (lx : (be x).length ≤ 2000000) :
    Calls Tryz.prog 153 #[.string a, .string b] w (MkNat (x * 10) w) := by
  have hx : x = natB (bs a) := by rw [ha, natB_be]
  have hy : 10 = natB (bs b) := by rw [hb, natB_be]
  have sa : a.size ≤ 20000000 := by rw [size_of_be ha]; omega
  have l10 : (be 10).length ≤ 1 := be_len_le 1 10 (by decide)
  have sb : b.size ≤ 1 := by rw [size_of_be hb]; exact l10
  have dx : (dg x).length ≤ 2000000 := Nat.le_trans (dg_len_be x) lx
  have HX := Lib.hid hx
  have HY := Lib.hid hy
  have HD := Lib.hid dx
  have HL := Lib.hid l10
  clear hx hy ha hb lx dx l10
  go_enter Tryz.func153, Tryz.ntmps153
  go_wp2_with fail
  refine (smallN a x 3 w (by omega) HX.out (by omega)).mono ?_
  rintro e w' ⟨z1, p1, HP1, hz1, rfl, rfl⟩
  go_wp2_with fail
  refine (smallN b 10 4 w (by omega) HY.out (by omega)).mono ?_
  rintro e w' ⟨z2, p2, HP2, hz2, rfl, rfl⟩
  obtain rfl : p2 = true := HP2.out.1.2 (Nat.le_trans HL.out (by omega))
  have e2 : z2 = ((10 : Nat) : Int) := HP2.out.2 rfl
  subst e2
  clear HP2
  cases p1 with
  | true =>
    have e1 : z1 = (x : Int) := HP1.out.2 rfl
    subst e1
    have b1 : x < 16777216 := be_small (k := 3) (HP1.out.1.1 rfl)
    have w1 : IntKind.i64.wrap ((x : Int) * 10) = ((x * 10 : Nat) : Int) := (wrap_in (by omega) (by omega)).trans (by omega)
    clear HP1
    go_wp2_with fail
    first | rw [w1] | rw [show (x : Int) * 10 = ((x * 10 : Nat) : Int) by omega]
    refine (of_int (x * 10) w (by omega)).mono ?_
    rintro e w1 ⟨r, HR, rfl, hu⟩
    go_wp2_with fail
    go_ret
    exact ⟨r, HR, rfl, hu⟩
  | false =>
    clear HP1 hz2
    go_wp2_with fail
    refine (of_big a x w HX.out (by omega) (by have := HD.out; omega)).mono ?_
    rintro e w1 ⟨u, SU, rfl, hq⟩
    have U1 := Lib.hid hq
    clear hq
    go_wp2_with fail
    refine (of_big b 10 w1 HY.out (by omega) (by rw [dg_ten]; simp)).mono ?_
    rintro e w2 ⟨v, SV, rfl, hq⟩
    rw [dg_ten] at SV
    have SU2 := Lib.hid (SU.out.upd hq)
    have U2 := Lib.hid (U1.out.trans hq)
    clear hq U1 SU
    obtain ⟨ao, cap, rfl, hu1, hu2⟩ := SU2.out.form
    obtain ⟨bo, cbp, rfl, hv1, hv2⟩ := SV.out.form
    obtain ⟨g2, rfl, _⟩ := SV.out.get (show ([10] : List Nat)[0]? = some 10 from rfl)
    obtain ⟨n, hn⟩ : ∃ n, n = (dg x).length := ⟨_, rfl⟩
    have hn1 : n ≤ 2000000 := by have := HD.out; omega
    rw [← hn] at hu1 SU2
    rw [← hn]
    have HN := Lib.hid hn
    clear hn
    have hl1 : (([10] : List Nat).length : Int) = 1 := rfl
    rw [show ([10] : List Nat).length = 1 from rfl] at SV hv1 ⊢
    obtain ⟨n1, hn1e⟩ : ∃ n1, n1 = n + 1 := ⟨_, rfl⟩
    have hn2 : (n : Int) + 1 = (n1 : Int) := by omega
    have hn3 : n1 ≤ 2000001 := by omega
    have HM := make_digs w2 n1 (by omega)
    obtain ⟨gO, hgO⟩ : ∃ g, w2.heap.size = g := ⟨_, rfl⟩
    obtain ⟨w3, hw3⟩ : ∃ W, w2.alloc (.cells (digVals (List.replicate n1 0)).toArray 3) = W := ⟨_, rfl⟩
    have R0 := Lib.hid (show w3.heap[gO]? = some (.cells (digVals (List.replicate n1 0)).toArray 3 (0, 0)) by rw [← hgO, ← hw3]; exact heap_alloc_new _ _)
    have u3 : Upd [] [] w2 w3 := by rw [← hw3]; exact (Upd.refl _ _).alloc _
    have HG : Hid (w2.heap.size ≤ gO) := Nat.le_of_eq hgO
    have U3 := Lib.hid u3
    have HN1 := Lib.hid hn1e
    rw [hgO, hw3] at HM
    have HMM := Lib.hid HM
    clear u3 HM hn1e hgO
    go_wp2_with fail
    rw [HMM.out]
    go_wp2_with fail
    go_loopw [12] (fun i wr => ∃ (k : Nat) (O : List Nat), i = .int .i64 (k : Int) ∧ k ≤ n ∧ Hid (O.length = n1 ∧ okL O ∧ valL (O.take (k + 1)) = valL ((dg x).take k) * 10 ∧ (∀ j, k < j → j < n1 → O[j]? = some 0)) ∧ Hid (wr.heap[gO]? = some (.cells (digVals O).toArray 3 (0, 0))) ∧ Hid (Upd [] [] w2 wr)) (fun i _ => n + 1 - (intOf i).toNat)
    case atStart =>
      refine ⟨0, List.replicate n1 0, rfl, Nat.zero_le _, ⟨by simp, okL_zeros n1, ?_, fun j _ hj => by simp [hj]⟩, R0.out, U3.out⟩
      have := HN1.out
      rw [List.take_replicate, valL_zeros]
      simp [valL]
    case round =>
      obtain ⟨k, O, rfl, hk, HI, HR, HUP⟩ := hrel
      by_cases hlt : k < n
      · have hkl : k < (dg x).length := by rw [← HN.out]; exact hlt
        obtain ⟨u0, hu0⟩ : ∃ u0, (dg x)[k]? = some u0 := ⟨_, List.getElem?_eq_getElem hkl⟩
        have hu0l : u0 < 16777216 := dg_ok x u0 (List.mem_of_getElem? hu0)
        have hO : k + 1 < O.length := by rw [HI.out.1, HN1.out]; omega
        obtain ⟨d0, hd0⟩ : ∃ d0, O[k]? = some d0 := ⟨_, List.getElem?_eq_getElem (by omega)⟩
        have hd0l : d0 < 16777216 := HI.out.2.1 d0 (List.mem_of_getElem? hd0)
        obtain ⟨t0, ht0⟩ : ∃ t0, t0 = u0 * 10 := ⟨_, rfl⟩
        obtain ⟨s, hs⟩ : ∃ s, s = d0 + u0 * 10 := ⟨_, rfl⟩
        obtain ⟨r, hr⟩ : ∃ r, r = s % 16777216 := ⟨_, rfl⟩
        obtain ⟨q, hq⟩ : ∃ q, q = s / 16777216 := ⟨_, rfl⟩
        have hst := mul_step hu0 hd0 hO HI.out.2.2.1 hs hr hq
        have a1 : (u0 : Int) * 10 = (t0 : Int) := by omega
        have a2 : (d0 : Int) + (t0 : Int) = (s : Int) := by omega
        have a3 : (s : Int) % 16777216 = (r : Int) := by omega
        have a4 : (s : Int) / 16777216 = (q : Int) := by omega
        have a5 : t0 < 167772160 := by omega
        have a6 : s < 184549376 := by omega
        have hr2 : r < 16777216 := by omega
        have hq2 : q < 16777216 := by omega
        obtain ⟨g1, rfl, c1⟩ := (SU2.out.upd HUP.out).get hu0
        obtain ⟨g3, hg3, c2⟩ := (SV.out.upd HUP.out).get (show ([10] : List Nat)[0]? = some 10 from rfl)
        obtain rfl : g2 = g3 := by injection hg3 with h; injection h
        have hvd : (digVals O)[k]? = some (.int .i64 (d0 : Int)) := by rw [digVals, List.getElem?_map, hd0]; rfl
        have c3 := (cell_of_row _ gO k _ _ _ HR.out).trans (show _ = some (Value.int .i64 (d0 : Int)) by rw [List.getElem?_toArray]; exact hvd)
        have f3 := frozen_of_row _ gO k _ _ HR.out
        have hn4 : (k : Int) < (n1 : Int) := by have := HN1.out; omega
        have hn5 : (k : Int) + 1 < (n1 : Int) := by have := HN1.out; omega
        have hn6 : (k : Int) < (n : Int) := by omega
        have HST := Lib.hid hst
        have HVD := Lib.hid hvd
        have wk : IntKind.i64.wrap (k : Int) = (k : Int) := wrap_in (by omega) (by omega)
        have wt : IntKind.i64.wrap (t0 : Int) = (t0 : Int) := wrap_in (by omega) (by omega)
        have ws : IntKind.i64.wrap (s : Int) = (s : Int) := wrap_in (by omega) (by omega)
        have k0 : (0 : Int) ≤ (k : Int) := by omega
        have A3 := Lib.hid a3
        have A4 := Lib.hid a4
        have HW3 := Lib.hid hw3
        clear hu0 hd0 hs hr hq hst hvd hg3 a3 a4 hw3 hl1 ht0
        go_wp2_with fail
        refine wp_loop_rounds 2 ?_
        rw [rounds_succ]
        go_wp2_with fail
        go_quiet (fail)
        have hrq : (wr.drewN nq).heap[gO]? = some (.cells (digVals O).toArray 3 (0, 0)) := heap_upd HR.out ((Upd.refl _ _).drewN nq)
        have huq : Upd [] [] w2 (wr.drewN nq) := HUP.out.drewN nq
        obtain ⟨wq, hwq⟩ : ∃ W, wr.drewN nq = W := ⟨_, rfl⟩
        rw [hwq] at hrq huq ⊢
        clear hwq c1 c2 c3 f3 HR HUP
        have f3 := frozen_of_row _ gO k _ _ hrq
        have c3 := (cell_of_row _ gO k _ _ _ hrq).trans (show _ = some (Value.int .i64 (d0 : Int)) by rw [List.getElem?_toArray]; exact HVD.out)
        obtain ⟨wa, hwa⟩ : ∃ W, wq.setCell ⟨gO, k, none⟩ (.int .i64 (r : Int)) = W := ⟨_, rfl⟩
        have hra : wa.heap[gO]? = some (.cells (digVals (O.set k r)).toArray 3 (0, 0)) := by
          rw [← hwa, heap_setCell_same wq gO k _ _ _ hrq, digVals_set]
        have hua : Upd [] [] w2 wa := by rw [← hwa]; exact huq.setNew (p := ⟨gO, k, none⟩) HG.out _
        have a3 := A3.out
        have a4 := A4.out
        clear hrq huq A3 A4
        go_wp2_with fail
        clear f3 c3 hwa a1 a2
        have hk1 : (O.set k r)[k + 1]? = some 0 := by
          rw [List.getElem?_set_ne (by omega)]
          exact HI.out.2.2.2 (k + 1) (by omega) (by have := HN1.out; omega)
        have hvd2 : (digVals (O.set k r))[k + 1]? = some (.int .i64 0) := by rw [digVals, List.getElem?_map, hk1]; rfl
        have f4 := frozen_of_row _ gO (k + 1) _ _ hra
        have c4 := (cell_of_row _ gO (k + 1) _ _ _ hra).trans (show _ = some (Value.int .i64 0) by rw [List.getElem?_toArray]; exact hvd2)
        obtain ⟨wb, hwb⟩ : ∃ W, wa.setCell ⟨gO, k + 1, none⟩ (.int .i64 (q : Int)) = W := ⟨_, rfl⟩
        have hrb : wb.heap[gO]? = some (.cells (digVals ((O.set k r).set (k + 1) q)).toArray 3 (0, 0)) := by
          rw [← hwb, heap_setCell_same wa gO (k + 1) _ _ _ hra, digVals_set]
        have hub : Upd [] [] w2 wb := by rw [← hwb]; exact hua.setNew (p := ⟨gO, k + 1, none⟩) HG.out _
        have HO2 : Hid (((O.set k r).set (k + 1) q).length = n1 ∧ okL ((O.set k r).set (k + 1) q) ∧ valL (((O.set k r).set (k + 1) q).take (k + 1 + 1)) = valL ((dg x).take (k + 1)) * 10 ∧ (∀ j, k + 1 < j → j < n1 → ((O.set k r).set (k + 1) q)[j]? = some 0)) := by
          refine ⟨by rw [List.length_set, List.length_set]; exact HI.out.1, okL_set (okL_set HI.out.2.1 hr2) hq2, HST.out, fun j h1 h2 => ?_⟩
          rw [List.getElem?_set_ne (by omega), List.getElem?_set_ne (by omega)]
          exact HI.out.2.2.2 j (by omega) h2
        have HRB := Lib.hid hrb
        have HUB := Lib.hid hub
        clear hra hua hk1 hvd2 hrb hub
        rw [rounds_succ]
        go_wp2_with fail
        exact ⟨⟨k + 1, (O.set k r).set (k + 1) q, by go_num, by omega, HO2, HRB, HUB⟩, by simp [intOf]; omega⟩
      · obtain rfl : k = n := by omega
        have hv : valL O = x * 10 := by
          have h := HI.out.2.2.1
          rw [List.take_of_length_le (by rw [HI.out.1, HN1.out]; omega), List.take_of_length_le (by rw [← HN.out]; omega), valL_dg] at h
          exact h
        have hsl := Sl.of_block HR.out (by rw [HI.out.1]; simp only [maxLen]; omega)
        rw [HI.out.1] at hsl
        have HSL := Lib.hid hsl
        have HV := Lib.hid hv
        have HOK := Lib.hid HI.out.2.1
        have HLL := Lib.hid HI.out.1
        clear hv hsl HI HR hw3 SV SU2
        go_wp2_with fail
        refine (number_big _ O wr HSL.out HOK.out (by rw [HLL.out]; omega)).mono ?_
        rintro e w4 ⟨z, HZ, rfl, hq⟩
        rw [HV.out] at HZ
        go_wp2_with fail
        go_ret
        exact ⟨z, HZ, rfl, (U2.out.trans HUP.out).trans hq⟩
end Go.Proofs.YtcimcodljjcmgaaGreatDoor

namespace Go.Proofs.YtcimcodljjcmgaaGreatDoor
open Go.RowKit
set_option maxRecDepth 100000

theorem snoc_of {α : Type} (l : List α) (h : l ≠ []) : ∃ a b, l = a ++ [b] := ⟨l.dropLast, l.getLast h, (List.dropLast_concat_getLast h).symm⟩
def isDig (l : List UInt8) : Prop := ∀ c ∈ l, 48 ≤ c.toNat ∧ c.toNat ≤ 57
theorem valD_lt : ∀ (n : Nat) (l : List UInt8), l.length = n → isDig l → valD l < 10 ^ n
  | 0, l, hn, _ => by
    rw [List.length_eq_zero_iff.1 hn]
    decide
  | n + 1, l, hn, h => by
    obtain ⟨a, b, rfl⟩ := snoc_of l (by intro e; rw [e] at hn; simp at hn)
    have ih := valD_lt n a (by simpa using hn) (fun c hc => h c (by simp [hc]))
    have hb := h b (by simp)
    rw [valD_snoc, Nat.pow_succ]
    omega
theorem valD_be {l : List UInt8} (h : isDig l) : (be (valD l)).length ≤ l.length :=
  be_len_le _ _ (Nat.lt_of_lt_of_le (valD_lt _ l rfl h) (Nat.pow_le_pow_left (by omega) _))
theorem dec_head_ne : ∀ u : Nat, 0 < u → ∀ c r, Lib.decDigits u = c :: r → c.toNat ≠ 48 := by
  intro u
  induction u using Nat.strongRecOn with
  | ind u ih =>
    intro h0 c r h
    rw [Lib.decDigits] at h
    by_cases h1 : u < 10
    · rw [dif_pos h1] at h
      injection h with h _
      rw [← h, digit_toNat h1]
      omega
    · rw [dif_neg h1] at h
      cases hd : Lib.decDigits (u / 10) with
      | nil => exact absurd hd (dec_ne _)
      | cons a t =>
        rw [hd] at h
        injection h with h _
        rw [← h]
        exact ih (u / 10) (by omega) (by omega) a t hd
theorem dec_no_zero (u : Nat) (c : UInt8) (r : List UInt8) (hr : r ≠ []) (hc : c.toNat = 48) : c :: r ≠ Lib.decDigits u := by
  intro h
  by_cases h0 : 0 < u
  · exact dec_head_ne u h0 c r h.symm hc
  · rw [show u = 0 by omega, Lib.decDigits_one (by omega)] at h
    injection h with _ h
    exact hr h
theorem dec_of_digits : ∀ (n : Nat) (l : List UInt8), l.length = n → l ≠ [] → isDig l → (∀ c r, r ≠ [] → l = c :: r → c.toNat ≠ 48) → Lib.decDigits (valD l) = l
  | 0, l, hn, h, _, _ => absurd (List.length_eq_zero_iff.1 hn) h
  | n + 1, l, hn, h, hd, hz => by
    obtain ⟨a, b, rfl⟩ := snoc_of l h
    have hb := hd b (by simp)
    have hbe : UInt8.ofNat (48 + (b.toNat - 48)) = b := UInt8.toNat_inj.1 (by rw [digit_toNat (by omega)]; omega)
    cases a with
    | nil =>
      have e : valD ([] ++ [b]) = b.toNat - 48 := by rw [valD_snoc]; simp [valD]
      rw [e, Lib.decDigits_one (by omega), hbe]
      rfl
    | cons x t =>
      have ih := dec_of_digits n (x :: t) (by simpa using hn) (by simp) (fun c hc => hd c (by simp only [List.mem_append]; exact .inl hc)) (fun c r _ e => hz c (r ++ [b]) (by simp) (by rw [e]; rfl))
      have hx : x.toNat ≠ 48 := hz x (t ++ [b]) (by simp) rfl
      have hp : 0 < valD (x :: t) := by
        by_cases h0 : valD (x :: t) = 0
        · rw [h0, Lib.decDigits_one (by omega)] at ih
          injection ih with ih _
          exact absurd (by rw [← ih]; rfl) hx
        · omega
      rw [valD_snoc, Lib.decDigits, dif_neg (by omega), show (valD (x :: t) * 10 + (b.toNat - 48)) / 10 = valD (x :: t) by omega, show (valD (x :: t) * 10 + (b.toNat - 48)) % 10 = b.toNat - 48 by omega, hbe, ih]
def ParR (l : List UInt8) (r : ByteArray) (ok : Bool) : Prop := (ok = true ∧ ∃ x, bs r = be x ∧ l = Lib.decDigits x) ∨ (ok = false ∧ ∀ x, l ≠ Lib.decDigits x)
theorem ParR.none {l : List UInt8} (r : ByteArray) (h : ¬ (l ≠ [] ∧ isDig l ∧ (∀ c r, r ≠ [] → l = c :: r → c.toNat ≠ 48))) : ParR l r false := by
  refine .inr ⟨rfl, fun x e => h ?_⟩
  rw [e]
  exact ⟨dec_ne _, dec_digits _, fun c r hr h2 hc => dec_no_zero x c r hr hc h2.symm⟩
theorem ParR.some {l : List UInt8} {r : ByteArray} (h : l ≠ [] ∧ isDig l ∧ (∀ c r, r ≠ [] → l = c :: r → c.toNat ≠ 48)) (hr : bs r = be (valD l)) : ParR l r true :=
  .inl ⟨rfl, valD l, hr, (dec_of_digits _ l rfl h.1 h.2.1 h.2.2).symm⟩
theorem ParR.yes {l : List UInt8} {r : ByteArray} (h : ParR l r true) : ∃ x, bs r = be x ∧ l = Lib.decDigits x := by
  rcases h with ⟨_, h⟩ | ⟨h, _⟩
  · exact h
  · cases h
theorem ParR.no {l : List UInt8} {r : ByteArray} (h : ParR l r false) : ∀ x, l ≠ Lib.decDigits x := by
  rcases h with ⟨h, _⟩ | ⟨_, h⟩
  · cases h
  · exact h
theorem numOk_pos {l : List UInt8} {x : Nat} (h : l = Lib.decDigits x) (hx : x < 9223372036854775808) : numOk l (x : Int) true := by
  refine ⟨⟨by omega, by omega⟩, fun _ => ?_, fun h => by cases h⟩
  rw [h]
  unfold Lib.itoa
  rw [if_neg (by omega), Int.toNat_natCast]
theorem dec_not45 {x : Nat} {D : List UInt8} : 45 :: D ≠ Lib.decDigits x := fun h => dec_head h.symm rfl
theorem numOk_large {l : List UInt8} {x : Nat} (h : l = Lib.decDigits x) (hx : 9223372036854775808 ≤ x) : numOk l 0 false := by
  refine numOk_bad fun ⟨m, hm, e⟩ => ?_
  obtain ⟨h1, h2, h3⟩ := num_plain hm (fun r hr => dec_not45 (x := x) (D := r) (by rw [← hr, h])) e
  have hv : x = m.natAbs := by rw [← valD_dec x, ← h, h2, valD_dec]
  unfold i64in at hm
  omega
theorem numOk_none {l : List UInt8} (h : ∀ x, l ≠ Lib.decDigits x) (h0 : ∀ r, l ≠ 45 :: r) : numOk l 0 false := by
  refine numOk_bad fun ⟨m, hm, e⟩ => ?_
  exact h _ (num_plain hm h0 e).2.1
theorem numOk_noneM {D : List UInt8} (h : ∀ x, D ≠ Lib.decDigits x) : numOk (45 :: D) 0 false := by
  refine numOk_bad fun ⟨m, hm, e⟩ => ?_
  exact h _ (num_minus hm e).2.1
theorem numOk_minusZero {D : List UInt8} (h : D = Lib.decDigits 0) : numOk (45 :: D) 0 false := by
  refine numOk_bad fun ⟨m, hm, e⟩ => ?_
  obtain ⟨h1, h2, h3⟩ := num_minus hm e
  have hv : 0 = m.natAbs := by rw [← valD_dec 0, ← h, h2, valD_dec]
  omega
theorem numOk_minusIn {D : List UInt8} {x : Nat} (h : D = Lib.decDigits x) (h0 : 0 < x) (hx : x ≤ 9223372036854775808) : numOk (45 :: D) (-(x : Int)) true := by
  refine ⟨⟨by omega, by omega⟩, fun _ => ?_, fun h => by cases h⟩
  rw [h]
  unfold Lib.itoa
  rw [if_pos (by omega), show (-(x : Int)).natAbs = x by omega]
theorem numOk_minusLarge {D : List UInt8} {x : Nat} (h : D = Lib.decDigits x) (hx : 9223372036854775808 < x) : numOk (45 :: D) 0 false := by
  refine numOk_bad fun ⟨m, hm, e⟩ => ?_
  obtain ⟨h1, h2, h3⟩ := num_minus hm e
  have hv : x = m.natAbs := by rw [← valD_dec x, ← h, h2, valD_dec]
  omega
end Go.Proofs.YtcimcodljjcmgaaGreatDoor
