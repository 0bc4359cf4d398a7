/- sortesref11: Decimal and Int at any number and text. -/
import Derived.Test.YtcimcodljjcmgaaGreatDoorGAX
namespace Go.Proofs.YtcimcodljjcmgaaGreatDoor
open Go.RowKit
set_option maxRecDepth 100000

theorem itoaNeg {n : Int} (h : n < 0) : Lib.itoa n = [45] ++ Lib.decDigits n.natAbs := by
  unfold Lib.itoa
  rw [if_pos h]
  rfl
theorem itoaNat (u : Nat) : Lib.itoa (u : Int) = Lib.decDigits u := by
  unfold Lib.itoa
  rw [if_neg (by omega), Int.toNat_natCast]
theorem text_ofD (u : Nat) (w : World) (a : ByteArray) (ha : bs a = be u) (h : u ≤ 9223372036854775808) : Calls Tryz.prog 30 #[.string a] w (MkS (Lib.decDigits u) w) :=
  text_big a u w (by rw [ha, natB_be]) (by rw [size_of_be ha]; exact Nat.le_trans (be_short8 h) (by omega)) (Nat.le_trans (dec_le19 h) (by omega))
set_option maxHeartbeats 1000000 in
theorem decimal11_any (n : Int) (w : World) (hn : i64in n) : Calls Tryz.prog 17 #[.int .i64 n] w (MkS (Lib.itoa n) w) := by
  have hn1 := hn.1
  have hn2 := hn.2
  by_cases h0 : 0 ≤ n
  · obtain ⟨u, rfl⟩ := Int.eq_ofNat_of_zero_le h0
    go_enter Tryz.func17, Tryz.ntmps17
    go_wp2_with fail
    refine (of_int u w (by omega)).mono ?_
    rintro e w1 ⟨a, HA, rfl, hu1⟩
    go_wp2_with fail
    refine (text_ofD u w1 a HA.out (by omega)).mono ?_
    rintro e w2 ⟨y, HY, hy, rfl, hu2⟩
    go_wp2_with fail
    go_ret
    rw [itoaNat]
    exact ⟨y, HY.out, hy, rfl, hu1.trans hu2⟩
  · obtain ⟨m, hm⟩ : ∃ m : Nat, (m : Int) = -(n + 1) := ⟨(-(n + 1)).toNat, by omega⟩
    have hml : m < 9223372036854775808 := by omega
    have hnm : n.natAbs = m + 1 := by omega
    have HN := Lib.hid hnm
    have hlt : n < 0 := by omega
    have w1 : IntKind.i64.wrap (n + 1) = n + 1 := wrap_in (by omega) (by omega)
    have w2 : IntKind.i64.wrap (-(n + 1)) = (m : Int) := by rw [wrap_in (by omega) (by omega)]; omega
    have b1 : n + 1 ≤ 9223372036854775807 := by omega
    clear hnm
    go_enter Tryz.func17, Tryz.ntmps17
    go_wp2_with fail
    first | rw [← hm] | skip
    refine (of_int m w hml).mono ?_
    rintro e w3 ⟨a, HA, rfl, hu1⟩
    go_wp2_with fail
    refine (of_int 1 w3 (by omega)).mono ?_
    rintro e w4 ⟨b, HB, rfl, hu2⟩
    go_wp2_with fail
    refine (bigAdd_any a b m 1 w4 HA.out HB.out (Nat.le_trans (be_short8 (by omega)) (by omega)) (Nat.le_trans (be_short8 (by omega)) (by omega))).mono ?_
    rintro e w5 ⟨c, HC, rfl, hu3⟩
    go_wp2_with fail
    refine (text_ofD (m + 1) w5 c HC.out (by omega)).mono ?_
    rintro e w6 ⟨y, HY, hy, rfl, hu4⟩
    have hl : (Lib.decDigits (m + 1)).length ≤ 19 := dec_le19 (by omega)
    have hy2 : y.size ≤ 19 := Nat.le_trans hy hl
    clear hl hy
    go_wp2_with fail
    go_ret
    refine ⟨_, ?_, ?_, rfl, (hu1.trans hu2).trans (hu3.trans hu4)⟩
    · show _ = _
      rw [itoaNeg hlt, HN.out, bs_append, HY.out]
      rfl
    · rw [itoaNeg hlt, HN.out, ← HY.out, List.length_append, bs_length, ByteArray.size_append]
      exact Nat.le_refl _
theorem int_gen (s : ByteArray) (x : Nat) (w : World) (hs : s.size ≤ 1000000000000) (hx : x = natB (bs s)) :
    Calls Tryz.prog 59 #[.string s] w (fun e w' => ∃ (z : Int) (p : Bool), Hid ((p = true ↔ x < 9223372036854775808) ∧ (p = true → z = (x : Int)) ∧ (p = false → z = 0)) ∧ (0 ≤ z ∧ z ≤ 9223372036854775807) ∧ e = .returned (.tuple #[.int .i64 z, .bool p]) ∧ w = w') := by
  by_cases h : x < 9223372036854775808
  · refine (int_any s x w hs hx h).mono ?_
    rintro e w' ⟨rfl, rfl⟩
    exact ⟨x, true, ⟨⟨fun _ => h, fun _ => rfl⟩, fun _ => rfl, fun h => by cases h⟩, by omega, rfl, rfl⟩
  · refine (int_large s x w hs hx (by omega)).mono ?_
    rintro e w' ⟨rfl, rfl⟩
    exact ⟨0, false, ⟨⟨(fun h => by cases h), fun h2 => absurd h2 h⟩, (fun h => by cases h), fun _ => rfl⟩, by omega, rfl, rfl⟩
theorem MkNum.bad {l : List UInt8} {w w' : World} (h : numOk l 0 false) (u : Upd [] [] w w') : MkNum l w (.returned (.tuple #[.int .i64 0, .bool false])) w' := ⟨0, false, h, ⟨by omega, by omega⟩, rfl, u⟩
set_option maxHeartbeats 2000000 in
theorem int11_any (s : ByteArray) (w : World) (hs : s.size ≤ 1999990) : Calls Tryz.prog 48 #[.string s] w (MkNum (bs s) w) := by
  by_cases hm : ∃ h : 0 < s.size, (s[0]'h).toNat = 45
  · obtain ⟨h0, hm⟩ := hm
    have hc := bs_cons s h0
    have h45 : s[0] = 45 := UInt8.toNat_inj.1 (by have : (45 : UInt8).toNat = 45 := rfl; omega)
    have hb45 : ((s[0].toNat : Int) == 45) = true := by rw [beq_iff_eq]; omega
    rw [h45, ← bs_right] at hc
    have HC := Lib.hid hc
    clear hc h45 hm
    go_enter Tryz.func48, Tryz.ntmps48
    go_wp2_with fail
    have hxs : (s.extract 1 s.size).size = s.size - 1 := by simp
    have hne : ((s.extract 1 s.size).toList == s.toList) = false := by
      cases hb : ((s.extract 1 s.size).toList == s.toList) with
      | false => rfl
      | true =>
        have := congrArg List.length (eq_beq.1 hb)
        rw [bs_length, bs_length, hxs] at this
        omega
    obtain ⟨D, hD⟩ : ∃ D, s.extract 1 s.size = D := ⟨_, rfl⟩
    rw [hD] at HC hxs hne
    simp only [hD]
    clear hD
    have hDs : D.size ≤ 1999990 := by omega
    refine (parse_any D w hDs).mono ?_
    rintro e w1 ⟨n, ok, HP, hn, rfl, hu1⟩
    cases ok
    · have HB := Lib.hid (numOk_noneM HP.out.no)
      rw [← HC.out] at HB
      clear HP
      go_wp2_with fail
      go_ret2
      exact .bad HB.out hu1
    · obtain ⟨x, hx1, hx2⟩ := HP.out.yes
      have hxl : (be x).length ≤ 20000000 := by rw [← size_of_be hx1]; exact hn
      have HX1 := Lib.hid hx1
      have HX2 := Lib.hid hx2
      have HXL := Lib.hid hxl
      clear HP hx1 hx2 hxl
      go_wp2_with fail
      refine (of_int 1 w1 (by omega)).mono ?_
      rintro e w2 ⟨b, HB, rfl, hu2⟩
      go_wp2_with fail
      refine (sub_one n b x w2 HX1.out HB.out HXL.out).mono ?_
      rintro e w3 ⟨m, one, HO, HM, hms, rfl, hu3⟩
      go_wp2_with fail
      refine (int_gen m (natB (bs m)) w3 (by omega) rfl).mono ?_
      rintro e w' ⟨z, two, HZ, hz, rfl, rfl⟩
      have U := Lib.hid (hu1.trans (hu2.trans hu3))
      clear hu1 hu2 hu3
      cases one with
      | false =>
        have hx0 : x = 0 := by
          by_cases h : 0 < x
          · exact absurd (HO.out.2 h) (by simp)
          · omega
        have HBB := Lib.hid (numOk_minusZero (show bs D = Lib.decDigits 0 by rw [HX2.out, hx0]))
        rw [← HC.out] at HBB
        clear hx0 HZ
        go_wp2_with fail
        go_ret2
        exact .bad HBB.out U.out
      | true =>
        have hx0 : 0 < x := HO.out.1 rfl
        have hmv : natB (bs m) = x - 1 := by rw [HM.out rfl, natB_be]
        rw [hmv] at HZ
        cases two with
        | false =>
          have hbig : 9223372036854775808 < x := by
            by_cases h : x - 1 < 9223372036854775808
            · exact absurd (HZ.out.1.2 h) (by simp)
            · omega
          have HBB := Lib.hid (numOk_minusLarge HX2.out hbig)
          rw [← HC.out] at HBB
          clear hx0 HZ hbig hmv
          go_wp2_with fail
          go_ret2
          exact .bad HBB.out U.out
        | true =>
          have hsm := HZ.out.1.1 rfl
          have hzx := HZ.out.2.1 rfl
          have HBB := Lib.hid (numOk_minusIn HX2.out hx0 (by omega))
          rw [← HC.out] at HBB
          have hzz : -z - 1 = -(x : Int) := by omega
          have HZZ := Lib.hid hzz
          have b1 : -9223372036854775808 ≤ -z - 1 := by omega
          have b2 : -z - 1 ≤ 9223372036854775807 := by omega
          clear HZ hmv hsm hzx hx0 hzz
          go_wp2_with fail
          go_ret2
          refine ⟨_, true, HBB.out, HBB.out.1, ?_, U.out⟩
          rw [← HZZ.out]
          rfl
  · have HNM : Hid (∀ r, bs s ≠ 45 :: r) := by
      intro r e
      have h0 : 0 < s.size := by rw [← bs_length, e]; simp
      refine hm ⟨h0, ?_⟩
      have hc := bs_cons s h0
      rw [e] at hc
      injection hc with hc _
      rw [← hc]
      rfl
    have hss : (s.toList == s.toList) = true := beq_self_eq_true _
    have HG : Hid (s.size = 0 ∨ ∃ h : 0 < s.size, (((s[0]'h).toNat : Int) == 45) = false) := by
      by_cases h0 : 0 < s.size
      · exact .inr ⟨h0, by rw [beq_eq_false_iff_ne]; exact fun h => hm ⟨h0, by omega⟩⟩
      · exact .inl (by omega)
    clear hm
    rcases HG.out with h0 | ⟨h0, h1⟩
    all_goals
      clear HG
      go_enter Tryz.func48, Tryz.ntmps48
      go_wp2_with fail
      refine (parse_any s w hs).mono ?_
      rintro e w1 ⟨n, ok, HP, hn, rfl, hu1⟩
      cases ok
      · have HB := Lib.hid (numOk_none HP.out.no HNM.out)
        clear HP
        go_wp2_with fail
        go_ret2
        exact .bad HB.out hu1
      · obtain ⟨x, hx1, hx2⟩ := HP.out.yes
        have hxn : x = natB (bs n) := by rw [hx1, natB_be]
        have HXN := Lib.hid hxn
        have HX2 := Lib.hid hx2
        clear HP hx1 hx2 hxn
        go_wp2_with fail
        refine (int_gen n x w1 (by omega) HXN.out).mono ?_
        rintro e w' ⟨z, two, HZ, hz, rfl, rfl⟩
        have HR : Hid (numOk (bs s) z two) := by
          cases two with
          | false =>
            rw [HZ.out.2.2 rfl]
            refine numOk_large HX2.out ?_
            by_cases h : x < 9223372036854775808
            · exact absurd (HZ.out.1.2 h) (by simp)
            · omega
          | true =>
            rw [HZ.out.2.1 rfl]
            exact numOk_pos HX2.out (HZ.out.1.1 rfl)
        clear HZ
        go_wp2_with fail
        go_ret2
        exact ⟨z, two, HR.out, HR.out.1, rfl, hu1⟩
end Go.Proofs.YtcimcodljjcmgaaGreatDoor
