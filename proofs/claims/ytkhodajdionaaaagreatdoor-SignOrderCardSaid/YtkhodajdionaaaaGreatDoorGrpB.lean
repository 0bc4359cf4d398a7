/- sortesref04: Residue, plus, Add, Mul, Pow. -/
import Derived.Test.YtkhodajdionaaaaGreatDoorGrpA
namespace Go.Proofs.YtkhodajdionaaaaGreatDoor
open Go.RowKit
set_option maxRecDepth 100000

theorem rResidue_any (a m : Int) (w : World) (_ha : -9223372036854775808 ≤ a ∧ a ≤ 9223372036854775807) (hm : 1 ≤ m ∧ m ≤ 9223372036854775807) :
    Calls Tryz.prog 67 #[.int .i64 a, .int .i64 m] w (RetZ .i64 m (a % m) w) := by
  have e1 := Int.tmod_eq_emod (a := a) (b := m)
  have e3 := Int.emod_nonneg a (show m ≠ 0 by omega)
  have e4 := Int.emod_lt_of_pos a (show 0 < m by omega)
  have H1 := Lib.hid e1
  clear e1
  go_enter Tryz.func67, Tryz.ntmps67
  go_wp2_with fail
  · go_ret
    refine retZ_mod (by omega) ?_
    have h := H1.out
    simp only [wrap64]
    split at h <;> omega
  · go_ret
    refine retZ_mod (by omega) ?_
    have h := H1.out
    split at h <;> omega

theorem rplus_any (x y m : Int) (w : World) (hx : 0 ≤ x ∧ x < m) (hy : 0 ≤ y ∧ y < m) (hm : m ≤ 9223372036854775807) :
    Calls Tryz.prog 68 #[.int .i64 x, .int .i64 y, .int .i64 m] w (RetZ .i64 m ((x + y) % m) w) := by
  go_enter Tryz.func68, Tryz.ntmps68
  go_wp2_with fail
  · go_ret
    refine retZ_mod (by omega) ?_
    rw [← Int.sub_emod_right (x + y) m, Int.emod_eq_of_lt (by omega) (by omega)]
    omega
  · go_ret
    refine retZ_mod (by omega) ?_
    rw [Int.emod_eq_of_lt (by omega) (by omega)]

theorem rAdd_any (a b m : Int) (w : World) (ha : -9223372036854775808 ≤ a ∧ a ≤ 9223372036854775807) (hb : -9223372036854775808 ≤ b ∧ b ≤ 9223372036854775807) (hm : 1 ≤ m ∧ m ≤ 9223372036854775807) :
    Calls Tryz.prog 41 #[.int .i64 a, .int .i64 b, .int .i64 m] w (RetZ .i64 m ((a + b) % m) w) := by
  go_enter Tryz.func41, Tryz.ntmps41
  go_wp2_with (first | (go_at_call 67; ((with_reducible refine (rResidue_any a _ _ (by omega) (by omega)).mono ?_); rintro e w' ⟨x, HX, xa0, xa1, rfl, rfl⟩)) | (go_at_call 67; ((with_reducible refine (rResidue_any b _ _ (by omega) (by omega)).mono ?_); rintro e w' ⟨y, HY, ya0, ya1, rfl, rfl⟩)) | (go_at_call 68; ((with_reducible refine (rplus_any _ _ _ _ (by omega) (by omega) (by omega)).mono ?_); rintro e w' ⟨r, HR, r0, r1, rfl, rfl⟩)))
  go_ret
  refine retZ_mod (by omega) ?_
  rw [HR.out, HX.out, HY.out, ← Int.add_emod]

theorem small_mul (x y : Int) (hx : 0 ≤ x ∧ x < 2147483648) (hy : 0 ≤ y ∧ y < 2147483648) : 0 ≤ x * y ∧ x * y ≤ 4611686018427387904 := by
  refine ⟨Int.mul_nonneg hx.1 hy.1, ?_⟩
  have h1 : x * y ≤ 2147483648 * y := Int.mul_le_mul_of_nonneg_right (by omega) hy.1
  omega

theorem dbl_odd (o x m : Int) (j : Nat) (h : j % 2 = 1) : ((o + x) % m + (x + x) % m * ((j / 2 : Nat) : Int)) % m = (o + x * (j : Int)) % m := by
  have e : (j : Int) = 2 * ((j / 2 : Nat) : Int) + 1 := by omega
  rw [Int.emod_add_emod, Int.add_emod, Int.mul_emod, Int.emod_emod, ← Int.mul_emod, ← Int.add_emod]
  congr 1
  conv => rhs; rw [e]
  rw [Int.mul_add, Int.mul_one, ← Int.two_mul, Int.mul_assoc, Int.mul_left_comm]
  omega

theorem dbl_even (o x m : Int) (j : Nat) (h : j % 2 = 0) : (o + (x + x) % m * ((j / 2 : Nat) : Int)) % m = (o + x * (j : Int)) % m := by
  have e : (j : Int) = 2 * ((j / 2 : Nat) : Int) := by omega
  rw [Int.add_emod, Int.mul_emod, Int.emod_emod, ← Int.mul_emod, ← Int.add_emod]
  congr 1
  conv => rhs; rw [e]
  rw [← Int.two_mul, Int.mul_assoc, Int.mul_left_comm]

theorem rMul_any (a b m : Int) (w : World) (ha : -9223372036854775808 ≤ a ∧ a ≤ 9223372036854775807) (hb : -9223372036854775808 ≤ b ∧ b ≤ 9223372036854775807) (hm : 1 ≤ m ∧ m ≤ 9223372036854775807) :
    Calls Tryz.prog 32 #[.int .i64 a, .int .i64 b, .int .i64 m] w (RetZ .i64 m (a * b % m) w) := by
  go_enter Tryz.func32, Tryz.ntmps32
  go_upto_region 5 with (first | (go_at_call 67; ((with_reducible refine (rResidue_any a _ _ (by omega) (by omega)).mono ?_); rintro e w' ⟨x, HX, xa0, xa1, rfl, rfl⟩)) | (go_at_call 67; ((with_reducible refine (rResidue_any b _ _ (by omega) (by omega)).mono ?_); rintro e w' ⟨y, HY, ya0, ya1, rfl, rfl⟩)))
  have hmul : a * b % m = x * y % m := by rw [HX.out, HY.out, ← Int.mul_emod]
  have HM := Lib.hid hmul
  clear hmul
  by_cases hs1 : x < 2147483648
  · by_cases hs2 : y < 2147483648
    · obtain ⟨p0, p1⟩ := small_mul x y ⟨xa0, hs1⟩ ⟨ya0, hs2⟩
      go_wp2_with fail
      go_ret
      refine retZ_mod (by omega) ?_
      rw [HM.out]
    · have hs3 : 2147483648 ≤ y := by omega
      clear hs2
      go_wp2_with fail
      obtain ⟨y, rfl⟩ : ∃ n : Nat, y = (n : Int) := ⟨y.toNat, by omega⟩
      clear hs3
      go_loop [7, 8, 9] (fun u v r => ∃ (j : Nat) (x' o : Int), u = .int .i64 x' ∧ v = .int .i64 (j : Int) ∧ r = .int .i64 o ∧ (j : Int) < m ∧ (0 ≤ x' ∧ x' < m) ∧ (0 ≤ o ∧ o < m) ∧ Hid ((o + x' * (j : Int)) % m = x * (y : Int) % m)) (fun _ v _ => (intOf v).toNat)
      case atStart => exact ⟨y, x, 0, rfl, rfl, rfl, ya1, ⟨xa0, xa1⟩, by omega, by show _ = _; rw [Int.zero_add]⟩
      case round =>
        obtain ⟨j, x', o, rfl, rfl, rfl, hj, hx, ho, HP⟩ := hrel
        by_cases hlt : 0 < j
        · by_cases hb1 : j % 2 = 1
          · have hbt : ((j : Int) % 2 == 1) = true := by rw [beq_iff_eq]; omega
            have HB1 := Lib.hid hb1
            clear hb1
            go_wp2_with (go_at_call 68; first | ((with_reducible refine (rplus_any o x' _ _ (by omega) (by omega) (by omega)).mono ?_); rintro e w' ⟨r1, HR1, r10, r11, rfl, rfl⟩) | ((with_reducible refine (rplus_any x' x' _ _ (by omega) (by omega) (by omega)).mono ?_); rintro e w' ⟨r2, HR2, r20, r21, rfl, rfl⟩))
            refine ⟨⟨j / 2, r2, r1, rfl, by go_num, rfl, by omega, ⟨r20, r21⟩, ⟨r10, r11⟩, ?_⟩, by simp [intOf]; omega⟩
            show _ = _
            rw [HR1.out, HR2.out, dbl_odd o x' m j HB1.out, HP.out]
          · have hb0 : j % 2 = 0 := by omega
            have hbt : ((j : Int) % 2 == 1) = false := by rw [beq_eq_false_iff_ne]; omega
            have HB1 := Lib.hid hb0
            clear hb1 hb0
            go_wp2_with (go_at_call 68; ((with_reducible refine (rplus_any x' x' _ _ (by omega) (by omega) (by omega)).mono ?_); rintro e w' ⟨r2, HR2, r20, r21, rfl, rfl⟩))
            refine ⟨⟨j / 2, r2, o, rfl, by go_num, rfl, by omega, ⟨r20, r21⟩, ho, ?_⟩, by simp [intOf]; omega⟩
            show _ = _
            rw [HR2.out, dbl_even o x' m j HB1.out, HP.out]
        · obtain rfl : j = 0 := by omega
          go_wp2_with fail
          go_ret
          refine retZ_mod (by omega) ?_
          have h := HP.out
          rw [Int.natCast_zero, Int.mul_zero, Int.add_zero, Int.emod_eq_of_lt ho.1 ho.2] at h
          rw [HM.out, h]
  · have hs3 : 2147483648 ≤ x := by omega
    clear hs1
    go_wp2_with fail
    obtain ⟨y, rfl⟩ : ∃ n : Nat, y = (n : Int) := ⟨y.toNat, by omega⟩
    clear hs3
    go_loop [7, 8, 9] (fun u v r => ∃ (j : Nat) (x' o : Int), u = .int .i64 x' ∧ v = .int .i64 (j : Int) ∧ r = .int .i64 o ∧ (j : Int) < m ∧ (0 ≤ x' ∧ x' < m) ∧ (0 ≤ o ∧ o < m) ∧ Hid ((o + x' * (j : Int)) % m = x * (y : Int) % m)) (fun _ v _ => (intOf v).toNat)
    case atStart => exact ⟨y, x, 0, rfl, rfl, rfl, ya1, ⟨xa0, xa1⟩, by omega, by show _ = _; rw [Int.zero_add]⟩
    case round =>
      obtain ⟨j, x', o, rfl, rfl, rfl, hj, hx, ho, HP⟩ := hrel
      by_cases hlt : 0 < j
      · by_cases hb1 : j % 2 = 1
        · have hbt : ((j : Int) % 2 == 1) = true := by rw [beq_iff_eq]; omega
          have HB1 := Lib.hid hb1
          clear hb1
          go_wp2_with (go_at_call 68; first | ((with_reducible refine (rplus_any o x' _ _ (by omega) (by omega) (by omega)).mono ?_); rintro e w' ⟨r1, HR1, r10, r11, rfl, rfl⟩) | ((with_reducible refine (rplus_any x' x' _ _ (by omega) (by omega) (by omega)).mono ?_); rintro e w' ⟨r2, HR2, r20, r21, rfl, rfl⟩))
          refine ⟨⟨j / 2, r2, r1, rfl, by go_num, rfl, by omega, ⟨r20, r21⟩, ⟨r10, r11⟩, ?_⟩, by simp [intOf]; omega⟩
          show _ = _
          rw [HR1.out, HR2.out, dbl_odd o x' m j HB1.out, HP.out]
        · have hb0 : j % 2 = 0 := by omega
          have hbt : ((j : Int) % 2 == 1) = false := by rw [beq_eq_false_iff_ne]; omega
          have HB1 := Lib.hid hb0
          clear hb1 hb0
          go_wp2_with (go_at_call 68; ((with_reducible refine (rplus_any x' x' _ _ (by omega) (by omega) (by omega)).mono ?_); rintro e w' ⟨r2, HR2, r20, r21, rfl, rfl⟩))
          refine ⟨⟨j / 2, r2, o, rfl, by go_num, rfl, by omega, ⟨r20, r21⟩, ho, ?_⟩, by simp [intOf]; omega⟩
          show _ = _
          rw [HR2.out, dbl_even o x' m j HB1.out, HP.out]
      · obtain rfl : j = 0 := by omega
        go_wp2_with fail
        go_ret
        refine retZ_mod (by omega) ?_
        have h := HP.out
        rw [Int.natCast_zero, Int.mul_zero, Int.add_zero, Int.emod_eq_of_lt ho.1 ho.2] at h
        rw [HM.out, h]

theorem rPow_any (a m : Int) (n : Nat) (w : World) (ha : -9223372036854775808 ≤ a ∧ a ≤ 9223372036854775807) (hn : n ≤ 9223372036854775807) (hm : 1 ≤ m ∧ m ≤ 9223372036854775807) :
    Calls Tryz.prog 51 #[.int .i64 a, .int .i64 (n : Int), .int .i64 m] w (RetZ .i64 m (powZ a n m) w) := by
  go_enter Tryz.func51, Tryz.ntmps51
  go_wp2_with (go_at_call 67; first | ((with_reducible refine (rResidue_any 1 _ _ (by omega) (by omega)).mono ?_); rintro e w' ⟨u, HU, u0, u1, rfl, rfl⟩) | ((with_reducible refine (rResidue_any _ _ _ (by omega) (by omega)).mono ?_); rintro e w' ⟨x, HX, xa0, xa1, rfl, rfl⟩))
  go_loop [7, 8, 1] (fun r b i => ∃ (j : Nat) (x p : Int), b = .int .i64 x ∧ i = .int .i64 (j : Int) ∧ r = .int .i64 p ∧ j ≤ 9223372036854775807 ∧ (0 ≤ x ∧ x < m) ∧ 0 ≤ p ∧ p < m ∧ Hid (p * x ^ j % m = a ^ n % m)) (fun _ _ i => (intOf i).toNat)
  case atStart => exact ⟨n, x, u, rfl, rfl, rfl, hn, ⟨xa0, xa1⟩, u0, u1, by show _ = _; rw [HU.out, HX.out, Int.mul_emod, Int.emod_emod, pow_emod, ← Int.mul_emod, Int.one_mul]⟩
  case round =>
    obtain ⟨j, x, p, rfl, rfl, rfl, hj, hx, hp0, hp1, HP⟩ := hrel
    by_cases hlt : 0 < j
    · by_cases hb1 : j % 2 = 1
      · have hbt : ((j : Int) % 2 == 1) = true := by rw [beq_iff_eq]; omega
        have HB1 := Lib.hid hb1
        clear hb1
        go_wp2_with (go_at_call 32; first | ((with_reducible refine (rMul_any p x m _ (by omega) (by omega) (by omega)).mono ?_); rintro e w' ⟨r1, HR1, r10, r11, rfl, rfl⟩) | ((with_reducible refine (rMul_any x x m _ (by omega) (by omega) (by omega)).mono ?_); rintro e w' ⟨r2, HR2, r20, r21, rfl, rfl⟩))
        refine ⟨⟨j / 2, r2, r1, rfl, by go_num, rfl, by omega, ⟨r20, r21⟩, r10, r11, ?_⟩, by simp [intOf]; omega⟩
        show _ = _
        rw [HR2.out, HR1.out, pow_odd p x m j HB1.out, HP.out]
      · have hb0 : j % 2 = 0 := by omega
        have hbt : ((j : Int) % 2 == 1) = false := by rw [beq_eq_false_iff_ne]; omega
        have HB1 := Lib.hid hb0
        clear hb1 hb0
        go_wp2_with (go_at_call 32; ((with_reducible refine (rMul_any x x m _ (by omega) (by omega) (by omega)).mono ?_); rintro e w' ⟨r2, HR2, r20, r21, rfl, rfl⟩))
        refine ⟨⟨j / 2, r2, p, rfl, by go_num, rfl, by omega, ⟨r20, r21⟩, hp0, hp1, ?_⟩, by simp [intOf]; omega⟩
        show _ = _
        rw [HR2.out, pow_even p x m j HB1.out, HP.out]
    · obtain rfl : j = 0 := by omega
      go_wp2_with fail
      go_ret
      refine ⟨p, ?_, hp0, hp1, rfl, rfl⟩
      have h := HP.out
      rw [Int.pow_zero, Int.mul_one, Int.emod_eq_of_lt hp0 hp1] at h
      exact h
end Go.Proofs.YtkhodajdionaaaaGreatDoor
