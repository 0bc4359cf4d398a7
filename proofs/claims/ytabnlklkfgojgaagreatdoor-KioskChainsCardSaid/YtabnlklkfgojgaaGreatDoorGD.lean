/- sortesref04: Residue, plus, Add, Mul, Pow. sortesref04.number, Scalar, Member; sortesref05.Bytes, Exponent, positive, Public, Key, Challenge, SignWith, Sign, Verify. sortesref04.Member; sortesref05.SignWith, Sign, Verify. One byte as a text. sortesref05.decimal, Text. How numerals and pairs are read digit by digit, plainly. sortesref05.Text, number, Read. digest.Read: a hash's text, read: the walk. sortesref03.Read: a hash's text, read: the walk. sorteslaw05.sanity. -/
import Derived.Test.YtabnlklkfgojgaaGreatDoorGB
import Derived.Test.YtabnlklkfgojgaaGreatDoorGC
import Derived.Test.YtabnlklkfgojgaaGreatDoorRows
import Derived.Test.YtabnlklkfgojgaaGreatDoorGA
namespace Go.Proofs.YtabnlklkfgojgaaGreatDoor
open Go.RowKit
set_option maxRecDepth 100000

theorem rResidue_any (a m : Int) (w : World) (_ha : -9223372036854775808 ≤ a ∧ a ≤ 9223372036854775807) (hm : 1 ≤ m ∧ m ≤ 9223372036854775807) :
    Calls Tryz.prog 193 #[.int .i64 a, .int .i64 m] w (RetZ .i64 m (a % m) w) := by
  have e1 := Int.tmod_eq_emod (a := a) (b := m)
  have e3 := Int.emod_nonneg a (show m ≠ 0 by omega)
  have e4 := Int.emod_lt_of_pos a (show 0 < m by omega)
  have H1 := Lib.hid e1
  clear e1
  go_enter Tryz.func193, Tryz.ntmps193
  go_wp2_with fail
  · go_ret
    refine retZ_mod (by omega) ?_
    have h := H1.out
    simp only [wrap64]
    split at h <;> omega
  · go_ret
    refine retZ_mod (by omega) ?_
    have h := H1.out
    split at h <;> omega

theorem rplus_any (x y m : Int) (w : World) (hx : 0 ≤ x ∧ x < m) (hy : 0 ≤ y ∧ y < m) (hm : m ≤ 9223372036854775807) :
    Calls Tryz.prog 194 #[.int .i64 x, .int .i64 y, .int .i64 m] w (RetZ .i64 m ((x + y) % m) w) := by
  go_enter Tryz.func194, Tryz.ntmps194
  go_wp2_with fail
  · go_ret
    refine retZ_mod (by omega) ?_
    rw [← Int.sub_emod_right (x + y) m, Int.emod_eq_of_lt (by omega) (by omega)]
    omega
  · go_ret
    refine retZ_mod (by omega) ?_
    rw [Int.emod_eq_of_lt (by omega) (by omega)]

theorem rAdd_any (a b m : Int) (w : World) (ha : -9223372036854775808 ≤ a ∧ a ≤ 9223372036854775807) (hb : -9223372036854775808 ≤ b ∧ b ≤ 9223372036854775807) (hm : 1 ≤ m ∧ m ≤ 9223372036854775807) :
    Calls Tryz.prog 187 #[.int .i64 a, .int .i64 b, .int .i64 m] w (RetZ .i64 m ((a + b) % m) w) := by
  go_enter Tryz.func187, Tryz.ntmps187
  go_wp2_with (first | (go_at_call 193; ((with_reducible refine (rResidue_any a _ _ (by omega) (by omega)).mono ?_); rintro e w' ⟨x, HX, xa0, xa1, rfl, rfl⟩)) | (go_at_call 193; ((with_reducible refine (rResidue_any b _ _ (by omega) (by omega)).mono ?_); rintro e w' ⟨y, HY, ya0, ya1, rfl, rfl⟩)) | (go_at_call 194; ((with_reducible refine (rplus_any _ _ _ _ (by omega) (by omega) (by omega)).mono ?_); rintro e w' ⟨r, HR, r0, r1, rfl, rfl⟩)))
  go_ret
  refine retZ_mod (by omega) ?_
  rw [HR.out, HX.out, HY.out, ← Int.add_emod]

theorem small_mul (x y : Int) (hx : 0 ≤ x ∧ x < 2147483648) (hy : 0 ≤ y ∧ y < 2147483648) : 0 ≤ x * y ∧ x * y ≤ 4611686018427387904 := by
  refine ⟨Int.mul_nonneg hx.1 hy.1, ?_⟩
  have h1 : x * y ≤ 2147483648 * y := Int.mul_le_mul_of_nonneg_right (by omega) hy.1
  omega

theorem dbl_odd (o x m : Int) (j : Nat) (h : j % 2 = 1) : ((o + x) % m + (x + x) % m * ((j / 2 : Nat) : Int)) % m = (o + x * (j : Int)) % m := by
  have e : (j : Int) = 2 * ((j / 2 : Nat) : Int) + 1 := by omega
  rw [Int.emod_add_emod, Int.add_emod, Int.mul_emod, Int.emod_emod, ← Int.mul_emod, ← Int.add_emod]
  congr 1
  conv => rhs; rw [e]
  rw [Int.mul_add, Int.mul_one, ← Int.two_mul, Int.mul_assoc, Int.mul_left_comm]
  omega

theorem dbl_even (o x m : Int) (j : Nat) (h : j % 2 = 0) : (o + (x + x) % m * ((j / 2 : Nat) : Int)) % m = (o + x * (j : Int)) % m := by
  have e : (j : Int) = 2 * ((j / 2 : Nat) : Int) := by omega
  rw [Int.add_emod, Int.mul_emod, Int.emod_emod, ← Int.mul_emod, ← Int.add_emod]
  congr 1
  conv => rhs; rw [e]
  rw [← Int.two_mul, Int.mul_assoc, Int.mul_left_comm]

theorem rMul_any (a b m : Int) (w : World) (ha : -9223372036854775808 ≤ a ∧ a ≤ 9223372036854775807) (hb : -9223372036854775808 ≤ b ∧ b ≤ 9223372036854775807) (hm : 1 ≤ m ∧ m ≤ 9223372036854775807) :
    Calls Tryz.prog 188 #[.int .i64 a, .int .i64 b, .int .i64 m] w (RetZ .i64 m (a * b % m) w) := by
  go_enter Tryz.func188, Tryz.ntmps188
  go_upto_region 5 with (first | (go_at_call 193; ((with_reducible refine (rResidue_any a _ _ (by omega) (by omega)).mono ?_); rintro e w' ⟨x, HX, xa0, xa1, rfl, rfl⟩)) | (go_at_call 193; ((with_reducible refine (rResidue_any b _ _ (by omega) (by omega)).mono ?_); rintro e w' ⟨y, HY, ya0, ya1, rfl, rfl⟩)))
  have hmul : a * b % m = x * y % m := by rw [HX.out, HY.out, ← Int.mul_emod]
  have HM := Lib.hid hmul
  clear hmul
  by_cases hs1 : x < 2147483648
  · by_cases hs2 : y < 2147483648
    · obtain ⟨p0, p1⟩ := small_mul x y ⟨xa0, hs1⟩ ⟨ya0, hs2⟩
      go_wp2_with fail
      go_ret
      refine retZ_mod (by omega) ?_
      rw [HM.out]
    · have hs3 : 2147483648 ≤ y := by omega
      clear hs2
      go_wp2_with fail
      obtain ⟨y, rfl⟩ : ∃ n : Nat, y = (n : Int) := ⟨y.toNat, by omega⟩
      clear hs3
      go_loop [7, 8, 9] (fun u v r => ∃ (j : Nat) (x' o : Int), u = .int .i64 x' ∧ v = .int .i64 (j : Int) ∧ r = .int .i64 o ∧ (j : Int) < m ∧ (0 ≤ x' ∧ x' < m) ∧ (0 ≤ o ∧ o < m) ∧ Hid ((o + x' * (j : Int)) % m = x * (y : Int) % m)) (fun _ v _ => (intOf v).toNat)
      case atStart => exact ⟨y, x, 0, rfl, rfl, rfl, ya1, ⟨xa0, xa1⟩, by omega, by show _ = _; rw [Int.zero_add]⟩
      case round =>
        obtain ⟨j, x', o, rfl, rfl, rfl, hj, hx, ho, HP⟩ := hrel
        by_cases hlt : 0 < j
        · by_cases hb1 : j % 2 = 1
          · have hbt : ((j : Int) % 2 == 1) = true := by rw [beq_iff_eq]; omega
            have HB1 := Lib.hid hb1
            clear hb1
            go_wp2_with (go_at_call 194; first | ((with_reducible refine (rplus_any o x' _ _ (by omega) (by omega) (by omega)).mono ?_); rintro e w' ⟨r1, HR1, r10, r11, rfl, rfl⟩) | ((with_reducible refine (rplus_any x' x' _ _ (by omega) (by omega) (by omega)).mono ?_); rintro e w' ⟨r2, HR2, r20, r21, rfl, rfl⟩))
            refine ⟨⟨j / 2, r2, r1, rfl, by go_num, rfl, by omega, ⟨r20, r21⟩, ⟨r10, r11⟩, ?_⟩, by simp [intOf]; omega⟩
            show _ = _
            rw [HR1.out, HR2.out, dbl_odd o x' m j HB1.out, HP.out]
          · have hb0 : j % 2 = 0 := by omega
            have hbt : ((j : Int) % 2 == 1) = false := by rw [beq_eq_false_iff_ne]; omega
            have HB1 := Lib.hid hb0
            clear hb1 hb0
            go_wp2_with (go_at_call 194; ((with_reducible refine (rplus_any x' x' _ _ (by omega) (by omega) (by omega)).mono ?_); rintro e w' ⟨r2, HR2, r20, r21, rfl, rfl⟩))
            refine ⟨⟨j / 2, r2, o, rfl, by go_num, rfl, by omega, ⟨r20, r21⟩, ho, ?_⟩, by simp [intOf]; omega⟩
            show _ = _
            rw [HR2.out, dbl_even o x' m j HB1.out, HP.out]
        · obtain rfl : j = 0 := by omega
          go_wp2_with fail
          go_ret
          refine retZ_mod (by omega) ?_
          have h := HP.out
          rw [Int.natCast_zero, Int.mul_zero, Int.add_zero, Int.emod_eq_of_lt ho.1 ho.2] at h
          rw [HM.out, h]
  · have hs3 : 2147483648 ≤ x := by omega
    clear hs1
    go_wp2_with fail
    obtain ⟨y, rfl⟩ : ∃ n : Nat, y = (n : Int) := ⟨y.toNat, by omega⟩
    clear hs3
    go_loop [7, 8, 9] (fun u v r => ∃ (j : Nat) (x' o : Int), u = .int .i64 x' ∧ v = .int .i64 (j : Int) ∧ r = .int .i64 o ∧ (j : Int) < m ∧ (0 ≤ x' ∧ x' < m) ∧ (0 ≤ o ∧ o < m) ∧ Hid ((o + x' * (j : Int)) % m = x * (y : Int) % m)) (fun _ v _ => (intOf v).toNat)
    case atStart => exact ⟨y, x, 0, rfl, rfl, rfl, ya1, ⟨xa0, xa1⟩, by omega, by show _ = _; rw [Int.zero_add]⟩
    case round =>
      obtain ⟨j, x', o, rfl, rfl, rfl, hj, hx, ho, HP⟩ := hrel
      by_cases hlt : 0 < j
      · by_cases hb1 : j % 2 = 1
        · have hbt : ((j : Int) % 2 == 1) = true := by rw [beq_iff_eq]; omega
          have HB1 := Lib.hid hb1
          clear hb1
          go_wp2_with (go_at_call 194; first | ((with_reducible refine (rplus_any o x' _ _ (by omega) (by omega) (by omega)).mono ?_); rintro e w' ⟨r1, HR1, r10, r11, rfl, rfl⟩) | ((with_reducible refine (rplus_any x' x' _ _ (by omega) (by omega) (by omega)).mono ?_); rintro e w' ⟨r2, HR2, r20, r21, rfl, rfl⟩))
          refine ⟨⟨j / 2, r2, r1, rfl, by go_num, rfl, by omega, ⟨r20, r21⟩, ⟨r10, r11⟩, ?_⟩, by simp [intOf]; omega⟩
          show _ = _
          rw [HR1.out, HR2.out, dbl_odd o x' m j HB1.out, HP.out]
        · have hb0 : j % 2 = 0 := by omega
          have hbt : ((j : Int) % 2 == 1) = false := by rw [beq_eq_false_iff_ne]; omega
          have HB1 := Lib.hid hb0
          clear hb1 hb0
          go_wp2_with (go_at_call 194; ((with_reducible refine (rplus_any x' x' _ _ (by omega) (by omega) (by omega)).mono ?_); rintro e w' ⟨r2, HR2, r20, r21, rfl, rfl⟩))
          refine ⟨⟨j / 2, r2, o, rfl, by go_num, rfl, by omega, ⟨r20, r21⟩, ho, ?_⟩, by simp [intOf]; omega⟩
          show _ = _
          rw [HR2.out, dbl_even o x' m j HB1.out, HP.out]
      · obtain rfl : j = 0 := by omega
        go_wp2_with fail
        go_ret
        refine retZ_mod (by omega) ?_
        have h := HP.out
        rw [Int.natCast_zero, Int.mul_zero, Int.add_zero, Int.emod_eq_of_lt ho.1 ho.2] at h
        rw [HM.out, h]

theorem rPow_any (a m : Int) (n : Nat) (w : World) (ha : -9223372036854775808 ≤ a ∧ a ≤ 9223372036854775807) (hn : n ≤ 9223372036854775807) (hm : 1 ≤ m ∧ m ≤ 9223372036854775807) :
    Calls Tryz.prog 184 #[.int .i64 a, .int .i64 (n : Int), .int .i64 m] w (RetZ .i64 m (powZ a n m) w) := by
  go_enter Tryz.func184, Tryz.ntmps184
  go_wp2_with (go_at_call 193; first | ((with_reducible refine (rResidue_any 1 _ _ (by omega) (by omega)).mono ?_); rintro e w' ⟨u, HU, u0, u1, rfl, rfl⟩) | ((with_reducible refine (rResidue_any _ _ _ (by omega) (by omega)).mono ?_); rintro e w' ⟨x, HX, xa0, xa1, rfl, rfl⟩))
  go_loop [7, 8, 1] (fun r b i => ∃ (j : Nat) (x p : Int), b = .int .i64 x ∧ i = .int .i64 (j : Int) ∧ r = .int .i64 p ∧ j ≤ 9223372036854775807 ∧ (0 ≤ x ∧ x < m) ∧ 0 ≤ p ∧ p < m ∧ Hid (p * x ^ j % m = a ^ n % m)) (fun _ _ i => (intOf i).toNat)
  case atStart => exact ⟨n, x, u, rfl, rfl, rfl, hn, ⟨xa0, xa1⟩, u0, u1, by show _ = _; rw [HU.out, HX.out, Int.mul_emod, Int.emod_emod, pow_emod, ← Int.mul_emod, Int.one_mul]⟩
  case round =>
    obtain ⟨j, x, p, rfl, rfl, rfl, hj, hx, hp0, hp1, HP⟩ := hrel
    by_cases hlt : 0 < j
    · by_cases hb1 : j % 2 = 1
      · have hbt : ((j : Int) % 2 == 1) = true := by rw [beq_iff_eq]; omega
        have HB1 := Lib.hid hb1
        clear hb1
        go_wp2_with (go_at_call 188; first | ((with_reducible refine (rMul_any p x m _ (by omega) (by omega) (by omega)).mono ?_); rintro e w' ⟨r1, HR1, r10, r11, rfl, rfl⟩) | ((with_reducible refine (rMul_any x x m _ (by omega) (by omega) (by omega)).mono ?_); rintro e w' ⟨r2, HR2, r20, r21, rfl, rfl⟩))
        refine ⟨⟨j / 2, r2, r1, rfl, by go_num, rfl, by omega, ⟨r20, r21⟩, r10, r11, ?_⟩, by simp [intOf]; omega⟩
        show _ = _
        rw [HR2.out, HR1.out, pow_odd p x m j HB1.out, HP.out]
      · have hb0 : j % 2 = 0 := by omega
        have hbt : ((j : Int) % 2 == 1) = false := by rw [beq_eq_false_iff_ne]; omega
        have HB1 := Lib.hid hb0
        clear hb1 hb0
        go_wp2_with (go_at_call 188; ((with_reducible refine (rMul_any x x m _ (by omega) (by omega) (by omega)).mono ?_); rintro e w' ⟨r2, HR2, r20, r21, rfl, rfl⟩))
        refine ⟨⟨j / 2, r2, p, rfl, by go_num, rfl, by omega, ⟨r20, r21⟩, hp0, hp1, ?_⟩, by simp [intOf]; omega⟩
        show _ = _
        rw [HR2.out, pow_even p x m j HB1.out, HP.out]
    · obtain rfl : j = 0 := by omega
      go_wp2_with fail
      go_ret
      refine ⟨p, ?_, hp0, hp1, rfl, rfl⟩
      have h := HP.out
      rw [Int.pow_zero, Int.mul_one, Int.emod_eq_of_lt hp0 hp1] at h
      exact h
end Go.Proofs.YtabnlklkfgojgaaGreatDoor

namespace Go.Proofs.YtabnlklkfgojgaaGreatDoor
open Go.RowKit
set_option maxRecDepth 100000

theorem acc_step (a b M : Nat) (hb : b < 256) (hM : 0 < M) : (a * 256 + b) % (M * 256) = (a % M) * 256 + b := by
  have h1 := Nat.div_add_mod a M
  have h2 := Nat.mod_lt a hM
  have e : a * 256 + b = (a % M * 256 + b) + M * 256 * (a / M) := by
    have : a * 256 = M * (a / M) * 256 + a % M * 256 := by rw [← Nat.add_mul, h1]
    rw [this, Nat.mul_right_comm]
    omega
  rw [e, Nat.add_mul_mod_self_left, Nat.mod_eq_of_lt]
  have : (a % M + 1) * 256 ≤ M * 256 := Nat.mul_le_mul_right _ h2
  omega
def accR (h : List UInt8) (k : Nat) : Nat := acc8 h k % (128 * 256 ^ (k - 1))
theorem accR_step (h : List UInt8) (k : Nat) (hk : 1 ≤ k) : accR h (k + 1) = accR h k * 256 + (h.getD k 0).toNat := by
  unfold accR
  have hb := (h.getD k 0).toNat_lt
  have hM : 0 < 128 * 256 ^ (k - 1) := Nat.mul_pos (by omega) (Nat.pow_pos (by omega))
  have e : 128 * 256 ^ (k + 1 - 1) = (128 * 256 ^ (k - 1)) * 256 := by
    rw [Nat.mul_assoc, ← Nat.pow_succ]
    congr 2
    omega
  rw [e, acc8, acc_step _ _ _ (by omega) hM]
theorem accR_one (h : List UInt8) : accR h 1 = (h.getD 0 0).toNat % 128 := by
  unfold accR
  simp [acc8]
theorem accR_lt (h : List UInt8) (k : Nat) : accR h k < 128 * 256 ^ (k - 1) := Nat.mod_lt _ (Nat.mul_pos (by omega) (Nat.pow_pos (by omega)))
theorem accR_all (h : List UInt8) : accR h 8 = numN h := rfl

set_option maxHeartbeats 1000000 in
theorem rnumber_any (h : List UInt8) (hl : h.length = 32) (w : World) :
    Calls Tryz.prog 192 #[.agg (byteVals h).toArray] w (MkN 9223372036854775808 (numN h) w) := by
  obtain ⟨cs, hcs⟩ : ∃ cs : Array Value, cs = (byteVals h).toArray := ⟨_, rfl⟩
  rw [← hcs]
  have hcell : ∀ k, k < 32 → (w.alloc (.cells cs 31)).cell? ⟨w.heap.size, k, none⟩ = some (.int .u8 ((h.getD k 0).toNat : Int)) := by
    intro k hk
    rw [cell_of_row _ w.heap.size k cs 31 (0, 0) (heap_alloc_new _ _), hcs]
    simp [byteVals, byteV, List.getD, show k < h.length by omega]
  have HCELL := Lib.hid hcell
  have HCS := Lib.hid hcs
  have hu0 : Upd [] [] w (w.alloc (.cells cs 31)) := (Upd.refl _ _).alloc _
  have c0 := hcell 0 (by omega)
  obtain ⟨B0, hB0⟩ : ∃ b, b = h.getD 0 0 := ⟨_, rfl⟩
  rw [← hB0] at c0
  have b0 := B0.toNat_lt
  have HB0 := Lib.hid hB0
  clear hcell hcs hB0
  go_enter Tryz.func192, Tryz.ntmps192
  go_wp2_with fail
  generalize w.alloc (.cells cs 31) = W at *
  clear c0
  have hz1 : B0.toNat % 128 < 128 := Nat.mod_lt _ (by omega)
  go_loop [3, 4] (fun n i => ∃ (k z : Nat), i = .int .i64 (k : Int) ∧ 1 ≤ k ∧ k ≤ 8 ∧ n = .int .i64 (z : Int) ∧ Hid (z = accR h k)) (fun _ i => 8 - (intOf i).toNat)
  case atStart => exact ⟨1, B0.toNat % 128, rfl, by omega, by omega, by first | rfl | simp, by show _ = _; rw [accR_one h, HB0.out]⟩
  case round =>
    clear hz1 b0
    obtain ⟨k, z, rfl, hk1, hk, rfl, HZ⟩ := hrel
    by_cases hlt : k < 8
    · have c := HCELL.out k (by omega)
      have hst := accR_step h k hk1
      obtain ⟨b, hb⟩ : ∃ b, b = h.getD k 0 := ⟨_, rfl⟩
      rw [← hb] at c hst
      have hb8 := b.toNat_lt
      have hz : z < 36028797018963968 := by
        have h1 := accR_lt h k
        rw [← HZ.out] at h1
        have : 256 ^ (k - 1) ≤ 256 ^ 6 := Nat.pow_le_pow_right (by omega) (by omega)
        have e : (256 : Nat) ^ 6 = 281474976710656 := by decide
        omega
      have HST := Lib.hid hst
      clear hb hst
      have k8 : (k : Int) < 32 := by omega
      go_wp2_with fail
      exact ⟨⟨k + 1, z * 256 + b.toNat, by go_num, by omega, by omega, by go_num, by show _ = _; rw [HST.out, HZ.out]⟩, by simp [intOf]; omega⟩
    · have hk8 : k = 8 := by omega
      have hki : (k : Int) = 8 := by omega
      rw [hk8] at HZ
      rw [hki]
      clear hlt hk hk1 hk8 hki
      have hzl : z < 9223372036854775808 := by
        have h1 := accR_lt h 8
        rw [← HZ.out] at h1
        have e : (128 : Nat) * 256 ^ (8 - 1) = 9223372036854775808 := by decide
        omega
      go_wp2_with fail
      go_ret
      exact ⟨z, by show _ = _; rw [HZ.out, accR_all], hzl, rfl, hu0⟩

theorem exponent_any (x : Int) (w : World) (_hx : -9223372036854775808 ≤ x ∧ x ≤ 9223372036854775807) :
    Calls Tryz.prog 177 #[.int .i64 x] w (fun e w' => ∃ r : Nat, Hid (r = expN x) ∧ r < 1152921504606845789 ∧ e = .returned (.int .i64 (r : Int)) ∧ w = w') := by
  have e1 := Int.tmod_eq_emod (a := x) (b := 1152921504606845789)
  have e2 := expN_cast x
  have H1 := Lib.hid (And.intro e1 e2)
  clear e1 e2
  have hlt := expN_lt x
  go_enter Tryz.func177, Tryz.ntmps177
  go_wp2_with fail
  all_goals go_ret
  all_goals refine ⟨expN x, rfl, hlt, ret_i64 ?_, rfl⟩
  all_goals have h := H1.out
  all_goals obtain ⟨h1, h2⟩ := h
  all_goals first | simp only [wrap64] | skip
  all_goals split at h1 <;> omega

theorem u8_parts : ∃ i, Tryz.prog.info? 5 = some i ∧ i.zero = some (.int .u8 0) ∧ i.size = 1 ∧ i.bytes = 1 := by
  have h : (Tryz.prog.info? 5).map (fun i => (i.zero, i.size, i.bytes)) = some (some (.int .u8 0), 1, 1) := by kernel_rfl
  obtain ⟨i, hi, he⟩ := Option.map_eq_some_iff.1 h
  simp only [Prod.mk.injEq] at he
  exact ⟨i, hi, he.1, he.2.1, he.2.2⟩

set_option maxHeartbeats 1000000 in
theorem rBytes_any (n : Nat) (w : World) (_hn : n ≤ 9223372036854775807) : Calls Tryz.prog 179 #[.int .i64 (n : Int)] w (MkS (len8 n) w) := by
  go_enter Tryz.func179, Tryz.ntmps179
  go_wp2_with fail
  go_loopw [3, 4] (fun t i wr => ∃ (k : Nat) (z : Int), i = .int .i64 z ∧ z = 7 - (k : Int) ∧ k ≤ 8 ∧ Hid (wr.ownsRow 0 5 1 t k (byteVals ((len8 n).take k))) ∧ Hid (Upd [] (foot t) w wr)) (fun _ i _ => (intOf i + 1).toNat)
  case atStart => exact ⟨0, 7, rfl, rfl, Nat.zero_le _, ⟨by simp [byteVals], .inl ⟨rfl, rfl⟩⟩, Upd.refl _ _⟩
  case round =>
    obtain ⟨k, z, rfl, hz, hk, HR, HU⟩ := hrel
    by_cases hlt : k < 8
    · obtain ⟨m, rfl⟩ : ∃ m : Nat, z = (m : Int) := ⟨7 - k, by omega⟩
      obtain ⟨b, hb⟩ : ∃ b, b = UInt8.ofNat (n / 2 ^ (8 * m)) := ⟨_, rfl⟩
      have hb1 : (n : Int) / 2 ^ (8 * m) % 256 = (b.toNat : Int) := by
        have : (UInt8.ofNat (n / 2 ^ (8 * m))).toNat = n / 2 ^ (8 * m) % 256 := by simp
        rw [hb, this]
        simp
      have hm7 : m ≤ 7 := by omega
      have hl : (len8 n).take (k + 1) = (len8 n).take k ++ [b] := by
        rw [List.take_succ_eq_append_getElem (by rw [len8_length]; omega)]
        congr 1
        rw [hb]
        have hm : m = 7 - k := by omega
        simp [len8, hm]
      have HL := Lib.hid hl
      have HMZ := Lib.hid hz
      have hown := HR.out
      have hup := HU.out
      have hrow : (wr.alloc (.cells #[.int .u8 (b.toNat : Int)] 5)).ownsRow 0 5 1 u3 k (byteVals ((len8 n).take k)) := row_same hown (fun j hj => Below.heap_alloc _ _ _ (row_foot_lt hown j hj))
      have hw1 : (wr.alloc (.cells #[.int .u8 (b.toNat : Int)] 5)).heap[wr.heap.size]? = some (.cells #[.int .u8 (b.toNat : Int)] 5 (0, 0)) := heap_alloc_new _ _
      obtain ⟨iu, u1, u2, u3', u4⟩ := u8_parts
      obtain ⟨v', w', hrun, hown', hup'⟩ := append_block (P := Tryz.prog) (wr.alloc (.cells #[.int .u8 (b.toNat : Int)] 5)) 84 84 5 iu (.int .u8 0) 1 1 Tryz.underlying84 u1 u2 u3' u4 rfl (by omega) u3 k _ hrow ⟨wr.heap.size, 0, none⟩ 1 1 [byteV b] rfl (by
        intro j u hj
        have : j = 0 := by
          cases j with
          | zero => rfl
          | succ j => simp at hj
        subst this
        simp only [List.getElem?_cons_zero, Option.some.injEq] at hj
        subst hj
        have e : (⟨wr.heap.size, 0, none⟩ : Addr).add 0 = ⟨wr.heap.size, 0, none⟩ := by simp [Addr.add]
        rw [e, cell_of_row _ _ _ _ _ _ hw1]
        rfl) (byteVals_one [b]) (by omega) (by simp only [maxLen]; omega)
      have HRUN := Lib.hid hrun
      have HOWN := Lib.hid hown'
      have HUP := Lib.hid ((hup.alloc (.cells #[.int .u8 (b.toNat : Int)] 5)).trans hup')
      clear u1 u2 u3' u4
      clear hb hz hl hown hup hrow hw1 hrun hown' hup' HR HU
      go_wp2_with (refine wpList_append_run _ rfl _ _ _ _ rfl _ _ v' w' rfl rfl HRUN.out ?_)
      refine ⟨⟨k + 1, _, rfl, ?_, by omega, ?_, HUP.out⟩, ?_⟩
      · have := HMZ.out; omega
      · show World.ownsRow _ _ _ _ _ _ _
        rw [HL.out, byteVals_append]
        exact HOWN.out
      · first | (simp [intOf]; done) | (simp [intOf]; omega)
    · obtain rfl : z = -1 := by omega
      have hk8 : k = 8 := by omega
      have hown := HR.out
      rw [hk8, List.take_of_length_le (by rw [len8_length]; omega)] at hown
      have hcv := conv_row (P := Tryz.prog) wr 84 9 5 Tryz.underlying84 Tryz.underlying5 Tryz.underlying9 u3 (len8 n) (by rw [len8_length]; exact hown)
      have HCV := Lib.hid hcv
      clear hlt hz hk hk8 hown hcv HR
      go_wp2_with fail
      rw [HCV.out]
      go_wp2_with fail
      go_ret
      exact ⟨⟨(len8 n).toArray⟩, rfl, Nat.le_refl _, rfl, HU.out.mono (fun _ h => h) (fun _ h => absurd h (by simp))⟩

theorem rScalar_any (s : ByteArray) (w : World) (hs : s.size ≤ 281474976710000) :
    Calls Tryz.prog 183 #[.string s] w (MkN 1152921504606845789 (scalN (bs s)) w) := by
  go_enter Tryz.func183, Tryz.ntmps183
  go_wp2_with fail
  refine (rsum_any _ w (by have : (ByteArray.mk #[115, 47]).size = 2 := rfl; simp [ByteArray.size_append]; omega)).mono ?_
  rintro e w1 ⟨rfl, hu1⟩
  have hb : bs (⟨#[115, 47]⟩ ++ s) = [115, 47] ++ bs s := by rw [bs_append]; rfl
  rw [hb]
  clear hb
  obtain ⟨h, hh⟩ : ∃ h, h = sha ([115, 47] ++ bs s) := ⟨_, rfl⟩
  have hl : h.length = 32 := by rw [hh, sha_length]
  rw [← hh]
  obtain ⟨cs, hcs⟩ : ∃ cs : Array Value, cs = (byteVals h).toArray := ⟨_, rfl⟩
  rw [← hcs]
  have HH := Lib.hid hh
  have HL := Lib.hid hl
  have HCS := Lib.hid hcs
  clear hh hl hcs
  go_wp2_with fail
  rw [HCS.out]
  refine (rnumber_any h HL.out w1).mono ?_
  rintro e w2 ⟨r, HR, hr, rfl, hu2⟩
  go_wp2_with fail
  go_ret
  refine ⟨r % 1152921504606845789, ?_, Nat.mod_lt _ (by omega), ?_, hu1.trans hu2⟩
  · show _ = _
    rw [scalN, HR.out, HH.out]
  · first | rfl | simp

theorem rpositive_any (s : ByteArray) (w : World) (hs : s.size ≤ 281474976710000) :
    Calls Tryz.prog 178 #[.string s] w (fun e w' => ∃ r : Nat, Hid (r = posN (scalN (bs s))) ∧ 0 < r ∧ r < 1152921504606845789 ∧ e = .returned (.int .i64 (r : Int)) ∧ Upd [] [] w w') := by
  go_enter Tryz.func178, Tryz.ntmps178
  go_wp2_with fail
  refine (rScalar_any s w hs).mono ?_
  rintro e w1 ⟨r, HR, hr, rfl, hu⟩
  go_wp2_with fail
  go_ret
  have hp : posN r = max r 1 := by unfold posN; split <;> omega
  refine ⟨posN r, by show _ = _; rw [HR.out], posN_pos r, posN_lt hr, ?_, hu⟩
  exact ret_i64 (by rw [hp]; omega)

theorem rPow_n (a n : Nat) (m : Int) (w : World) (ha : a ≤ 9223372036854775807) (hn : n ≤ 9223372036854775807) (hm : m = 2305843009213691579) :
    Calls Tryz.prog 184 #[.int .i64 (a : Int), .int .i64 (n : Int), .int .i64 m] w (fun e w' => ∃ r : Nat, Hid (r = a ^ n % Pn) ∧ r < 2305843009213691579 ∧ e = .returned (.int .i64 (r : Int)) ∧ w = w') := by
  subst hm
  refine (rPow_any a 2305843009213691579 n w (by omega) hn (by omega)).mono ?_
  rintro e w1 ⟨r, HR, r0, r1, rfl, rfl⟩
  obtain ⟨m, rfl⟩ : ∃ m : Nat, r = (m : Int) := ⟨r.toNat, by omega⟩
  refine ⟨m, ?_, by omega, rfl, rfl⟩
  show _ = _
  have h := HR.out
  rw [powZ_cast] at h
  omega

theorem public_any (x : Int) (w : World) (hx : -9223372036854775808 ≤ x ∧ x ≤ 9223372036854775807) :
    Calls Tryz.prog 186 #[.int .i64 x] w (fun e w' => ∃ r : Nat, Hid (r = gP (expN x)) ∧ r < 2305843009213691579 ∧ e = .returned (.int .i64 (r : Int)) ∧ w = w') := by
  go_enter Tryz.func186, Tryz.ntmps186
  go_wp2_with fail
  refine (exponent_any x w hx).mono ?_
  rintro e w1 ⟨n, HN, hn, rfl, rfl⟩
  go_wp2_with fail
  refine (rPow_n 4 n _ w (by omega) (by omega) rfl).mono ?_
  rintro e w1 ⟨r, HR, hr, rfl, rfl⟩
  go_wp2_with fail
  go_ret
  exact ⟨r, by show _ = _; rw [HR.out, HN.out, gP], hr, rfl, rfl⟩

theorem rchallenge_any (r p : Nat) (t : ByteArray) (w : World) (hr : r ≤ 9223372036854775807) (hp : p ≤ 9223372036854775807) (ht : t.size ≤ 140737488355000) :
    Calls Tryz.prog 185 #[.int .i64 (r : Int), .int .i64 (p : Int), .string t] w (MkN 1152921504606845789 (chalN r p (bs t)) w) := by
  have h99 : (ByteArray.mk #[99]).size = 1 := rfl
  go_enter Tryz.func185, Tryz.ntmps185
  go_wp2_with fail
  refine (rBytes_any r w hr).mono ?_
  rintro e w1 ⟨b1, HB1, b1l, rfl, hu1⟩
  rw [len8_length] at b1l
  go_wp2_with fail
  refine (rBytes_any p w1 hp).mono ?_
  rintro e w2 ⟨b2, HB2, b2l, rfl, hu2⟩
  rw [len8_length] at b2l
  have hu := hu1.trans hu2
  go_wp2_with fail
  refine (rScalar_any _ w2 (by simp [ByteArray.size_append]; omega)).mono ?_
  rintro e w3 ⟨c, HC, hc, rfl, hu3⟩
  go_wp2_with fail
  go_ret
  refine ⟨c, ?_, hc, rfl, hu.trans hu3⟩
  show _ = _
  rw [HC.out, bs_append, bs_append, bs_append, HB1.out, HB2.out, chalN]
  rfl
end Go.Proofs.YtabnlklkfgojgaaGreatDoor

namespace Go.Proofs.YtabnlklkfgojgaaGreatDoor
open Go.RowKit
set_option maxRecDepth 100000

set_option maxHeartbeats 1000000 in
theorem signWith_any (x : Int) (t : ByteArray) (n : Nat) (w : World) (hx : -9223372036854775808 ≤ x ∧ x ≤ 9223372036854775807) (ht : t.size ≤ 140737488355000) (hn : n < 1152921504606845789) :
    Calls Tryz.prog 180 #[.int .i64 x, .string t, .int .i64 (n : Int)] w (MkSig (gP n) (sWith (expN x) n (bs t)) w) := by
  obtain ⟨X, hX⟩ : ∃ X, X = expN x := ⟨_, rfl⟩
  have hXl := expN_lt x
  rw [← hX] at hXl
  rw [← hX]
  have HX := Lib.hid hX
  clear hX
  have h0 := SigAt.start w 0 0
  go_enter Tryz.func180, Tryz.ntmps180
  go_wp2_with fail
  refine (exponent_any x _ hx).mono ?_
  rintro e w1 ⟨x1, HX1, hx1, rfl, rfl⟩
  obtain rfl : x1 = X := HX1.out.trans HX.out.symm
  go_wp2_with fail
  refine (rPow_n 4 n _ _ (by omega) (by omega) rfl).mono ?_
  rintro e w1 ⟨r, HR, hr, rfl, rfl⟩
  go_wp2_with fail
  refine (public_any x _ hx).mono ?_
  rintro e w1 ⟨y, HY, hy, rfl, rfl⟩
  go_wp2_with fail
  refine (rchallenge_any r y t _ (by omega) (by omega) ht).mono ?_
  rintro e w2 ⟨c2, HC2, hc2, rfl, hu2⟩
  have h2 := h0.upd hu2
  clear h0
  go_wp2_with fail
  refine (rMul_any _ _ _ _ (by omega) (by omega) (by omega)).mono ?_
  rintro e w10 ⟨m1, HM1, m10, m11, rfl, rfl⟩
  go_wp2_with fail
  refine (rAdd_any _ _ _ _ (by omega) (by omega) (by omega)).mono ?_
  rintro e w10 ⟨m2, HM2, m20, m21, rfl, rfl⟩
  obtain ⟨s, rfl⟩ : ∃ s : Nat, m2 = (s : Int) := ⟨m2.toNat, by omega⟩
  obtain ⟨k0, k1⟩ := h2.cells
  obtain ⟨f0, f1⟩ := h2.free
  go_wp2_with fail
  refine bodyPost_ret (v := .agg #[.int .i64 (r : Int), .int .i64 (s : Int)]) (by simp [results, Tryz.results180, go_sem, k0, k1]) rfl ⟨r, s, ?_, ?_, hr, by omega, rfl, ?_⟩
  · show _ = _
    rw [HR.out, gP]
  · show _ = _
    have h2 := HM2.out
    have hrg : r = gP n := by rw [HR.out, gP]
    rw [HM1.out, HC2.out, HY.out, hrg, ← HX.out, Int.add_emod_emod] at h2
    rw [sWith]
    have h3 : ((s : Nat) : Int) = (((n + x1 * chalN (gP n) (gP x1) (bs t)) % Qn : Nat) : Int) := by
      rw [h2]; simp [Qn]
    omega
  · exact (h2.up.setNew (p := ⟨_, _, none⟩) (Nat.le_refl _) _).setNew (p := ⟨_, _, none⟩) (Nat.le_refl _) _

set_option maxHeartbeats 1000000 in
theorem rsign_any (x : Int) (t : ByteArray) (w : World) (hx : -9223372036854775808 ≤ x ∧ x ≤ 9223372036854775807) (ht : t.size ≤ 140737488355000) :
    Calls Tryz.prog 169 #[.int .i64 x, .string t] w (MkSig (gP (nonceN (expN x) (bs t))) (sWith (expN x) (nonceN (expN x) (bs t)) (bs t)) w) := by
  have h0 := SigAt.start w 0 0
  have h110 : (ByteArray.mk #[110]).size = 1 := rfl
  go_enter Tryz.func169, Tryz.ntmps169
  go_wp2_with fail
  refine (exponent_any x _ hx).mono ?_
  rintro e w1 ⟨X, HX, hX, rfl, rfl⟩
  go_wp2_with fail
  refine (rBytes_any X _ (by omega)).mono ?_
  rintro e w2 ⟨b1, HB1, b1l, rfl, hu2⟩
  rw [len8_length] at b1l
  have h2 := h0.upd hu2
  clear h0
  go_wp2_with fail
  refine (rpositive_any _ w2 (by simp [ByteArray.size_append]; omega)).mono ?_
  rintro e w3 ⟨n, HN, hn0, hn, rfl, hu3⟩
  have hnn : n = nonceN (expN x) (bs t) := by
    rw [HN.out, bs_append, bs_append, HB1.out, HX.out, nonceN]
    rfl
  have HNN := Lib.hid hnn
  have h3 := h2.upd hu3
  clear hnn h2
  go_wp2_with fail
  refine (signWith_any x t n w3 hx ht hn).mono ?_
  rintro e w4 ⟨r, s, HR, HS, hr, hs, rfl, hu4⟩
  have h4 := h3.upd hu4
  obtain ⟨k0, k1⟩ := h4.cells
  obtain ⟨f0, f1⟩ := h4.free
  go_wp2_with fail
  refine bodyPost_ret (v := .agg #[.int .i64 (r : Int), .int .i64 (s : Int)]) (by simp [results, Tryz.results169, go_sem, k0, k1]) rfl ⟨r, s, ?_, ?_, hr, hs, rfl, ?_⟩
  · show _ = _
    rw [HR.out, HNN.out]
  · show _ = _
    rw [HS.out, HNN.out]
  · exact (h4.up.setNew (p := ⟨_, _, none⟩) (Nat.le_refl _) _).setNew (p := ⟨_, _, none⟩) (Nat.le_refl _) _
end Go.Proofs.YtabnlklkfgojgaaGreatDoor

namespace Go.Proofs.YtabnlklkfgojgaaGreatDoor
open Go.RowKit
set_option maxRecDepth 100000

theorem byte_str (wr : World) (b : UInt8) : (convert 84 9 (.slice (some ⟨wr.heap.size, 0, none⟩) 1 1)).run Tryz.prog (wr.alloc (.cells #[.int .u8 (b.toNat : Int)] 5)) = .ok (.string ⟨#[b]⟩) (wr.alloc (.cells #[.int .u8 (b.toNat : Int)] 5)) :=
  conv_bytes (P := Tryz.prog) (wr.alloc (.cells #[.int .u8 (b.toNat : Int)] 5)) 84 9 5 Tryz.underlying84 Tryz.underlying5 Tryz.underlying9 wr.heap.size _ _ _ (heap_alloc_new _ _) [b] rfl 0 1 1 (by simp)

end Go.Proofs.YtabnlklkfgojgaaGreatDoor

namespace Go.Proofs.YtabnlklkfgojgaaGreatDoor
open Go.RowKit
set_option maxRecDepth 100000

set_option maxHeartbeats 1000000 in
theorem decimal_any (n : Int) (w : World) (hn : i64in n) : Calls Tryz.prog 174 #[.int .i64 n] w (MkS (Lib.itoa n) w) := by
  have hn1 := hn.1
  have hn2 := hn.2
  by_cases h0 : n = 0
  · subst h0
    go_enter Tryz.func174, Tryz.ntmps174
    go_wp2_with fail
    go_ret
    exact ⟨⟨#[48]⟩, by show _ = _; rw [itoa_zero]; rfl, by rw [itoa_zero]; decide, rfl, Upd.refl _ _⟩
  · have hb0 : (n == 0) = false := by rw [beq_eq_false_iff_ne]; exact h0
    have HN := Lib.hid h0
    clear h0
    obtain ⟨u, hu⟩ : ∃ u : Nat, u = n.natAbs := ⟨_, rfl⟩
    have hul : u ≤ 9223372036854775808 := by omega
    have HU := Lib.hid hu
    have HUL := Lib.hid hul
    clear hu hul
    go_enter Tryz.func174, Tryz.ntmps174
    go_wp2_with fail
    go_loopw [3, 4] (fun t i wr => ∃ (z : Int) (r : ByteArray), i = .int .i64 z ∧ t = .string r ∧ (-9223372036854775808 ≤ z ∧ z ≤ 9223372036854775807) ∧ Hid (digs z.natAbs ++ bs r = digs u) ∧ r.size ≤ 30 ∧ Upd [] [] w wr) (fun _ i _ => (intOf i).natAbs)
    case atStart => exact ⟨n, ⟨#[]⟩, rfl, rfl, hn, by show _ = _; rw [HU.out]; simp [bs], by decide, Upd.refl _ _⟩
    case round =>
      obtain ⟨z, r, rfl, rfl, hz, HR, hr, hup⟩ := hrel
      by_cases hz0 : z = 0
      · subst hz0
        have hR := HR.out
        have hR : bs r = digs u := by simpa [digs] using hR
        have HR2 := Lib.hid hR
        clear hR HR
        by_cases hneg : n < 0
        · go_wp2_with fail
          go_ret
          refine ⟨_, ?_, ?_, rfl, hup⟩
          · show _ = _
            rw [bs_append, HR2.out, itoa_neg hneg, HU.out]
            rfl
          · rw [itoa_neg hneg, ByteArray.size_append]
            have := bs_size HR2.out
            have e : (ByteArray.mk #[45]).size = 1 := rfl
            simp [this, e, ← HU.out]; omega
        · go_wp2_with fail
          go_ret
          have hpos : 0 < n := by have := HN.out; omega
          refine ⟨r, ?_, ?_, rfl, hup⟩
          · show _ = _
            rw [HR2.out, itoa_pos hpos, HU.out]
          · rw [itoa_pos hpos, ← HU.out, ← HR2.out]
            exact Nat.le_refl _
      · have hnz : (z == 0) = false := by rw [beq_eq_false_iff_ne]; exact hz0
        obtain ⟨b, hb⟩ : ∃ b, b = UInt8.ofNat (48 + z.natAbs % 10) := ⟨_, rfl⟩
        have hbn : b.toNat = 48 + z.natAbs % 10 := by rw [hb]; exact digit_toNat (Nat.mod_lt _ (by omega))
        have hst := digs_step z.natAbs (by omega)
        rw [← hb] at hst
        have hq : (z.tdiv 10).natAbs = z.natAbs / 10 := by rw [Int.natAbs_tdiv]; rfl
        have hm : (z.tmod 10).natAbs = z.natAbs % 10 := by rw [Int.natAbs_tmod]; rfl
        have hR2 : digs (z.tdiv 10).natAbs ++ bs (⟨#[b]⟩ ++ r) = digs u := by
          rw [bs_append, ← HR.out, hst, hq, List.append_assoc]
          rfl
        have hlen : (⟨#[b]⟩ ++ r : ByteArray).size ≤ 19 := by
          have h1 := congrArg List.length hR2
          rw [List.length_append, bs_length] at h1
          have h2 := digs_len HUL.out
          omega
        have HR2 := Lib.hid hR2
        have HLEN := Lib.hid hlen
        have hbig : (z.tdiv 10).natAbs < z.natAbs := by rw [hq]; omega
        have HBIG := Lib.hid hbig
        have hdb : -9223372036854775808 ≤ z.tdiv 10 ∧ z.tdiv 10 ≤ 9223372036854775807 := by omega
        have HDB := Lib.hid hdb
        have HCV := Lib.hid (byte_str wr b)
        have hu1 := hup.alloc (.cells #[.int .u8 (b.toNat : Int)] 5)
        have h1 : (ByteArray.mk #[b]).size ≤ 1 := Nat.le_refl _
        by_cases hd : z.tmod 10 < 0
        · have hb1 : 48 + -(z.tmod 10) = (b.toNat : Int) := by omega
          have hlo : -10 < z.tmod 10 := by omega
          have HB1 := Lib.hid hb1
          clear hb hbn hst hq hm hR2 hlen hbig hdb hz0 hb1
          go_wp2_with fail
          rw [HB1.out, HCV.out]
          go_wp2_with fail
          exact ⟨⟨_, _, rfl, rfl, HDB.out, HR2.out, by have := HLEN.out; omega, hu1⟩, by simp only [intOf]; exact HBIG.out⟩
        · have hb1 : 48 + z.tmod 10 = (b.toNat : Int) := by omega
          have hlo : z.tmod 10 < 10 := by omega
          have HB1 := Lib.hid hb1
          clear hb hbn hst hq hm hR2 hlen hbig hdb hz0 hb1
          go_wp2_with fail
          rw [HB1.out, HCV.out]
          go_wp2_with fail
          exact ⟨⟨_, _, rfl, rfl, HDB.out, HR2.out, by have := HLEN.out; omega, hu1⟩, by simp only [intOf]; exact HBIG.out⟩
end Go.Proofs.YtabnlklkfgojgaaGreatDoor

namespace Go.Proofs.YtabnlklkfgojgaaGreatDoor
set_option maxRecDepth 100000
open Go Go.RowKit

end Go.Proofs.YtabnlklkfgojgaaGreatDoor

namespace Go.Proofs.YtabnlklkfgojgaaGreatDoor
open Go.RowKit
set_option maxRecDepth 100000

set_option maxHeartbeats 1000000 in
theorem rtext_any (r s : Int) (w : World) (hr : i64in r) (hs : i64in s) : Calls Tryz.prog 167 #[.agg #[.int .i64 r, .int .i64 s]] w (MkS (pairL r s) w) := by
  have h1 := SigAt.start w r s
  have h4 := h1.upd (Upd.refl _ _).drew
  have k4 := h4.cells
  have hlr := itoa_len r hr
  have hls := itoa_len s hs
  go_enter Tryz.func167, Tryz.ntmps167
  go_wp2_with fail
  clear h1
  go_region_held3 (fun wp => wp.cell? ⟨w.heap.size, 0, none⟩ = some (.int .i64 r) ∧ wp.cell? ⟨w.heap.size, 1, none⟩ = some (.int .i64 s)) (first | exact k4 | assumption)
    (first
      | (go_at_call 174; ((with_reducible refine (decimal_any r _ hr).mono ?_); rintro e wq ⟨y1, HY1, hy1, rfl, hq⟩; have t1 : ¬ 9223372036854775807 < y1.size + 1 := (by omega); have g1 := h4.upd hq; have kq := g1.cells; clear hq))
      | (go_at_call 174; ((with_reducible refine (decimal_any s _ hs).mono ?_); rintro e wq ⟨y2, HY2, hy2, rfl, hq⟩; have t2 : ¬ 9223372036854775807 < y1.size + 1 + y2.size := (by omega); have g2 := g1.upd hq; have kq := g2.cells; clear hq)))
  go_wp2_with fail
  go_ret
  refine ⟨_, ?_, ?_, rfl, g2.up⟩
  · show _ = _
    rw [bs_append, bs_append, HY1.out, HY2.out]
    rfl
  · have e1 := bs_size HY1.out
    have e2 := bs_size HY2.out
    have e3 : (ByteArray.mk #[46]).size = 1 := rfl
    simp [ByteArray.size_append, pairL, e1, e2, e3]
    omega

theorem bs_get' (s : ByteArray) (k : Nat) (h : k < s.size) : (bs s)[k]? = some s[k] := by
  have : k < (bs s).length := h
  rw [List.getElem?_eq_getElem this]; rfl
end Go.Proofs.YtabnlklkfgojgaaGreatDoor

namespace Go.Proofs.YtabnlklkfgojgaaGreatDoor
open Go.RowKit
set_option maxRecDepth 100000

theorem idx_is (c : UInt8) (w : World) : Calls Tryz.prog 123 #[.string ⟨#[48, 49, 50, 51, 52, 53, 54, 55, 56, 57, 97, 98, 99, 100, 101, 102]⟩, .int .u8 (c.toNat : Int)] w (fun e w' => e = .returned (.int .i64 (match digH c with | some n => (n : Int) | none => -1)) ∧ w' = w) := by
  refine (Tryz.strings_IndexByte _ (c.toNat : Int) w).mono ?_
  rintro e w' ⟨rfl, rfl⟩
  refine ⟨?_, rfl⟩
  have h := digit_index c
  have e1 : ((c.toNat : Int)).toNat.toUInt8 = c := by simp
  rw [e1]
  exact congrArg (fun x => Ending.returned (.int .i64 x)) h
theorem idx_some {c : UInt8} {n : Nat} (h : digH c = some n) (w : World) : Calls Tryz.prog 123 #[.string ⟨#[48, 49, 50, 51, 52, 53, 54, 55, 56, 57, 97, 98, 99, 100, 101, 102]⟩, .int .u8 (c.toNat : Int)] w (fun e w' => e = .returned (.int .i64 (n : Int)) ∧ w' = w) := by
  have := idx_is c w
  rw [h] at this
  exact this
theorem idx_none {c : UInt8} (h : digH c = none) (w : World) : Calls Tryz.prog 123 #[.string ⟨#[48, 49, 50, 51, 52, 53, 54, 55, 56, 57, 97, 98, 99, 100, 101, 102]⟩, .int .u8 (c.toNat : Int)] w (fun e w' => e = .returned (.int .i64 (-1)) ∧ w' = w) := by
  have := idx_is c w
  rw [h] at this
  exact this
def zero32 : List UInt8 := List.replicate 32 0
theorem hashInfo {l : List UInt8} (h : l.length = 32) : (Tryz.prog.info? 31).map (·.size) = some (byteVals l).toArray.size := by
  rw [show (byteVals l).toArray.size = 32 by simp [byteVals, h]]
  kernel_rfl
theorem hashOne (l : List UInt8) : (byteVals l).toArray.all (·.oneCell') = true := by
  rw [Array.all_eq_true_iff_forall_mem]
  intro v hv
  exact byteVals_one _ v (by simpa using hv)
theorem AB.setRow {T : TypeId} {w : World} {g : Nat} {c : List UInt8} (h : AB T w g c) (d : List UInt8) : AB T (w.setRow g (byteVals d).toArray) g d := setRow_heap w g _ _ _ _ h

theorem AB.other {T : TypeId} {w : World} {g L j : Nat} {c : List UInt8} (h : AB T w g c) (n : g ≠ L) (v : Value) : AB T (w.setCell ⟨L, j, none⟩ v) g c := by
  unfold AB at h ⊢
  rw [((Upd.refl [L] w).setCell (p := ⟨L, j, none⟩) (by simp) v).block g (Array.getElem?_eq_some_iff.1 h).1 (by simpa using n)]
  exact h

set_option maxHeartbeats 2000000 in
theorem hexRead_any (s : ByteArray) (w : World) : Calls Tryz.prog 97 #[.string s] w (MkHash (bs s) w) := by
  have hz : zero32.length = 32 := by simp [zero32]
  have hr1 : AB 31 (w.alloc (.cells (byteVals zero32).toArray 31)) w.heap.size zero32 := heap_alloc_new _ _
  by_cases h64 : s.size = 64
  case neg =>
    have HR1 := Lib.hid hr1
    have HZ := Lib.hid hz
    have hq : ¬ (s.size : Int) = 64 := by omega
    clear hr1 hz
    go_enter Tryz.func97, Tryz.ntmps97
    go_wp2_with (first | (refine wpList_store_row rfl 31 _ _ rfl w.heap.size (byteVals zero32).toArray rfl rfl _ _ HR1.out (hashInfo HZ.out) rfl (hashOne _) ?_))
    refine bodyPost_ret (results_row_tmp rfl _ _ w.heap.size _ (byteVals zero32).toArray _ _ rfl (HR1.out.setRow zero32) Tryz.underlying31 rfl (hashInfo HZ.out)) rfl ⟨zero32, false, hexOk_len (by rw [bs_length]; exact h64), rfl, ((Upd.refl _ _).alloc _).setRowNew (Nat.le_refl _) _⟩
  case pos =>
    have hr2 : AB 31 ((w.alloc (.cells (byteVals zero32).toArray 31)).alloc (.cells (byteVals zero32).toArray 31)) (w.heap.size + 1) zero32 := by
      have h := heap_alloc_new (w.alloc (.cells (byteVals zero32).toArray 31)) (.cells (byteVals zero32).toArray 31)
      rw [World.size_alloc] at h
      exact h
    have HR1 := Lib.hid (hr1.upd ((Upd.refl [] _).alloc (.cells (byteVals zero32).toArray 31)))
    have HR2 := Lib.hid hr2
    have HZ := Lib.hid hz
    have hq : (s.size : Int) = 64 := by omega
    clear hr1 hr2 hz
    go_enter Tryz.func97, Tryz.ntmps97
    go_wp2_with fail
    go_loopw [5, 6, 13] (fun _ _ i wr => ∃ k : Nat, i = .int .i64 (k : Int) ∧ k ≤ 64 ∧ Hid (AB 31 wr (w.heap.size + 1) (fillH ((bs s).take k) ++ List.replicate (32 - (k + 1) / 2) 0)) ∧ Hid (AB 31 wr w.heap.size zero32) ∧ Hid (digs16 ((bs s).take k)) ∧ Hid (Upd [] [] w wr)) (fun _ _ i _ => 64 - (intOf i).toNat)
    case atStart => exact ⟨0, rfl, Nat.zero_le _, HR2.out, HR1.out, fun c h => by simp at h, ((Upd.refl _ _).alloc _).alloc _⟩
    case round =>
      obtain ⟨k, rfl, hk, HA, HR, HD, HU⟩ := hrel
      by_cases hlt : k < 64
      · have hks : k < s.size := by omega
        have hc := bs_get' s k hks
        have HC := Lib.hid hc
        clear hc
        have i0 : (0 : Int) ≤ (k : Int) := by omega
        have i1 : (k : Int) < 64 := by omega
        cases hd : digH s[k] with
        | none =>
          have HN := Lib.hid (hexOk_dig (t := bs s) (List.mem_of_getElem? HC.out) hd)
          have hct := idx_none hd
          clear hd
          go_wp2_with fail
          refine (hct wr).mono ?_
          rintro e w1 ⟨rfl, rfl⟩
          go_wp2_with (first | (refine wpList_store_row rfl 31 _ _ rfl w.heap.size (byteVals zero32).toArray rfl rfl _ _ HR.out (hashInfo HZ.out) rfl (hashOne _) ?_))
          refine bodyPost_ret (results_row_tmp rfl _ _ w.heap.size _ (byteVals zero32).toArray _ _ rfl (HR.out.setRow zero32) Tryz.underlying31 rfl (hashInfo HZ.out)) rfl ⟨zero32, false, HN.out, rfl, HU.out.setRowNew (Nat.le_refl _) _⟩
        | some n =>
          obtain ⟨hdv, hn16⟩ := dv_of hd
          have hct := idx_some hd
          have HD2 : Hid (digs16 ((bs s).take (k + 1))) := by
            intro c hcm
            rw [List.take_add_one, HC.out] at hcm
            rcases List.mem_append.1 hcm with h | h
            · exact HD.out c h
            · rw [show c = s[k] by simpa using h]
              exact ⟨n, hd⟩
          have HDG := Lib.hid hd
          have HDV := Lib.hid hdv
          clear hd hdv
          by_cases hev : k % 2 = 0
          · obtain ⟨m, rfl⟩ : ∃ m, k = 2 * m := ⟨k / 2, by omega⟩
            have hA2 := (HA.out.set m (dv s[2 * m])).upd (Upd.refl [] _)
            rw [show (2 * m + 1) / 2 = m by omega, fill_even HC.out (by omega)] at hA2
            have hcell := HA.out.cell (j := m) (b := 0) (by rw [show (2 * m + 1) / 2 = m by omega, List.getElem?_append_right (by rw [fillH_len, List.length_take, bs_length]; omega), List.getElem?_replicate, if_pos (by rw [fillH_len, List.length_take, bs_length]; omega)])
            have hfz := HA.out.frozen m
            have e1 : ((2 * m : Nat) : Int).tdiv 2 = (m : Int) := by rw [Int.tdiv_eq_ediv_of_nonneg (by omega)]; omega
            have e2 : ((2 * m : Nat) : Int) / 2 = (m : Int) := by omega
            have b0 : (0 : Int) ≤ (m : Int) := by omega
            have b1 : (m : Int) < 32 := by omega
            rw [show 32 - (m + 1) = 32 - (2 * m + 1 + 1) / 2 by omega] at hA2
            have HA2 := Lib.hid hA2
            clear hA2 hev
            go_wp2_with fail
            refine (hct wr).mono ?_
            rintro e w1 ⟨rfl, rfl⟩
            have vb : Go.bits .or .u8 0 (n : Int) = ((dv s[2 * m]).toNat : Int) := by
              have h := or_digit 0 (by omega) n hn16
              rw [HDV.out]
              simpa using h
            go_wp2_with fail
            refine ⟨⟨2 * m + 1, by go_num, by omega, HA2.out, HR.out.other (by omega) _, HD2.out, HU.out.setNew (p := ⟨_, _, none⟩) (by show w.heap.size ≤ w.heap.size + 1; omega) _⟩, by simp [intOf]; omega⟩
          · obtain ⟨m, rfl⟩ : ∃ m, k = 2 * m + 1 := ⟨k / 2, by omega⟩
            have ha0 := bs_get' s (2 * m) (by omega)
            obtain ⟨f1, f2⟩ := fill_odd ha0 HC.out
            obtain ⟨o, ho⟩ : ∃ o, digH s[2 * m] = some o := HD.out s[2 * m] (by
              refine List.mem_of_getElem? (i := 2 * m) ?_
              rw [List.getElem?_take_of_lt (by omega)]
              exact ha0)
            obtain ⟨hov, ho16⟩ := dv_of ho
            have hA := HA.out
            rw [show (2 * m + 1 + 1) / 2 = m + 1 by omega] at hA
            have hcell := hA.cell f1
            rw [hov] at hcell
            have hA2 := hA.set m (UInt8.ofNat (16 * (dv s[2 * m]).toNat + (dv s[2 * m + 1]).toNat))
            rw [f2, hov, HDV.out] at hA2
            have hfz := HA.out.frozen m
            have e1 : ((2 * m + 1 : Nat) : Int).tdiv 2 = (m : Int) := by rw [Int.tdiv_eq_ediv_of_nonneg (by omega)]; omega
            have e2 : ((2 * m + 1 : Nat) : Int) / 2 = (m : Int) := by omega
            have e3 : (2 * (m : Int) + 1) / 2 = (m : Int) := by omega
            have b0 : (0 : Int) ≤ (m : Int) := by omega
            have b1 : (m : Int) < 32 := by omega
            rw [show 32 - (m + 1) = 32 - (2 * m + 1 + 1 + 1) / 2 by omega] at hA2
            have HA2 := Lib.hid hA2
            have HHA := Lib.hid hA
            clear hA2 hA hev f1 f2 ha0 ho hov HA
            go_wp2_with fail
            refine (hct wr).mono ?_
            rintro e w1 ⟨rfl, rfl⟩
            have vb : Go.bits .or .u8 ((o : Int) * 16) (n : Int) = ((UInt8.ofNat (16 * o + n)).toNat : Int) := by
              have h := or_digit o ho16 n hn16
              rw [show ((16 * o : Nat) : Int) = (o : Int) * 16 by omega] at h
              rw [h, UInt8.toNat_ofNat', Nat.mod_eq_of_lt (by omega)]
            go_wp2_with fail
            refine ⟨⟨2 * m + 1 + 1, by go_num, by omega, HA2.out, HR.out.other (by omega) _, HD2.out, HU.out.setNew (p := ⟨_, _, none⟩) (by show w.heap.size ≤ w.heap.size + 1; omega) _⟩, by simp [intOf]; omega⟩
      · obtain rfl : k = 64 := by omega
        obtain ⟨H, hH⟩ : ∃ H, H = fillH (bs s) := ⟨_, rfl⟩
        have hA := HA.out
        have hD := HD.out
        have hsl : (bs s).length = 64 := by rw [bs_length]; exact h64
        rw [List.take_of_length_le (by omega)] at hA hD
        have hy := hexOk_yes hsl hD
        rw [show 32 - (64 + 1) / 2 = 0 by omega, List.replicate_zero, List.append_nil, ← hH] at hA
        rw [← hH] at hy
        have HL := Lib.hid hy.1
        have HY := Lib.hid hy
        have HA2 := Lib.hid hA
        clear hA hD hy hH HA hlt hk
        go_wp2_with (first | (refine wpList_load_row rfl 31 _ rfl (w.heap.size + 1) rfl _ (byteVals H).toArray _ _ HA2.out Tryz.underlying31 rfl (hashInfo HL.out) ?_) | (refine wpList_store_row rfl 31 _ _ rfl w.heap.size (byteVals H).toArray rfl rfl _ _ HR.out (hashInfo HL.out) (by simp [byteVals, HL.out, HZ.out]) (hashOne _) ?_))
        refine bodyPost_ret (results_row_tmp rfl _ _ w.heap.size _ (byteVals H).toArray _ _ rfl (HR.out.setRow H) Tryz.underlying31 rfl (hashInfo HL.out)) rfl ⟨H, true, HY.out, rfl, HU.out.setRowNew (Nat.le_refl _) _⟩
end Go.Proofs.YtabnlklkfgojgaaGreatDoor

namespace Go.Proofs.YtabnlklkfgojgaaGreatDoor
open Go.RowKit
set_option maxRecDepth 100000

end Go.Proofs.YtabnlklkfgojgaaGreatDoor

namespace Go.Proofs.YtabnlklkfgojgaaGreatDoor
open Go.RowKit
set_option maxRecDepth 100000

def TrueMk (w : World) (e : Ending) (w' : World) : Prop := e = .returned (.bool true) ∧ Upd [] [] w w'

theorem verify_is (p : Int) (t : ByteArray) (r s : Int) (b : Bool) (w : World) (hp : i64in p) (hr : i64in r) (hs : i64in s) (ht : t.size ≤ 140737488355000) (htab : Tabs w) (h : verB p (bs t) r s = b) :
    Calls Tryz.prog 51 #[.int .i64 p, .string t, .agg #[.int .i64 r, .int .i64 s]] w (fun e w' => e = .returned (.bool b) ∧ Upd [] [] w w') := by
  refine (verify_any p t r s w hp hr hs ht htab).mono ?_
  rintro e w' ⟨x, HX, rfl, hu⟩
  exact ⟨by rw [HX.out, h], hu⟩

end Go.Proofs.YtabnlklkfgojgaaGreatDoor
