/- group.residue, group.plus, group.Mul, group.Add. -/
import Derived.Test.YtkhodajdionaaaaGreatDoorRows
import Derived.Test.YtkhodajdionaaaaGreatDoorCont
import Derived.Test.YtkhodajdionaaaaGreatDoorGMath
import Derived.Test.YtkhodajdionaaaaGreatDoorShelf
namespace Go.Proofs.YtkhodajdionaaaaGreatDoor
open Go.RowKit
set_option maxRecDepth 100000

theorem residue_any (a m : Int) (w : World) (_ha : -9223372036854775808 ≤ a ∧ a ≤ 9223372036854775807) (hm : 1 ≤ m ∧ m ≤ 9223372036854775807) :
    Calls Tryz.prog 44 #[.int .i64 a, .int .i64 m] w (RetZ .i64 m (a % m) w) := by
  have e1 := Int.tmod_eq_emod (a := a) (b := m)
  have e3 := Int.emod_nonneg a (show m ≠ 0 by omega)
  have e4 := Int.emod_lt_of_pos a (show 0 < m by omega)
  have H1 := Lib.hid e1
  clear e1
  go_enter Tryz.func44, Tryz.ntmps44
  go_wp2_with fail
  · go_ret
    refine retZ_mod (by omega) ?_
    have h := H1.out
    simp only [wrap64]
    split at h <;> omega
  · go_ret
    refine retZ_mod (by omega) ?_
    have h := H1.out
    split at h <;> omega

theorem plus_any (x y m : Int) (w : World) (hx : 0 ≤ x ∧ x < m) (hy : 0 ≤ y ∧ y < m) (hm : m ≤ 9223372036854775807) :
    Calls Tryz.prog 46 #[.int .u64 x, .int .u64 y, .int .u64 m] w (RetZ .u64 m ((x + y) % m) w) := by
  go_enter Tryz.func46, Tryz.ntmps46
  go_wp2_with fail
  · go_ret
    refine retZ_mod (by omega) ?_
    rw [← Int.sub_emod_right (x + y) m, Int.emod_eq_of_lt (by omega) (by omega)]
  · go_ret
    refine retZ_mod (by omega) ?_
    rw [Int.emod_eq_of_lt (by omega) (by omega)]

theorem and_one (q : Nat) (hq : q < 18446744073709551616) : bits .and .u64 (q : Int) 1 = ((q % 2 : Nat) : Int) := by
  show IntKind.u64.wrap ((BitVec.ofInt 64 (q : Int) &&& BitVec.ofInt 64 1).toNat : Int) = _
  have e1 : (BitVec.ofInt 64 (q : Int)).toNat = q := by
    rw [BitVec.toNat_ofInt]
    show ((q : Int) % 18446744073709551616).toNat = _
    omega
  have e2 : (BitVec.ofInt 64 (1 : Int)).toNat = 1 := rfl
  rw [BitVec.toNat_and, e1, e2, Nat.and_one_is_mod]
  have : q % 2 < 2 := Nat.mod_lt _ (by omega)
  show ((q % 2 : Nat) : Int) % 18446744073709551616 = _
  omega

theorem and_one64 (q : Nat) (hq : q < 9223372036854775808) : bits .and .i64 (q : Int) 1 = ((q % 2 : Nat) : Int) := by
  show IntKind.i64.wrap ((BitVec.ofInt 64 (q : Int) &&& BitVec.ofInt 64 1).toNat : Int) = _
  have e1 : (BitVec.ofInt 64 (q : Int)).toNat = q := by
    rw [BitVec.toNat_ofInt]
    show ((q : Int) % 18446744073709551616).toNat = _
    omega
  have e2 : (BitVec.ofInt 64 (1 : Int)).toNat = 1 := rfl
  rw [BitVec.toNat_and, e1, e2, Nat.and_one_is_mod]
  have : q % 2 < 2 := Nat.mod_lt _ (by omega)
  exact wrap_in (by omega) (by omega)

theorem bitLen_lt (y : Nat) (h : y < 18446744073709551616) : y < 2 ^ Lib.bitLen y ∧ Lib.bitLen y ≤ 64 := by
  by_cases h0 : y = 0
  · subst h0; decide
  · obtain ⟨h1, h2, h3⟩ := Lib.bitLenAux_bounds 64 y h h0
    refine ⟨h3, ?_⟩
    show Lib.bitLenAux 64 y ≤ 64
    by_cases h4 : Lib.bitLenAux 64 y ≤ 64
    · exact h4
    · exfalso
      have : 2 ^ 64 ≤ 2 ^ (Lib.bitLenAux 64 y - 1) := Nat.pow_le_pow_right (by omega) (by omega)
      have e : (2 : Nat) ^ 64 = 18446744073709551616 := by decide
      omega

theorem half_step (y c k : Nat) (h : k < c) : y / 2 ^ (c - 1 - k) = 2 * (y / 2 ^ (c - k)) + y / 2 ^ (c - 1 - k) % 2 := by
  have e : c - k = (c - 1 - k) + 1 := by omega
  rw [e, Nat.pow_succ, ← Nat.div_div_eq_div_mul]
  omega

theorem mul_any (a b m : Int) (w : World) (ha : -9223372036854775808 ≤ a ∧ a ≤ 9223372036854775807) (hb : -9223372036854775808 ≤ b ∧ b ≤ 9223372036854775807) (hm : 1 ≤ m ∧ m ≤ 9223372036854775807) :
    Calls Tryz.prog 17 #[.int .i64 a, .int .i64 b, .int .i64 m] w (RetZ .i64 m (a * b % m) w) := by
  have xb0 := Int.emod_nonneg b (show m ≠ 0 by omega)
  have xb1 := Int.emod_lt_of_pos b (show 0 < m by omega)
  obtain ⟨y, hy⟩ : ∃ y : Nat, b % m = (y : Int) := ⟨(b % m).toNat, by omega⟩
  rw [hy] at xb0 xb1
  have hmul : a * b % m = (a % m) * y % m := by rw [Int.mul_emod, hy]
  rw [hmul]
  have hbl := bitLen_lt y (by omega)
  obtain ⟨c, hc⟩ : ∃ c : Nat, Lib.bitLen y = c := ⟨_, rfl⟩
  rw [hc] at hbl
  have HC := Lib.hid hc
  have HY := Lib.hid hy
  clear hc hy hmul
  have HB := Lib.hid hbl.1
  have hc64 := hbl.2
  clear hbl
  go_enter Tryz.func17, Tryz.ntmps17
  go_wp2_with (first | (go_at_call 44; ((with_reducible refine (residue_any a _ _ (by omega) (by omega)).mono ?_); rintro e w' ⟨x, HX, xa0, xa1, rfl, rfl⟩)) | (go_at_call 44; ((with_reducible refine (residue_any b _ _ (by omega) (by omega)).mono ?_); rintro e w' ⟨y', HY', ya0, ya1, rfl, rfl⟩; obtain rfl : y' = (y : Int) := HY'.out.trans HY.out)) | (go_at_call 45; ((with_reducible refine (Tryz.bits_Len64 _ _ (by omega) (by omega)).mono ?_); rintro e w' ⟨rfl, rfl⟩; rw [Int.toNat_natCast, HC.out])))
  go_loop [10, 28] (fun r i => ∃ k : Nat, k ≤ c ∧ i = .int .i64 (k : Int) ∧ ∃ z : Int, r = .int .u64 z ∧ 0 ≤ z ∧ z < m ∧ Hid (z = x * ((y / 2 ^ (c - k) : Nat) : Int) % m)) (fun _ i => c - (intOf i).toNat)
  case atStart =>
    have hz : y / 2 ^ (c - 0) = 0 := Nat.div_eq_of_lt HB.out
    exact ⟨0, Nat.zero_le _, rfl, 0, rfl, by omega, by omega, by rw [hz]; simp [Hid]⟩
  case round =>
    obtain ⟨k, hk, rfl, z, rfl, hz0, hz1, HZ⟩ := hrel
    by_cases hlt : k < c
    · have hq : y / 2 ^ (c - 1 - k) < 18446744073709551616 := Nat.lt_of_le_of_lt (Nat.div_le_self _ _) (by omega)
      have hst := half_step y c k hlt
      have ck : c - (k + 1) = c - 1 - k := by omega
      have hcast : (y : Int) / 2 ^ (c - 1 - k) = ((y / 2 ^ (c - 1 - k) : Nat) : Int) := by simp
      have hand := and_one _ hq
      rw [← hcast] at hand
      have HS := Lib.hid hst
      have CK := Lib.hid ck
      clear hst ck hq
      have hz2 : (z + z) % m = x * ((2 * (y / 2 ^ (c - k)) : Nat) : Int) % m := by
        rw [HZ.out, ← Int.add_emod, Int.natCast_mul, ← Int.two_mul]
        congr 1
        rw [Int.mul_left_comm]; rfl
      have HZ2 := Lib.hid hz2
      clear hz2
      by_cases hb1 : y / 2 ^ (c - 1 - k) % 2 = 1
      · have hbt : (bits BinOp.and IntKind.u64 ((y : Int) / 2 ^ (c - 1 - k)) 1 == 1) = true := by rw [hand, hb1]; rfl
        have HB1 := Lib.hid hb1
        clear hb1 hand hcast
        go_wp2_with (go_at_call 46; first | ((with_reducible refine (plus_any z z _ _ (by omega) (by omega) (by omega)).mono ?_); rintro e w' ⟨r1, HR1, r10, r11, rfl, rfl⟩) | ((with_reducible refine (plus_any _ x _ _ (by omega) (by omega) (by omega)).mono ?_); rintro e w' ⟨r2, HR2, r20, r21, rfl, rfl⟩))
        refine ⟨⟨k + 1, by omega, by go_num, r2, rfl, r20, r21, ?_⟩, by simp [intOf]; omega⟩
        show _ = _
        rw [HR2.out, HR1.out, HZ2.out, Int.emod_add_emod, CK.out, HS.out, HB1.out, Int.natCast_add, Int.mul_add]
        simp
      · have hb0 : y / 2 ^ (c - 1 - k) % 2 = 0 := by omega
        have hbt : (bits BinOp.and IntKind.u64 ((y : Int) / 2 ^ (c - 1 - k)) 1 == 1) = false := by rw [hand, hb0]; rfl
        have HB1 := Lib.hid hb0
        clear hb1 hb0 hand hcast
        go_wp2_with (go_at_call 46; ((with_reducible refine (plus_any z z _ _ (by omega) (by omega) (by omega)).mono ?_); rintro e w' ⟨r1, HR1, r10, r11, rfl, rfl⟩))
        refine ⟨⟨k + 1, by omega, by go_num, r1, rfl, r10, r11, ?_⟩, by simp [intOf]; omega⟩
        show _ = _
        rw [HR1.out, HZ2.out, CK.out, HS.out, HB1.out, Nat.add_zero]
    · obtain rfl : k = c := by omega
      go_wp2_with fail
      go_ret
      refine retZ_mod (by omega) ?_
      rw [HZ.out, HX.out]
      simp

theorem add_any (a b m : Int) (w : World) (ha : -9223372036854775808 ≤ a ∧ a ≤ 9223372036854775807) (hb : -9223372036854775808 ≤ b ∧ b ≤ 9223372036854775807) (hm : 1 ≤ m ∧ m ≤ 9223372036854775807) :
    Calls Tryz.prog 34 #[.int .i64 a, .int .i64 b, .int .i64 m] w (RetZ .i64 m ((a + b) % m) w) := by
  go_enter Tryz.func34, Tryz.ntmps34
  go_wp2_with (first | (go_at_call 44; ((with_reducible refine (residue_any a _ _ (by omega) (by omega)).mono ?_); rintro e w' ⟨x, HX, xa0, xa1, rfl, rfl⟩)) | (go_at_call 44; ((with_reducible refine (residue_any b _ _ (by omega) (by omega)).mono ?_); rintro e w' ⟨y, HY, ya0, ya1, rfl, rfl⟩)) | (go_at_call 46; ((with_reducible refine (plus_any _ _ _ _ (by omega) (by omega) (by omega)).mono ?_); rintro e w' ⟨r, HR, r0, r1, rfl, rfl⟩)))
  go_ret
  refine retZ_mod (by omega) ?_
  rw [HR.out, HX.out, HY.out, ← Int.add_emod]

theorem pow_emod (a m : Int) : ∀ k : Nat, (a % m) ^ k % m = a ^ k % m
  | 0 => by simp
  | k + 1 => by rw [Int.pow_succ, Int.pow_succ, Int.mul_emod, Int.emod_emod, pow_emod a m k, ← Int.mul_emod]

theorem sq_pow (x : Int) : ∀ h : Nat, (x * x) ^ h = x ^ (2 * h)
  | 0 => by simp
  | h + 1 => by rw [Int.pow_succ, sq_pow x h, show 2 * (h + 1) = 2 * h + 1 + 1 by omega, Int.pow_succ, Int.pow_succ, Int.mul_assoc]

theorem pow_odd (p x m : Int) (j : Nat) (h : j % 2 = 1) : (p * x % m) * (x * x % m) ^ (j / 2) % m = p * x ^ j % m := by
  rw [Int.mul_emod, Int.emod_emod, pow_emod, ← Int.mul_emod, sq_pow, Int.mul_assoc, Int.mul_comm x, ← Int.pow_succ, show (2 * (j / 2)).succ = j by omega]

theorem pow_even (p x m : Int) (j : Nat) (h : j % 2 = 0) : p * (x * x % m) ^ (j / 2) % m = p * x ^ j % m := by
  rw [Int.mul_emod, pow_emod, ← Int.mul_emod, sq_pow, show 2 * (j / 2) = j by omega]

/-- The power modulo m. -/
def powZ (a : Int) (n : Nat) (m : Int) : Int := a ^ n % m

theorem pow1_any (x y m : Int) (g : Nat) (w : World) (hx : -9223372036854775808 ≤ x ∧ x ≤ 9223372036854775807) (hy : -9223372036854775808 ≤ y ∧ y ≤ 9223372036854775807) (hm : 1 ≤ m ∧ m ≤ 9223372036854775807)
    (hg : w.cell? ⟨g, 0, none⟩ = some (.int .i64 m)) :
    Calls Tryz.prog 43 #[.int .i64 x, .int .i64 y, .pointer (some ⟨g, 0, none⟩)] w (RetZ .i64 m (x * y % m) w) := by
  go_enter Tryz.func43, Tryz.ntmps43
  go_wp2_with (go_at_call 17; ((with_reducible refine (mul_any _ _ _ _ (by omega) (by omega) (by omega)).mono ?_); rintro e w' ⟨r, HR, r0, r1, rfl, rfl⟩))
  go_ret
  exact retZ_mod (by omega) HR.out

theorem pow_any (a m : Int) (n : Nat) (w : World) (ha : -9223372036854775808 ≤ a ∧ a ≤ 9223372036854775807) (hn : n ≤ 9223372036854775807) (hm : 1 ≤ m ∧ m ≤ 9223372036854775807) :
    Calls Tryz.prog 16 #[.int .i64 a, .int .i64 (n : Int), .int .i64 m] w (MkZ .i64 m (powZ a n m) w) := by
  go_enter Tryz.func16, Tryz.ntmps16
  go_wp2_with (first | (go_at_call 44; ((with_reducible refine (residue_any _ _ _ (by omega) (by omega)).mono ?_); rintro e w' ⟨x, HX, xa0, xa1, rfl, rfl⟩)))
  go_loop [0, 1, 8] (fun b i r => ∃ (j : Nat) (x p : Int), b = .int .i64 x ∧ i = .int .i64 (j : Int) ∧ r = .int .i64 p ∧ j ≤ 9223372036854775807 ∧ (-9223372036854775808 ≤ x ∧ x ≤ 9223372036854775807) ∧ 0 ≤ p ∧ p < m ∧ Hid (p * x ^ j % m = a ^ n % m)) (fun _ i _ => (intOf i).toNat)
  case atStart => exact ⟨n, a, x, rfl, rfl, rfl, hn, ha, xa0, xa1, by show _ = _; rw [HX.out, Int.mul_emod, Int.emod_emod, ← Int.mul_emod, Int.one_mul]⟩
  case round =>
    obtain ⟨j, x, p, rfl, rfl, rfl, hj, hx, hp0, hp1, HP⟩ := hrel
    by_cases hlt : 0 < j
    · by_cases hb1 : j % 2 = 1
      · have hbt : (bits BinOp.and IntKind.i64 (j : Int) 1 == 1) = true := by rw [and_one64 _ (by omega), hb1]; rfl
        have HB1 := Lib.hid hb1
        clear hb1
        go_wp2_with (go_at_call 43; first | ((with_reducible refine (pow1_any p x m _ _ (by omega) (by omega) (by omega) (by simp)).mono ?_); rintro e w' ⟨r1, HR1, r10, r11, rfl, rfl⟩) | ((with_reducible refine (pow1_any x x m _ _ (by omega) (by omega) (by omega) (by simp)).mono ?_); rintro e w' ⟨r2, HR2, r20, r21, rfl, rfl⟩))
        refine ⟨⟨j / 2, r2, r1, rfl, by go_num, rfl, by omega, by omega, r10, r11, ?_⟩, by simp [intOf]; omega⟩
        show _ = _
        rw [HR2.out, HR1.out, pow_odd p x m j HB1.out, HP.out]
      · have hb0 : j % 2 = 0 := by omega
        have hbt : (bits BinOp.and IntKind.i64 (j : Int) 1 == 1) = false := by rw [and_one64 _ (by omega), hb0]; rfl
        have HB1 := Lib.hid hb0
        clear hb1 hb0
        go_wp2_with (go_at_call 43; ((with_reducible refine (pow1_any x x m _ _ (by omega) (by omega) (by omega) (by simp)).mono ?_); rintro e w' ⟨r2, HR2, r20, r21, rfl, rfl⟩))
        refine ⟨⟨j / 2, r2, p, rfl, by go_num, rfl, by omega, by omega, hp0, hp1, ?_⟩, by simp [intOf]; omega⟩
        show _ = _
        rw [HR2.out, pow_even p x m j HB1.out, HP.out]
    · obtain rfl : j = 0 := by omega
      go_wp2_with fail
      go_ret
      refine ⟨p, ?_, hp0, hp1, rfl, (Upd.refl _ _).alloc _⟩
      have h := HP.out
      rw [Int.pow_zero, Int.mul_one, Int.emod_eq_of_lt hp0 hp1] at h
      exact h
end Go.Proofs.YtkhodajdionaaaaGreatDoor
