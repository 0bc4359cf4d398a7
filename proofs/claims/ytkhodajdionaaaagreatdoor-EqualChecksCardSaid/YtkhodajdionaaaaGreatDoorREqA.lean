/- sortesref06: decimal, joined, Challenge, power, side; sortesref04.Member. -/
import Derived.Test.YtkhodajdionaaaaGreatDoorBigF
import Derived.Test.YtkhodajdionaaaaGreatDoorEqB
import Derived.Test.YtkhodajdionaaaaGreatDoorRSgnA
namespace Go.Proofs.YtkhodajdionaaaaGreatDoor
open Go.RowKit
set_option maxRecDepth 100000

theorem dec_short (u : Nat) (h : u ≤ 9223372036854775808) : (Lib.decDigits u).length ≤ 1000000000 := Nat.le_trans (dec_le19 h) (by omega)
theorem be_short (u : Nat) (h : u < 9223372036854775808) : (be u).length ≤ 8 := be_len_le 8 u (Nat.lt_trans h (by decide))
/-- The text of a number. -/
theorem text_of (u : Nat) (w : World) (a : ByteArray) (ha : bs a = be u) (h : u < 9223372036854775808) : Calls Tryz.prog 86 #[.string a] w (MkS (Lib.decDigits u) w) :=
  text_big a u w (by rw [ha, natB_be]) (by rw [size_of_be ha]; exact Nat.le_trans (be_short u h) (by omega)) (dec_short u (by omega))

theorem tdiv_low {n : Int} (h : n ≤ 0) : n.tdiv 10 = -((n.natAbs / 10 : Nat) : Int) ∧ n.tmod 10 = -((n.natAbs % 10 : Nat) : Int) := by
  obtain ⟨u, hu⟩ : ∃ u : Nat, n = -(u : Int) := ⟨n.natAbs, by omega⟩
  subst hu
  have e : (-(u : Int)).natAbs = u := by omega
  rw [Int.neg_tdiv, Int.neg_tmod, Int.tdiv_eq_ediv_of_nonneg (by omega), Int.tmod_eq_emod_of_nonneg (by omega), e]
  omega
theorem itoa_step {n : Int} (h : n ≤ -10) : Lib.itoa n = Lib.itoa (n.tdiv 10) ++ Lib.decDigits (n.natAbs % 10) := by
  have h1 : n.tdiv 10 < 0 := by rw [(tdiv_low (by omega)).1]; omega
  have h2 : (n.tdiv 10).natAbs = n.natAbs / 10 := by rw [Int.natAbs_tdiv]; rfl
  unfold Lib.itoa
  rw [if_pos (by omega), if_pos h1, h2, Lib.decDigits, dif_neg (by omega), Lib.decDigits_one (Nat.mod_lt _ (by omega))]
  rfl
theorem itoa_of_neg {n : Int} (h : n < 0) : Lib.itoa n = [45] ++ Lib.decDigits n.natAbs := by
  unfold Lib.itoa
  rw [if_pos h]
  rfl
theorem itoa_of_nat (u : Nat) : Lib.itoa (u : Int) = Lib.decDigits u := by
  unfold Lib.itoa
  rw [if_neg (by omega), Int.toNat_natCast]

set_option maxHeartbeats 1000000 in
theorem decimal6_aux : ∀ (k : Nat) (n : Int) (w : World), n.natAbs ≤ k → i64in n → Calls Tryz.prog 73 #[.int .i64 n] w (MkS (Lib.itoa n) w) := by
  intro k
  induction k with
  | zero =>
    intro n w hk hn
    obtain rfl : n = 0 := by omega
    go_enter Tryz.func73, Tryz.ntmps73
    go_wp2_with fail
    refine (of_int 0 w (by omega)).mono ?_
    rintro e w1 ⟨a, HA, rfl, hu1⟩
    go_wp2_with fail
    refine (text_of 0 w1 a HA.out (by omega)).mono ?_
    rintro e w2 ⟨y, HY, hy, rfl, hu2⟩
    go_wp2_with fail
    go_ret
    exact ⟨y, HY.out, hy, rfl, hu1.trans hu2⟩
  | succ k ih =>
    intro n w hk hn
    have HIH := Lib.hid ih
    clear ih
    have hn1 := hn.1
    have hn2 := hn.2
    by_cases h0 : 0 ≤ n
    · obtain ⟨u, rfl⟩ := Int.eq_ofNat_of_zero_le h0
      go_enter Tryz.func73, Tryz.ntmps73
      go_wp2_with fail
      refine (of_int u w (by omega)).mono ?_
      rintro e w1 ⟨a, HA, rfl, hu1⟩
      go_wp2_with fail
      refine (text_of u w1 a HA.out (by omega)).mono ?_
      rintro e w2 ⟨y, HY, hy, rfl, hu2⟩
      go_wp2_with fail
      go_ret
      refine ⟨y, ?_, ?_, rfl, hu1.trans hu2⟩
      · show _ = _
        rw [HY.out]; exact (itoa_of_nat u).symm
      · have := itoa_of_nat u
        show _ ≤ (Lib.itoa (u : Int)).length
        rw [this]; exact hy
    · by_cases h9 : -10 < n
      · obtain ⟨u, hu⟩ : ∃ u : Nat, -n = (u : Int) := ⟨n.natAbs, by omega⟩
        have hu2 : u < 10 := by omega
        have hit : Lib.itoa n = [45] ++ Lib.decDigits u := by
          have : n.natAbs = u := by omega
          rw [itoa_of_neg (by omega), this]
        have HIT := Lib.hid hit
        have hlt : n < 0 := by omega
        clear hit h0
        go_enter Tryz.func73, Tryz.ntmps73
        go_wp2_with fail
        refine (of_int u w (by omega)).mono ?_
        rintro e w1 ⟨a, HA, rfl, hu1⟩
        go_wp2_with fail
        refine (text_of u w1 a HA.out (by omega)).mono ?_
        rintro e w2 ⟨y, HY, hy, rfl, hu2⟩
        have hdl : (Lib.decDigits u).length ≤ 1000000000 := dec_short u (by omega)
        have hy2 : y.size ≤ 1000000000 := by omega
        have h45 : (ByteArray.mk #[45]).size = 1 := rfl
        clear hdl
        go_wp2_with fail
        go_ret
        refine ⟨_, ?_, ?_, rfl, hu1.trans hu2⟩
        · show _ = _
          rw [bs_append, HY.out, HIT.out]; rfl
        · rw [HIT.out, List.length_append, ByteArray.size_append]
          have : (ByteArray.mk #[45]).size = 1 := rfl
          rw [this]
          simp only [List.length_singleton]
          omega
      · have hst := itoa_step (n := n) (by omega)
        have htl := tdiv_low (n := n) (by omega)
        obtain ⟨m, hm⟩ : ∃ m : Int, n.tdiv 10 = m := ⟨_, rfl⟩
        obtain ⟨u, huu⟩ : ∃ u : Nat, n.natAbs % 10 = u := ⟨_, rfl⟩
        have hu : -(n.tmod 10) = (u : Int) := by rw [htl.2, huu]; omega
        have hu2 : u < 10 := by omega
        rw [hm, huu] at hst
        have hm3 : m = -((n.natAbs / 10 : Nat) : Int) := by rw [← hm]; exact htl.1
        have hmi : i64in m := by unfold i64in; omega
        have hmk : m.natAbs ≤ k := by omega
        have hm1 : -9223372036854775808 ≤ m := hmi.1
        have hm2 : m ≤ 9223372036854775807 := hmi.2
        clear htl hm3
        have HST := Lib.hid hst
        have hlt : n < 0 := by omega
        have h9' : n ≤ -10 := by omega
        have HUU := Lib.hid huu
        have hml := itoa_len m hmi
        clear hst h0 h9 huu
        go_enter Tryz.func73, Tryz.ntmps73
        go_wp2_with fail
        refine (HIH.out m w hmk hmi).mono ?_
        rintro e w0 ⟨x, HXX, hx, rfl, hu0⟩
        go_wp2_with fail
        refine (of_int u w0 (by omega)).mono ?_
        rintro e w1 ⟨a, HA, rfl, hu1⟩
        go_wp2_with fail
        refine (text_of u w1 a HA.out (by omega)).mono ?_
        rintro e w2 ⟨y, HY, hy, rfl, hu2⟩
        have hdl : (Lib.decDigits u).length ≤ 1000000000 := dec_short u (by omega)
        have hy2 : y.size ≤ 1000000000 := by omega
        have hx2 : x.size ≤ 20 := by omega
        clear hdl
        go_wp2_with fail
        go_ret
        refine ⟨_, ?_, ?_, rfl, hu0.trans (hu1.trans hu2)⟩
        · show _ = _
          rw [bs_append, HY.out, HXX.out, HST.out]
        · rw [HST.out, List.length_append, ByteArray.size_append]
          omega
theorem decimal6_any (n : Int) (w : World) (hn : i64in n) : Calls Tryz.prog 73 #[.int .i64 n] w (MkS (Lib.itoa n) w) := decimal6_aux _ n w (Nat.le_refl _) hn
end Go.Proofs.YtkhodajdionaaaaGreatDoor
