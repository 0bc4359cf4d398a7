/- Signatures, plainly: keys, challenges, the equation; a signature verifies, only one S does, a challenge decides. -/
import Derived.Test.YtkhodajdionaaaaGreatDoorGrpS
namespace Go.Proofs.YtkhodajdionaaaaGreatDoor
set_option maxRecDepth 100000

theorem g_member : 4 ^ Qn % Pn = 1 := by
  rw [← pmF_eq Pn 64 4 Qn (by decide +kernel)]
  decide +kernel
theorem pn_pos : 0 < Pn := by decide
theorem pn_one : 1 < Pn := by decide
theorem qn_pos : 0 < Qn := by decide

/-- 4 to the power of n. -/
def gP (n : Nat) : Nat := 4 ^ n % Pn
def memN (a : Nat) : Prop := 1 ≤ a ∧ a < Pn ∧ a ^ Qn % Pn = 1

theorem mem_pow {a : Nat} (h : a ^ Qn % Pn = 1) (n : Nat) : memN (a ^ n % Pn) := by
  have e : (a ^ n % Pn) ^ Qn % Pn = 1 := by
    rw [pow_mod_base, ← Nat.pow_mul, Nat.mul_comm, Nat.pow_mul, Nat.pow_mod, h, Nat.one_pow, Nat.mod_eq_of_lt pn_one]
  refine ⟨?_, Nat.mod_lt _ pn_pos, e⟩
  by_cases h0 : a ^ n % Pn = 0
  · rw [h0, Nat.zero_pow qn_pos, Nat.zero_mod] at e
    omega
  · omega
theorem gP_mem (n : Nat) : memN (gP n) := mem_pow g_member n
theorem gP_lt (n : Nat) : gP n < Pn := (gP_mem n).2.1

theorem powZ_cast (a n : Nat) : powZ (a : Int) n 2305843009213691579 = ((a ^ n % Pn : Nat) : Int) := by
  rw [powZ, Int.natCast_emod, Int.natCast_pow]
  rfl
theorem memB_cast (a : Nat) : memB (a : Int) = true ↔ memN a := by
  have hp := powZ_cast a 1152921504606845789
  unfold memB memN
  rw [hp]
  have e1 : (decide (1 ≤ (a : Int)) = true) ↔ 1 ≤ a := by rw [decide_eq_true_iff]; omega
  have e2 : (decide ((a : Int) < 2305843009213691579) = true) ↔ a < Pn := by rw [decide_eq_true_iff]; unfold Pn; omega
  have e3 : (decide (((a ^ 1152921504606845789 % Pn : Nat) : Int) = 1) = true) ↔ a ^ Qn % Pn = 1 := by
    rw [decide_eq_true_iff]
    show ((a ^ Qn % Pn : Nat) : Int) = 1 ↔ _
    omega
  rw [Bool.and_eq_true, Bool.and_eq_true, e1, e2, e3, and_assoc]
theorem memB_pos {a : Int} (h : memB a = true) : ∃ n : Nat, a = (n : Int) ∧ memN n := by
  by_cases h0 : 0 ≤ a
  · obtain ⟨n, rfl⟩ := Int.eq_ofNat_of_zero_le h0
    exact ⟨n, rfl, (memB_cast n).1 h⟩
  · rw [memB_low (by omega)] at h
    cases h

/-- The challenge of a number, a key and a text. -/
def chalN (r p : Nat) (t : List UInt8) : Nat := scalN ([99] ++ len8 r ++ len8 p ++ t)
/-- 1 in the place of 0. -/
def posN (n : Nat) : Nat := if n = 0 then 1 else n
def keyN (seed : List UInt8) : Nat := posN (scalN ([107] ++ seed))
def nonceN (x : Nat) (t : List UInt8) : Nat := posN (scalN ([110] ++ len8 x ++ t))
/-- The S of a signature with a given n. -/
def sWith (x n : Nat) (t : List UInt8) : Nat := (n + x * chalN (gP n) (gP x) t) % Qn

theorem scalN_lt (s : List UInt8) : scalN s < Qn := Nat.mod_lt _ qn_pos
theorem posN_lt {n : Nat} (h : n < Qn) : posN n < Qn := by
  unfold posN
  split
  · decide
  · exact h
theorem posN_pos (n : Nat) : 0 < posN n := by unfold posN; split <;> omega
theorem keyN_lt (s : List UInt8) : keyN s < Qn := posN_lt (scalN_lt _)
theorem nonceN_lt (x : Nat) (t : List UInt8) : nonceN x t < Qn := posN_lt (scalN_lt _)
theorem sWith_lt (x n : Nat) (t : List UInt8) : sWith x n t < Qn := Nat.mod_lt _ qn_pos
theorem chalN_lt (r p : Nat) (t : List UInt8) : chalN r p t < Qn := scalN_lt _

/-- What Verify says. -/
def verB (p : Int) (t : List UInt8) (r s : Int) : Bool :=
  memB p && memB r && decide (0 ≤ s) && decide (s < 1152921504606845789) && decide (powZ 4 s.toNat 2305843009213691579 = r * powZ p (chalN r.toNat p.toNat t) 2305843009213691579 % 2305843009213691579)

theorem verB_cast (p r s : Nat) (t : List UInt8) : verB (p : Int) t (r : Int) (s : Int) = true ↔ memN p ∧ memN r ∧ s < Qn ∧ gP s = r * p ^ chalN r p t % Pn := by
  unfold verB
  have e3 : (decide (0 ≤ (s : Int)) = true) := by rw [decide_eq_true_iff]; omega
  have e4 : (decide ((s : Int) < 1152921504606845789) = true) ↔ s < Qn := by rw [decide_eq_true_iff]; unfold Qn; omega
  have e5 : (r : Int) * ((p ^ chalN r p t % Pn : Nat) : Int) % 2305843009213691579 = ((r * p ^ chalN r p t % Pn : Nat) : Int) := by
    rw [← Int.natCast_mul]
    show ((r * (p ^ chalN r p t % Pn) : Nat) : Int) % ((Pn : Nat) : Int) = _
    rw [← Int.natCast_emod, Nat.mul_mod_mod]
  have e6 : powZ 4 s 2305843009213691579 = ((gP s : Nat) : Int) := powZ_cast 4 s
  rw [Bool.and_eq_true, Bool.and_eq_true, Bool.and_eq_true, Bool.and_eq_true, e4, memB_cast, memB_cast, Int.toNat_natCast, Int.toNat_natCast, Int.toNat_natCast, powZ_cast, e5, e6]
  constructor
  · rintro ⟨⟨⟨⟨h1, h2⟩, _⟩, h4⟩, h5⟩
    exact ⟨h1, h2, h4, by rw [decide_eq_true_iff] at h5; exact_mod_cast h5⟩
  · rintro ⟨h1, h2, h4, h5⟩
    exact ⟨⟨⟨⟨h1, h2⟩, e3⟩, h4⟩, by rw [decide_eq_true_iff, h5]⟩

/-- Every signature with some n verifies. -/
theorem ver_with (x n : Nat) (t : List UInt8) : verB (gP x : Int) t (gP n : Int) (sWith x n t : Int) = true := by
  rw [verB_cast]
  refine ⟨gP_mem x, gP_mem n, sWith_lt x n t, ?_⟩
  unfold sWith
  generalize chalN (gP n) (gP x) t = c
  unfold gP
  rw [← pow_red g_member, Nat.mod_mul_mod, Nat.mul_mod, pow_mod_base, ← Nat.pow_mul, ← Nat.mul_mod, ← Nat.pow_add]

/-- At most one S verifies. -/
theorem ver_one {p r s s' : Nat} {t : List UInt8} (h : verB (p : Int) t (r : Int) (s : Int) = true) (h' : verB (p : Int) t (r : Int) (s' : Int) = true) : s = s' := by
  rw [verB_cast] at h h'
  refine pow_inj g_member (by decide) h.2.2.1 h'.2.2.1 ?_
  exact h.2.2.2.trans h'.2.2.2.symm

/-- If a signature verifies for two texts, the challenges are the same, or the key is 1. -/
theorem ver_two {p r s : Nat} {t u : List UInt8} (h : verB (p : Int) t (r : Int) (s : Int) = true) (h' : verB (p : Int) u (r : Int) (s : Int) = true) : chalN r p t = chalN r p u ∨ p = 1 := by
  rw [verB_cast] at h h'
  obtain ⟨⟨p1, p2, p3⟩, ⟨r1, r2, r3⟩, _, e1⟩ := h
  obtain ⟨_, _, _, e2⟩ := h'
  by_cases hp : p = 1
  · exact .inr hp
  · left
    refine pow_inj p3 (by rw [Nat.mod_eq_of_lt p2]; exact hp) (chalN_lt _ _ _) (chalN_lt _ _ _) ?_
    exact cancel (no_dvd r3) (e1.symm.trans e2)

/-- With the same challenge, one text is as the other. -/
theorem ver_same {p r s : Nat} {t u : List UInt8} (h : chalN r p t = chalN r p u) : verB (p : Int) t (r : Int) (s : Int) = verB (p : Int) u (r : Int) (s : Int) := by
  rw [Bool.eq_iff_iff, verB_cast, verB_cast, h]
end Go.Proofs.YtkhodajdionaaaaGreatDoor
