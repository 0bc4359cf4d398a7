/- More on numerals, plainly: digits one by one, the value of digits, when a text is a numeral. -/
import Derived.Test.YtkhodajdionaaaaGreatDoorDec
import Derived.RowKit
namespace Go.Proofs.YtkhodajdionaaaaGreatDoor
set_option maxRecDepth 100000
open Go Go.RowKit

/-- The digits of v; none for 0. -/
def digs (v : Nat) : List UInt8 := if v = 0 then [] else Lib.decDigits v
theorem digs_step (v : Nat) (h : 0 < v) : digs v = digs (v / 10) ++ [UInt8.ofNat (48 + v % 10)] := by
  unfold digs
  rw [if_neg (by omega), Lib.decDigits]
  by_cases hv : v < 10
  · rw [dif_pos hv, if_pos (by omega), show v % 10 = v by omega]; rfl
  · rw [dif_neg hv, if_neg (by omega)]
theorem digs_pos {v : Nat} (h : 0 < v) : digs v = Lib.decDigits v := by unfold digs; rw [if_neg (by omega)]
theorem digs_zero : digs 0 = [] := rfl
theorem digs_len {v : Nat} (h : v ≤ 9223372036854775808) : (digs v).length ≤ 19 := by
  unfold digs
  split
  · simp
  · have e : (10 : Nat) ^ 19 = 10000000000000000000 := by decide
    have := dec_len 18 v (by rw [e]; omega)
    omega
theorem itoa_zero : Lib.itoa 0 = [48] := by
  show Lib.decDigits 0 = _
  rw [Lib.decDigits_one (by omega)]
  rfl
theorem itoa_pos {n : Int} (h : 0 < n) : Lib.itoa n = digs n.natAbs := by
  unfold Lib.itoa
  rw [if_neg (by omega), digs_pos (by omega), show n.toNat = n.natAbs by omega]
theorem itoa_neg {n : Int} (h : n < 0) : Lib.itoa n = 45 :: digs n.natAbs := by
  unfold Lib.itoa
  rw [if_pos h, digs_pos (by omega)]

/-- The number that digits spell. -/
def valD : List UInt8 → Nat
  | l => l.foldl (fun a c => a * 10 + (c.toNat - 48)) 0
theorem valD_snoc (l : List UInt8) (c : UInt8) : valD (l ++ [c]) = valD l * 10 + (c.toNat - 48) := by simp [valD]
theorem valD_dec : ∀ u : Nat, valD (Lib.decDigits u) = u := by
  intro u
  induction u using Nat.strongRecOn with
  | ind u ih =>
    rw [Lib.decDigits]
    by_cases h : u < 10
    · rw [dif_pos h]
      show 0 * 10 + ((UInt8.ofNat (48 + u)).toNat - 48) = u
      rw [digit_toNat h]; omega
    · rw [dif_neg h, valD_snoc, ih (u / 10) (by omega), digit_toNat (by omega)]
      omega

/-- The text is the numeral of an int. -/
def isNum (l : List UInt8) : Prop := ∃ m : Int, i64in m ∧ l = Lib.itoa m

theorem dec_head {u : Nat} {c : UInt8} {r : List UInt8} (h : Lib.decDigits u = c :: r) : c.toNat ≠ 45 := by
  have := dec_digits u c (by rw [h]; simp)
  omega

/-- A numeral behind a minus. -/
theorem num_minus {D : List UInt8} {m : Int} (hm : i64in m) (h : 45 :: D = Lib.itoa m) : m < 0 ∧ D = Lib.decDigits m.natAbs ∧ m.natAbs ≤ 9223372036854775808 := by
  unfold i64in at hm
  unfold Lib.itoa at h
  by_cases hn : m < 0
  · rw [if_pos hn] at h
    injection h with _ h
    exact ⟨hn, h, by omega⟩
  · rw [if_neg hn] at h
    have := dec_head h.symm
    exact absurd rfl this
/-- A numeral without one. -/
theorem num_plain {D : List UInt8} {m : Int} (hm : i64in m) (h0 : ∀ r, D ≠ 45 :: r) (h : D = Lib.itoa m) : 0 ≤ m ∧ D = Lib.decDigits m.natAbs ∧ m.natAbs ≤ 9223372036854775808 := by
  unfold i64in at hm
  unfold Lib.itoa at h
  by_cases hn : m < 0
  · rw [if_pos hn] at h
    exact absurd h (h0 _)
  · rw [if_neg hn] at h
    exact ⟨by omega, by rw [h, show m.toNat = m.natAbs by omega], by omega⟩

theorem dec_le19 {u : Nat} (h : u ≤ 9223372036854775808) : (Lib.decDigits u).length ≤ 19 := by
  have e : (10 : Nat) ^ 19 = 10000000000000000000 := by decide
  exact dec_len 18 u (by rw [e]; omega)

/-- What a text is read as: the number, and whether it is the numeral of it. -/
def numOk (l : List UInt8) (n : Int) (ok : Bool) : Prop := i64in n ∧ (ok = true → l = Lib.itoa n) ∧ (ok = false → ¬ isNum l)
theorem numOk_bad {l : List UInt8} (h : ¬ isNum l) : numOk l 0 false := ⟨⟨by omega, by omega⟩, (fun h => by cases h), fun _ => h⟩

theorem wrap_step (v d : Nat) : wrap64 (10 * wrap64 (-(v : Int)) - (d : Int)) = wrap64 (-((v * 10 + d : Nat) : Int)) := by
  simp only [wrap64]
  omega
theorem wrap_flip (v : Nat) : wrap64 (-wrap64 (-(v : Int))) = wrap64 (v : Int) := by
  simp only [wrap64]
  omega
theorem wrap_bounds (x : Int) : i64in (wrap64 x) := by
  unfold i64in
  simp only [wrap64]
  omega
theorem wrap_of {x : Int} (h : i64in x) : wrap64 x = x := by
  unfold i64in at h
  simp only [wrap64]
  omega
end Go.Proofs.YtkhodajdionaaaaGreatDoor
