/- Decimal numerals, plainly: what Itoa writes Atoi reads; a pair of numbers as a text, and read again. -/
import Derived.Lib.ItoaNum
import Derived.Lib.AtoiAllCases
import Derived.Lib.IndexMore
import Derived.Lib.IndexLaws
namespace Go.Proofs.YtkhodajdionaaaaGreatDoor
set_option maxRecDepth 100000
open Go

theorem parse_snoc (c : UInt8) (d : Nat) (hc : c.toNat = 48 + d) (hd : d < 10) : ∀ (l : List UInt8) (acc v : Nat), Lib.parseUint10 acc l = .ok v → v < 1844674407370955162 → v * 10 + d < 18446744073709551616 → Lib.parseUint10 acc (l ++ [c]) = .ok (v * 10 + d)
  | [], acc, v, h, h1, h2 => by
    simp only [Lib.parseUint10] at h
    injection h with h
    subst h
    simp only [List.nil_append, Lib.parseUint10]
    rw [if_pos (by omega), if_neg (by omega), if_neg (by omega), show c.toNat - 48 = d by omega]
  | x :: r, acc, v, h, h1, h2 => by
    simp only [List.cons_append, Lib.parseUint10] at h ⊢
    split at h
    · rename_i hx
      rw [if_pos hx]
      split at h
      · cases h
      · rename_i hy
        rw [if_neg hy]
        split at h
        · cases h
        · rename_i hz
          rw [if_neg hz]
          exact parse_snoc c d hc hd r _ v h h1 h2
    · cases h

theorem digit_toNat {d : Nat} (h : d < 10) : (UInt8.ofNat (48 + d)).toNat = 48 + d := by
  rw [UInt8.toNat_ofNat']; omega

theorem parse_dec : ∀ u : Nat, u < 18446744073709551616 → Lib.parseUint10 0 (Lib.decDigits u) = .ok u := by
  intro u
  induction u using Nat.strongRecOn with
  | ind u ih =>
    intro hu
    rw [Lib.decDigits]
    by_cases h : u < 10
    · rw [dif_pos h]
      simp only [Lib.parseUint10]
      rw [digit_toNat h, if_pos (by omega), if_neg (by omega), if_neg (by omega)]
      congr 1
      omega
    · rw [dif_neg h]
      have := parse_snoc _ (u % 10) (digit_toNat (by omega)) (by omega) (Lib.decDigits (u / 10)) 0 (u / 10) (ih (u / 10) (by omega) (by omega)) (by omega) (by omega)
      rw [this]
      congr 1
      omega

theorem dec_digits : ∀ (u : Nat), ∀ c ∈ Lib.decDigits u, 48 ≤ c.toNat ∧ c.toNat ≤ 57 := by
  intro u
  induction u using Nat.strongRecOn with
  | ind u ih =>
    intro c hc
    rw [Lib.decDigits] at hc
    by_cases h : u < 10
    · rw [dif_pos h] at hc
      simp only [List.mem_singleton] at hc
      subst hc
      rw [digit_toNat h]; omega
    · rw [dif_neg h] at hc
      simp only [List.mem_append, List.mem_singleton] at hc
      rcases hc with hc | hc
      · exact ih (u / 10) (by omega) c hc
      · subst hc
        rw [digit_toNat (by omega)]; omega

theorem dec_ne (u : Nat) : Lib.decDigits u ≠ [] := by
  rw [Lib.decDigits]
  split <;> simp

def i64in (n : Int) : Prop := -9223372036854775808 ≤ n ∧ n ≤ 9223372036854775807

theorem atoi_itoa (n : Int) (h : i64in n) : Lib.atoiAll (Lib.itoa n) = .ok n := by
  unfold i64in at h
  unfold Lib.itoa
  split
  · rename_i hn
    rw [Lib.atoiAll_minus, Lib.parseMag, if_neg (dec_ne _), parse_dec _ (by omega), Lib.signed, if_neg (by omega)]
    congr 1
    omega
  · rename_i hn
    obtain ⟨c, r, hcr⟩ : ∃ c r, Lib.decDigits n.toNat = c :: r := by
      cases hd : Lib.decDigits n.toNat with
      | nil => exact absurd hd (dec_ne _)
      | cons c r => exact ⟨c, r, rfl⟩
    have hc := dec_digits n.toNat c (by rw [hcr]; simp)
    rw [hcr, Lib.atoiAll_plain c r (by omega) (by omega), ← hcr, Lib.parseMag, if_neg (dec_ne _), parse_dec _ (by omega), Lib.signless, if_neg (by omega)]
    congr 1
    omega

theorem itoa_inj {a b : Int} (ha : i64in a) (hb : i64in b) (h : Lib.itoa a = Lib.itoa b) : a = b := by
  have h1 := atoi_itoa a ha
  rw [h, atoi_itoa b hb] at h1
  injection h1 with h1
  exact h1.symm

theorem itoa_no46 (n : Int) : (46 : UInt8) ∉ Lib.itoa n := by
  intro h
  unfold Lib.itoa at h
  split at h
  · simp only [List.mem_cons] at h
    rcases h with h | h
    · cases h
    · have := dec_digits _ _ h
      have e : (46 : UInt8).toNat = 46 := rfl
      omega
  · have := dec_digits _ _ h
    have e : (46 : UInt8).toNat = 46 := rfl
    omega

theorem itoa_ne (n : Int) : Lib.itoa n ≠ [] := by
  unfold Lib.itoa
  split
  · simp
  · exact dec_ne _

theorem dec_len : ∀ (k u : Nat), u < 10 ^ (k + 1) → (Lib.decDigits u).length ≤ k + 1
  | 0, u, h => by
    rw [Lib.decDigits, dif_pos (by simpa using h)]; simp
  | k + 1, u, h => by
    rw [Lib.decDigits]
    split
    · simp
    · have := dec_len k (u / 10) (by rw [Nat.pow_succ] at h; omega)
      simp; omega

theorem itoa_len (n : Int) (h : i64in n) : (Lib.itoa n).length ≤ 20 := by
  unfold i64in at h
  unfold Lib.itoa
  have e : (10 : Nat) ^ 19 = 10000000000000000000 := by decide
  split
  · have := dec_len 18 n.natAbs (by rw [e]; omega)
    simp; omega
  · have := dec_len 18 n.toNat (by rw [e]; omega)
    omega

theorem index_hit1 (c : UInt8) : ∀ (a b : List UInt8), c ∉ a → Lib.index (a ++ c :: b) [c] = (a.length : Int)
  | [], b, _ => by simp [Lib.index]
  | x :: a, b, h => by
    have hx : c ≠ x := fun e => h (by simp [e])
    have ih := index_hit1 c a b (fun e => h (by simp [e]))
    simp only [List.cons_append, Lib.index]
    rw [ih]
    have h1 : ([c] : List UInt8).isPrefixOf (x :: (a ++ c :: b)) = false := by simp [List.isPrefixOf, hx]
    have h2 : ((a.length : Int) == -1) = false := by rw [beq_eq_false_iff_ne]; omega
    rw [h1, h2]
    simp
theorem index_miss1 (c : UInt8) : ∀ (a : List UInt8), c ∉ a → Lib.index a [c] = -1
  | [], _ => rfl
  | x :: a, h => by
    have hx : c ≠ x := fun e => h (by simp [e])
    have ih := index_miss1 c a (fun e => h (by simp [e]))
    simp only [Lib.index]
    rw [ih]
    have h1 : ([c] : List UInt8).isPrefixOf (x :: a) = false := by simp [List.isPrefixOf, hx]
    rw [h1]
    simp

theorem cut_hit (c : UInt8) (a b : List UInt8) (h : c ∉ a) : Lib.cut (a ++ c :: b) [c] = (a, b, true) := by
  unfold Lib.cut
  rw [index_hit1 c a b h, if_pos (by omega), Int.toNat_natCast]
  have h1 : (a ++ c :: b).take a.length = a := List.take_left
  have h2 : (a ++ c :: b).drop (a.length + [c].length) = b := by
    rw [show a ++ c :: b = (a ++ [c]) ++ b by simp, show a.length + [c].length = (a ++ [c]).length by simp]
    exact List.drop_left
  rw [h1, h2]
theorem cut_miss (c : UInt8) (a : List UInt8) (h : c ∉ a) : Lib.cut a [c] = (a, [], false) := by
  unfold Lib.cut
  rw [index_miss1 c a h, if_neg (by omega)]

/-- Two numbers with a point between them. -/
def pairL (a b : Int) : List UInt8 := Lib.itoa a ++ [46] ++ Lib.itoa b
theorem pairL_len {a b : Int} (ha : i64in a) (hb : i64in b) : (pairL a b).length ≤ 41 := by
  have := itoa_len a ha
  have := itoa_len b hb
  simp [pairL]; omega
theorem pairL_cut (a b : Int) : Lib.cut (pairL a b) [46] = (Lib.itoa a, Lib.itoa b, true) := by
  have : pairL a b = Lib.itoa a ++ 46 :: Lib.itoa b := by simp [pairL]
  rw [this, cut_hit 46 _ _ (itoa_no46 a)]
theorem pairL_inj {a b c d : Int} (ha : i64in a) (hb : i64in b) (hc : i64in c) (hd : i64in d) (h : pairL a b = pairL c d) : a = c ∧ b = d := by
  have h1 := pairL_cut a b
  rw [h, pairL_cut c d] at h1
  simp only [Prod.mk.injEq, and_true] at h1
  exact ⟨itoa_inj ha hc h1.1.symm, itoa_inj hb hd h1.2.symm⟩

/-- How a text of two numbers is read. -/
def readL (l : List UInt8) : Option (Int × Int) :=
  match Lib.atoiAll (Lib.cut l [46]).1, Lib.atoiAll (Lib.cut l [46]).2.1 with
  | .ok a, .ok b => if pairL a b = l then some (a, b) else none
  | _, _ => none

theorem readL_pair {a b : Int} (ha : i64in a) (hb : i64in b) : readL (pairL a b) = some (a, b) := by
  unfold readL
  rw [pairL_cut, atoi_itoa a ha, atoi_itoa b hb]
  simp
theorem readL_some {l : List UInt8} {a b : Int} (h : readL l = some (a, b)) : i64in a ∧ i64in b ∧ l = pairL a b := by
  unfold readL at h
  split at h
  · rename_i x y hx hy
    split at h
    · rename_i he
      simp only [Option.some.injEq, Prod.mk.injEq] at h
      obtain ⟨rfl, rfl⟩ := h
      exact ⟨Lib.atoiAll_bounds hx, Lib.atoiAll_bounds hy, he.symm⟩
    · cases h
  · cases h
theorem readL_iff (l : List UInt8) (a b : Int) : readL l = some (a, b) ↔ i64in a ∧ i64in b ∧ l = pairL a b :=
  ⟨readL_some, fun ⟨h1, h2, h3⟩ => by rw [h3]; exact readL_pair h1 h2⟩

/-- The same as three results. -/
def readV (l : List UInt8) : Int × Int × Bool := match readL l with | some (a, b) => (a, b, true) | none => (0, 0, false)
end Go.Proofs.YtkhodajdionaaaaGreatDoor
