/- Numbers modulo a prime: Fermat, Pocklington, orders. Plain: no program in sight. group.residue, group.plus, group.Mul, group.Add. group.Member. group.number, group.Scalar: the scalar of a text by SHA-256. Signatures, plainly: keys, challenges, the equation; a signature verifies, only one S does, a challenge decides. sign.bytes, positive, power, scalar, challenge, Key. sign.Key, sign.Sign, sign.Verify. Decimal numerals, plainly: what Itoa writes Atoi reads; a pair of numbers as a text, and read again. strconv.Itoa and Atoi in this text's forms; sign.Text, sign.Read. What a row's listed variables give the walks; a world for the witnesses. Small things that the rows share. Values of plain types (numbers, texts, truth values, arrays and structs of them), opened cell by cell. Slices of rows of plain cells, opened. -/
import Derived.Lib.Hide
import Derived.Test.YtinpenoeohejoaaGreatDoorRows
import Derived.Test.YtinpenoeohejoaaGreatDoorGA
import Derived.Test.YtinpenoeohejoaaGreatDoorShelfC
import Derived.Laws.BitsAllLaws
import Derived.Lib.ItoaNum
import Derived.Lib.AtoiAllCases
import Derived.Lib.IndexMore
import Derived.Lib.IndexLaws
import Derived.Test.YtinpenoeohejoaaGreatDoorCards
import Derived.Test.YtinpenoeohejoaaGreatDoorTie
import Derived.ProofKit
import Derived.OpenShut
import Derived.ShutString
import Derived.ChangeOld
import Derived.Lib.SmallJoins
import Derived.Deep.Slices
import Derived.Deep.DeepHandedRow
import Derived.Deep.DeepWitnessRowRef
import Derived.Lib.LaidTab
import Derived.Stop.LaidErr
import Derived.LaidMore
import Derived.HandedShaped
namespace Go.Proofs.YtinpenoeohejoaaGreatDoor

def Pr (p : Nat) : Prop := 2 ≤ p ∧ ∀ d, d ∣ p → d = 1 ∨ d = p

theorem Pr.cop {p a : Nat} (h : Pr p) (ha : ¬ p ∣ a) : Nat.Coprime p a := by
  rcases h.2 _ (Nat.gcd_dvd_left p a) with e | e
  · exact e
  · exact absurd (e ▸ Nat.gcd_dvd_right p a) ha
theorem Pr.mul {p a b : Nat} (h : Pr p) (hd : p ∣ a * b) : p ∣ a ∨ p ∣ b := by
  by_cases ha : p ∣ a
  · exact .inl ha
  · exact .inr ((h.cop ha).dvd_of_dvd_mul_left hd)

/-! ### Fermat -/
def chooseN : Nat → Nat → Nat
  | _, 0 => 1
  | 0, _ + 1 => 0
  | n + 1, k + 1 => chooseN n k + chooseN n (k + 1)
theorem choose_zero (n : Nat) : chooseN n 0 = 1 := by cases n <;> rfl
theorem choose_big (n : Nat) : ∀ k, n < k → chooseN n k = 0 := by
  induction n with
  | zero => intro k h; cases k with
    | zero => omega
    | succ k => rfl
  | succ n ih => intro k h; cases k with
    | zero => omega
    | succ k => simp only [chooseN]; rw [ih k (by omega), ih (k + 1) (by omega)]
theorem choose_self (n : Nat) : chooseN n n = 1 := by
  induction n with
  | zero => rfl
  | succ n ih => simp only [chooseN]; rw [ih, choose_big n (n + 1) (by omega)]
theorem choose_mul (n : Nat) : ∀ k, (k + 1) * chooseN (n + 1) (k + 1) = (n + 1) * chooseN n k := by
  induction n with
  | zero => intro k; cases k with
    | zero => rfl
    | succ k => simp [chooseN]
  | succ n ih =>
    intro k
    cases k with
    | zero =>
      have h := ih 0
      simp only [chooseN, choose_zero, Nat.zero_add, Nat.one_mul, Nat.mul_one] at h ⊢
      omega
    | succ k =>
      have h1 := ih k
      have h2 := ih (k + 1)
      have e1 : chooseN (n + 1 + 1) (k + 1 + 1) = chooseN (n + 1) (k + 1) + chooseN (n + 1) (k + 1 + 1) := rfl
      have e2 : chooseN (n + 1) (k + 1) = chooseN n k + chooseN n (k + 1) := rfl
      calc (k + 1 + 1) * chooseN (n + 1 + 1) (k + 1 + 1) = (k + 1) * chooseN (n + 1) (k + 1) + chooseN (n + 1) (k + 1) + (k + 1 + 1) * chooseN (n + 1) (k + 1 + 1) := by rw [e1, Nat.mul_add, Nat.add_mul (k + 1) 1 (chooseN (n + 1) (k + 1)), Nat.one_mul]
        _ = (n + 1) * chooseN n k + chooseN (n + 1) (k + 1) + (n + 1) * chooseN n (k + 1) := by rw [h1, h2]
        _ = (n + 1 + 1) * chooseN (n + 1) (k + 1) := by rw [Nat.add_mul (n + 1) 1, Nat.one_mul, e2, Nat.mul_add]; omega

def sumTo (f : Nat → Nat) : Nat → Nat
  | 0 => 0
  | n + 1 => sumTo f n + f n

theorem sum_step (n a : Nat) : ∀ m, sumTo (fun k => chooseN (n + 1) k * a ^ k) (m + 1) = sumTo (fun k => chooseN n k * a ^ k) (m + 1) + a * sumTo (fun k => chooseN n k * a ^ k) m
  | 0 => by simp [sumTo, choose_zero]
  | m + 1 => by
    have ih := sum_step n a m
    have e : sumTo (fun k => chooseN (n + 1) k * a ^ k) (m + 1 + 1) = sumTo (fun k => chooseN (n + 1) k * a ^ k) (m + 1) + chooseN (n + 1) (m + 1) * a ^ (m + 1) := rfl
    have e2 : sumTo (fun k => chooseN n k * a ^ k) (m + 1 + 1) = sumTo (fun k => chooseN n k * a ^ k) (m + 1) + chooseN n (m + 1) * a ^ (m + 1) := rfl
    have e3 : sumTo (fun k => chooseN n k * a ^ k) (m + 1) = sumTo (fun k => chooseN n k * a ^ k) m + chooseN n m * a ^ m := rfl
    have e4 : chooseN (n + 1) (m + 1) = chooseN n m + chooseN n (m + 1) := rfl
    have e5 : a * (chooseN n m * a ^ m) = chooseN n m * a ^ (m + 1) := by rw [Nat.pow_succ]; rw [← Nat.mul_assoc, Nat.mul_comm a, Nat.mul_assoc, Nat.mul_comm a]
    rw [e, ih, e2, e4, Nat.add_mul]
    conv => rhs; rw [e3, Nat.mul_add, e5]
    rw [e3]
    omega

theorem binomial (a : Nat) : ∀ n, (a + 1) ^ n = sumTo (fun k => chooseN n k * a ^ k) (n + 1)
  | 0 => by simp [sumTo, chooseN]
  | n + 1 => by
    rw [sum_step n a (n + 1)]
    have e : sumTo (fun k => chooseN n k * a ^ k) (n + 1 + 1) = sumTo (fun k => chooseN n k * a ^ k) (n + 1) + chooseN n (n + 1) * a ^ (n + 1) := rfl
    rw [e, choose_big n (n + 1) (by omega), Nat.zero_mul, ← binomial a n, Nat.pow_succ, Nat.mul_add, Nat.mul_one, Nat.mul_comm a ((a + 1) ^ n)]
    omega

theorem sum_mod (p : Nat) (f : Nat → Nat) : ∀ m, (∀ k, 0 < k → k < m + 1 → p ∣ f k) → sumTo f (m + 1) % p = f 0 % p
  | 0, _ => by simp [sumTo]
  | m + 1, h => by
    have e : sumTo f (m + 1 + 1) = sumTo f (m + 1) + f (m + 1) := rfl
    obtain ⟨c, hc⟩ := h (m + 1) (by omega) (by omega)
    rw [e, hc, Nat.add_mul_mod_self_left]
    exact sum_mod p f m (fun k h1 h2 => h k h1 (by omega))

theorem Pr.choose {p : Nat} (h : Pr p) (k : Nat) (h1 : 0 < k) (h2 : k < p) : p ∣ chooseN p k := by
  obtain ⟨n, rfl⟩ : ∃ n, p = n + 1 := ⟨p - 1, by omega⟩
  obtain ⟨j, rfl⟩ : ∃ j, k = j + 1 := ⟨k - 1, by omega⟩
  have e := choose_mul n j
  have hd : n + 1 ∣ (j + 1) * chooseN (n + 1) (j + 1) := ⟨chooseN n j, e⟩
  rcases h.mul hd with g | g
  · exact absurd (Nat.le_of_dvd (by omega) g) (by omega)
  · exact g

theorem fermat {p : Nat} (h : Pr p) : ∀ a, a ^ p % p = a % p
  | 0 => by rw [Nat.zero_pow (by have := h.1; omega)]
  | a + 1 => by
    have ih := fermat h a
    obtain ⟨n, hn⟩ : ∃ n, p = n + 1 := ⟨p - 1, by have := h.1; omega⟩
    rw [binomial a p]
    have e : sumTo (fun k => chooseN p k * a ^ k) (p + 1) = sumTo (fun k => chooseN p k * a ^ k) p + chooseN p p * a ^ p := rfl
    have hs : sumTo (fun k => chooseN p k * a ^ k) p % p = 1 % p := by
      have := sum_mod p (fun k => chooseN p k * a ^ k) n (fun k h1 h2 => Nat.dvd_trans (h.choose k h1 (by omega)) (Nat.dvd_mul_right _ _))
      rw [← hn] at this
      rw [this, choose_zero]; simp
    rw [e, choose_self, Nat.one_mul, Nat.add_mod, hs, ih, ← Nat.add_mod, Nat.add_comm]

theorem fermat_one {p a : Nat} (h : Pr p) (ha : ¬ p ∣ a) : a ^ (p - 1) % p = 1 := by
  have h1 := fermat h a
  have hp := h.1
  have e : a ^ p = a * a ^ (p - 1) := by
    conv => lhs; rw [show p = (p - 1) + 1 by omega]
    rw [Nat.pow_succ, Nat.mul_comm]
  have h0 : 0 < a := Nat.pos_of_ne_zero (fun e => ha (e ▸ Nat.dvd_zero p))
  have hle : 1 ≤ a ^ (p - 1) := Nat.one_le_pow _ _ h0
  have hd : p ∣ a * (a ^ (p - 1) - 1) := by
    rw [Nat.mul_sub, Nat.mul_one, ← e]
    have hle2 : a ≤ a ^ p := by rw [e]; exact Nat.le_mul_of_pos_right _ hle
    exact Nat.dvd_of_mod_eq_zero (Nat.sub_mod_eq_zero_of_mod_eq h1)
  rcases h.mul hd with g | g
  · exact absurd g ha
  · obtain ⟨c, hc⟩ := g
    have : a ^ (p - 1) = 1 + p * c := by omega
    rw [this, Nat.add_mul_mod_self_left, Nat.mod_eq_of_lt (by omega)]

/-! ### powers modulo m -/
theorem pow_mod_base (a n m : Nat) : (a % m) ^ n % m = a ^ n % m := (Nat.pow_mod a n m).symm
theorem dvd_pow_pos {p a n : Nat} (h : p ∣ a) (hn : n ≠ 0) : p ∣ a ^ n := by
  obtain ⟨k, rfl⟩ : ∃ k, n = k + 1 := ⟨n - 1, by omega⟩
  rw [Nat.pow_succ]; exact Nat.dvd_trans h (Nat.dvd_mul_left a (a ^ k))
theorem one_pow_mod {b m : Nat} (h : b % m = 1 % m) (n : Nat) : b ^ n % m = 1 % m := by
  rw [Nat.pow_mod, h, ← Nat.pow_mod, Nat.one_pow]

theorem pow_gcd (b N : Nat) : ∀ m n : Nat, b ^ m % N = 1 % N → b ^ n % N = 1 % N → b ^ Nat.gcd m n % N = 1 % N := by
  intro m n
  induction m, n using Nat.gcd.induction with
  | H0 n => intro _ h; rwa [Nat.gcd_zero_left]
  | H1 m n hm ih =>
    intro h1 h2
    rw [Nat.gcd_rec]
    refine ih ?_ h1
    have e : b ^ n = (b ^ m) ^ (n / m) * b ^ (n % m) := by
      rw [← Nat.pow_mul, ← Nat.pow_add, Nat.div_add_mod]
    rw [e, Nat.mul_mod, one_pow_mod h1, ← Nat.mul_mod, Nat.one_mul] at h2
    exact h2

theorem has_prime : ∀ n : Nat, 2 ≤ n → ∃ p, Pr p ∧ p ∣ n := by
  intro n
  induction n using Nat.strongRecOn with
  | ind n ih =>
    intro hn
    by_cases h : Pr n
    · exact ⟨n, h, Nat.dvd_refl n⟩
    · have : ∃ d, d ∣ n ∧ d ≠ 1 ∧ d ≠ n := by
        apply Classical.byContradiction
        intro hc
        refine h ⟨hn, fun d hd => ?_⟩
        apply Classical.byContradiction
        intro hq
        exact hc ⟨d, hd, fun e => hq (.inl e), fun e => hq (.inr e)⟩
      obtain ⟨d, hd, h1, h2⟩ := this
      have hle := Nat.le_of_dvd (by omega) hd
      have h0 : d ≠ 0 := by rintro rfl; have := Nat.eq_zero_of_zero_dvd hd; omega
      obtain ⟨p, hp, hpd⟩ := ih d (by omega) (by omega)
      exact ⟨p, hp, Nat.dvd_trans hpd hd⟩

theorem small_prime {n : Nat} (hn : 2 ≤ n) (h : ¬ Pr n) : ∃ p, Pr p ∧ p ∣ n ∧ p * p ≤ n := by
  have : ∃ d, d ∣ n ∧ d ≠ 1 ∧ d ≠ n := by
    apply Classical.byContradiction
    intro hc
    refine h ⟨hn, fun d hd => ?_⟩
    apply Classical.byContradiction
    intro hq
    exact hc ⟨d, hd, fun e => hq (.inl e), fun e => hq (.inr e)⟩
  obtain ⟨d, ⟨e, he⟩, h1, h2⟩ := this
  have hd0 : d ≠ 0 := by rintro rfl; rw [Nat.zero_mul] at he; omega
  have he0 : e ≠ 0 := by rintro rfl; rw [Nat.mul_zero] at he; omega
  have he1 : e ≠ 1 := by rintro rfl; rw [Nat.mul_one] at he; omega
  rcases Nat.le_total d e with hde | hde
  · obtain ⟨p, hp, hpd⟩ := has_prime d (by omega)
    refine ⟨p, hp, Nat.dvd_trans hpd ⟨e, he⟩, ?_⟩
    have := Nat.le_of_dvd (by omega) hpd
    rw [he]
    exact Nat.mul_le_mul this (by omega)
  · obtain ⟨p, hp, hpd⟩ := has_prime e (by omega)
    refine ⟨p, hp, Nat.dvd_trans hpd ⟨d, by rw [he, Nat.mul_comm]⟩, ?_⟩
    have := Nat.le_of_dvd (by omega) hpd
    rw [he]
    exact Nat.mul_le_mul (by omega) this

theorem pocklington {n q R a : Nat} (hn : 2 ≤ n) (hq : Pr q) (he : n - 1 = q * R) (hb : n < q * q) (h1 : a ^ (n - 1) % n = 1) (h2 : Nat.gcd (a ^ R % n + n - 1) n = 1) : Pr n := by
  apply Classical.byContradiction
  intro hc
  obtain ⟨p, hp, hpd, hpp⟩ := small_prime hn hc
  have hp2 := hp.1
  have h1p : a ^ (n - 1) % p = 1 := by
    have e : a ^ (n - 1) % n % p = a ^ (n - 1) % p := Nat.mod_mod_of_dvd _ hpd
    rw [← e, h1, Nat.mod_eq_of_lt (by omega)]
  have hn1 : 0 < n - 1 := by omega
  have hna : ¬ p ∣ a := by
    intro hd
    have : p ∣ a ^ (n - 1) := dvd_pow_pos hd (by omega)
    rw [Nat.mod_eq_zero_of_dvd this] at h1p
    omega
  have hbq : (a ^ R) ^ q % p = 1 % p := by
    rw [← Nat.pow_mul, Nat.mul_comm, ← he, h1p, Nat.mod_eq_of_lt (by omega)]
  have hbp : (a ^ R) ^ (p - 1) % p = 1 % p := by
    rw [← Nat.pow_mul, Nat.mul_comm, Nat.pow_mul]
    refine one_pow_mod ?_ R
    rw [fermat_one hp hna, Nat.mod_eq_of_lt (by omega)]
  have hg := pow_gcd _ _ _ _ hbq hbp
  rcases hq.2 _ (Nat.gcd_dvd_left q (p - 1)) with e | e
  · rw [e, Nat.pow_one] at hg
    have hp1 : (a ^ R % n + n - 1) % p = 0 := by
      have e1 : a ^ R % n % p = 1 % p := by rw [Nat.mod_mod_of_dvd _ hpd, hg]
      obtain ⟨c, hcn⟩ := hpd
      have e2 : a ^ R % n % p = 1 := by rw [e1, Nat.mod_eq_of_lt (by omega)]
      have e3 := Nat.div_add_mod (a ^ R % n) p
      rw [e2] at e3
      have e4 : a ^ R % n + n - 1 = p * (a ^ R % n / p + c) := by rw [Nat.mul_add, ← hcn]; omega
      rw [e4, Nat.mul_mod_right]
    have : p ∣ Nat.gcd (a ^ R % n + n - 1) n := Nat.dvd_gcd (Nat.dvd_of_mod_eq_zero hp1) hpd
    rw [h2] at this
    have := Nat.le_of_dvd (by omega) this
    omega
  · have hd : q ∣ p - 1 := by
      have := Nat.gcd_dvd_right q (p - 1)
      rwa [e] at this
    have := Nat.le_of_dvd (by omega) hd
    have : q * q ≤ p * p := Nat.mul_le_mul (by omega) (by omega)
    omega

def pmF (m : Nat) : Nat → Nat → Nat → Nat
  | 0, _, _ => 1 % m
  | k + 1, a, n => if n = 0 then 1 % m else if n % 2 = 1 then pmF m k (a * a % m) (n / 2) * a % m else pmF m k (a * a % m) (n / 2)
theorem pmF_eq (m : Nat) : ∀ k a n, n < 2 ^ k → pmF m k a n = a ^ n % m
  | 0, a, n, h => by
    have : n = 0 := by simp at h; omega
    subst this; rfl
  | k + 1, a, n, h => by
    rw [pmF]
    by_cases h0 : n = 0
    · rw [if_pos h0, h0]; rfl
    · rw [if_neg h0]
      have hk : n / 2 < 2 ^ k := by rw [Nat.pow_succ] at h; omega
      have ih := pmF_eq m k (a * a % m) (n / 2) hk
      have e : (a * a % m) ^ (n / 2) % m = a ^ (2 * (n / 2)) % m := by
        rw [pow_mod_base, Nat.pow_mul, Nat.pow_two]
      rw [ih, e]
      have hd := Nat.div_add_mod n 2
      by_cases h1 : n % 2 = 1
      · rw [if_pos h1]
        conv => rhs; rw [← hd, h1, Nat.pow_succ]
        rw [Nat.mod_mul_mod]
      · rw [if_neg h1]
        conv => rhs; rw [← hd, show n % 2 = 0 by omega, Nat.add_zero]

theorem trial {n b : Nat} (hn : 2 ≤ n) (hb : n < b * b) (h : ∀ d, d < b → 2 ≤ d → n % d ≠ 0) : Pr n := by
  apply Classical.byContradiction
  intro hc
  obtain ⟨p, hp, hpd, hpp⟩ := small_prime hn hc
  by_cases hlt : p < b
  · exact h p hlt hp.1 (Nat.mod_eq_zero_of_dvd hpd)
  · have : b * b ≤ p * p := Nat.mul_le_mul (by omega) (by omega)
    omega

def trialB (n : Nat) : Nat → Bool
  | 0 => true
  | d + 1 => trialB n d && (decide (d < 2) || decide (n % d ≠ 0))
theorem trialB_says (n : Nat) : ∀ b, trialB n b = true → ∀ d, d < b → 2 ≤ d → n % d ≠ 0
  | 0, _, d, h, _ => by omega
  | b + 1, hb, d, h, h2 => by
    simp only [trialB, Bool.and_eq_true, Bool.or_eq_true, decide_eq_true_eq] at hb
    by_cases e : d = b
    · subst e
      rcases hb.2 with g | g
      · omega
      · exact g
    · exact trialB_says n b hb.1 d (by omega) h2

theorem chain {n q R a : Nat} (k : Nat) (hq : Pr q) (hc : (decide (2 ≤ n) && decide (n - 1 = q * R) && decide (n < q * q) && decide (n - 1 < 2 ^ k) && decide (R < 2 ^ k) && decide (pmF n k a (n - 1) = 1) && decide (Nat.gcd (pmF n k a R + n - 1) n = 1)) = true) : Pr n := by
  simp only [Bool.and_eq_true, decide_eq_true_eq] at hc
  obtain ⟨⟨⟨⟨⟨⟨h1, h2⟩, h3⟩, h4⟩, h5⟩, h6⟩, h7⟩ := hc
  rw [pmF_eq n k a _ h4] at h6
  rw [pmF_eq n k a _ h5] at h7
  exact pocklington h1 hq h2 h3 h6 h7

theorem pr1 : Pr 95189 := trial (b := 309) (by omega) (by omega) (trialB_says 95189 309 (by decide +kernel))
theorem pr2 : Pr 2835870689 := chain (q := 95189) (R := 29792) (a := 3) 64 pr1 (by decide +kernel)
theorem pr3 : Pr 5671741379 := chain (q := 2835870689) (R := 2) (a := 2) 64 pr2 (by decide +kernel)
theorem pr4 : Pr 288230376151711447 := chain (q := 5671741379) (R := 50818674) (a := 2) 64 pr3 (by decide +kernel)
def Qn : Nat := 1152921504606845789
def Pn : Nat := 2305843009213691579
theorem prQ : Pr Qn := chain (q := 288230376151711447) (R := 4) (a := 2) 64 pr4 (by decide +kernel)
theorem prP : Pr Pn := chain (q := Qn) (R := 2) (a := 2) 64 prQ (by decide +kernel)

theorem no_dvd {a : Nat} (h : a ^ Qn % Pn = 1) : ¬ Pn ∣ a := by
  intro hd
  have : Pn ∣ a ^ Qn := dvd_pow_pos hd (by decide)
  rw [Nat.mod_eq_zero_of_dvd this] at h
  omega
theorem cancel {a x y : Nat} (ha : ¬ Pn ∣ a) (h : a * x % Pn = a * y % Pn) : x % Pn = y % Pn := by
  rcases Nat.le_total x y with hl | hl
  · have hd : Pn ∣ a * (y - x) := by
      rw [Nat.mul_sub]
      exact Nat.dvd_of_mod_eq_zero (Nat.sub_mod_eq_zero_of_mod_eq h.symm)
    rcases prP.mul hd with g | g
    · exact absurd g ha
    · obtain ⟨c, hc⟩ := g
      rw [show y = x + Pn * c by omega, Nat.add_mul_mod_self_left]
  · have hd : Pn ∣ a * (x - y) := by
      rw [Nat.mul_sub]
      exact Nat.dvd_of_mod_eq_zero (Nat.sub_mod_eq_zero_of_mod_eq h)
    rcases prP.mul hd with g | g
    · exact absurd g ha
    · obtain ⟨c, hc⟩ := g
      rw [show x = y + Pn * c by omega, Nat.add_mul_mod_self_left]
theorem no_dvd_pow {a : Nat} (h : ¬ Pn ∣ a) : ∀ n, ¬ Pn ∣ a ^ n
  | 0 => by rw [Nat.pow_zero]; decide
  | n + 1 => by
    rw [Nat.pow_succ]
    intro hd
    rcases prP.mul hd with g | g
    · exact no_dvd_pow h n g
    · exact h g
theorem pow_inj {a i j : Nat} (h : a ^ Qn % Pn = 1) (h1 : a % Pn ≠ 1) (hi : i < Qn) (hj : j < Qn) (he : a ^ i % Pn = a ^ j % Pn) : i = j := by
  have key : ∀ i j, i ≤ j → i < Qn → j < Qn → a ^ i % Pn = a ^ j % Pn → i = j := by
    intro i j hij hi hj he
    apply Classical.byContradiction
    intro hne
    have e : a ^ j = a ^ i * a ^ (j - i) := by rw [← Nat.pow_add]; congr 1; omega
    rw [e, show a ^ i % Pn = a ^ i * 1 % Pn by rw [Nat.mul_one]] at he
    have hc := cancel (no_dvd_pow (no_dvd h) i) he
    have hg := pow_gcd a Pn (j - i) Qn hc.symm h
    have hcop : Nat.gcd (j - i) Qn = 1 := by
      rcases prQ.2 _ (Nat.gcd_dvd_right (j - i) Qn) with g | g
      · exact g
      · have := Nat.le_of_dvd (by omega) (Nat.gcd_dvd_left (j - i) Qn)
        omega
    rw [hcop, Nat.pow_one] at hg
    exact h1 hg
  rcases Nat.le_total i j with hl | hl
  · exact key i j hl hi hj he
  · exact (key j i hl hj hi he.symm).symm
theorem pow_red {a : Nat} (h : a ^ Qn % Pn = 1) (n : Nat) : a ^ n % Pn = a ^ (n % Qn) % Pn := by
  conv => lhs; rw [← Nat.div_add_mod n Qn, Nat.pow_add, Nat.pow_mul, Nat.mul_mod, one_pow_mod (show a ^ Qn % Pn = 1 % Pn from h), ← Nat.mul_mod, Nat.one_mul]
end Go.Proofs.YtinpenoeohejoaaGreatDoor

namespace Go.Proofs.YtinpenoeohejoaaGreatDoor
open Go.RowKit
set_option maxRecDepth 100000

theorem residue_any (a m : Int) (w : World) (_ha : -9223372036854775808 ≤ a ∧ a ≤ 9223372036854775807) (hm : 1 ≤ m ∧ m ≤ 9223372036854775807) :
    Calls Tryz.prog 102 #[.int .i64 a, .int .i64 m] w (RetZ .i64 m (a % m) w) := by
  have e1 := Int.tmod_eq_emod (a := a) (b := m)
  have e3 := Int.emod_nonneg a (show m ≠ 0 by omega)
  have e4 := Int.emod_lt_of_pos a (show 0 < m by omega)
  have H1 := Lib.hid e1
  clear e1
  go_enter Tryz.func102, Tryz.ntmps102
  go_wp2_with fail
  · go_ret
    refine retZ_mod (by omega) ?_
    have h := H1.out
    simp only [wrap64]
    split at h <;> omega
  · go_ret
    refine retZ_mod (by omega) ?_
    have h := H1.out
    split at h <;> omega

theorem plus_any (x y m : Int) (w : World) (hx : 0 ≤ x ∧ x < m) (hy : 0 ≤ y ∧ y < m) (hm : m ≤ 9223372036854775807) :
    Calls Tryz.prog 132 #[.int .u64 x, .int .u64 y, .int .u64 m] w (RetZ .u64 m ((x + y) % m) w) := by
  go_enter Tryz.func132, Tryz.ntmps132
  go_wp2_with fail
  · go_ret
    refine retZ_mod (by omega) ?_
    rw [← Int.sub_emod_right (x + y) m, Int.emod_eq_of_lt (by omega) (by omega)]
  · go_ret
    refine retZ_mod (by omega) ?_
    rw [Int.emod_eq_of_lt (by omega) (by omega)]

theorem and_one (q : Nat) (hq : q < 18446744073709551616) : bits .and .u64 (q : Int) 1 = ((q % 2 : Nat) : Int) := by
  show IntKind.u64.wrap ((BitVec.ofInt 64 (q : Int) &&& BitVec.ofInt 64 1).toNat : Int) = _
  have e1 : (BitVec.ofInt 64 (q : Int)).toNat = q := by
    rw [BitVec.toNat_ofInt]
    show ((q : Int) % 18446744073709551616).toNat = _
    omega
  have e2 : (BitVec.ofInt 64 (1 : Int)).toNat = 1 := rfl
  rw [BitVec.toNat_and, e1, e2, Nat.and_one_is_mod]
  have : q % 2 < 2 := Nat.mod_lt _ (by omega)
  show ((q % 2 : Nat) : Int) % 18446744073709551616 = _
  omega

theorem and_one64 (q : Nat) (hq : q < 9223372036854775808) : bits .and .i64 (q : Int) 1 = ((q % 2 : Nat) : Int) := by
  show IntKind.i64.wrap ((BitVec.ofInt 64 (q : Int) &&& BitVec.ofInt 64 1).toNat : Int) = _
  have e1 : (BitVec.ofInt 64 (q : Int)).toNat = q := by
    rw [BitVec.toNat_ofInt]
    show ((q : Int) % 18446744073709551616).toNat = _
    omega
  have e2 : (BitVec.ofInt 64 (1 : Int)).toNat = 1 := rfl
  rw [BitVec.toNat_and, e1, e2, Nat.and_one_is_mod]
  have : q % 2 < 2 := Nat.mod_lt _ (by omega)
  exact wrap_in (by omega) (by omega)

theorem bitLen_lt (y : Nat) (h : y < 18446744073709551616) : y < 2 ^ Lib.bitLen y ∧ Lib.bitLen y ≤ 64 := by
  by_cases h0 : y = 0
  · subst h0; decide
  · obtain ⟨h1, h2, h3⟩ := Lib.bitLenAux_bounds 64 y h h0
    refine ⟨h3, ?_⟩
    show Lib.bitLenAux 64 y ≤ 64
    by_cases h4 : Lib.bitLenAux 64 y ≤ 64
    · exact h4
    · exfalso
      have : 2 ^ 64 ≤ 2 ^ (Lib.bitLenAux 64 y - 1) := Nat.pow_le_pow_right (by omega) (by omega)
      have e : (2 : Nat) ^ 64 = 18446744073709551616 := by decide
      omega

theorem half_step (y c k : Nat) (h : k < c) : y / 2 ^ (c - 1 - k) = 2 * (y / 2 ^ (c - k)) + y / 2 ^ (c - 1 - k) % 2 := by
  have e : c - k = (c - 1 - k) + 1 := by omega
  rw [e, Nat.pow_succ, ← Nat.div_div_eq_div_mul]
  omega

theorem mul_any (a b m : Int) (w : World) (ha : -9223372036854775808 ≤ a ∧ a ≤ 9223372036854775807) (hb : -9223372036854775808 ≤ b ∧ b ≤ 9223372036854775807) (hm : 1 ≤ m ∧ m ≤ 9223372036854775807) :
    Calls Tryz.prog 91 #[.int .i64 a, .int .i64 b, .int .i64 m] w (RetZ .i64 m (a * b % m) w) := by
  have xb0 := Int.emod_nonneg b (show m ≠ 0 by omega)
  have xb1 := Int.emod_lt_of_pos b (show 0 < m by omega)
  obtain ⟨y, hy⟩ : ∃ y : Nat, b % m = (y : Int) := ⟨(b % m).toNat, by omega⟩
  rw [hy] at xb0 xb1
  have hmul : a * b % m = (a % m) * y % m := by rw [Int.mul_emod, hy]
  rw [hmul]
  have hbl := bitLen_lt y (by omega)
  obtain ⟨c, hc⟩ : ∃ c : Nat, Lib.bitLen y = c := ⟨_, rfl⟩
  rw [hc] at hbl
  have HC := Lib.hid hc
  have HY := Lib.hid hy
  clear hc hy hmul
  have HB := Lib.hid hbl.1
  have hc64 := hbl.2
  clear hbl
  go_enter Tryz.func91, Tryz.ntmps91
  go_wp2_with (first | (go_at_call 102; ((with_reducible refine (residue_any a _ _ (by omega) (by omega)).mono ?_); rintro e w' ⟨x, HX, xa0, xa1, rfl, rfl⟩)) | (go_at_call 102; ((with_reducible refine (residue_any b _ _ (by omega) (by omega)).mono ?_); rintro e w' ⟨y', HY', ya0, ya1, rfl, rfl⟩; obtain rfl : y' = (y : Int) := HY'.out.trans HY.out)) | (go_at_call 133; ((with_reducible refine (Tryz.bits_Len64 _ _ (by omega) (by omega)).mono ?_); rintro e w' ⟨rfl, rfl⟩; rw [Int.toNat_natCast, HC.out])))
  go_loop [10, 28] (fun r i => ∃ k : Nat, k ≤ c ∧ i = .int .i64 (k : Int) ∧ ∃ z : Int, r = .int .u64 z ∧ 0 ≤ z ∧ z < m ∧ Hid (z = x * ((y / 2 ^ (c - k) : Nat) : Int) % m)) (fun _ i => c - (intOf i).toNat)
  case atStart =>
    have hz : y / 2 ^ (c - 0) = 0 := Nat.div_eq_of_lt HB.out
    exact ⟨0, Nat.zero_le _, rfl, 0, rfl, by omega, by omega, by rw [hz]; simp [Hid]⟩
  case round =>
    obtain ⟨k, hk, rfl, z, rfl, hz0, hz1, HZ⟩ := hrel
    by_cases hlt : k < c
    · have hq : y / 2 ^ (c - 1 - k) < 18446744073709551616 := Nat.lt_of_le_of_lt (Nat.div_le_self _ _) (by omega)
      have hst := half_step y c k hlt
      have ck : c - (k + 1) = c - 1 - k := by omega
      have hcast : (y : Int) / 2 ^ (c - 1 - k) = ((y / 2 ^ (c - 1 - k) : Nat) : Int) := by simp
      have hand := and_one _ hq
      rw [← hcast] at hand
      have HS := Lib.hid hst
      have CK := Lib.hid ck
      clear hst ck hq
      have hz2 : (z + z) % m = x * ((2 * (y / 2 ^ (c - k)) : Nat) : Int) % m := by
        rw [HZ.out, ← Int.add_emod, Int.natCast_mul, ← Int.two_mul]
        congr 1
        rw [Int.mul_left_comm]; rfl
      have HZ2 := Lib.hid hz2
      clear hz2
      by_cases hb1 : y / 2 ^ (c - 1 - k) % 2 = 1
      · have hbt : (bits BinOp.and IntKind.u64 ((y : Int) / 2 ^ (c - 1 - k)) 1 == 1) = true := by rw [hand, hb1]; rfl
        have HB1 := Lib.hid hb1
        clear hb1 hand hcast
        go_wp2_with (go_at_call 132; first | ((with_reducible refine (plus_any z z _ _ (by omega) (by omega) (by omega)).mono ?_); rintro e w' ⟨r1, HR1, r10, r11, rfl, rfl⟩) | ((with_reducible refine (plus_any _ x _ _ (by omega) (by omega) (by omega)).mono ?_); rintro e w' ⟨r2, HR2, r20, r21, rfl, rfl⟩))
        refine ⟨⟨k + 1, by omega, by go_num, r2, rfl, r20, r21, ?_⟩, by simp [intOf]; omega⟩
        show _ = _
        rw [HR2.out, HR1.out, HZ2.out, Int.emod_add_emod, CK.out, HS.out, HB1.out, Int.natCast_add, Int.mul_add]
        simp
      · have hb0 : y / 2 ^ (c - 1 - k) % 2 = 0 := by omega
        have hbt : (bits BinOp.and IntKind.u64 ((y : Int) / 2 ^ (c - 1 - k)) 1 == 1) = false := by rw [hand, hb0]; rfl
        have HB1 := Lib.hid hb0
        clear hb1 hb0 hand hcast
        go_wp2_with (go_at_call 132; ((with_reducible refine (plus_any z z _ _ (by omega) (by omega) (by omega)).mono ?_); rintro e w' ⟨r1, HR1, r10, r11, rfl, rfl⟩))
        refine ⟨⟨k + 1, by omega, by go_num, r1, rfl, r10, r11, ?_⟩, by simp [intOf]; omega⟩
        show _ = _
        rw [HR1.out, HZ2.out, CK.out, HS.out, HB1.out, Nat.add_zero]
    · obtain rfl : k = c := by omega
      go_wp2_with fail
      go_ret
      refine retZ_mod (by omega) ?_
      rw [HZ.out, HX.out]
      simp

theorem add_any (a b m : Int) (w : World) (ha : -9223372036854775808 ≤ a ∧ a ≤ 9223372036854775807) (hb : -9223372036854775808 ≤ b ∧ b ≤ 9223372036854775807) (hm : 1 ≤ m ∧ m ≤ 9223372036854775807) :
    Calls Tryz.prog 88 #[.int .i64 a, .int .i64 b, .int .i64 m] w (RetZ .i64 m ((a + b) % m) w) := by
  go_enter Tryz.func88, Tryz.ntmps88
  go_wp2_with (first | (go_at_call 102; ((with_reducible refine (residue_any a _ _ (by omega) (by omega)).mono ?_); rintro e w' ⟨x, HX, xa0, xa1, rfl, rfl⟩)) | (go_at_call 102; ((with_reducible refine (residue_any b _ _ (by omega) (by omega)).mono ?_); rintro e w' ⟨y, HY, ya0, ya1, rfl, rfl⟩)) | (go_at_call 132; ((with_reducible refine (plus_any _ _ _ _ (by omega) (by omega) (by omega)).mono ?_); rintro e w' ⟨r, HR, r0, r1, rfl, rfl⟩)))
  go_ret
  refine retZ_mod (by omega) ?_
  rw [HR.out, HX.out, HY.out, ← Int.add_emod]

theorem pow_emod (a m : Int) : ∀ k : Nat, (a % m) ^ k % m = a ^ k % m
  | 0 => by simp
  | k + 1 => by rw [Int.pow_succ, Int.pow_succ, Int.mul_emod, Int.emod_emod, pow_emod a m k, ← Int.mul_emod]

theorem sq_pow (x : Int) : ∀ h : Nat, (x * x) ^ h = x ^ (2 * h)
  | 0 => by simp
  | h + 1 => by rw [Int.pow_succ, sq_pow x h, show 2 * (h + 1) = 2 * h + 1 + 1 by omega, Int.pow_succ, Int.pow_succ, Int.mul_assoc]

theorem pow_odd (p x m : Int) (j : Nat) (h : j % 2 = 1) : (p * x % m) * (x * x % m) ^ (j / 2) % m = p * x ^ j % m := by
  rw [Int.mul_emod, Int.emod_emod, pow_emod, ← Int.mul_emod, sq_pow, Int.mul_assoc, Int.mul_comm x, ← Int.pow_succ, show (2 * (j / 2)).succ = j by omega]

theorem pow_even (p x m : Int) (j : Nat) (h : j % 2 = 0) : p * (x * x % m) ^ (j / 2) % m = p * x ^ j % m := by
  rw [Int.mul_emod, pow_emod, ← Int.mul_emod, sq_pow, show 2 * (j / 2) = j by omega]

def powZ (a : Int) (n : Nat) (m : Int) : Int := a ^ n % m

theorem pow1_any (x y m : Int) (g : Nat) (w : World) (hx : -9223372036854775808 ≤ x ∧ x ≤ 9223372036854775807) (hy : -9223372036854775808 ≤ y ∧ y ≤ 9223372036854775807) (hm : 1 ≤ m ∧ m ≤ 9223372036854775807)
    (hg : w.cell? ⟨g, 0, none⟩ = some (.int .i64 m)) :
    Calls Tryz.prog 104 #[.int .i64 x, .int .i64 y, .pointer (some ⟨g, 0, none⟩)] w (RetZ .i64 m (x * y % m) w) := by
  go_enter Tryz.func104, Tryz.ntmps104
  go_wp2_with (go_at_call 91; ((with_reducible refine (mul_any _ _ _ _ (by omega) (by omega) (by omega)).mono ?_); rintro e w' ⟨r, HR, r0, r1, rfl, rfl⟩))
  go_ret
  exact retZ_mod (by omega) HR.out

theorem pow_any (a m : Int) (n : Nat) (w : World) (ha : -9223372036854775808 ≤ a ∧ a ≤ 9223372036854775807) (hn : n ≤ 9223372036854775807) (hm : 1 ≤ m ∧ m ≤ 9223372036854775807) :
    Calls Tryz.prog 51 #[.int .i64 a, .int .i64 (n : Int), .int .i64 m] w (MkZ .i64 m (powZ a n m) w) := by
  go_enter Tryz.func51, Tryz.ntmps51
  go_wp2_with (first | (go_at_call 102; ((with_reducible refine (residue_any _ _ _ (by omega) (by omega)).mono ?_); rintro e w' ⟨x, HX, xa0, xa1, rfl, rfl⟩)))
  go_loop [0, 1, 8] (fun b i r => ∃ (j : Nat) (x p : Int), b = .int .i64 x ∧ i = .int .i64 (j : Int) ∧ r = .int .i64 p ∧ j ≤ 9223372036854775807 ∧ (-9223372036854775808 ≤ x ∧ x ≤ 9223372036854775807) ∧ 0 ≤ p ∧ p < m ∧ Hid (p * x ^ j % m = a ^ n % m)) (fun _ i _ => (intOf i).toNat)
  case atStart => exact ⟨n, a, x, rfl, rfl, rfl, hn, ha, xa0, xa1, by show _ = _; rw [HX.out, Int.mul_emod, Int.emod_emod, ← Int.mul_emod, Int.one_mul]⟩
  case round =>
    obtain ⟨j, x, p, rfl, rfl, rfl, hj, hx, hp0, hp1, HP⟩ := hrel
    by_cases hlt : 0 < j
    · by_cases hb1 : j % 2 = 1
      · have hbt : (bits BinOp.and IntKind.i64 (j : Int) 1 == 1) = true := by rw [and_one64 _ (by omega), hb1]; rfl
        have HB1 := Lib.hid hb1
        clear hb1
        go_wp2_with (go_at_call 104; first | ((with_reducible refine (pow1_any p x m _ _ (by omega) (by omega) (by omega) (by simp)).mono ?_); rintro e w' ⟨r1, HR1, r10, r11, rfl, rfl⟩) | ((with_reducible refine (pow1_any x x m _ _ (by omega) (by omega) (by omega) (by simp)).mono ?_); rintro e w' ⟨r2, HR2, r20, r21, rfl, rfl⟩))
        refine ⟨⟨j / 2, r2, r1, rfl, by go_num, rfl, by omega, by omega, r10, r11, ?_⟩, by simp [intOf]; omega⟩
        show _ = _
        rw [HR2.out, HR1.out, pow_odd p x m j HB1.out, HP.out]
      · have hb0 : j % 2 = 0 := by omega
        have hbt : (bits BinOp.and IntKind.i64 (j : Int) 1 == 1) = false := by rw [and_one64 _ (by omega), hb0]; rfl
        have HB1 := Lib.hid hb0
        clear hb1 hb0
        go_wp2_with (go_at_call 104; ((with_reducible refine (pow1_any x x m _ _ (by omega) (by omega) (by omega) (by simp)).mono ?_); rintro e w' ⟨r2, HR2, r20, r21, rfl, rfl⟩))
        refine ⟨⟨j / 2, r2, p, rfl, by go_num, rfl, by omega, by omega, hp0, hp1, ?_⟩, by simp [intOf]; omega⟩
        show _ = _
        rw [HR2.out, pow_even p x m j HB1.out, HP.out]
    · obtain rfl : j = 0 := by omega
      go_wp2_with fail
      go_ret
      refine ⟨p, ?_, hp0, hp1, rfl, (Upd.refl _ _).alloc _⟩
      have h := HP.out
      rw [Int.pow_zero, Int.mul_one, Int.emod_eq_of_lt hp0 hp1] at h
      exact h
end Go.Proofs.YtinpenoeohejoaaGreatDoor

namespace Go.Proofs.YtinpenoeohejoaaGreatDoor
open Go.RowKit
set_option maxRecDepth 100000

def MkB (b : Bool) (w : World) (e : Ending) (w' : World) : Prop := ∃ r : Bool, Hid (r = b) ∧ e = .returned (.bool r) ∧ Upd [] [] w w'
def RetB (b : Bool) (w : World) (e : Ending) (w' : World) : Prop := ∃ r : Bool, Hid (r = b) ∧ e = .returned (.bool r) ∧ w = w'

def memB (a : Int) : Bool := decide (1 ≤ a) && decide (a < 2305843009213691579) && decide (powZ a 1152921504606845789 2305843009213691579 = 1)

theorem pow_at (a n m : Int) (N : Nat) (hN : n = (N : Int)) (w : World) (ha : -9223372036854775808 ≤ a ∧ a ≤ 9223372036854775807) (hn : n ≤ 9223372036854775807) (hm : 1 ≤ m ∧ m ≤ 9223372036854775807) :
    Calls Tryz.prog 51 #[.int .i64 a, .int .i64 n, .int .i64 m] w (MkZ .i64 m (powZ a N m) w) := by
  subst hN
  exact pow_any a m N w ha (by omega) hm

theorem qCast : (1152921504606845789 : Int) = ((1152921504606845789 : Nat) : Int) := rfl
theorem memB_low {a : Int} (h : a < 1) : memB a = false := by
  have : decide (1 ≤ a) = false := by simpa using h
  simp [memB, this]
theorem memB_high {a : Int} (h : 2305843009213691578 < a) : memB a = false := by
  have : decide (a < 2305843009213691579) = false := by rw [decide_eq_false_iff_not]; omega
  simp [memB, this]
theorem memB_mid {a : Int} (h1 : 1 ≤ a) (h2 : a ≤ 2305843009213691578) : memB a = decide (powZ a 1152921504606845789 2305843009213691579 = 1) := by
  have e1 : decide (1 ≤ a) = true := by simpa using h1
  have e2 : decide (a < 2305843009213691579) = true := by rw [decide_eq_true_iff]; omega
  rw [memB, e1, e2]; rfl

theorem member_any (a : Int) (w : World) (ha : -9223372036854775808 ≤ a ∧ a ≤ 9223372036854775807) :
    Calls Tryz.prog 155 #[.int .i64 a] w (MkB (memB a) w) := by
  by_cases h1 : 1 ≤ a
  · by_cases h2 : a ≤ 2305843009213691578
    · have HM := Lib.hid (memB_mid h1 h2)
      go_enter Tryz.func155, Tryz.ntmps155
      go_wp2_with (go_at_call 51; ((with_reducible refine (pow_at a _ _ 1152921504606845789 qCast _ (by omega) (by omega) (by omega)).mono ?_); rintro e w' ⟨r, HR, r0, r1, rfl, hu⟩))
      go_ret
      refine ⟨_, ?_, rfl, hu⟩
      show _ = _
      rw [HM.out, ← HR.out]
      rfl
    · have h3 : 2305843009213691578 < a := by omega
      have HM := Lib.hid (memB_high h3)
      clear h2
      go_enter Tryz.func155, Tryz.ntmps155
      go_wp2_with fail
      go_ret
      exact ⟨_, HM.out.symm, rfl, Upd.refl _ _⟩
  · have h3 : a < 1 := by omega
    have HM := Lib.hid (memB_low h3)
    clear h1
    go_enter Tryz.func155, Tryz.ntmps155
    go_wp2_with fail
    go_ret
    exact ⟨_, HM.out.symm, rfl, Upd.refl _ _⟩
end Go.Proofs.YtinpenoeohejoaaGreatDoor

namespace Go.Proofs.YtinpenoeohejoaaGreatDoor
open Go.RowKit
set_option maxRecDepth 100000

def acc8 (h : List UInt8) : Nat → Nat
  | 0 => 0
  | k + 1 => acc8 h k * 256 + (h.getD k 0).toNat
theorem acc8_lt (h : List UInt8) : ∀ k, acc8 h k < 256 ^ k
  | 0 => by simp [acc8]
  | k + 1 => by
    have h1 := acc8_lt h k
    have h2 := (h.getD k 0).toNat_lt
    rw [acc8, Nat.pow_succ]
    omega
def numN (h : List UInt8) : Nat := acc8 h 8 % 9223372036854775808
def scalN (s : List UInt8) : Nat := numN (sha ([115, 47] ++ s)) % 1152921504606845789

theorem or64 (a : Nat) (b : UInt8) (ha : a < 72057594037927936) : bits .or .u64 ((a : Int) * 256 % 18446744073709551616) (b.toNat : Int) = ((a * 256 + b.toNat : Nat) : Int) := by
  have hb := b.toNat_lt
  have e0 : (a : Int) * 256 % 18446744073709551616 = ((a * 256 : Nat) : Int) := by omega
  rw [e0]
  show IntKind.u64.wrap ((BitVec.ofInt 64 ((a * 256 : Nat) : Int) ||| BitVec.ofInt 64 (b.toNat : Int)).toNat : Int) = _
  have e1 : (BitVec.ofInt 64 ((a * 256 : Nat) : Int)).toNat = a * 256 := by
    rw [BitVec.toNat_ofInt]
    show (((a * 256 : Nat) : Int) % 18446744073709551616).toNat = _
    omega
  have e2 : (BitVec.ofInt 64 (b.toNat : Int)).toNat = b.toNat := by
    rw [BitVec.toNat_ofInt]
    show ((b.toNat : Int) % 18446744073709551616).toNat = _
    omega
  have e3 : a * 256 ||| b.toNat = a * 256 + b.toNat := by
    rw [Nat.mul_comm a, show (256 : Nat) = 2 ^ 8 from rfl, ← Nat.two_pow_add_eq_or_of_lt (by omega : b.toNat < 2 ^ 8)]
  rw [BitVec.toNat_or, e1, e2, e3]
  show ((a * 256 + b.toNat : Nat) : Int) % 18446744073709551616 = _
  omega

theorem andNot63 (n : Nat) (h : n < 18446744073709551616) : bits .andNot .u64 (n : Int) 9223372036854775808 = ((n % 9223372036854775808 : Nat) : Int) := by
  have e := u64_andNot_nat n 9223372036854775808 h (by omega)
  have e2 : (18446744073709551615 - 9223372036854775808 : Nat) = 2 ^ 63 - 1 := by decide
  rw [e2, Nat.and_two_pow_sub_one_eq_mod] at e
  exact e

set_option maxHeartbeats 1000000 in
theorem number_any (s : ByteArray) (w : World) (hs : s.size ≤ 281474976710656) (htab : Tabs w) :
    Calls Tryz.prog 103 #[.string s] w (fun e w' => ∃ r : Nat, Hid (r = numN (sha (bs s))) ∧ r < 9223372036854775808 ∧ e = .returned (.int .i64 (r : Int)) ∧ Upd [] [] w w') := by
  obtain ⟨h, hh⟩ : ∃ h, h = sha (bs s) := ⟨_, rfl⟩
  have hl : h.length = 32 := by rw [hh, sha_length]
  have HHH := Lib.hid hh
  obtain ⟨cs, hcs⟩ : ∃ cs : Array Value, cs = (byteVals h).toArray := ⟨_, rfl⟩
  have hcz : cs.size = 32 := by rw [hcs]; simp [byteVals, hl]
  have hc1 : cs.all (·.oneCell') = true := by
    rw [Array.all_eq_true_iff_forall_mem]
    intro v hv
    rw [hcs] at hv
    exact byteVals_one _ v (by simpa using hv)
  have hi32 : (Tryz.prog.info? 37).map (·.size) = some cs.size := by rw [hcz]; kernel_rfl
  have HI := Lib.hid hi32
  have HC1 := Lib.hid hc1
  have HCS := Lib.hid hcs
  have HL := Lib.hid (And.intro hl hcz)
  clear hh hl hcs hcz hc1 hi32
  go_enter Tryz.func103, Tryz.ntmps103
  go_wp2_with fail
  refine (sum_any s w hs htab).mono ?_
  rintro e w1 ⟨rfl, hu1⟩
  rw [← HHH.out, ← HCS.out]
  have h0 : (w1.alloc (.cells (byteVals (List.replicate 32 0)).toArray 37)).heap[w1.heap.size]? = some (.cells (byteVals (List.replicate 32 0)).toArray 37 (0, 0)) := heap_alloc_new _ _
  have H0 := Lib.hid h0
  have hu2 := (hu1.alloc (.cells (byteVals (List.replicate 32 0)).toArray 37)).setRowNew (g := w1.heap.size) hu1.size cs
  have h3 := setRow_heap _ w1.heap.size _ cs _ _ h0
  have H3 := Lib.hid h3
  have HU2 := Lib.hid hu2
  clear h0 h3 hu2
  go_wp2_with (refine wpList_store_row rfl 37 _ _ rfl w1.heap.size cs rfl rfl _ _ H0.out HI.out (by rw [HL.out.2]; simp [byteVals]) HC1.out ?_)
  have hsz : w1.heap.size = w1.heap.size := rfl
  generalize hg : w1.heap.size = g at *
  go_loopw [4, 8] (fun n i wr => ∃ k : Nat, k ≤ 8 ∧ i = .int .i64 (k : Int) ∧ Hid (wr.heap[g]? = some (.cells cs 37 (0, 0))) ∧ Upd [] [] w wr ∧ ∃ z : Nat, n = .int .u64 (z : Int) ∧ z < 256 ^ k ∧ Hid (z = acc8 h k)) (fun _ i _ => 8 - (intOf i).toNat)
  case atStart => exact ⟨0, Nat.zero_le _, rfl, H3.out, HU2.out, 0, rfl, by decide, rfl⟩
  case round =>
    clear H0 H3 HU2 hu1 hsz hg
    obtain ⟨k, hk, rfl, HR, hu, z, rfl, hz, HZ⟩ := hrel
    by_cases hlt : k < 8
    · have hq : wr.cell? ⟨g, k, none⟩ = some (.int .u8 ((h.getD k 0).toNat : Int)) := by
        rw [cell_of_row wr g k _ _ _ HR.out, HCS.out]
        have := HL.out.1
        simp [byteVals, byteV, List.getD, show k < h.length by omega]
      have hz1 : z < 72057594037927936 := by
        have : 256 ^ k ≤ 256 ^ 7 := Nat.pow_le_pow_right (by omega) (by omega)
        have e : (256 : Nat) ^ 7 = 72057594037927936 := by decide
        omega
      have hor := or64 z (h.getD k 0) hz1
      have hacc := acc8_lt h (k + 1)
      have HA := Lib.hid hacc
      clear hacc
      obtain ⟨b, hb⟩ : ∃ b, b = h.getD k 0 := ⟨_, rfl⟩
      rw [← hb] at hq hor
      have hb8 := b.toNat_lt
      have HB := Lib.hid hb
      clear hb hz
      go_wp2_with fail
      refine ⟨⟨k + 1, by omega, by go_num, HR.out, hu, z * 256 + b.toNat, ?_, ?_, ?_⟩, by simp [intOf]; omega⟩
      · rw [show (z : Int) * 256 = (z : Int) * 256 % 18446744073709551616 by omega, hor]
      · have e := HA.out
        rw [acc8, ← HZ.out, ← HB.out] at e
        exact e
      · show _ = _
        rw [acc8, ← HZ.out, ← HB.out]
    · have hk8 : k = 8 := by omega
      have hki : (k : Int) = 8 := by omega
      rw [hk8] at hz HZ
      rw [hki]
      clear hlt hk hk8 hki
      have hz64 : z < 18446744073709551616 := by
        have e : (256 : Nat) ^ 8 = 18446744073709551616 := by decide
        omega
      clear hz
      have han := andNot63 z hz64
      have hzm : z % 9223372036854775808 < 9223372036854775808 := Nat.mod_lt _ (by omega)
      obtain ⟨y, hy⟩ : ∃ y : Nat, y = z % 9223372036854775808 := ⟨_, rfl⟩
      rw [← hy] at han hzm
      have HY := Lib.hid hy
      clear hy
      go_wp2_with fail
      go_ret
      refine ⟨y, ?_, hzm, ?_, hu⟩
      · show _ = _
        rw [HY.out, HZ.out, numN, HHH.out]
      · first | rfl | (rw [han]) | trace_state

def MkN (m v : Nat) (w : World) (e : Ending) (w' : World) : Prop := ∃ r : Nat, Hid (r = v) ∧ r < m ∧ e = .returned (.int .i64 (r : Int)) ∧ Upd [] [] w w'

theorem gScalar_any (s : ByteArray) (w : World) (hs : s.size ≤ 281474976710000) (htab : Tabs w) :
    Calls Tryz.prog 50 #[.string s] w (MkN 1152921504606845789 (scalN (bs s)) w) := by
  go_enter Tryz.func50, Tryz.ntmps50
  go_wp2_with fail
  refine (number_any _ w (by have : (ByteArray.mk #[115, 47]).size = 2 := rfl; simp [ByteArray.size_append]; omega) htab).mono ?_
  rintro e w1 ⟨r, HR, hr, rfl, hu⟩
  go_wp2_with fail
  refine (residue_any _ _ _ (by omega) (by omega)).mono ?_
  rintro e w2 ⟨x, HX, x0, x1, rfl, rfl⟩
  go_wp2_with fail
  go_ret
  obtain ⟨n, hn⟩ : ∃ n : Nat, x = (n : Int) := ⟨x.toNat, by omega⟩
  subst hn
  refine ⟨n, ?_, by omega, rfl, hu⟩
  show _ = _
  have h1 := HX.out
  have h2 := HR.out
  rw [bs_append] at h2
  have h3 : bs ⟨#[115, 47]⟩ = [115, 47] := rfl
  rw [h3] at h2
  rw [scalN, ← h2]
  omega
end Go.Proofs.YtinpenoeohejoaaGreatDoor

namespace Go.Proofs.YtinpenoeohejoaaGreatDoor
set_option maxRecDepth 100000

theorem g_member : 4 ^ Qn % Pn = 1 := by
  rw [← pmF_eq Pn 64 4 Qn (by decide +kernel)]
  decide +kernel
theorem pn_pos : 0 < Pn := by decide
theorem pn_one : 1 < Pn := by decide
theorem qn_pos : 0 < Qn := by decide

def gP (n : Nat) : Nat := 4 ^ n % Pn
def memN (a : Nat) : Prop := 1 ≤ a ∧ a < Pn ∧ a ^ Qn % Pn = 1

theorem mem_pow {a : Nat} (h : a ^ Qn % Pn = 1) (n : Nat) : memN (a ^ n % Pn) := by
  have e : (a ^ n % Pn) ^ Qn % Pn = 1 := by
    rw [pow_mod_base, ← Nat.pow_mul, Nat.mul_comm, Nat.pow_mul, Nat.pow_mod, h, Nat.one_pow, Nat.mod_eq_of_lt pn_one]
  refine ⟨?_, Nat.mod_lt _ pn_pos, e⟩
  by_cases h0 : a ^ n % Pn = 0
  · rw [h0, Nat.zero_pow qn_pos, Nat.zero_mod] at e
    omega
  · omega
theorem gP_mem (n : Nat) : memN (gP n) := mem_pow g_member n
theorem gP_lt (n : Nat) : gP n < Pn := (gP_mem n).2.1

theorem powZ_cast (a n : Nat) : powZ (a : Int) n 2305843009213691579 = ((a ^ n % Pn : Nat) : Int) := by
  rw [powZ, Int.natCast_emod, Int.natCast_pow]
  rfl
theorem memB_cast (a : Nat) : memB (a : Int) = true ↔ memN a := by
  have hp := powZ_cast a 1152921504606845789
  unfold memB memN
  rw [hp]
  have e1 : (decide (1 ≤ (a : Int)) = true) ↔ 1 ≤ a := by rw [decide_eq_true_iff]; omega
  have e2 : (decide ((a : Int) < 2305843009213691579) = true) ↔ a < Pn := by rw [decide_eq_true_iff]; unfold Pn; omega
  have e3 : (decide (((a ^ 1152921504606845789 % Pn : Nat) : Int) = 1) = true) ↔ a ^ Qn % Pn = 1 := by
    rw [decide_eq_true_iff]
    show ((a ^ Qn % Pn : Nat) : Int) = 1 ↔ _
    omega
  rw [Bool.and_eq_true, Bool.and_eq_true, e1, e2, e3, and_assoc]
theorem memB_pos {a : Int} (h : memB a = true) : ∃ n : Nat, a = (n : Int) ∧ memN n := by
  by_cases h0 : 0 ≤ a
  · obtain ⟨n, rfl⟩ := Int.eq_ofNat_of_zero_le h0
    exact ⟨n, rfl, (memB_cast n).1 h⟩
  · rw [memB_low (by omega)] at h
    cases h

def chalN (r p : Nat) (t : List UInt8) : Nat := scalN ([99] ++ len8 r ++ len8 p ++ t)
def posN (n : Nat) : Nat := if n = 0 then 1 else n
def keyN (seed : List UInt8) : Nat := posN (scalN ([107] ++ seed))
def nonceN (x : Nat) (t : List UInt8) : Nat := posN (scalN ([110] ++ len8 x ++ t))
def sWith (x n : Nat) (t : List UInt8) : Nat := (n + x * chalN (gP n) (gP x) t) % Qn

theorem scalN_lt (s : List UInt8) : scalN s < Qn := Nat.mod_lt _ qn_pos
theorem posN_lt {n : Nat} (h : n < Qn) : posN n < Qn := by
  unfold posN
  split
  · decide
  · exact h
theorem posN_pos (n : Nat) : 0 < posN n := by unfold posN; split <;> omega
theorem sWith_lt (x n : Nat) (t : List UInt8) : sWith x n t < Qn := Nat.mod_lt _ qn_pos
theorem chalN_lt (r p : Nat) (t : List UInt8) : chalN r p t < Qn := scalN_lt _

def verB (p : Int) (t : List UInt8) (r s : Int) : Bool :=
  memB p && memB r && decide (0 ≤ s) && decide (s < 1152921504606845789) && decide (powZ 4 s.toNat 2305843009213691579 = r * powZ p (chalN r.toNat p.toNat t) 2305843009213691579 % 2305843009213691579)

theorem verB_cast (p r s : Nat) (t : List UInt8) : verB (p : Int) t (r : Int) (s : Int) = true ↔ memN p ∧ memN r ∧ s < Qn ∧ gP s = r * p ^ chalN r p t % Pn := by
  unfold verB
  have e3 : (decide (0 ≤ (s : Int)) = true) := by rw [decide_eq_true_iff]; omega
  have e4 : (decide ((s : Int) < 1152921504606845789) = true) ↔ s < Qn := by rw [decide_eq_true_iff]; unfold Qn; omega
  have e5 : (r : Int) * ((p ^ chalN r p t % Pn : Nat) : Int) % 2305843009213691579 = ((r * p ^ chalN r p t % Pn : Nat) : Int) := by
    rw [← Int.natCast_mul]
    show ((r * (p ^ chalN r p t % Pn) : Nat) : Int) % ((Pn : Nat) : Int) = _
    rw [← Int.natCast_emod, Nat.mul_mod_mod]
  have e6 : powZ 4 s 2305843009213691579 = ((gP s : Nat) : Int) := powZ_cast 4 s
  rw [Bool.and_eq_true, Bool.and_eq_true, Bool.and_eq_true, Bool.and_eq_true, e4, memB_cast, memB_cast, Int.toNat_natCast, Int.toNat_natCast, Int.toNat_natCast, powZ_cast, e5, e6]
  constructor
  · rintro ⟨⟨⟨⟨h1, h2⟩, _⟩, h4⟩, h5⟩
    exact ⟨h1, h2, h4, by rw [decide_eq_true_iff] at h5; exact_mod_cast h5⟩
  · rintro ⟨h1, h2, h4, h5⟩
    exact ⟨⟨⟨⟨h1, h2⟩, e3⟩, h4⟩, by rw [decide_eq_true_iff, h5]⟩

theorem ver_with (x n : Nat) (t : List UInt8) : verB (gP x : Int) t (gP n : Int) (sWith x n t : Int) = true := by
  rw [verB_cast]
  refine ⟨gP_mem x, gP_mem n, sWith_lt x n t, ?_⟩
  unfold sWith
  generalize chalN (gP n) (gP x) t = c
  unfold gP
  rw [← pow_red g_member, Nat.mod_mul_mod, Nat.mul_mod, pow_mod_base, ← Nat.pow_mul, ← Nat.mul_mod, ← Nat.pow_add]

theorem ver_two {p r s : Nat} {t u : List UInt8} (h : verB (p : Int) t (r : Int) (s : Int) = true) (h' : verB (p : Int) u (r : Int) (s : Int) = true) : chalN r p t = chalN r p u ∨ p = 1 := by
  rw [verB_cast] at h h'
  obtain ⟨⟨p1, p2, p3⟩, ⟨r1, r2, r3⟩, _, e1⟩ := h
  obtain ⟨_, _, _, e2⟩ := h'
  by_cases hp : p = 1
  · exact .inr hp
  · left
    refine pow_inj p3 (by rw [Nat.mod_eq_of_lt p2]; exact hp) (chalN_lt _ _ _) (chalN_lt _ _ _) ?_
    exact cancel (no_dvd r3) (e1.symm.trans e2)

end Go.Proofs.YtinpenoeohejoaaGreatDoor

namespace Go.Proofs.YtinpenoeohejoaaGreatDoor
open Go.RowKit
set_option maxRecDepth 100000

def MkS (l : List UInt8) (w : World) (e : Ending) (w' : World) : Prop := ∃ r : ByteArray, Hid (bs r = l) ∧ r.size ≤ l.length ∧ e = .returned (.string r) ∧ Upd [] [] w w'
theorem bs_size {r : ByteArray} {l : List UInt8} (h : bs r = l) : r.size = l.length := by rw [← h, bs_length]

theorem bytes_any (n : Nat) (w : World) (_hn : n ≤ 9223372036854775807) : Calls Tryz.prog 89 #[.int .i64 (n : Int)] w (MkS (len8 n) w) := by
  have hw1 : (w.alloc (.cells (byteVals (List.replicate 8 0)).toArray 204)).heap[w.heap.size]? = some (.cells (byteVals (List.replicate 8 0)).toArray 204 (0, 0)) := heap_alloc_new _ _
  have hu1 : Upd [] [] w (w.alloc (.cells (byteVals (List.replicate 8 0)).toArray 204)) := (Upd.refl _ _).alloc _
  have HW1 := Lib.hid hw1
  clear hw1
  go_enter Tryz.func89, Tryz.ntmps89
  go_wp2_with fail
  go_loopw [5] (fun i wr => ∃ k : Nat, i = .int .i64 (k : Int) ∧ k ≤ 8 ∧ Hid (wr.heap[w.heap.size]? = some (.cells (byteVals ((len8 n).take k ++ List.replicate (8 - k) 0)).toArray 204 (0, 0))) ∧ Upd [] [] w wr) (fun i _ => 8 - (intOf i).toNat)
  case atStart => exact ⟨0, rfl, Nat.zero_le _, HW1.out, hu1⟩
  case round =>
    clear HW1 hu1
    obtain ⟨k, rfl, hk, HR, hu⟩ := hrel
    by_cases hlt : k < 8
    · have q1 : ∃ v0, wr.cell? ⟨w.heap.size, k, none⟩ = some v0 := by
        rw [cell_of_row wr w.heap.size k _ _ _ HR.out]
        exact ⟨_, Array.getElem?_eq_getElem (by simp [byteVals, len8]; omega)⟩
      obtain ⟨v0, q1⟩ := q1
      have q2 : wr.frozen? ⟨w.heap.size, k, none⟩ = false := frozen_of_row wr w.heap.size k _ _ HR.out
      have h3 := heap_setCell_same wr w.heap.size k _ _ (byteV (UInt8.ofNat (n / 2 ^ (8 * (7 - k))))) HR.out
      rw [len8_step n k hlt] at h3
      have H3 := Lib.hid h3
      have HU3 := Lib.hid (hu.setNew (p := ⟨w.heap.size, k, none⟩) (Nat.le_refl _) (byteV (UInt8.ofNat (n / 2 ^ (8 * (7 - k))))))
      clear h3
      have hk8 : 56 - 8 * k = 8 * (7 - k) := by omega
      go_wp2_with fail
      go_roundw
      case rel => exact ⟨k + 1, by go_num, by omega, by rw [len8_val]; exact H3.out, by rw [len8_val]; exact HU3.out⟩
      case measure => simp [intOf]; omega
    · obtain rfl : k = 8 := by omega
      have hR := HR.out
      rw [List.take_of_length_le (by rw [len8_length]; omega)] at hR
      simp only [Nat.sub_self, List.replicate_zero, List.append_nil] at hR
      have hcv := conv_bytes (P := Tryz.prog) wr 86 9 5 Tryz.underlying86 Tryz.underlying5 Tryz.underlying9 w.heap.size _ _ _ hR (len8 n) (by rw [List.take_of_length_le (by simp [byteVals])]) 0 8 8 (by rw [len8_length]; omega)
      have HCV := Lib.hid hcv
      clear hcv hR
      go_wp2_with fail
      rw [HCV.out]
      go_wp2_with fail
      go_ret
      refine ⟨⟨(len8 n).toArray⟩, rfl, ?_, ?_, hu⟩
      · exact Nat.le_refl _
      · rw [List.take_of_length_le (by rw [len8_length]; omega)]
        rfl

theorem positive_any (n : Nat) (w : World) : Calls Tryz.prog 22 #[.int .i64 (n : Int)] w (Ret (.int .i64 (posN n : Int)) w) := by
  by_cases h : n = 0
  · subst h
    go_enter Tryz.func22, Tryz.ntmps22
    go_wp2_with fail
    go_ret
    exact ⟨rfl, rfl⟩
  · have hp : posN n = n := by simp [posN, h]
    have HP := Lib.hid hp
    have h1 : 0 < n := by omega
    clear h hp
    go_enter Tryz.func22, Tryz.ntmps22
    go_wp2_with fail
    go_ret
    exact ⟨by rw [HP.out]; rfl, rfl⟩

theorem power_any (n : Nat) (w : World) (hn : n ≤ 9223372036854775807) : Calls Tryz.prog 24 #[.int .i64 (n : Int)] w (MkN 2305843009213691579 (gP n) w) := by
  go_enter Tryz.func24, Tryz.ntmps24
  go_wp2_with fail
  refine (pow_any 4 2305843009213691579 n w (by omega) hn (by omega)).mono ?_
  rintro e w1 ⟨r, HR, r0, r1, rfl, hu⟩
  obtain ⟨m, rfl⟩ : ∃ m : Nat, r = (m : Int) := ⟨r.toNat, by omega⟩
  go_wp2_with fail
  go_ret
  refine ⟨m, ?_, by omega, rfl, hu⟩
  show _ = _
  have h := HR.out
  have h2 : powZ 4 n 2305843009213691579 = ((gP n : Nat) : Int) := powZ_cast 4 n
  rw [h2] at h
  omega

theorem join_nil (xs : List (List UInt8)) : Lib.join xs [] = xs.flatten := by
  unfold Lib.join
  induction xs with
  | nil => rfl
  | cons x r ih =>
    cases r with
    | nil => simp
    | cons y r => simpa [List.intercalate] using ih

def StrsIn (w : World) (g : Nat) (xs : List ByteArray) : Prop := g < w.heap.size ∧ ∀ (j : Nat) x, xs[j]? = some x → w.cell? ⟨g, 0 + j, none⟩ = some (.string x)

theorem sScalar_any (xs : List ByteArray) (g c : Nat) (w : World) (hx : StrsIn w g xs) (hc : xs.length ≤ c) (hN : xs.length ≤ 1000) (hl : (xs.map bs).flatten.length ≤ 140737488355328) (htab : Tabs w) :
    Calls Tryz.prog 23 #[.slice (some ⟨g, 0, none⟩) xs.length c] w (MkN 1152921504606845789 (scalN (xs.map bs).flatten) w) := by
  have hj : Lib.join (xs.map (·.data.toList)) (ByteArray.mk #[]).data.toList = (xs.map bs).flatten := join_nil _
  have HJ := Lib.hid hj
  have HX := Lib.hid hx
  clear hj hx
  go_enter Tryz.func23, Tryz.ntmps23
  go_wp2_with fail
  refine (Tryz.strings_Join g 0 c xs ⟨#[]⟩ w HX.out.2 HX.out.1 (by omega) hc (by rw [HJ.out]; omega)).mono ?_
  rintro e w1 ⟨rfl, hb⟩
  have hu := upd_of_below hb
  clear hb
  rw [HJ.out]
  obtain ⟨T, hT⟩ : ∃ T : ByteArray, T = ⟨(xs.map bs).flatten.toArray⟩ := ⟨_, rfl⟩
  rw [← hT]
  have hTb : bs T = (xs.map bs).flatten := by rw [hT, bs_mk]
  have hTl : T.size ≤ 140737488355328 := by rw [bs_size hTb]; exact hl
  have HTB := Lib.hid hTb
  clear hT hTb
  go_wp2_with fail
  refine (gScalar_any T w1 (by omega) (htab.upd hu)).mono ?_
  rintro e w2 ⟨r, HR, hr, rfl, hu2⟩
  go_wp2_with fail
  go_ret
  refine ⟨r, ?_, hr, rfl, hu.trans hu2⟩
  show _ = _
  rw [HR.out, HTB.out]

theorem strs2 (w : World) (a b : ByteArray) (t : TypeId) : StrsIn (w.alloc (.cells #[.string a, .string b] t)) w.heap.size [a, b] := by
  refine ⟨by simp, fun j x h => ?_⟩
  rw [cell_of_row _ w.heap.size _ #[.string a, .string b] t (0, 0) (heap_alloc_new _ _)]
  match j, h with
  | 0, h => simp at h; subst h; rfl
  | 1, h => simp at h; subst h; rfl
  | n + 2, h => simp at h
theorem strs3 (w : World) (a b c : ByteArray) (t : TypeId) : StrsIn (w.alloc (.cells #[.string a, .string b, .string c] t)) w.heap.size [a, b, c] := by
  refine ⟨by simp, fun j x h => ?_⟩
  rw [cell_of_row _ w.heap.size _ #[.string a, .string b, .string c] t (0, 0) (heap_alloc_new _ _)]
  match j, h with
  | 0, h => simp at h; subst h; rfl
  | 1, h => simp at h; subst h; rfl
  | 2, h => simp at h; subst h; rfl
  | n + 3, h => simp at h
theorem strs4 (w : World) (a b c d : ByteArray) (t : TypeId) : StrsIn (w.alloc (.cells #[.string a, .string b, .string c, .string d] t)) w.heap.size [a, b, c, d] := by
  refine ⟨by simp, fun j x h => ?_⟩
  rw [cell_of_row _ w.heap.size _ #[.string a, .string b, .string c, .string d] t (0, 0) (heap_alloc_new _ _)]
  match j, h with
  | 0, h => simp at h; subst h; rfl
  | 1, h => simp at h; subst h; rfl
  | 2, h => simp at h; subst h; rfl
  | 3, h => simp at h; subst h; rfl
  | n + 4, h => simp at h

theorem challenge_any (r p : Nat) (t : ByteArray) (w : World) (hr : r ≤ 9223372036854775807) (hp : p ≤ 9223372036854775807) (ht : t.size ≤ 140737488355000) (htab : Tabs w) :
    Calls Tryz.prog 90 #[.int .i64 (r : Int), .int .i64 (p : Int), .string t] w (MkN 1152921504606845789 (chalN r p (bs t)) w) := by
  go_enter Tryz.func90, Tryz.ntmps90
  go_wp2_with fail
  refine (bytes_any r w hr).mono ?_
  rintro e w1 ⟨b1, HB1, b1l, rfl, hu1⟩
  go_wp2_with fail
  refine (bytes_any p w1 hp).mono ?_
  rintro e w2 ⟨b2, HB2, b2l, rfl, hu2⟩
  have hu := hu1.trans hu2
  go_wp2_with fail
  have hst := strs4 w2 ⟨#[99]⟩ b1 b2 t 9
  have hu0 : Upd [] [] w2 (w2.alloc (.cells #[.string ⟨#[99]⟩, .string b1, .string b2, .string t] 9)) := (Upd.refl _ _).alloc _
  have HST := Lib.hid hst
  have HFL : Hid ((([⟨#[99]⟩, b1, b2, t] : List ByteArray).map bs).flatten = [99] ++ len8 r ++ len8 p ++ bs t) := by
    show _ = _
    simp [HB1.out, HB2.out]
    rfl
  clear hst
  refine (sScalar_any [⟨#[99]⟩, b1, b2, t] w2.heap.size _ _ HST.out (by simp) (by simp) (by rw [HFL.out]; simp [bs_length, len8_length]; omega) (htab.upd (hu.trans hu0))).mono ?_
  rintro e w3 ⟨c, HC, hc, rfl, hu3⟩
  go_wp2_with fail
  go_ret
  exact ⟨c, by show _ = _; rw [HC.out, HFL.out, chalN], hc, rfl, (hu.trans hu0).trans hu3⟩
end Go.Proofs.YtinpenoeohejoaaGreatDoor

namespace Go.Proofs.YtinpenoeohejoaaGreatDoor
open Go.RowKit
set_option maxRecDepth 100000

def expN (x : Int) : Nat := (x % 1152921504606845789).toNat
theorem expN_cast (x : Int) : (expN x : Int) = x % 1152921504606845789 := by unfold expN; omega
theorem expN_lt (x : Int) : expN x < 1152921504606845789 := by unfold expN; omega
theorem expN_of {n : Nat} (h : n < Qn) : expN (n : Int) = n := by
  have h' : n < 1152921504606845789 := h
  unfold expN; omega

def MkTwo (m k r s : Nat) (w : World) (e : Ending) (w' : World) : Prop := ∃ a b : Nat, Hid (a = r) ∧ Hid (b = s) ∧ a < m ∧ b < k ∧ e = .returned (.tuple #[.int .i64 (a : Int), .int .i64 (b : Int)]) ∧ Upd [] [] w w'
def MkSig (r s : Nat) (w : World) (e : Ending) (w' : World) : Prop := ∃ a b : Nat, Hid (a = r) ∧ Hid (b = s) ∧ a < 2305843009213691579 ∧ b < 1152921504606845789 ∧ e = .returned (.agg #[.int .i64 (a : Int), .int .i64 (b : Int)]) ∧ Upd [] [] w w'

theorem positive_hid (n : Nat) (w : World) (hn : n < 1152921504606845789) : Calls Tryz.prog 22 #[.int .i64 (n : Int)] w (fun e w' => ∃ r : Nat, Hid (r = posN n) ∧ 0 < r ∧ r < 1152921504606845789 ∧ e = .returned (.int .i64 (r : Int)) ∧ w = w') := by
  refine (positive_any n w).mono ?_
  rintro e w' ⟨rfl, rfl⟩
  exact ⟨_, rfl, posN_pos n, posN_lt hn, rfl, rfl⟩

theorem key_any (s : ByteArray) (w : World) (hs : s.size ≤ 140737488355000) (htab : Tabs w) :
    Calls Tryz.prog 5 #[.string s] w (MkTwo 1152921504606845789 2305843009213691579 (keyN (bs s)) (gP (keyN (bs s))) w) := by
  go_enter Tryz.func5, Tryz.ntmps5
  go_wp2_with fail
  have hst := strs2 w ⟨#[107]⟩ s 9
  have hu0 : Upd [] [] w (w.alloc (.cells #[.string ⟨#[107]⟩, .string s] 9)) := (Upd.refl _ _).alloc _
  have HST := Lib.hid hst
  have HFL : Hid ((([⟨#[107]⟩, s] : List ByteArray).map bs).flatten = [107] ++ bs s) := by
    show _ = _
    simp
    rfl
  clear hst
  refine (sScalar_any [⟨#[107]⟩, s] w.heap.size _ _ HST.out (by simp) (by simp) (by rw [HFL.out]; simp [bs_length]; omega) (htab.upd hu0)).mono ?_
  rintro e w1 ⟨c, HC, hc, rfl, hu1⟩
  go_wp2_with fail
  refine (positive_hid c w1 hc).mono ?_
  rintro e w2 ⟨r, HR, hr0, hr, rfl, rfl⟩
  go_wp2_with fail
  refine (power_any r w1 (by omega)).mono ?_
  rintro e w3 ⟨y, HY, hy, rfl, hu3⟩
  go_wp2_with fail
  go_ret2
  have e1 : r = keyN (bs s) := by
    rw [HR.out, HC.out, HFL.out, keyN]
  exact ⟨r, y, e1, by show _ = _; rw [HY.out, e1], hr, hy, rfl, (hu0.trans hu1).trans hu3⟩

set_option maxHeartbeats 1000000 in
theorem sign_any (x : Int) (t : ByteArray) (w : World) (hx : -9223372036854775808 ≤ x ∧ x ≤ 9223372036854775807) (ht : t.size ≤ 140737488355000) (htab : Tabs w) :
    Calls Tryz.prog 44 #[.int .i64 x, .string t] w (MkSig (gP (nonceN (expN x) (bs t))) (sWith (expN x) (nonceN (expN x) (bs t)) (bs t)) w) := by
  obtain ⟨X, hX⟩ : ∃ X, X = expN x := ⟨_, rfl⟩
  have hXl := expN_lt x
  rw [← hX] at hXl
  rw [← hX]
  have HX := Lib.hid hX
  clear hX
  go_enter Tryz.func44, Tryz.ntmps44
  go_wp2_with fail
  have hu0 : Upd [] [] w (w.alloc (.cells #[.int .i64 0, .int .i64 0] 39)) := (Upd.refl _ _).alloc _
  refine (add_any x 0 1152921504606845789 _ hx (by omega) (by omega)).mono ?_
  rintro e w1 ⟨x1, HX1, x10, x11, rfl, rfl⟩
  have hx2 : x1 = (X : Int) := by rw [HX1.out, HX.out, expN_cast, Int.add_zero]
  subst hx2
  have hc0 : (w.alloc (.cells #[.int .i64 0, .int .i64 0] 39)).heap[w.heap.size]? = some (.cells #[.int .i64 0, .int .i64 0] 39 (0, 0)) := heap_alloc_new _ _
  have HC0 := Lib.hid hc0
  clear hc0 HX1
  have hg : w.heap.size < (w.alloc (.cells #[.int .i64 0, .int .i64 0] 39)).heap.size := by simp
  generalize w.alloc (.cells #[.int .i64 0, .int .i64 0] 39) = w1 at *
  go_wp2_with fail
  refine (bytes_any X w1 (by omega)).mono ?_
  rintro e w2 ⟨b1, HB1, b1l, rfl, hu2⟩
  go_wp2_with fail
  have hst := strs3 w2 ⟨#[110]⟩ b1 t 9
  have hu3 : Upd [] [] w2 (w2.alloc (.cells #[.string ⟨#[110]⟩, .string b1, .string t] 9)) := (Upd.refl _ _).alloc _
  have HST := Lib.hid hst
  have HFL : Hid ((([⟨#[110]⟩, b1, t] : List ByteArray).map bs).flatten = [110] ++ len8 X ++ bs t) := by
    show _ = _
    simp [HB1.out]
    rfl
  clear hst
  refine (sScalar_any [⟨#[110]⟩, b1, t] w2.heap.size _ _ HST.out (by simp) (by simp) (by rw [HFL.out]; simp [bs_length, len8_length]; omega) (htab.upd (hu0.trans (hu2.trans hu3)))).mono ?_
  rintro e w4 ⟨c, HC, hc, rfl, hu4⟩
  go_wp2_with fail
  refine (positive_hid c w4 hc).mono ?_
  rintro e w5 ⟨n, HN, hn0, hn, rfl, rfl⟩
  have hnn : n = nonceN X (bs t) := by rw [HN.out, HC.out, HFL.out, nonceN]
  have HNN := Lib.hid hnn
  clear hnn
  go_wp2_with fail
  refine (power_any n w4 (by omega)).mono ?_
  rintro e w6 ⟨r, HR, hr, rfl, hu6⟩
  go_wp2_with fail
  refine (power_any X w6 (by omega)).mono ?_
  rintro e w7 ⟨y, HY, hy, rfl, hu7⟩
  have hu8 := ((hu2.trans hu3).trans hu4).trans (hu6.trans hu7)
  go_wp2_with fail
  refine (challenge_any r y t w7 (by omega) (by omega) ht (htab.upd (hu0.trans hu8))).mono ?_
  rintro e w9 ⟨c2, HC2, hc2, rfl, hu9⟩
  have hu10 := hu8.trans hu9
  go_wp2_with fail
  refine (mul_any _ _ _ _ (by omega) (by omega) (by omega)).mono ?_
  rintro e w10 ⟨m1, HM1, m10, m11, rfl, rfl⟩
  go_wp2_with fail
  refine (add_any _ _ _ _ (by omega) (by omega) (by omega)).mono ?_
  rintro e w10 ⟨m2, HM2, m20, m21, rfl, rfl⟩
  obtain ⟨s, rfl⟩ : ∃ s : Nat, m2 = (s : Int) := ⟨m2.toNat, by omega⟩
  have hc9 : w9.heap[w.heap.size]? = some (.cells #[.int .i64 0, .int .i64 0] 39 (0, 0)) := by rw [hu10.block _ hg (by simp)]; exact HC0.out
  have k0 : w9.cell? ⟨w.heap.size, 0, none⟩ = some (.int .i64 0) := by rw [cell_of_row _ _ _ _ _ _ hc9]; rfl
  have k1 : w9.cell? ⟨w.heap.size, 1, none⟩ = some (.int .i64 0) := by rw [cell_of_row _ _ _ _ _ _ hc9]; rfl
  have f0 : w9.frozen? ⟨w.heap.size, 0, none⟩ = false := frozen_of_row _ _ _ _ _ hc9
  have f1 : w9.frozen? ⟨w.heap.size, 1, none⟩ = false := frozen_of_row _ _ _ _ _ hc9
  clear hc9
  go_wp2_with fail
  refine bodyPost_ret (v := .agg #[.int .i64 (r : Int), .int .i64 (s : Int)]) (by simp [results, Tryz.results44, go_sem, k0, k1]) rfl ⟨r, s, ?_, ?_, hr, by omega, rfl, ?_⟩
  · show _ = _
    rw [HR.out, HNN.out]
  · show _ = _
    have h2 := HM2.out
    rw [HM1.out, HC2.out, HR.out, HY.out, HNN.out] at h2
    rw [Int.add_emod_emod] at h2
    rw [sWith]
    have h3 : ((s : Nat) : Int) = (((nonceN X (bs t) + X * chalN (gP (nonceN X (bs t))) (gP X) (bs t)) % Qn : Nat) : Int) := by
      rw [h2]; simp [Qn]
    omega
  · exact ((hu0.trans hu10).setNew (p := ⟨_, _, none⟩) (Nat.le_refl _) _).setNew (p := ⟨_, _, none⟩) (Nat.le_refl _) _

theorem member_is (a : Int) (b : Bool) (w : World) (ha : -9223372036854775808 ≤ a ∧ a ≤ 9223372036854775807) (h : memB a = b) :
    Calls Tryz.prog 155 #[.int .i64 a] w (fun e w' => e = .returned (.bool b) ∧ Upd [] [] w w') := by
  refine (member_any a w ha).mono ?_
  rintro e w' ⟨r, HR, rfl, hu⟩
  exact ⟨by rw [HR.out, h], hu⟩

structure SigAt (w wp : World) (r s : Int) : Prop where
  up : Upd [] [] w wp
  row : wp.heap[w.heap.size]? = some (.cells #[.int .i64 r, .int .i64 s] 39 (0, 0))
theorem SigAt.start (w : World) (r s : Int) : SigAt w (w.alloc (.cells #[.int .i64 r, .int .i64 s] 39)) r s := ⟨(Upd.refl _ _).alloc _, heap_alloc_new _ _⟩
theorem SigAt.upd {w wp wq : World} {r s : Int} (h : SigAt w wp r s) (u : Upd [] [] wp wq) : SigAt w wq r s :=
  ⟨h.up.trans u, by rw [u.block _ (Array.getElem?_eq_some_iff.1 h.row).1 (by simp)]; exact h.row⟩
theorem SigAt.cells {w wp : World} {r s : Int} (h : SigAt w wp r s) : wp.cell? ⟨w.heap.size, 0, none⟩ = some (.int .i64 r) ∧ wp.cell? ⟨w.heap.size, 1, none⟩ = some (.int .i64 s) :=
  ⟨by rw [cell_of_row _ _ _ _ _ _ h.row]; rfl, by rw [cell_of_row _ _ _ _ _ _ h.row]; rfl⟩

set_option maxHeartbeats 1000000 in
theorem verify_any (p : Int) (t : ByteArray) (r s : Int) (w : World) (hp : -9223372036854775808 ≤ p ∧ p ≤ 9223372036854775807) (hr : -9223372036854775808 ≤ r ∧ r ≤ 9223372036854775807) (hs : -9223372036854775808 ≤ s ∧ s ≤ 9223372036854775807) (ht : t.size ≤ 140737488355000) (htab : Tabs w) :
    Calls Tryz.prog 118 #[.int .i64 p, .string t, .agg #[.int .i64 r, .int .i64 s]] w (MkB (verB p (bs t) r s) w) := by
  have hu0 : Upd [] [] w (w.alloc (.cells #[.int .i64 r, .int .i64 s] 39)) := (Upd.refl _ _).alloc _
  have hc0 : (w.alloc (.cells #[.int .i64 r, .int .i64 s] 39)).heap[w.heap.size]? = some (.cells #[.int .i64 r, .int .i64 s] 39 (0, 0)) := heap_alloc_new _ _
  have HC0 := Lib.hid hc0
  clear hc0
  have hg : w.heap.size < (w.alloc (.cells #[.int .i64 r, .int .i64 s] 39)).heap.size := by simp
  cases hm1 : memB p with
  | false =>
    have HV : Hid (verB p (bs t) r s = false) := by show _ = _; simp [verB, hm1]
    have HM1 := Lib.hid hm1
    clear hm1
    go_enter Tryz.func118, Tryz.ntmps118
    go_wp2_with fail
    refine (member_is p false _ hp HM1.out).mono ?_
    rintro e w1 ⟨rfl, hu1⟩
    go_wp2_with fail
    go_ret
    exact ⟨_, HV.out.symm, rfl, hu0.trans hu1⟩
  | true =>
  have HM1 := Lib.hid hm1
  cases hm2 : memB r with
  | false =>
    have HV : Hid (verB p (bs t) r s = false) := by show _ = _; simp [verB, hm2]
    have HM2 := Lib.hid hm2
    clear hm1 hm2
    go_enter Tryz.func118, Tryz.ntmps118
    go_wp2_with fail
    refine (member_is p true _ hp HM1.out).mono ?_
    rintro e w1 ⟨rfl, hu1⟩
    have hc1 : w1.heap[w.heap.size]? = some (.cells #[.int .i64 r, .int .i64 s] 39 (0, 0)) := by rw [hu1.block _ hg (by simp)]; exact HC0.out
    have k0 : w1.cell? ⟨w.heap.size, 0, none⟩ = some (.int .i64 r) := by rw [cell_of_row _ _ _ _ _ _ hc1]; rfl
    clear hc1
    go_wp2_with fail
    refine (member_is r false _ hr HM2.out).mono ?_
    rintro e w2 ⟨rfl, hu2⟩
    go_wp2_with fail
    go_ret
    exact ⟨_, HV.out.symm, rfl, (hu0.trans hu1).trans hu2⟩
  | true =>
  obtain ⟨P, rfl, hP⟩ := memB_pos hm1
  obtain ⟨R, rfl, hR⟩ := memB_pos hm2
  have HM2 := Lib.hid hm2
  clear hm1 hm2
  have hP2 : P < 2305843009213691579 := hP.2.1
  have hR2 : R < 2305843009213691579 := hR.2.1
  have HPR := Lib.hid (And.intro hP hR)
  clear hP hR
  by_cases hs0 : s < 0
  · have HV : Hid (verB (P : Int) (bs t) (R : Int) s = false) := by
      show _ = _
      have : decide (0 ≤ s) = false := by rw [decide_eq_false_iff_not]; omega
      simp [verB, this]
    go_enter Tryz.func118, Tryz.ntmps118
    go_wp2_with fail
    refine (member_is P true _ hp HM1.out).mono ?_
    rintro e w1 ⟨rfl, hu1⟩
    have h1 := (SigAt.start w R s).upd hu1
    obtain ⟨k0, k1⟩ := h1.cells
    go_wp2_with fail
    refine (member_is R true _ hr HM2.out).mono ?_
    rintro e w2 ⟨rfl, hu2⟩
    have h2 := h1.upd hu2
    clear h1 k0 k1
    obtain ⟨k0, k1⟩ := h2.cells
    go_wp2_with fail
    go_ret
    exact ⟨_, HV.out.symm, rfl, h2.up⟩
  by_cases hs1 : 1152921504606845788 < s
  · have HV : Hid (verB (P : Int) (bs t) (R : Int) s = false) := by
      show _ = _
      have : decide (s < 1152921504606845789) = false := by rw [decide_eq_false_iff_not]; omega
      simp [verB, this]
    go_enter Tryz.func118, Tryz.ntmps118
    go_wp2_with fail
    refine (member_is P true _ hp HM1.out).mono ?_
    rintro e w1 ⟨rfl, hu1⟩
    have h1 := (SigAt.start w R s).upd hu1
    obtain ⟨k0, k1⟩ := h1.cells
    go_wp2_with fail
    refine (member_is R true _ hr HM2.out).mono ?_
    rintro e w2 ⟨rfl, hu2⟩
    have h2 := h1.upd hu2
    clear h1 k0 k1
    obtain ⟨k0, k1⟩ := h2.cells
    go_wp2_with fail
    go_ret
    exact ⟨_, HV.out.symm, rfl, h2.up⟩
  obtain ⟨T, rfl⟩ : ∃ T : Nat, s = (T : Int) := ⟨s.toNat, by omega⟩
  go_enter Tryz.func118, Tryz.ntmps118
  go_wp2_with fail
  refine (member_is P true _ hp HM1.out).mono ?_
  rintro e w1 ⟨rfl, hu1⟩
  have h1 := (SigAt.start w R T).upd hu1
  obtain ⟨k0, k1⟩ := h1.cells
  go_wp2_with fail
  refine (member_is R true _ hr HM2.out).mono ?_
  rintro e w2 ⟨rfl, hu2⟩
  have h2 := h1.upd hu2
  clear h1 k0 k1
  obtain ⟨k0, k1⟩ := h2.cells
  go_wp2_with fail
  refine (challenge_any R P t w2 (by omega) (by omega) ht (htab.upd h2.up)).mono ?_
  rintro e w3 ⟨c, HC, hc, rfl, hu3⟩
  have h3 := h2.upd hu3
  clear h2 k0 k1
  have h4 := h3.upd (Upd.refl _ _).drew
  have k4 := h4.cells
  go_wp2_with fail
  clear h3 HC0
  go_region_held3 (fun wp => wp.cell? ⟨w.heap.size, 0, none⟩ = some (.int .i64 (R : Int)) ∧ wp.cell? ⟨w.heap.size, 1, none⟩ = some (.int .i64 (T : Int))) (first | exact k4 | assumption)
    (first
      | (go_at_call 24; ((with_reducible refine (power_any T _ (by omega)).mono ?_); rintro e wq ⟨y1, HY1, hy1, rfl, hq⟩; have g1 := h4.upd hq; have kq := g1.cells; clear hq))
      | (go_at_call 51; ((with_reducible refine (pow_any P 2305843009213691579 c _ (by omega) (by omega) (by omega)).mono ?_); rintro e wq ⟨y2, HY2, y20, y21, rfl, hq⟩; have g2 := g1.upd hq; have kq := g2.cells; clear hq))
      | (go_at_call 91; ((with_reducible refine (mul_any R y2 2305843009213691579 _ (by omega) (by omega) (by omega)).mono ?_); rintro e wq ⟨y3, HY3, y30, y31, rfl, rfl⟩)))
  go_wp2_with fail
  go_ret
  refine ⟨_, ?_, rfl, g2.up⟩
  show _ = _
  have e1 := HY3.out
  rw [HY2.out, HC.out] at e1
  have e2 : powZ 4 T 2305843009213691579 = ((gP T : Nat) : Int) := powZ_cast 4 T
  have e3 : decide (0 ≤ (T : Int)) = true := by rw [decide_eq_true_iff]; omega
  have e4 : decide ((T : Int) < 1152921504606845789) = true := by rw [decide_eq_true_iff]; omega
  unfold verB
  rw [HM1.out, HM2.out, e3, e4, Int.toNat_natCast, Int.toNat_natCast, Int.toNat_natCast, e2, ← e1, ← HY1.out]
  rfl
end Go.Proofs.YtinpenoeohejoaaGreatDoor

namespace Go.Proofs.YtinpenoeohejoaaGreatDoor
set_option maxRecDepth 100000
open Go

theorem parse_snoc (c : UInt8) (d : Nat) (hc : c.toNat = 48 + d) (hd : d < 10) : ∀ (l : List UInt8) (acc v : Nat), Lib.parseUint10 acc l = .ok v → v < 1844674407370955162 → v * 10 + d < 18446744073709551616 → Lib.parseUint10 acc (l ++ [c]) = .ok (v * 10 + d)
  | [], acc, v, h, h1, h2 => by
    simp only [Lib.parseUint10] at h
    injection h with h
    subst h
    simp only [List.nil_append, Lib.parseUint10]
    rw [if_pos (by omega), if_neg (by omega), if_neg (by omega), show c.toNat - 48 = d by omega]
  | x :: r, acc, v, h, h1, h2 => by
    simp only [List.cons_append, Lib.parseUint10] at h ⊢
    split at h
    · rename_i hx
      rw [if_pos hx]
      split at h
      · cases h
      · rename_i hy
        rw [if_neg hy]
        split at h
        · cases h
        · rename_i hz
          rw [if_neg hz]
          exact parse_snoc c d hc hd r _ v h h1 h2
    · cases h

theorem digit_toNat {d : Nat} (h : d < 10) : (UInt8.ofNat (48 + d)).toNat = 48 + d := by
  rw [UInt8.toNat_ofNat']; omega

theorem parse_dec : ∀ u : Nat, u < 18446744073709551616 → Lib.parseUint10 0 (Lib.decDigits u) = .ok u := by
  intro u
  induction u using Nat.strongRecOn with
  | ind u ih =>
    intro hu
    rw [Lib.decDigits]
    by_cases h : u < 10
    · rw [dif_pos h]
      simp only [Lib.parseUint10]
      rw [digit_toNat h, if_pos (by omega), if_neg (by omega), if_neg (by omega)]
      congr 1
      omega
    · rw [dif_neg h]
      have := parse_snoc _ (u % 10) (digit_toNat (by omega)) (by omega) (Lib.decDigits (u / 10)) 0 (u / 10) (ih (u / 10) (by omega) (by omega)) (by omega) (by omega)
      rw [this]
      congr 1
      omega

theorem dec_digits : ∀ (u : Nat), ∀ c ∈ Lib.decDigits u, 48 ≤ c.toNat ∧ c.toNat ≤ 57 := by
  intro u
  induction u using Nat.strongRecOn with
  | ind u ih =>
    intro c hc
    rw [Lib.decDigits] at hc
    by_cases h : u < 10
    · rw [dif_pos h] at hc
      simp only [List.mem_singleton] at hc
      subst hc
      rw [digit_toNat h]; omega
    · rw [dif_neg h] at hc
      simp only [List.mem_append, List.mem_singleton] at hc
      rcases hc with hc | hc
      · exact ih (u / 10) (by omega) c hc
      · subst hc
        rw [digit_toNat (by omega)]; omega

theorem dec_ne (u : Nat) : Lib.decDigits u ≠ [] := by
  rw [Lib.decDigits]
  split <;> simp

def i64in (n : Int) : Prop := -9223372036854775808 ≤ n ∧ n ≤ 9223372036854775807

theorem atoi_itoa (n : Int) (h : i64in n) : Lib.atoiAll (Lib.itoa n) = .ok n := by
  unfold i64in at h
  unfold Lib.itoa
  split
  · rename_i hn
    rw [Lib.atoiAll_minus, Lib.parseMag, if_neg (dec_ne _), parse_dec _ (by omega), Lib.signed, if_neg (by omega)]
    congr 1
    omega
  · rename_i hn
    obtain ⟨c, r, hcr⟩ : ∃ c r, Lib.decDigits n.toNat = c :: r := by
      cases hd : Lib.decDigits n.toNat with
      | nil => exact absurd hd (dec_ne _)
      | cons c r => exact ⟨c, r, rfl⟩
    have hc := dec_digits n.toNat c (by rw [hcr]; simp)
    rw [hcr, Lib.atoiAll_plain c r (by omega) (by omega), ← hcr, Lib.parseMag, if_neg (dec_ne _), parse_dec _ (by omega), Lib.signless, if_neg (by omega)]
    congr 1
    omega

theorem itoa_inj {a b : Int} (ha : i64in a) (hb : i64in b) (h : Lib.itoa a = Lib.itoa b) : a = b := by
  have h1 := atoi_itoa a ha
  rw [h, atoi_itoa b hb] at h1
  injection h1 with h1
  exact h1.symm

theorem itoa_no46 (n : Int) : (46 : UInt8) ∉ Lib.itoa n := by
  intro h
  unfold Lib.itoa at h
  split at h
  · simp only [List.mem_cons] at h
    rcases h with h | h
    · cases h
    · have := dec_digits _ _ h
      have e : (46 : UInt8).toNat = 46 := rfl
      omega
  · have := dec_digits _ _ h
    have e : (46 : UInt8).toNat = 46 := rfl
    omega

theorem dec_len : ∀ (k u : Nat), u < 10 ^ (k + 1) → (Lib.decDigits u).length ≤ k + 1
  | 0, u, h => by
    rw [Lib.decDigits, dif_pos (by simpa using h)]; simp
  | k + 1, u, h => by
    rw [Lib.decDigits]
    split
    · simp
    · have := dec_len k (u / 10) (by rw [Nat.pow_succ] at h; omega)
      simp; omega

theorem itoa_len (n : Int) (h : i64in n) : (Lib.itoa n).length ≤ 20 := by
  unfold i64in at h
  unfold Lib.itoa
  have e : (10 : Nat) ^ 19 = 10000000000000000000 := by decide
  split
  · have := dec_len 18 n.natAbs (by rw [e]; omega)
    simp; omega
  · have := dec_len 18 n.toNat (by rw [e]; omega)
    omega

theorem index_hit1 (c : UInt8) : ∀ (a b : List UInt8), c ∉ a → Lib.index (a ++ c :: b) [c] = (a.length : Int)
  | [], b, _ => by simp [Lib.index]
  | x :: a, b, h => by
    have hx : c ≠ x := fun e => h (by simp [e])
    have ih := index_hit1 c a b (fun e => h (by simp [e]))
    simp only [List.cons_append, Lib.index]
    rw [ih]
    have h1 : ([c] : List UInt8).isPrefixOf (x :: (a ++ c :: b)) = false := by simp [List.isPrefixOf, hx]
    have h2 : ((a.length : Int) == -1) = false := by rw [beq_eq_false_iff_ne]; omega
    rw [h1, h2]
    simp
theorem cut_hit (c : UInt8) (a b : List UInt8) (h : c ∉ a) : Lib.cut (a ++ c :: b) [c] = (a, b, true) := by
  unfold Lib.cut
  rw [index_hit1 c a b h, if_pos (by omega), Int.toNat_natCast]
  have h1 : (a ++ c :: b).take a.length = a := List.take_left
  have h2 : (a ++ c :: b).drop (a.length + [c].length) = b := by
    rw [show a ++ c :: b = (a ++ [c]) ++ b by simp, show a.length + [c].length = (a ++ [c]).length by simp]
    exact List.drop_left
  rw [h1, h2]
def pairL (a b : Int) : List UInt8 := Lib.itoa a ++ [46] ++ Lib.itoa b
theorem pairL_len {a b : Int} (ha : i64in a) (hb : i64in b) : (pairL a b).length ≤ 41 := by
  have := itoa_len a ha
  have := itoa_len b hb
  simp [pairL]; omega
theorem pairL_cut (a b : Int) : Lib.cut (pairL a b) [46] = (Lib.itoa a, Lib.itoa b, true) := by
  have : pairL a b = Lib.itoa a ++ 46 :: Lib.itoa b := by simp [pairL]
  rw [this, cut_hit 46 _ _ (itoa_no46 a)]
theorem pairL_inj {a b c d : Int} (ha : i64in a) (hb : i64in b) (hc : i64in c) (hd : i64in d) (h : pairL a b = pairL c d) : a = c ∧ b = d := by
  have h1 := pairL_cut a b
  rw [h, pairL_cut c d] at h1
  simp only [Prod.mk.injEq, and_true] at h1
  exact ⟨itoa_inj ha hc h1.1.symm, itoa_inj hb hd h1.2.symm⟩

def readL (l : List UInt8) : Option (Int × Int) :=
  match Lib.atoiAll (Lib.cut l [46]).1, Lib.atoiAll (Lib.cut l [46]).2.1 with
  | .ok a, .ok b => if pairL a b = l then some (a, b) else none
  | _, _ => none

theorem readL_pair {a b : Int} (ha : i64in a) (hb : i64in b) : readL (pairL a b) = some (a, b) := by
  unfold readL
  rw [pairL_cut, atoi_itoa a ha, atoi_itoa b hb]
  simp
def readV (l : List UInt8) : Int × Int × Bool := match readL l with | some (a, b) => (a, b, true) | none => (0, 0, false)
end Go.Proofs.YtinpenoeohejoaaGreatDoor

namespace Go.Proofs.YtinpenoeohejoaaGreatDoor
open Go.RowKit
set_option maxRecDepth 100000

theorem upd_grow (os : Array Obj) (w : World) : Upd [] [] w (Go.Sort.grow w os) :=
  ⟨rfl, rfl, rfl, by simp [Go.Sort.grow], fun k hk _ => by simp [Go.Sort.grow, Array.getElem?_append, hk], fun _ hk => absurd hk (by simp)⟩

theorem itoa_any (n : Int) (w : World) (hn : i64in n) (htab : Tabs w) : Calls Tryz.prog 27 #[.int .i64 n] w (MkS (Lib.itoa n) w) := by
  refine (Tryz.strconv_Itoa n hn.1 hn.2 w htab.p).mono ?_
  rintro e w' ⟨rfl, k, os, rfl⟩
  exact ⟨⟨(Lib.itoa n).toArray⟩, rfl, Nat.le_refl _, rfl, ((Upd.refl [] w).drewN k).trans (upd_grow os _)⟩

set_option maxHeartbeats 1000000 in
theorem text_any (r s : Int) (w : World) (hr : i64in r) (hs : i64in s) (htab : Tabs w) : Calls Tryz.prog 39 #[.agg #[.int .i64 r, .int .i64 s]] w (MkS (pairL r s) w) := by
  have h1 := SigAt.start w r s
  have h4 := h1.upd (Upd.refl _ _).drew
  have k4 := h4.cells
  have hlr := itoa_len r hr
  have hls := itoa_len s hs
  go_enter Tryz.func39, Tryz.ntmps39
  go_wp2_with fail
  clear h1
  go_region_held3 (fun wp => wp.cell? ⟨w.heap.size, 0, none⟩ = some (.int .i64 r) ∧ wp.cell? ⟨w.heap.size, 1, none⟩ = some (.int .i64 s)) (first | exact k4 | assumption)
    (first
      | (go_at_call 27; ((with_reducible refine (itoa_any r _ hr (htab.upd h4.up)).mono ?_); rintro e wq ⟨y1, HY1, hy1, rfl, hq⟩; have t1 : ¬ 9223372036854775807 < y1.size + 1 := (by omega); have g1 := h4.upd hq; have kq := g1.cells; clear hq))
      | (go_at_call 27; ((with_reducible refine (itoa_any s _ hs (htab.upd g1.up)).mono ?_); rintro e wq ⟨y2, HY2, hy2, rfl, hq⟩; have t2 : ¬ 9223372036854775807 < y1.size + 1 + y2.size := (by omega); have g2 := g1.upd hq; have kq := g2.cells; clear hq)))
  go_wp2_with fail
  go_ret
  refine ⟨_, ?_, ?_, rfl, g2.up⟩
  · show _ = _
    rw [bs_append, bs_append, HY1.out, HY2.out]
    rfl
  · have e1 := bs_size HY1.out
    have e2 := bs_size HY2.out
    have e3 : (ByteArray.mk #[46]).size = 1 := rfl
    simp [ByteArray.size_append, pairL, e1, e2, e3]
    omega

theorem upd_bytes (w : World) (e : TypeId) (t : ByteArray) : Upd [] [] w (Lib.bytesWorld w e t) := by
  exact upd_of_below (Lib.bytesWorld_below _ _ _)

theorem atoi_ok (s : ByteArray) (v : Int) (w : World) (hs : s.size ≤ 140737488355000) (h : Lib.atoiAll (bs s) = .ok v) :
    Calls Tryz.prog 113 #[.string s] w (fun e w' => e = .returned (.tuple #[.int .i64 v, .nilIface]) ∧ Upd [] [] w w') := by
  refine (Tryz.strconv_Atoi_ok s (by omega) v h w).mono ?_
  rintro e w' ⟨rfl, hw⟩
  refine ⟨rfl, ?_⟩
  rcases hw with rfl | ⟨t, rfl⟩
  · exact Upd.refl _ _
  · exact upd_bytes _ _ _

def AtoiBad (w : World) (e : Ending) (w' : World) : Prop := ∃ (v : Int) (N : Nat), e = .returned (.tuple #[.int .i64 v, .iface 267 (.pointer (some ⟨N, 0, none⟩))]) ∧ i64in v ∧ Upd [] [] w w'
theorem atoi_bad (s : ByteArray) (w : World) (hs : s.size ≤ 140737488355000) (h : ∀ v, Lib.atoiAll (bs s) ≠ .ok v) (htab : Tabs w) :
    Calls Tryz.prog 113 #[.string s] w (AtoiBad w) := by
  cases hq : Lib.atoiAll (bs s) with
  | ok v => exact absurd hq (h v)
  | «syntax» =>
    obtain ⟨tp, p, hv⟩ := htab.es
    refine (Tryz.strconv_Atoi_syntax_var s (by omega) hq tp p w hv).mono ?_
    rintro e w' ⟨N, rfl, _, _, hb⟩
    exact ⟨0, N, rfl, ⟨by omega, by omega⟩, upd_of_below hb⟩
  | range =>
    obtain ⟨tp, p, hv⟩ := htab.er
    refine (Tryz.strconv_Atoi_range_var s (by omega) hq tp p w hv).mono ?_
    rintro e w' ⟨N, rfl, _, _, hb⟩
    refine ⟨_, N, rfl, ?_, upd_of_below hb⟩
    unfold Lib.atoiSat i64in
    split <;> omega

theorem atoi_some (s : ByteArray) (w : World) (hs : s.size ≤ 140737488355000) (htab : Tabs w) :
    Calls Tryz.prog 113 #[.string s] w (fun e w' => ∃ (v : Int) (ev : Value), e = .returned (.tuple #[.int .i64 v, ev]) ∧ i64in v ∧ Upd [] [] w w') := by
  by_cases h : ∃ v, Lib.atoiAll (bs s) = .ok v
  · obtain ⟨v, hv⟩ := h
    exact (atoi_ok s v w hs hv).mono fun e w' ⟨h1, h2⟩ => ⟨v, _, h1, Lib.atoiAll_bounds hv, h2⟩
  · exact (atoi_bad s w hs (fun v e => h ⟨v, e⟩) htab).mono fun e w' ⟨v, N, h1, h2, h3⟩ => ⟨v, _, h1, h2, h3⟩

theorem SigAt.free {w wp : World} {r s : Int} (h : SigAt w wp r s) : wp.frozen? ⟨w.heap.size, 0, none⟩ = false ∧ wp.frozen? ⟨w.heap.size, 1, none⟩ = false :=
  ⟨frozen_of_row _ _ _ _ _ h.row, frozen_of_row _ _ _ _ _ h.row⟩

theorem bs_inj {a b : ByteArray} (h : bs a = bs b) : a = b := by
  cases a; cases b
  simp only [bs, Array.toList_inj] at h
  rw [h]

theorem cutPoint_any (s : ByteArray) (w : World) (hs : s.size ≤ 4000000000) (htab : Tabs w) :
    Calls Tryz.prog 61 #[.string s, .string ⟨#[46]⟩] w (fun e w' => ∃ (l r : ByteArray) (b : Bool), Hid (bs l = (Lib.cut (bs s) [46]).1) ∧ Hid (bs r = (Lib.cut (bs s) [46]).2.1) ∧ l.size ≤ s.size ∧ r.size ≤ s.size ∧ e = .returned (.tuple #[.string l, .string r, .bool b]) ∧ Upd [] [] w w') := by
  obtain ⟨m, hm⟩ := htab.mc
  refine (Tryz.strings_Cut s ⟨#[46]⟩ m w (by omega) hm).mono ?_
  rintro e w' ⟨rfl, n, rfl⟩
  have h : (Lib.cut (bs s) [46]).1.length ≤ s.size ∧ (Lib.cut (bs s) [46]).2.1.length ≤ s.size := by
    unfold Lib.cut
    split
    · simp [bs_length]; omega
    · simp [bs_length]
  exact ⟨⟨(Lib.cut (bs s) [46]).1.toArray⟩, ⟨(Lib.cut (bs s) [46]).2.1.toArray⟩, _, rfl, rfl, h.1, h.2, rfl, (Upd.refl _ _).drewN n⟩

def MkRead (l : List UInt8) (w : World) (e : Ending) (w' : World) : Prop := ∃ (a b : Int) (ok : Bool), Hid (readV l = (a, b, ok)) ∧ i64in a ∧ i64in b ∧ e = .returned (.tuple #[.agg #[.int .i64 a, .int .i64 b], .bool ok]) ∧ Upd [] [] w w'

theorem readV_no1 {l : List UInt8} (h : ∀ v, Lib.atoiAll (Lib.cut l [46]).1 ≠ .ok v) : readV l = (0, 0, false) := by
  have : readL l = none := by
    unfold readL
    split
    · rename_i x y hx hy; exact absurd hx (h x)
    · rfl
  rw [readV, this]
theorem readV_no2 {l : List UInt8} (h : ∀ v, Lib.atoiAll (Lib.cut l [46]).2.1 ≠ .ok v) : readV l = (0, 0, false) := by
  have : readL l = none := by
    unfold readL
    split
    · rename_i x y hx hy; exact absurd hy (h y)
    · rfl
  rw [readV, this]
theorem readV_ok {l : List UInt8} {a b : Int} (h1 : Lib.atoiAll (Lib.cut l [46]).1 = .ok a) (h2 : Lib.atoiAll (Lib.cut l [46]).2.1 = .ok b) : readV l = if pairL a b = l then (a, b, true) else (0, 0, false) := by
  rw [readV, readL, h1, h2]
  dsimp only
  split
  · rename_i x y h
    split at h
    · rename_i hp
      rw [if_pos hp]
      cases h; rfl
    · cases h
  · rename_i h
    split at h
    · cases h
    · rename_i hp
      rw [if_neg hp]

set_option maxHeartbeats 1000000 in
theorem read_any (s : ByteArray) (w : World) (hs : s.size ≤ 4000000000) (htab : Tabs w) : Calls Tryz.prog 197 #[.string s] w (MkRead (bs s) w) := by
  have h1 := SigAt.start w 0 0
  by_cases hl : ∃ v, Lib.atoiAll (Lib.cut (bs s) [46]).1 = .ok v
  case neg =>
    have hl' : ∀ v, Lib.atoiAll (Lib.cut (bs s) [46]).1 ≠ .ok v := fun v e => hl ⟨v, e⟩
    have HL := Lib.hid hl'
    clear hl hl'
    go_enter Tryz.func197, Tryz.ntmps197
    go_wp2_with fail
    refine (cutPoint_any s _ hs (htab.upd h1.up)).mono ?_
    rintro e w2 ⟨l, r, b, HB1, HB2, hl, hr, rfl, hu2⟩
    have h2 := h1.upd hu2
    clear h1
    go_wp2_with fail
    refine (atoi_bad l w2 (by omega) (by rw [HB1.out]; exact HL.out) (htab.upd h2.up)).mono ?_
    rintro e w3 ⟨v1, N1, rfl, hv1, hu3⟩
    have h3 := h2.upd hu3
    clear h2
    go_wp2_with fail
    refine (atoi_some r w3 (by omega) (htab.upd h3.up)).mono ?_
    rintro e w4 ⟨v2, ev, rfl, hv2, hu4⟩
    have h4 := h3.upd hu4
    clear h3
    have h5 := h4.upd ((Upd.refl _ _).alloc (.cells #[.int .i64 v1, .int .i64 v2] 39))
    obtain ⟨k0, k1⟩ := h5.cells
    obtain ⟨f0, f1⟩ := h5.free
    go_wp2_with fail
    refine bodyPost_ret (v := .tuple #[.agg #[.int .i64 0, .int .i64 0], .bool false]) (by simp [results, Tryz.results197, go_sem, k0, k1]) rfl ⟨0, 0, false, readV_no1 HL.out, ⟨by omega, by omega⟩, ⟨by omega, by omega⟩, rfl, ?_⟩
    exact (h5.up.setNew (p := ⟨_, _, none⟩) (Nat.le_refl _) _).setNew (p := ⟨_, _, none⟩) (Nat.le_refl _) _
  case pos =>
    obtain ⟨a, ha⟩ := hl
    by_cases hr : ∃ v, Lib.atoiAll (Lib.cut (bs s) [46]).2.1 = .ok v
    case neg =>
      have hr' : ∀ v, Lib.atoiAll (Lib.cut (bs s) [46]).2.1 ≠ .ok v := fun v e => hr ⟨v, e⟩
      have HR := Lib.hid hr'
      have HA := Lib.hid ha
      clear hr hr' ha
      go_enter Tryz.func197, Tryz.ntmps197
      go_wp2_with fail
      refine (cutPoint_any s _ hs (htab.upd h1.up)).mono ?_
      rintro e w2 ⟨l, r, b, HB1, HB2, hl, hr, rfl, hu2⟩
      have h2 := h1.upd hu2
      clear h1
      go_wp2_with fail
      refine (atoi_ok l a w2 (by omega) (by rw [HB1.out]; exact HA.out)).mono ?_
      rintro e w3 ⟨rfl, hu3⟩
      have h3 := h2.upd hu3
      clear h2
      go_wp2_with fail
      refine (atoi_bad r w3 (by omega) (by rw [HB2.out]; exact HR.out) (htab.upd h3.up)).mono ?_
      rintro e w4 ⟨v2, N, rfl, hv2, hu4⟩
      have h4 := h3.upd hu4
      clear h3
      have h5 := h4.upd ((Upd.refl _ _).alloc (.cells #[.int .i64 a, .int .i64 v2] 39))
      obtain ⟨k0, k1⟩ := h5.cells
      obtain ⟨f0, f1⟩ := h5.free
      go_wp2_with fail
      refine bodyPost_ret (v := .tuple #[.agg #[.int .i64 0, .int .i64 0], .bool false]) (by simp [results, Tryz.results197, go_sem, k0, k1]) rfl ⟨0, 0, false, readV_no2 HR.out, ⟨by omega, by omega⟩, ⟨by omega, by omega⟩, rfl, ?_⟩
      exact (h5.up.setNew (p := ⟨_, _, none⟩) (Nat.le_refl _) _).setNew (p := ⟨_, _, none⟩) (Nat.le_refl _) _
    case pos =>
      obtain ⟨c, hc⟩ := hr
      have hac := And.intro (Lib.atoiAll_bounds ha) (Lib.atoiAll_bounds hc)
      have HV := Lib.hid (readV_ok ha hc)
      have HA := Lib.hid ha
      have HC := Lib.hid hc
      clear ha hc
      go_enter Tryz.func197, Tryz.ntmps197
      go_wp2_with fail
      refine (cutPoint_any s _ hs (htab.upd h1.up)).mono ?_
      rintro e w2 ⟨l, r, b, HB1, HB2, hl, hr, rfl, hu2⟩
      have h2 := h1.upd hu2
      clear h1
      go_wp2_with fail
      refine (atoi_ok l a w2 (by omega) (by rw [HB1.out]; exact HA.out)).mono ?_
      rintro e w3 ⟨rfl, hu3⟩
      have h3 := h2.upd hu3
      clear h2
      go_wp2_with fail
      refine (atoi_ok r c w3 (by omega) (by rw [HB2.out]; exact HC.out)).mono ?_
      rintro e w4 ⟨rfl, hu4⟩
      have h4 := h3.upd hu4
      clear h3
      have h5 := h4.upd ((Upd.refl _ _).alloc (.cells #[.int .i64 a, .int .i64 c] 39))
      have s5 := SigAt.start w4 a c
      obtain ⟨q0, q1⟩ := s5.cells
      go_wp2_with fail
      refine (text_any a c _ hac.1 hac.2 (htab.upd h5.up)).mono ?_
      rintro e w6 ⟨y, HY, hy, rfl, hu6⟩
      have h6 := h5.upd hu6
      have s6 := s5.upd hu6
      clear h5 s5 q0 q1 h4
      obtain ⟨q0, q1⟩ := s6.cells
      obtain ⟨k0, k1⟩ := h6.cells
      obtain ⟨f0, f1⟩ := h6.free
      by_cases heq : pairL a c = bs s
      · have hys : y = s := bs_inj (HY.out.trans heq)
        subst hys
        go_wp2_with fail
        refine bodyPost_ret (v := .tuple #[.agg #[.int .i64 a, .int .i64 c], .bool true]) (by simp [results, Tryz.results197, go_sem, k0, k1]) rfl ⟨a, c, true, ?_, hac.1, hac.2, rfl, ?_⟩
        · show _ = _
          rw [HV.out, if_pos heq]
        · exact (h6.up.setNew (p := ⟨_, _, none⟩) (Nat.le_refl _) _).setNew (p := ⟨_, _, none⟩) (Nat.le_refl _) _
      · have h7 : (y.toList == s.toList) = false := by
          rw [beq_eq_false_iff_ne, ByteArray.toList_eq, ByteArray.toList_eq]
          exact fun e => heq (HY.out.symm.trans e)
        go_wp2_with fail
        refine bodyPost_ret (v := .tuple #[.agg #[.int .i64 0, .int .i64 0], .bool false]) (by simp [results, Tryz.results197, go_sem, k0, k1]) rfl ⟨0, 0, false, ?_, ⟨by omega, by omega⟩, ⟨by omega, by omega⟩, rfl, ?_⟩
        · show _ = _
          rw [HV.out, if_neg heq]
        · exact (h6.up.setNew (p := ⟨_, _, none⟩) (Nat.le_refl _) _).setNew (p := ⟨_, _, none⟩) (Nat.le_refl _) _
end Go.Proofs.YtinpenoeohejoaaGreatDoor

namespace Go.Proofs.YtinpenoeohejoaaGreatDoor
open Go.ChangeShapes Go.WideShapes Go.ChangeAt Go.RowKit
set_option maxRecDepth 100000

theorem own_knob : ownKnob Tryz.prog.godebug = none := by kernel_rfl
theorem laid_out : laidOutB Tryz.prog = true := by kernel_rfl

def laidL : List (String × DataW Unit) := Rows.courtKioskRow.laid

theorem gP10 : Tryz.prog.globalNamed "internal/strconv.uint64pow10" = some 1 := by kernel_rfl
theorem gER : Tryz.prog.globalNamed "strconv.ErrRange" = some 5 := by kernel_rfl
theorem gES : Tryz.prog.globalNamed "strconv.ErrSyntax" = some 4 := by kernel_rfl
theorem starE : ("*" ++ "errors.errorString" : String) = "*errors.errorString" := by decide
theorem rowE (u : TypeId) (h : Tryz.prog.typeName? 3 u = some "*errors.errorString") : u = 313 :=
  typeName_ptr_named (nm := "errors.errorString") (by rw [starE]; kernel_rfl) (by kernel_rfl) (by decide) u (by rw [starE]; exact h)

theorem tabs_of_laid {W : World} (h : laidMetH Tryz.prog laidL W) (hsh : W.ShapedOpen Tryz.prog) : Tabs W := by
  have h0 : laidMet Tryz.prog laidL W := h
  have h3 := h0.tail.tail
  have h3x := h3
  have h3x := h3.tail
  have h4 := h3x.tail
  have h5 := h4.tail
  have h6 := h5.tail
  have h7 := h6.tail
  obtain ⟨a1, s1, hv1, _⟩ := laid_sentinel h4 gER (by kernel_rfl) Tryz.underlying168 rowE Tryz.underlying313 Tryz.underlying315 rfl rfl Tryz.underlying9 (by kernel_rfl) (by kernel_rfl)
  obtain ⟨a2, s2, hv2, _⟩ := laid_sentinel h5 gES (by kernel_rfl) Tryz.underlying168 rowE Tryz.underlying313 Tryz.underlying315 rfl rfl Tryz.underlying9 (by kernel_rfl) (by kernel_rfl)
  refine ⟨?_, ?_, ?_, ⟨_, _, hv1⟩, ⟨_, _, hv2⟩, ?_⟩
  · exact Lib.tabIs_of_head (rest := _) gK (by kernel_rfl) Tryz.underlying273 Tryz.underlying157 (by kernel_rfl) (by kernel_rfl) h7
  · exact Lib.tabIs_of_head (rest := _) gF (by kernel_rfl) Tryz.underlying222 Tryz.underlying157 (by kernel_rfl) (by kernel_rfl) h6
  · exact Lib.tabIs_of_head (rest := _) gP10 (by kernel_rfl) Tryz.underlying261 Tryz.underlying126 (by kernel_rfl) (by kernel_rfl) h3
  · exact Go.Proofs.cell_of_shapedOpen_int (zero := #[.int .i64 0]) (t := 3) hsh (of_decide_eq_true (by kernel_rfl)) (by kernel_rfl) rfl (by kernel_rfl) (by kernel_rfl) Tryz.underlying3
end Go.Proofs.YtinpenoeohejoaaGreatDoor

namespace Go.Proofs.YtinpenoeohejoaaGreatDoor
open Go.RowKit
set_option maxRecDepth 100000
theorem below_of_upd {w w' : World} (h : Upd [] [] w w') : Below w.heap.size w w' := ⟨h.os, h.tape, h.output, h.size, fun k hk => h.block k hk (by simp)⟩
end Go.Proofs.YtinpenoeohejoaaGreatDoor

namespace Go.Proofs.YtinpenoeohejoaaGreatDoor
open Go.ChangeShapes Go.WideShapes Go.ChangeAt Go.RowKit Go.Deep Go.Joins
set_option maxRecDepth 100000

inductive Kd where
  | i (k : IntKind)
  | s
  | b
def Kd.ok : Kd → Value → Prop
  | .i k, v => ∃ n : Int, v = .int k n ∧ (Lit.int k n).wf = true
  | .s, v => ∃ s : ByteArray, v = .string s ∧ s.size ≤ maxLen
  | .b, v => ∃ b : Bool, v = .bool b

def flatF (P : Program) (fl : TypeId → Option (List Kd)) : Nat → List Field → Option (List Kd)
  | _, [] => some []
  | off, f :: r => match fl f.type with
    | some l => if f.offset = off ∧ l.length = P.cellsOf f.type then (flatF P fl (off + l.length) r).map (l ++ ·) else none
    | none => none
def flatK (P : Program) : Nat → TypeId → Option (List Kd)
  | 0, _ => none
  | f + 1, t => match P.underlying t with
    | some (.int k) => some [.i k]
    | some .string => some [.s]
    | some .bool => some [.b]
    | some (.array n e) => match flatK P f e with
      | some l => if l.length = P.cellsOf e ∧ n * l.length = P.cellsOf t ∧ 0 < l.length then some (List.replicate n l).flatten else none
      | none => none
    | some (.struct fs) => match flatF P (flatK P f) 0 fs.toList with
      | some l => if l.length = P.cellsOf t then some l else none
      | none => none
    | _ => none

def Mt (ks : List Kd) (cs : List Value) : Prop := cs.length = ks.length ∧ ∀ (i : Nat) k, ks[i]? = some k → ∃ v, cs[i]? = some v ∧ k.ok v

theorem Mt.one {k : Kd} {v : Value} (h : k.ok v) : Mt [k] [v] := by
  refine ⟨rfl, fun i k' hi => ?_⟩
  cases i with
  | zero => simp at hi; subst hi; exact ⟨v, rfl, h⟩
  | succ i => simp at hi

theorem flatten_get {α : Type} (l : List α) (m : Nat) (hm : l.length = m) (h0 : 0 < m) : ∀ (n i : Nat) (a : α), (List.replicate n l).flatten[i]? = some a → i / m < n ∧ l[i % m]? = some a
  | 0, i, a, h => by simp at h
  | n + 1, i, a, h => by
    rw [List.replicate_succ, List.flatten_cons] at h
    by_cases hi : i < m
    · rw [List.getElem?_append_left (by omega)] at h
      rw [Nat.div_eq_of_lt hi, Nat.mod_eq_of_lt hi]
      exact ⟨by omega, h⟩
    · rw [List.getElem?_append_right (by omega), hm] at h
      have ih := flatten_get l m hm h0 n (i - m) a h
      have e1 : i / m = (i - m) / m + 1 := by rw [Nat.div_eq_sub_div h0 (by omega)]
      have e2 : i % m = (i - m) % m := by rw [Nat.mod_eq_sub_mod (by omega)]
      rw [e1, e2]
      exact ⟨by omega, ih.2⟩

theorem chunk_get {cs : List Value} {off sz j : Nat} {v : Value} (h : ((cs.drop off).take sz)[j]? = some v) : cs[off + j]? = some v := by
  rw [List.getElem?_take] at h
  split at h
  · rw [List.getElem?_drop] at h; exact h
  · cases h

section
variable {H : Type} {enc : TypeId × Value → H} {P : Program} {w : World} {base : Nat} {sp : Nat → Bool} {hd : Bool}

theorem flatF_ok {fl : TypeId → Option (List Kd)} {cs : List Value} : ∀ (fs : List Field) (off : Nat) (ks : List Kd), flatF P fl off fs = some ks →
    (∀ f ∈ fs, ∀ l, fl f.type = some l → Mt l ((cs.drop f.offset).take (P.cellsOf f.type))) → ∀ (i : Nat) k, ks[i]? = some k → ∃ v, cs[off + i]? = some v ∧ k.ok v
  | [], off, ks, h, _, i, k, hi => by
    simp only [flatF, Option.some.injEq] at h
    subst h
    simp at hi
  | f :: r, off, ks, h, hf, i, k, hi => by
    simp only [flatF] at h
    split at h
    · rename_i l hl
      split at h
      · rename_i hc
        obtain ⟨ks', hk', rfl⟩ := Option.map_eq_some_iff.1 h
        by_cases hil : i < l.length
        · rw [List.getElem?_append_left hil] at hi
          obtain ⟨v, hv, hok⟩ := (hf f (by simp) l hl).2 i k hi
          have := chunk_get hv
          rw [hc.1] at this
          exact ⟨v, this, hok⟩
        · rw [List.getElem?_append_right (by omega)] at hi
          obtain ⟨v, hv, hok⟩ := flatF_ok r (off + l.length) ks' hk' (fun f' hf' => hf f' (by simp [hf'])) (i - l.length) k hi
          rw [show off + l.length + (i - l.length) = off + i by omega] at hv
          exact ⟨v, hv, hok⟩
      · cases h
    · cases h

theorem flatK_ok : ∀ (f : Nat) (t : TypeId) (ks : List Kd) (fuel : Nat) (cs : List Value) (x : DataW H × List MemPlace), flatK P f t = some ks → DataW.trod enc P w base sp hd fuel t cs = some x → Mt ks cs
  | 0, t, ks, fuel, cs, x, h, _ => by simp [flatK] at h
  | f + 1, t, ks, fuel, cs, x, h, hx => by
    simp only [flatK] at h
    split at h
    · rename_i k hu
      obtain ⟨n, rfl, _, hw⟩ := DataW.trod_int hu hx
      simp only [Option.some.injEq] at h
      subst h
      exact Mt.one ⟨n, rfl, hw⟩
    · rename_i hu
      obtain ⟨s, rfl, _, hs⟩ := DataW.trod_string hu hx
      simp only [Option.some.injEq] at h
      subst h
      exact Mt.one ⟨s, rfl, hs⟩
    · rename_i hu
      obtain ⟨b, rfl, _⟩ := DataW.trod_bool hu hx
      simp only [Option.some.injEq] at h
      subst h
      exact Mt.one ⟨b, rfl⟩
    · rename_i n e hu
      split at h
      · rename_i l hl
        split at h
        · rename_i hc
          simp only [Option.some.injEq] at h
          subst h
          obtain ⟨xs, m, _, _, hlen, hxl, hi⟩ := DataW.trod_array hu hx
          refine ⟨by rw [hlen, ← hc.2.1]; simp, fun i k hk => ?_⟩
          obtain ⟨hq, hr⟩ := flatten_get l (P.cellsOf e) hc.1 (by omega) n i k hk
          have h1 := hi (i / P.cellsOf e) hq
          have e0 : xs[i / P.cellsOf e]? = some (xs[i / P.cellsOf e]'(by omega)) := List.getElem?_eq_getElem (by omega)
          rw [e0] at h1
          obtain ⟨v, hv, hok⟩ := (flatK_ok f e l m _ _ hl h1).2 (i % P.cellsOf e) k hr
          have := chunk_get hv
          rw [Nat.mul_comm, Nat.div_add_mod] at this
          exact ⟨v, this, hok⟩
        · cases h
      · cases h
    · rename_i fs hu
      split at h
      · rename_i l hl
        split at h
        · rename_i hc
          simp only [Option.some.injEq] at h
          subst h
          obtain ⟨xs, m, _, _, hlen, hxl, hi⟩ := DataW.trod_struct hu hx
          refine ⟨by rw [hlen, hc], fun i k hk => ?_⟩
          have := flatF_ok fs.toList 0 l hl (fun fd hfd lf hlf => by
            obtain ⟨j, hj⟩ := List.getElem?_of_mem hfd
            have h1 := hi j fd (by simpa using hj)
            have hjl : j < xs.length := by
              have := (List.getElem?_eq_some_iff.1 hj).1
              simp at this
              omega
            have e0 : xs[j]? = some (xs[j]'hjl) := List.getElem?_eq_getElem hjl
            rw [e0] at h1
            exact flatK_ok f fd.type lf m _ _ hlf h1) i k hk
          rw [Nat.zero_add] at this
          exact this
        · cases h
      · cases h
    · cases h

theorem open_flat {t : TypeId} {v : Value} {d : DataW H} {p : List MemPlace} {ks : List Kd} {r : Reach} {b0 : Nat} (f : Nat) (hk : flatK P f t = some ks) (hv : Value.okWide P w r b0 t v) (h : DataW.Trod enc P w base sp hd t v d p) (ha : (∃ n e, P.underlying t = some (.array n e)) ∨ ∃ fs, P.underlying t = some (.struct fs)) :
    ∃ cs : Array Value, v = .agg cs ∧ Mt ks cs.toList := by
  obtain ⟨fuel, hf⟩ := h
  have hm := flatK_ok f t ks fuel _ _ hk hf
  rcases ha with ⟨n, e, hu⟩ | ⟨fs, hu⟩
  · simp only [Value.okWide, hu] at hv
    obtain ⟨cs, rfl, _⟩ := hv
    exact ⟨cs, rfl, hm⟩
  · simp only [Value.okWide, hu] at hv
    obtain ⟨cs, rfl, _⟩ := hv
    exact ⟨cs, rfl, hm⟩

theorem Mt.get {ks : List Kd} {cs : List Value} (h : Mt ks cs) {i : Nat} {k : Kd} (hk : ks[i]? = some k) : ∃ v, cs[i]? = some v ∧ k.ok v := h.2 i k hk
theorem Mt.i64 {ks : List Kd} {cs : List Value} (h : Mt ks cs) {i : Nat} (hk : ks[i]? = some (.i .i64)) : ∃ n : Int, cs[i]? = some (.int .i64 n) ∧ -9223372036854775808 ≤ n ∧ n ≤ 9223372036854775807 := by
  obtain ⟨v, hv, n, rfl, hw⟩ := h.2 i _ hk
  exact ⟨n, hv, bounds_i64 hw⟩
theorem Mt.bool {ks : List Kd} {cs : List Value} (h : Mt ks cs) {i : Nat} (hk : ks[i]? = some .b) : ∃ b : Bool, cs[i]? = some (.bool b) := by
  obtain ⟨v, hv, n, rfl⟩ := h.2 i _ hk
  exact ⟨n, hv⟩
theorem Mt.u8 {ks : List Kd} {cs : List Value} (h : Mt ks cs) {i : Nat} (hk : ks[i]? = some (.i .u8)) : ∃ n : Int, cs[i]? = some (.int .u8 n) ∧ 0 ≤ n ∧ n ≤ 255 := by
  obtain ⟨v, hv, n, rfl, hw⟩ := h.2 i _ hk
  exact ⟨n, hv, bounds_u8 hw⟩
end
end Go.Proofs.YtinpenoeohejoaaGreatDoor

namespace Go.Proofs.YtinpenoeohejoaaGreatDoor
open Go.ChangeShapes Go.WideShapes Go.ChangeAt Go.RowKit Go.Deep Go.Joins
set_option maxRecDepth 100000

theorem addG_plain (b off j : Nat) : (⟨b, off, none⟩ : Addr).add j = ⟨b, off + j, none⟩ := by unfold Addr.add; split <;> simp_all
theorem cell_spotG {w : World} {a : Addr} {v : Value} (h : w.cell? (a.add 0) = some v) : a.spot = none := by
  have e : a.add 0 = a := by simp [Addr.add]
  rw [e] at h
  unfold World.cell? at h
  cases hs : a.spot with
  | none => rfl
  | some s =>
    rw [hs] at h
    split at h <;> simp at h
theorem cell_inG {w : World} {g o : Nat} {v : Value} (h : w.cell? ⟨g, o, none⟩ = some v) : g < w.heap.size := by
  unfold World.cell? at h
  by_cases hg : g < w.heap.size
  · exact hg
  · rw [Array.getElem?_eq_none (by show w.heap.size ≤ g; omega)] at h
    simp at h
section
variable {H : Type} {enc : TypeId × Value → H} {w : World}
theorem open_rows {t e : TypeId} {ks : List Kd} {v : Value} {d : DataW H} {p : List MemPlace} {r : Reach} {b0 : Nat} (hu : Tryz.prog.underlying t = some (.slice e)) (hk : flatK Tryz.prog 8 e = some ks) (hks : 0 < ks.length) (hc : Tryz.prog.cellsOf e = ks.length) (hv : Value.okWide Tryz.prog w r b0 t v) (h : DataW.Trod enc Tryz.prog w 0 (fun _ => true) true t v d p) :
    ∃ ao len cap, v = .slice ao len cap ∧ len ≤ cap ∧ cap ≤ 9223372036854775807 ∧ (len = 0 ∨ ∃ b off, ao = some ⟨b, off, none⟩ ∧ b < w.heap.size ∧ ∀ i, i < len → ∃ cs : List Value, Mt ks cs ∧ ∀ j u, cs[j]? = some u → w.cell? ⟨b, off + i * ks.length + j, none⟩ = some u) := by
  obtain ⟨a, len, cap, rfl⟩ := okWide_slice hu hv
  obtain ⟨fuel, hf⟩ := h
  rcases open_slice hu hf with ⟨hcs, _⟩ | ⟨x, l, c, m, n, D, Pl, hcs, _, hl, hm, hmm, _, hi⟩
  · simp [Value.cells] at hcs
    obtain ⟨rfl, rfl, rfl⟩ := hcs
    exact ⟨none, 0, 0, rfl, by simp, by simp, .inl rfl⟩
  · simp [Value.cells] at hcs
    obtain ⟨rfl, rfl, rfl⟩ := hcs
    simp only [if_true] at hmm
    rw [hmm] at hi
    refine ⟨some x, len, cap, rfl, hl, hm, ?_⟩
    by_cases h0 : len = 0
    · exact .inl h0
    · right
      have hA : ∀ i, i < len → ∃ cs : List Value, Mt ks cs ∧ ∀ j u, cs[j]? = some u → w.cell? (x.add (i * ks.length + j)) = some u := by
        intro i hil
        obtain ⟨cs', hcc, ht⟩ := hi i (by omega)
        rw [hc] at hcc
        have hM := flatK_ok 8 e ks _ _ _ hk ht
        refine ⟨cs', hM, fun j u hj => ?_⟩
        obtain ⟨_, _, hat⟩ := World.cells?_some hcc
        have hjl : j < ks.length := by
          have := (List.getElem?_eq_some_iff.1 hj).1
          rw [hM.1] at this
          exact this
        have g0 := hat j hjl
        rw [add_add] at g0
        exact g0.trans hj
      obtain ⟨cs0, hm0, hc0⟩ := hA 0 (by omega)
      obtain ⟨u0, hu0⟩ : ∃ u, cs0[0]? = some u := ⟨_, List.getElem?_eq_getElem (by rw [hm0.1]; exact hks)⟩
      have z0 := hc0 0 u0 hu0
      rw [Nat.zero_mul] at z0
      have hs := cell_spotG z0
      obtain ⟨b, off, s⟩ := x
      simp only at hs
      subst hs
      simp only [addG_plain] at hA z0
      refine ⟨b, off, rfl, cell_inG z0, fun i hi2 => ?_⟩
      obtain ⟨cs, h1, h2⟩ := hA i hi2
      exact ⟨cs, h1, fun j u hj => by rw [Nat.add_assoc]; exact h2 j u hj⟩
end
end Go.Proofs.YtinpenoeohejoaaGreatDoor
