/- Numbers modulo a prime: Fermat, Pocklington, orders. Plain: no program in sight. -/
import Derived.Lib.Hide
namespace Go.Proofs.YtkhodajdionaaaaGreatDoor

def Pr (p : Nat) : Prop := 2 ≤ p ∧ ∀ d, d ∣ p → d = 1 ∨ d = p

theorem Pr.cop {p a : Nat} (h : Pr p) (ha : ¬ p ∣ a) : Nat.Coprime p a := by
  rcases h.2 _ (Nat.gcd_dvd_left p a) with e | e
  · exact e
  · exact absurd (e ▸ Nat.gcd_dvd_right p a) ha
theorem Pr.mul {p a b : Nat} (h : Pr p) (hd : p ∣ a * b) : p ∣ a ∨ p ∣ b := by
  by_cases ha : p ∣ a
  · exact .inl ha
  · exact .inr ((h.cop ha).dvd_of_dvd_mul_left hd)

/-! ### Fermat -/
def chooseN : Nat → Nat → Nat
  | _, 0 => 1
  | 0, _ + 1 => 0
  | n + 1, k + 1 => chooseN n k + chooseN n (k + 1)
theorem choose_zero (n : Nat) : chooseN n 0 = 1 := by cases n <;> rfl
theorem choose_big (n : Nat) : ∀ k, n < k → chooseN n k = 0 := by
  induction n with
  | zero => intro k h; cases k with
    | zero => omega
    | succ k => rfl
  | succ n ih => intro k h; cases k with
    | zero => omega
    | succ k => simp only [chooseN]; rw [ih k (by omega), ih (k + 1) (by omega)]
theorem choose_self (n : Nat) : chooseN n n = 1 := by
  induction n with
  | zero => rfl
  | succ n ih => simp only [chooseN]; rw [ih, choose_big n (n + 1) (by omega)]
theorem choose_mul (n : Nat) : ∀ k, (k + 1) * chooseN (n + 1) (k + 1) = (n + 1) * chooseN n k := by
  induction n with
  | zero => intro k; cases k with
    | zero => rfl
    | succ k => simp [chooseN]
  | succ n ih =>
    intro k
    cases k with
    | zero =>
      have h := ih 0
      simp only [chooseN, choose_zero, Nat.zero_add, Nat.one_mul, Nat.mul_one] at h ⊢
      omega
    | succ k =>
      have h1 := ih k
      have h2 := ih (k + 1)
      have e1 : chooseN (n + 1 + 1) (k + 1 + 1) = chooseN (n + 1) (k + 1) + chooseN (n + 1) (k + 1 + 1) := rfl
      have e2 : chooseN (n + 1) (k + 1) = chooseN n k + chooseN n (k + 1) := rfl
      calc (k + 1 + 1) * chooseN (n + 1 + 1) (k + 1 + 1) = (k + 1) * chooseN (n + 1) (k + 1) + chooseN (n + 1) (k + 1) + (k + 1 + 1) * chooseN (n + 1) (k + 1 + 1) := by rw [e1, Nat.mul_add, Nat.add_mul (k + 1) 1 (chooseN (n + 1) (k + 1)), Nat.one_mul]
        _ = (n + 1) * chooseN n k + chooseN (n + 1) (k + 1) + (n + 1) * chooseN n (k + 1) := by rw [h1, h2]
        _ = (n + 1 + 1) * chooseN (n + 1) (k + 1) := by rw [Nat.add_mul (n + 1) 1, Nat.one_mul, e2, Nat.mul_add]; omega

def sumTo (f : Nat → Nat) : Nat → Nat
  | 0 => 0
  | n + 1 => sumTo f n + f n

theorem sum_step (n a : Nat) : ∀ m, sumTo (fun k => chooseN (n + 1) k * a ^ k) (m + 1) = sumTo (fun k => chooseN n k * a ^ k) (m + 1) + a * sumTo (fun k => chooseN n k * a ^ k) m
  | 0 => by simp [sumTo, choose_zero]
  | m + 1 => by
    have ih := sum_step n a m
    have e : sumTo (fun k => chooseN (n + 1) k * a ^ k) (m + 1 + 1) = sumTo (fun k => chooseN (n + 1) k * a ^ k) (m + 1) + chooseN (n + 1) (m + 1) * a ^ (m + 1) := rfl
    have e2 : sumTo (fun k => chooseN n k * a ^ k) (m + 1 + 1) = sumTo (fun k => chooseN n k * a ^ k) (m + 1) + chooseN n (m + 1) * a ^ (m + 1) := rfl
    have e3 : sumTo (fun k => chooseN n k * a ^ k) (m + 1) = sumTo (fun k => chooseN n k * a ^ k) m + chooseN n m * a ^ m := rfl
    have e4 : chooseN (n + 1) (m + 1) = chooseN n m + chooseN n (m + 1) := rfl
    have e5 : a * (chooseN n m * a ^ m) = chooseN n m * a ^ (m + 1) := by rw [Nat.pow_succ]; rw [← Nat.mul_assoc, Nat.mul_comm a, Nat.mul_assoc, Nat.mul_comm a]
    rw [e, ih, e2, e4, Nat.add_mul]
    conv => rhs; rw [e3, Nat.mul_add, e5]
    rw [e3]
    omega

theorem binomial (a : Nat) : ∀ n, (a + 1) ^ n = sumTo (fun k => chooseN n k * a ^ k) (n + 1)
  | 0 => by simp [sumTo, chooseN]
  | n + 1 => by
    rw [sum_step n a (n + 1)]
    have e : sumTo (fun k => chooseN n k * a ^ k) (n + 1 + 1) = sumTo (fun k => chooseN n k * a ^ k) (n + 1) + chooseN n (n + 1) * a ^ (n + 1) := rfl
    rw [e, choose_big n (n + 1) (by omega), Nat.zero_mul, ← binomial a n, Nat.pow_succ, Nat.mul_add, Nat.mul_one, Nat.mul_comm a ((a + 1) ^ n)]
    omega

theorem sum_mod (p : Nat) (f : Nat → Nat) : ∀ m, (∀ k, 0 < k → k < m + 1 → p ∣ f k) → sumTo f (m + 1) % p = f 0 % p
  | 0, _ => by simp [sumTo]
  | m + 1, h => by
    have e : sumTo f (m + 1 + 1) = sumTo f (m + 1) + f (m + 1) := rfl
    obtain ⟨c, hc⟩ := h (m + 1) (by omega) (by omega)
    rw [e, hc, Nat.add_mul_mod_self_left]
    exact sum_mod p f m (fun k h1 h2 => h k h1 (by omega))

theorem Pr.choose {p : Nat} (h : Pr p) (k : Nat) (h1 : 0 < k) (h2 : k < p) : p ∣ chooseN p k := by
  obtain ⟨n, rfl⟩ : ∃ n, p = n + 1 := ⟨p - 1, by omega⟩
  obtain ⟨j, rfl⟩ : ∃ j, k = j + 1 := ⟨k - 1, by omega⟩
  have e := choose_mul n j
  have hd : n + 1 ∣ (j + 1) * chooseN (n + 1) (j + 1) := ⟨chooseN n j, e⟩
  rcases h.mul hd with g | g
  · exact absurd (Nat.le_of_dvd (by omega) g) (by omega)
  · exact g

theorem fermat {p : Nat} (h : Pr p) : ∀ a, a ^ p % p = a % p
  | 0 => by rw [Nat.zero_pow (by have := h.1; omega)]
  | a + 1 => by
    have ih := fermat h a
    obtain ⟨n, hn⟩ : ∃ n, p = n + 1 := ⟨p - 1, by have := h.1; omega⟩
    rw [binomial a p]
    have e : sumTo (fun k => chooseN p k * a ^ k) (p + 1) = sumTo (fun k => chooseN p k * a ^ k) p + chooseN p p * a ^ p := rfl
    have hs : sumTo (fun k => chooseN p k * a ^ k) p % p = 1 % p := by
      have := sum_mod p (fun k => chooseN p k * a ^ k) n (fun k h1 h2 => Nat.dvd_trans (h.choose k h1 (by omega)) (Nat.dvd_mul_right _ _))
      rw [← hn] at this
      rw [this, choose_zero]; simp
    rw [e, choose_self, Nat.one_mul, Nat.add_mod, hs, ih, ← Nat.add_mod, Nat.add_comm]

theorem fermat_one {p a : Nat} (h : Pr p) (ha : ¬ p ∣ a) : a ^ (p - 1) % p = 1 := by
  have h1 := fermat h a
  have hp := h.1
  have e : a ^ p = a * a ^ (p - 1) := by
    conv => lhs; rw [show p = (p - 1) + 1 by omega]
    rw [Nat.pow_succ, Nat.mul_comm]
  have h0 : 0 < a := Nat.pos_of_ne_zero (fun e => ha (e ▸ Nat.dvd_zero p))
  have hle : 1 ≤ a ^ (p - 1) := Nat.one_le_pow _ _ h0
  have hd : p ∣ a * (a ^ (p - 1) - 1) := by
    rw [Nat.mul_sub, Nat.mul_one, ← e]
    have hle2 : a ≤ a ^ p := by rw [e]; exact Nat.le_mul_of_pos_right _ hle
    exact Nat.dvd_of_mod_eq_zero (Nat.sub_mod_eq_zero_of_mod_eq h1)
  rcases h.mul hd with g | g
  · exact absurd g ha
  · obtain ⟨c, hc⟩ := g
    have : a ^ (p - 1) = 1 + p * c := by omega
    rw [this, Nat.add_mul_mod_self_left, Nat.mod_eq_of_lt (by omega)]

/-! ### powers modulo m -/
theorem pow_mod_base (a n m : Nat) : (a % m) ^ n % m = a ^ n % m := (Nat.pow_mod a n m).symm
theorem dvd_pow_pos {p a n : Nat} (h : p ∣ a) (hn : n ≠ 0) : p ∣ a ^ n := by
  obtain ⟨k, rfl⟩ : ∃ k, n = k + 1 := ⟨n - 1, by omega⟩
  rw [Nat.pow_succ]; exact Nat.dvd_trans h (Nat.dvd_mul_left a (a ^ k))
theorem one_pow_mod {b m : Nat} (h : b % m = 1 % m) (n : Nat) : b ^ n % m = 1 % m := by
  rw [Nat.pow_mod, h, ← Nat.pow_mod, Nat.one_pow]

theorem pow_gcd (b N : Nat) : ∀ m n : Nat, b ^ m % N = 1 % N → b ^ n % N = 1 % N → b ^ Nat.gcd m n % N = 1 % N := by
  intro m n
  induction m, n using Nat.gcd.induction with
  | H0 n => intro _ h; rwa [Nat.gcd_zero_left]
  | H1 m n hm ih =>
    intro h1 h2
    rw [Nat.gcd_rec]
    refine ih ?_ h1
    have e : b ^ n = (b ^ m) ^ (n / m) * b ^ (n % m) := by
      rw [← Nat.pow_mul, ← Nat.pow_add, Nat.div_add_mod]
    rw [e, Nat.mul_mod, one_pow_mod h1, ← Nat.mul_mod, Nat.one_mul] at h2
    exact h2

theorem has_prime : ∀ n : Nat, 2 ≤ n → ∃ p, Pr p ∧ p ∣ n := by
  intro n
  induction n using Nat.strongRecOn with
  | ind n ih =>
    intro hn
    by_cases h : Pr n
    · exact ⟨n, h, Nat.dvd_refl n⟩
    · have : ∃ d, d ∣ n ∧ d ≠ 1 ∧ d ≠ n := by
        apply Classical.byContradiction
        intro hc
        refine h ⟨hn, fun d hd => ?_⟩
        apply Classical.byContradiction
        intro hq
        exact hc ⟨d, hd, fun e => hq (.inl e), fun e => hq (.inr e)⟩
      obtain ⟨d, hd, h1, h2⟩ := this
      have hle := Nat.le_of_dvd (by omega) hd
      have h0 : d ≠ 0 := by rintro rfl; have := Nat.eq_zero_of_zero_dvd hd; omega
      obtain ⟨p, hp, hpd⟩ := ih d (by omega) (by omega)
      exact ⟨p, hp, Nat.dvd_trans hpd hd⟩

theorem small_prime {n : Nat} (hn : 2 ≤ n) (h : ¬ Pr n) : ∃ p, Pr p ∧ p ∣ n ∧ p * p ≤ n := by
  have : ∃ d, d ∣ n ∧ d ≠ 1 ∧ d ≠ n := by
    apply Classical.byContradiction
    intro hc
    refine h ⟨hn, fun d hd => ?_⟩
    apply Classical.byContradiction
    intro hq
    exact hc ⟨d, hd, fun e => hq (.inl e), fun e => hq (.inr e)⟩
  obtain ⟨d, ⟨e, he⟩, h1, h2⟩ := this
  have hd0 : d ≠ 0 := by rintro rfl; rw [Nat.zero_mul] at he; omega
  have he0 : e ≠ 0 := by rintro rfl; rw [Nat.mul_zero] at he; omega
  have he1 : e ≠ 1 := by rintro rfl; rw [Nat.mul_one] at he; omega
  rcases Nat.le_total d e with hde | hde
  · obtain ⟨p, hp, hpd⟩ := has_prime d (by omega)
    refine ⟨p, hp, Nat.dvd_trans hpd ⟨e, he⟩, ?_⟩
    have := Nat.le_of_dvd (by omega) hpd
    rw [he]
    exact Nat.mul_le_mul this (by omega)
  · obtain ⟨p, hp, hpd⟩ := has_prime e (by omega)
    refine ⟨p, hp, Nat.dvd_trans hpd ⟨d, by rw [he, Nat.mul_comm]⟩, ?_⟩
    have := Nat.le_of_dvd (by omega) hpd
    rw [he]
    exact Nat.mul_le_mul (by omega) this

theorem pocklington {n q R a : Nat} (hn : 2 ≤ n) (hq : Pr q) (he : n - 1 = q * R) (hb : n < q * q) (h1 : a ^ (n - 1) % n = 1) (h2 : Nat.gcd (a ^ R % n + n - 1) n = 1) : Pr n := by
  apply Classical.byContradiction
  intro hc
  obtain ⟨p, hp, hpd, hpp⟩ := small_prime hn hc
  have hp2 := hp.1
  have h1p : a ^ (n - 1) % p = 1 := by
    have e : a ^ (n - 1) % n % p = a ^ (n - 1) % p := Nat.mod_mod_of_dvd _ hpd
    rw [← e, h1, Nat.mod_eq_of_lt (by omega)]
  have hn1 : 0 < n - 1 := by omega
  have hna : ¬ p ∣ a := by
    intro hd
    have : p ∣ a ^ (n - 1) := dvd_pow_pos hd (by omega)
    rw [Nat.mod_eq_zero_of_dvd this] at h1p
    omega
  have hbq : (a ^ R) ^ q % p = 1 % p := by
    rw [← Nat.pow_mul, Nat.mul_comm, ← he, h1p, Nat.mod_eq_of_lt (by omega)]
  have hbp : (a ^ R) ^ (p - 1) % p = 1 % p := by
    rw [← Nat.pow_mul, Nat.mul_comm, Nat.pow_mul]
    refine one_pow_mod ?_ R
    rw [fermat_one hp hna, Nat.mod_eq_of_lt (by omega)]
  have hg := pow_gcd _ _ _ _ hbq hbp
  rcases hq.2 _ (Nat.gcd_dvd_left q (p - 1)) with e | e
  · rw [e, Nat.pow_one] at hg
    have hp1 : (a ^ R % n + n - 1) % p = 0 := by
      have e1 : a ^ R % n % p = 1 % p := by rw [Nat.mod_mod_of_dvd _ hpd, hg]
      obtain ⟨c, hcn⟩ := hpd
      have e2 : a ^ R % n % p = 1 := by rw [e1, Nat.mod_eq_of_lt (by omega)]
      have e3 := Nat.div_add_mod (a ^ R % n) p
      rw [e2] at e3
      have e4 : a ^ R % n + n - 1 = p * (a ^ R % n / p + c) := by rw [Nat.mul_add, ← hcn]; omega
      rw [e4, Nat.mul_mod_right]
    have : p ∣ Nat.gcd (a ^ R % n + n - 1) n := Nat.dvd_gcd (Nat.dvd_of_mod_eq_zero hp1) hpd
    rw [h2] at this
    have := Nat.le_of_dvd (by omega) this
    omega
  · have hd : q ∣ p - 1 := by
      have := Nat.gcd_dvd_right q (p - 1)
      rwa [e] at this
    have := Nat.le_of_dvd (by omega) hd
    have : q * q ≤ p * p := Nat.mul_le_mul (by omega) (by omega)
    omega

/-- fast powers -/
def pmF (m : Nat) : Nat → Nat → Nat → Nat
  | 0, _, _ => 1 % m
  | k + 1, a, n => if n = 0 then 1 % m else if n % 2 = 1 then pmF m k (a * a % m) (n / 2) * a % m else pmF m k (a * a % m) (n / 2)
theorem pmF_eq (m : Nat) : ∀ k a n, n < 2 ^ k → pmF m k a n = a ^ n % m
  | 0, a, n, h => by
    have : n = 0 := by simp at h; omega
    subst this; rfl
  | k + 1, a, n, h => by
    rw [pmF]
    by_cases h0 : n = 0
    · rw [if_pos h0, h0]; rfl
    · rw [if_neg h0]
      have hk : n / 2 < 2 ^ k := by rw [Nat.pow_succ] at h; omega
      have ih := pmF_eq m k (a * a % m) (n / 2) hk
      have e : (a * a % m) ^ (n / 2) % m = a ^ (2 * (n / 2)) % m := by
        rw [pow_mod_base, Nat.pow_mul, Nat.pow_two]
      rw [ih, e]
      have hd := Nat.div_add_mod n 2
      by_cases h1 : n % 2 = 1
      · rw [if_pos h1]
        conv => rhs; rw [← hd, h1, Nat.pow_succ]
        rw [Nat.mod_mul_mod]
      · rw [if_neg h1]
        conv => rhs; rw [← hd, show n % 2 = 0 by omega, Nat.add_zero]

theorem trial {n b : Nat} (hn : 2 ≤ n) (hb : n < b * b) (h : ∀ d, d < b → 2 ≤ d → n % d ≠ 0) : Pr n := by
  apply Classical.byContradiction
  intro hc
  obtain ⟨p, hp, hpd, hpp⟩ := small_prime hn hc
  by_cases hlt : p < b
  · exact h p hlt hp.1 (Nat.mod_eq_zero_of_dvd hpd)
  · have : b * b ≤ p * p := Nat.mul_le_mul (by omega) (by omega)
    omega

def trialB (n : Nat) : Nat → Bool
  | 0 => true
  | d + 1 => trialB n d && (decide (d < 2) || decide (n % d ≠ 0))
theorem trialB_says (n : Nat) : ∀ b, trialB n b = true → ∀ d, d < b → 2 ≤ d → n % d ≠ 0
  | 0, _, d, h, _ => by omega
  | b + 1, hb, d, h, h2 => by
    simp only [trialB, Bool.and_eq_true, Bool.or_eq_true, decide_eq_true_eq] at hb
    by_cases e : d = b
    · subst e
      rcases hb.2 with g | g
      · omega
      · exact g
    · exact trialB_says n b hb.1 d (by omega) h2

/-- one step of the chain, checked by computing -/
theorem chain {n q R a : Nat} (k : Nat) (hq : Pr q) (hc : (decide (2 ≤ n) && decide (n - 1 = q * R) && decide (n < q * q) && decide (n - 1 < 2 ^ k) && decide (R < 2 ^ k) && decide (pmF n k a (n - 1) = 1) && decide (Nat.gcd (pmF n k a R + n - 1) n = 1)) = true) : Pr n := by
  simp only [Bool.and_eq_true, decide_eq_true_eq] at hc
  obtain ⟨⟨⟨⟨⟨⟨h1, h2⟩, h3⟩, h4⟩, h5⟩, h6⟩, h7⟩ := hc
  rw [pmF_eq n k a _ h4] at h6
  rw [pmF_eq n k a _ h5] at h7
  exact pocklington h1 hq h2 h3 h6 h7

theorem pr1 : Pr 95189 := trial (b := 309) (by omega) (by omega) (trialB_says 95189 309 (by decide +kernel))
theorem pr2 : Pr 2835870689 := chain (q := 95189) (R := 29792) (a := 3) 64 pr1 (by decide +kernel)
theorem pr3 : Pr 5671741379 := chain (q := 2835870689) (R := 2) (a := 2) 64 pr2 (by decide +kernel)
theorem pr4 : Pr 288230376151711447 := chain (q := 5671741379) (R := 50818674) (a := 2) 64 pr3 (by decide +kernel)
def Qn : Nat := 1152921504606845789
def Pn : Nat := 2305843009213691579
theorem prQ : Pr Qn := chain (q := 288230376151711447) (R := 4) (a := 2) 64 pr4 (by decide +kernel)
theorem prP : Pr Pn := chain (q := Qn) (R := 2) (a := 2) 64 prQ (by decide +kernel)

/-- in the group of order Q -/
theorem no_dvd {a : Nat} (h : a ^ Qn % Pn = 1) : ¬ Pn ∣ a := by
  intro hd
  have : Pn ∣ a ^ Qn := dvd_pow_pos hd (by decide)
  rw [Nat.mod_eq_zero_of_dvd this] at h
  omega
theorem cancel {a x y : Nat} (ha : ¬ Pn ∣ a) (h : a * x % Pn = a * y % Pn) : x % Pn = y % Pn := by
  rcases Nat.le_total x y with hl | hl
  · have hd : Pn ∣ a * (y - x) := by
      rw [Nat.mul_sub]
      exact Nat.dvd_of_mod_eq_zero (Nat.sub_mod_eq_zero_of_mod_eq h.symm)
    rcases prP.mul hd with g | g
    · exact absurd g ha
    · obtain ⟨c, hc⟩ := g
      rw [show y = x + Pn * c by omega, Nat.add_mul_mod_self_left]
  · have hd : Pn ∣ a * (x - y) := by
      rw [Nat.mul_sub]
      exact Nat.dvd_of_mod_eq_zero (Nat.sub_mod_eq_zero_of_mod_eq h)
    rcases prP.mul hd with g | g
    · exact absurd g ha
    · obtain ⟨c, hc⟩ := g
      rw [show x = y + Pn * c by omega, Nat.add_mul_mod_self_left]
theorem no_dvd_pow {a : Nat} (h : ¬ Pn ∣ a) : ∀ n, ¬ Pn ∣ a ^ n
  | 0 => by rw [Nat.pow_zero]; decide
  | n + 1 => by
    rw [Nat.pow_succ]
    intro hd
    rcases prP.mul hd with g | g
    · exact no_dvd_pow h n g
    · exact h g
theorem pow_inj {a i j : Nat} (h : a ^ Qn % Pn = 1) (h1 : a % Pn ≠ 1) (hi : i < Qn) (hj : j < Qn) (he : a ^ i % Pn = a ^ j % Pn) : i = j := by
  have key : ∀ i j, i ≤ j → i < Qn → j < Qn → a ^ i % Pn = a ^ j % Pn → i = j := by
    intro i j hij hi hj he
    apply Classical.byContradiction
    intro hne
    have e : a ^ j = a ^ i * a ^ (j - i) := by rw [← Nat.pow_add]; congr 1; omega
    rw [e, show a ^ i % Pn = a ^ i * 1 % Pn by rw [Nat.mul_one]] at he
    have hc := cancel (no_dvd_pow (no_dvd h) i) he
    have hg := pow_gcd a Pn (j - i) Qn hc.symm h
    have hcop : Nat.gcd (j - i) Qn = 1 := by
      rcases prQ.2 _ (Nat.gcd_dvd_right (j - i) Qn) with g | g
      · exact g
      · have := Nat.le_of_dvd (by omega) (Nat.gcd_dvd_left (j - i) Qn)
        omega
    rw [hcop, Nat.pow_one] at hg
    exact h1 hg
  rcases Nat.le_total i j with hl | hl
  · exact key i j hl hi hj he
  · exact (key j i hl hj hi he.symm).symm
/-- squares are members -/
theorem square_member {x : Nat} (h : ¬ Pn ∣ x) : (x * x) ^ Qn % Pn = 1 := by
  have e : (x * x) ^ Qn = x ^ (Pn - 1) := by
    rw [← Nat.pow_two, ← Nat.pow_mul]; rfl
  rw [e]; exact fermat_one prP h
/-- exponents count modulo Q -/
theorem pow_red {a : Nat} (h : a ^ Qn % Pn = 1) (n : Nat) : a ^ n % Pn = a ^ (n % Qn) % Pn := by
  conv => lhs; rw [← Nat.div_add_mod n Qn, Nat.pow_add, Nat.pow_mul, Nat.mul_mod, one_pow_mod (show a ^ Qn % Pn = 1 % Pn from h), ← Nat.mul_mod, Nat.one_mul]
end Go.Proofs.YtkhodajdionaaaaGreatDoor
