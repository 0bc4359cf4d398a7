/- Proofs of equal logarithms, plainly. -/
import Derived.Test.YtkhodajdionaaaaGreatDoorSPlain
import Derived.Test.YtkhodajdionaaaaGreatDoorDec
import Derived.Lib.Join
namespace Go.Proofs.YtkhodajdionaaaaGreatDoor
set_option maxRecDepth 100000

/-- A word, a slash, and numbers with slashes between them. -/
def eqText (w : List UInt8) (xs : List Int) : List UInt8 := w ++ [47] ++ Lib.join (xs.map Lib.itoa) [47]
def eqScal (w : List UInt8) (xs : List Int) : Nat := scalN (eqText w xs)
def wNonce : List UInt8 := [110, 111, 110, 99, 101]
def wEqual : List UInt8 := [101, 113, 117, 97, 108]
theorem eqScal_lt (w : List UInt8) (xs : List Int) : eqScal w xs < Qn := scalN_lt _

/-- The power modulo P. -/
def pP (a n : Nat) : Nat := a ^ n % Pn
theorem pP_lt (a n : Nat) : pP a n < Pn := Nat.mod_lt _ pn_pos
def nonceE (x g h : Nat) : Nat := eqScal wNonce [(x : Int), (g : Int), (h : Int)]
def chalE (g a h b r s : Nat) : Nat := eqScal wEqual [(g : Int), (a : Int), (h : Int), (b : Int), (r : Int), (s : Int)]
theorem chalE_lt (g a h b r s : Nat) : chalE g a h b r s < Qn := scalN_lt _
/-- The C and the Z of a proof with a given k. -/
def cWith (x g h k : Nat) : Nat := chalE g (pP g x) h (pP h x) (pP g k) (pP h k)
def zWith (x g h k : Nat) : Nat := (k + cWith x g h k * x) % Qn
/-- One side of the equations. -/
def sideE (base a c z : Nat) : Nat := pP base z * pP a (Qn - c) % Pn
theorem sideE_lt (base a c z : Nat) : sideE base a c z < Pn := Nat.mod_lt _ pn_pos

/-- What Verify says. -/
def verE (g a h b c z : Int) : Bool :=
  memB g && memB a && memB h && memB b && decide (0 ≤ c) && decide (c < 1152921504606845789) && decide (0 ≤ z) && decide (z < 1152921504606845789) &&
    decide (c.toNat = chalE g.toNat a.toNat h.toNat b.toNat (sideE g.toNat a.toNat c.toNat z.toNat) (sideE h.toNat b.toNat c.toNat z.toNat))

theorem verE_cast (g a h b c z : Nat) : verE (g : Int) (a : Int) (h : Int) (b : Int) (c : Int) (z : Int) = true ↔
    memN g ∧ memN a ∧ memN h ∧ memN b ∧ c < Qn ∧ z < Qn ∧ c = chalE g a h b (sideE g a c z) (sideE h b c z) := by
  unfold verE
  have e1 : (decide (0 ≤ (c : Int)) = true) := by rw [decide_eq_true_iff]; omega
  have e2 : (decide (0 ≤ (z : Int)) = true) := by rw [decide_eq_true_iff]; omega
  have e3 : (decide ((c : Int) < 1152921504606845789) = true) ↔ c < Qn := by rw [decide_eq_true_iff]; unfold Qn; omega
  have e4 : (decide ((z : Int) < 1152921504606845789) = true) ↔ z < Qn := by rw [decide_eq_true_iff]; unfold Qn; omega
  simp only [Bool.and_eq_true, memB_cast, Int.toNat_natCast, e3, e4]
  rw [e1, e2]
  simp only [true_and, and_true, decide_eq_true_eq, and_assoc]

theorem pP_mem {g : Nat} (hg : memN g) (x : Nat) : memN (pP g x) := mem_pow hg.2.2 x

theorem side_same {g : Nat} (hg : memN g) (x k c : Nat) (hc : c ≤ Qn) : sideE g (pP g x) c ((k + c * x) % Qn) = pP g k := by
  unfold sideE pP
  rw [← pow_red hg.2.2, Nat.mul_mod_mod, Nat.mod_mul_mod, Nat.mul_mod, pow_mod_base, ← Nat.mul_mod, ← Nat.pow_mul, ← Nat.pow_add]
  have e : k + c * x + x * (Qn - c) = k + Qn * x := by
    have h1 : x * (Qn - c) + x * c = x * Qn := by rw [← Nat.mul_add, Nat.sub_add_cancel hc]
    have h2 : c * x = x * c := Nat.mul_comm _ _
    have h3 : Qn * x = x * Qn := Nat.mul_comm _ _
    omega
  rw [e, Nat.pow_add, Nat.pow_mul, Nat.mul_mod, Nat.pow_mod (g ^ Qn), hg.2.2, Nat.one_pow, Nat.mod_eq_of_lt pn_one, Nat.mul_one, Nat.mod_mod]

/-- A proof with any k is accepted. -/
theorem verE_with {g h : Nat} (hg : memN g) (hh : memN h) (x k : Nat) : verE (g : Int) (pP g x : Int) (h : Int) (pP h x : Int) (cWith x g h k : Int) (zWith x g h k : Int) = true := by
  rw [verE_cast]
  have hc : cWith x g h k < Qn := chalE_lt _ _ _ _ _ _
  refine ⟨hg, pP_mem hg x, hh, pP_mem hh x, hc, Nat.mod_lt _ qn_pos, ?_⟩
  unfold zWith
  rw [side_same hg x k _ (by omega), side_same hh x k _ (by omega)]
  rfl

theorem elem_mem {x : Nat} (h1 : 1 ≤ x) (h2 : x < Pn) : memN (x * x % Pn) := by
  have hd : ¬ Pn ∣ x := fun h => by have := Nat.le_of_dvd (by omega) h; omega
  have e : (x * x % Pn) ^ Qn % Pn = 1 := by rw [pow_mod_base]; exact square_member hd
  refine ⟨?_, Nat.mod_lt _ pn_pos, e⟩
  by_cases h0 : x * x % Pn = 0
  · rw [h0, Nat.zero_pow qn_pos, Nat.zero_mod] at e
    omega
  · omega
/-- The member that a number determines. -/
def elemN (n : Nat) : Nat := (n + 1) * (n + 1) % Pn
theorem elemN_mem {n : Nat} (h : n < Qn) : memN (elemN n) := elem_mem (by omega) (by have h1 : n < 1152921504606845789 := h; show n + 1 < 2305843009213691579; omega)

theorem mod_dvd {m a b : Nat} (h : b % m = a % m) : m ∣ b - a := Nat.dvd_of_mod_eq_zero (Nat.sub_mod_eq_zero_of_mod_eq h)
theorem dvd_mod {m a b : Nat} (hab : a ≤ b) (h : m ∣ b - a) : a % m = b % m := by
  obtain ⟨q, hq⟩ := h
  have : b = a + m * q := by omega
  rw [this, Nat.add_mul_mod_self_left]
/-- The equations of EqualOnly. -/
theorem only_one {g : Nat} (hg : memN g) (i k c : Nat) : pP g ((k + c * i % Qn) % Qn) = pP g k * pP (pP g i) c % Pn := by
  unfold pP
  rw [Nat.add_mod_mod, ← pow_red hg.2.2, Nat.mod_mul_mod, Nat.mul_mod_mod, Nat.mul_mod, pow_mod_base, ← Nat.mul_mod, ← Nat.pow_mul, ← Nat.pow_add, Nat.mul_comm i c]
theorem only_two {h : Nat} (hh : memN h) (h1 : h ≠ 1) (i j k c : Nat) (hi : i < Qn) (hj : j < Qn) (hc : c < Qn) (hij : i ≠ j) : (pP h ((k + c * i % Qn) % Qn) = pP h k * pP (pP h j) c % Pn) ↔ c = 0 := by
  rw [← only_one hh j k c]
  constructor
  · intro e
    unfold pP at e
    have e2 := pow_inj hh.2.2 (by rw [Nat.mod_eq_of_lt hh.2.1]; exact h1) (Nat.mod_lt _ qn_pos) (Nat.mod_lt _ qn_pos) e
    rw [Nat.add_mod_mod, Nat.add_mod_mod] at e2
    have aux : ∀ a b : Nat, a ≤ b → b < Qn → a ≠ b → (k + c * b) % Qn = (k + c * a) % Qn → c = 0 := by
      intro a b hab hb hne he
      have hd : Qn ∣ (k + c * b) - (k + c * a) := mod_dvd he
      have e3 : (k + c * b) - (k + c * a) = c * (b - a) := by rw [Nat.mul_sub]; omega
      rw [e3] at hd
      rcases prQ.mul hd with h | h
      · by_cases h0 : c = 0
        · exact h0
        · have := Nat.le_of_dvd (by omega) h; omega
      · have := Nat.le_of_dvd (by omega) h; omega
    rcases Nat.le_total i j with h | h
    · exact aux i j h hj hij e2.symm
    · exact aux j i h hi (fun e => hij e.symm) e2
  · intro e
    subst e
    simp

/-- P - a is no member. -/
theorem neg_no {a : Nat} (ha : memN a) : ¬ memN (Pn - a) := by
  intro h
  have h1 := ha.2.2
  have h2 := h.2.2
  have hl := ha.2.1
  have hodd : ∀ n : Nat, ((Pn - a) ^ (2 * n + 1) + a ^ (2 * n + 1)) % Pn = 0 := by
    intro n
    induction n with
    | zero => simp [Nat.sub_add_cancel (Nat.le_of_lt hl)]
    | succ n ih =>
      have sq : (Pn - a) ^ 2 % Pn = a ^ 2 % Pn := by
        have hb : a + (Pn - a) = Pn := by omega
        generalize Pn - a = b at *
        have : b ^ 2 + a * b = Pn * b := by rw [← hb, Nat.add_mul, Nat.pow_two]; omega
        have t2 : a ^ 2 + a * b = a * Pn := by rw [← hb, Nat.mul_add, Nat.pow_two]
        have c1 : (b ^ 2 + a * b) % Pn = 0 := by rw [this, Nat.mul_mod_right]
        have c2 : (a ^ 2 + a * b) % Pn = 0 := by rw [t2, Nat.mul_mod_left]
        have d1 := Nat.dvd_of_mod_eq_zero c1
        have d2 := Nat.dvd_of_mod_eq_zero c2
        rcases Nat.le_total (b ^ 2) (a ^ 2) with hle | hle
        · have : Pn ∣ a ^ 2 - b ^ 2 := by have := Nat.dvd_sub d2 d1; rwa [Nat.add_sub_add_right] at this
          exact dvd_mod hle this
        · have : Pn ∣ b ^ 2 - a ^ 2 := by have := Nat.dvd_sub d1 d2; rwa [Nat.add_sub_add_right] at this
          exact (dvd_mod hle this).symm
      have e1 : 2 * (n + 1) + 1 = (2 * n + 1) + 2 := by omega
      rw [e1, Nat.pow_add (Pn - a) (2 * n + 1) 2, Nat.pow_add a (2 * n + 1) 2]
      generalize (Pn - a) ^ (2 * n + 1) = X at *
      generalize a ^ (2 * n + 1) = Y at *
      rw [Nat.add_mod, Nat.mul_mod, sq, ← Nat.mul_mod, ← Nat.add_mod, ← Nat.add_mul, Nat.mul_mod, ih, Nat.zero_mul, Nat.zero_mod]
  have hq := hodd 576460752303422894
  have eq : 2 * 576460752303422894 + 1 = Qn := rfl
  rw [eq, Nat.add_mod, h1, h2] at hq
  exact absurd hq (by decide)
end Go.Proofs.YtkhodajdionaaaaGreatDoor
