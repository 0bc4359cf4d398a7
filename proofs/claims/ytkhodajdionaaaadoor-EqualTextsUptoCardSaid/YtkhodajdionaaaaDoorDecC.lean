/- How numerals and pairs are read digit by digit, plainly. -/
import Derived.Test.YtkhodajdionaaaaDoorDecB
namespace Go.Proofs.YtkhodajdionaaaaDoor
set_option maxRecDepth 100000
open Go Go.RowKit

theorem num_value_minus {D : List UInt8} (h : isNum (45 :: D)) : Lib.itoa (wrap64 (-(valD D : Int))) = 45 :: D := by
  obtain ⟨m, hm, he⟩ := h
  obtain ⟨h1, h2, h3⟩ := num_minus hm he
  rw [h2, valD_dec, show -((m.natAbs : Nat) : Int) = m by omega, wrap_of hm, ← he, ← h2]
theorem num_value_plain {D : List UInt8} (h0 : ∀ r, D ≠ 45 :: r) (h : isNum D) : Lib.itoa (wrap64 (valD D : Int)) = D := by
  obtain ⟨m, hm, he⟩ := h
  obtain ⟨h1, h2, h3⟩ := num_plain hm h0 he
  have hv : valD D = m.natAbs := by rw [h2, valD_dec]
  rw [hv, show ((m.natAbs : Nat) : Int) = m by omega, wrap_of hm, ← he]
/-- The characters of a numeral. -/
theorem num_minus_chars {D : List UInt8} (h : isNum (45 :: D)) : D ≠ [] ∧ D.length ≤ 19 ∧ ∀ c ∈ D, 48 ≤ c.toNat ∧ c.toNat ≤ 57 := by
  obtain ⟨m, hm, he⟩ := h
  obtain ⟨h1, h2, h3⟩ := num_minus hm he
  rw [h2]
  exact ⟨dec_ne _, dec_le19 h3, dec_digits _⟩
theorem num_plain_chars {D : List UInt8} (h0 : ∀ r, D ≠ 45 :: r) (h : isNum D) : D ≠ [] ∧ D.length ≤ 19 ∧ ∀ c ∈ D, 48 ≤ c.toNat ∧ c.toNat ≤ 57 := by
  obtain ⟨m, hm, he⟩ := h
  obtain ⟨h1, h2, h3⟩ := num_plain hm h0 he
  rw [h2]
  exact ⟨dec_ne _, dec_le19 h3, dec_digits _⟩
theorem valD_nil : valD [] = 0 := rfl

/-- The verdict of a reader that writes the number again. -/
theorem numOk_minus {D : List UInt8} {n : Int} {ok : Bool} (hn : n = wrap64 (-(valD D : Int))) (hok : ok = true ↔ Lib.itoa n = 45 :: D) : numOk (45 :: D) n ok := by
  refine ⟨hn ▸ wrap_bounds _, fun h => (hok.1 h).symm, fun h hnum => ?_⟩
  have := hok.2 (by rw [hn]; exact num_value_minus hnum)
  rw [h] at this; cases this
theorem numOk_plain {D : List UInt8} {n : Int} {ok : Bool} (h0 : ∀ r, D ≠ 45 :: r) (hn : n = wrap64 (valD D : Int)) (hok : ok = true ↔ Lib.itoa n = D) : numOk D n ok := by
  refine ⟨hn ▸ wrap_bounds _, fun h => (hok.1 h).symm, fun h hnum => ?_⟩
  have := hok.2 (by rw [hn]; exact num_value_plain h0 hnum)
  rw [h] at this; cases this

theorem split_at {l : List UInt8} {k : Nat} {c : UInt8} (h : l[k]? = some c) : l = l.take k ++ c :: l.drop (k + 1) := by
  obtain ⟨hk, rfl⟩ := List.getElem?_eq_some_iff.1 h
  conv => lhs; rw [← List.take_append_drop k l, List.drop_eq_getElem_cons hk]
theorem readV_dot {l : List UInt8} {k : Nat} (hk : l[k]? = some 46) (hno : (46 : UInt8) ∉ l.take k) {a b : Int} {p q : Bool} (h1 : numOk (l.take k) a p) (h2 : numOk (l.drop (k + 1)) b q) : readV l = if (p && q) = true then (a, b, true) else (0, 0, false) := by
  have hl := split_at hk
  cases hp : p with
  | true =>
    cases hq : q with
    | true =>
      have e1 := h1.2.1 hp
      have e2 := h2.2.1 hq
      have : l = pairL a b := by rw [pairL, ← e1, ← e2]; simpa using hl
      rw [readV, this, readL_pair h1.1 h2.1]
      rfl
    | false =>
      have hne := h2.2.2 hq
      have : readL l = none := by
        cases hh : readL l with
        | none => rfl
        | some v =>
          obtain ⟨x, y⟩ := v
          obtain ⟨i1, i2, e⟩ := readL_some hh
          have c1 := cut_hit 46 (l.take k) (l.drop (k + 1)) hno
          rw [← hl, e, pairL_cut] at c1
          simp only [Prod.mk.injEq] at c1
          exact absurd ⟨y, i2, by rw [c1.2.1, ← e]⟩ hne
      rw [readV, this]
      rfl
  | false =>
    have hne := h1.2.2 hp
    have : readL l = none := by
      cases hh : readL l with
      | none => rfl
      | some v =>
        obtain ⟨x, y⟩ := v
        obtain ⟨i1, i2, e⟩ := readL_some hh
        have c1 := cut_hit 46 (l.take k) (l.drop (k + 1)) hno
        rw [← hl, e, pairL_cut] at c1
        simp only [Prod.mk.injEq] at c1
        exact absurd ⟨x, i1, by rw [c1.1, ← e]⟩ hne
    rw [readV, this]
    rfl
theorem readV_nodot {l : List UInt8} (h : (46 : UInt8) ∉ l) : readV l = (0, 0, false) := by
  have : readL l = none := by
    cases hh : readL l with
    | none => rfl
    | some v =>
      obtain ⟨x, y⟩ := v
      obtain ⟨i1, i2, e⟩ := readL_some hh
      exact absurd (by rw [e, pairL]; simp) h
  rw [readV, this]
end Go.Proofs.YtkhodajdionaaaaDoor
