/- Big numbers as bytes and as digits to the base 2^24, plainly. sortesref01: Canon, Int, Of, small. sortesref01: slices of digits; trim, cmp, times, minus, number. sortesref01: minus, digit, number. sortesref01: number, of, Quo, Text. sortesref01: Quo, Text. sortesref01: Quo, Text. sortesref22.Decimal. sortesref22.Body, sortesref22.Text. sortesref22.Text, sortesref22.Hash. sortesref22.Signed, sortesref22.Print. sortesref22.Print. -/
import Derived.Test.YtabnlklkfgojgaaGreatDoorGA
import Derived.Lib.Hide
import Derived.Test.YtabnlklkfgojgaaGreatDoorRows
import Derived.Test.YtabnlklkfgojgaaGreatDoorGB
import Derived.Test.YtabnlklkfgojgaaGreatDoorGD
import Derived.Test.YtabnlklkfgojgaaGreatDoorGC
import Derived.Test.YtabnlklkfgojgaaGreatDoorGZ
import Derived.Test.YtabnlklkfgojgaaGreatDoorGE
namespace Go.Proofs.YtabnlklkfgojgaaGreatDoor
set_option maxRecDepth 100000

theorem snoc_ind {α : Type} {p : List α → Prop} (h0 : p []) (h1 : ∀ l b, p l → p (l ++ [b])) (l : List α) : p l := by
  rw [← List.reverse_reverse l]
  induction l.reverse with
  | nil => exact h0
  | cons a r ih => rw [List.reverse_cons]; exact h1 _ _ ih

def natB (l : List UInt8) : Nat := l.foldl (fun a b => a * 256 + b.toNat) 0
theorem natB_nil : natB [] = 0 := rfl
theorem natB_snoc (l : List UInt8) (b : UInt8) : natB (l ++ [b]) = natB l * 256 + b.toNat := by simp [natB]
theorem natB_append (a : List UInt8) : ∀ b, natB (a ++ b) = natB a * 256 ^ b.length + natB b := by
  intro b
  induction b using snoc_ind with
  | h0 => simp [natB_nil]
  | h1 l b ih =>
    rw [← List.append_assoc, natB_snoc, ih, natB_snoc, List.length_append, List.length_singleton, Nat.pow_succ, Nat.add_mul, Nat.mul_assoc, Nat.add_assoc]
theorem natB_cons (a : UInt8) (r : List UInt8) : natB (a :: r) = a.toNat * 256 ^ r.length + natB r := by
  have := natB_append [a] r
  simpa [natB] using this
theorem natB_take_le (l : List UInt8) (k : Nat) : natB (l.take k) ≤ natB l := by
  have h := natB_append (l.take k) (l.drop k)
  rw [List.take_append_drop] at h
  have h1 : natB (l.take k) * 1 ≤ natB (l.take k) * 256 ^ (l.drop k).length := Nat.mul_le_mul_left _ (Nat.pow_pos (by omega))
  omega
theorem natB_lt (l : List UInt8) : natB l < 256 ^ l.length := by
  induction l using snoc_ind with
  | h0 => simp [natB_nil]
  | h1 l b ih =>
    have := b.toNat_lt
    rw [natB_snoc, List.length_append, List.length_singleton, Nat.pow_succ]
    omega

def be (n : Nat) : List UInt8 := if n = 0 then [] else be (n / 256) ++ [UInt8.ofNat (n % 256)]
termination_by n
decreasing_by omega
theorem be_zero : be 0 = [] := by rw [be]; rfl
theorem be_pos {n : Nat} (h : 0 < n) : be n = be (n / 256) ++ [UInt8.ofNat (n % 256)] := by rw [be, if_neg (by omega)]
theorem be_snoc (x : Nat) (b : UInt8) (h : 0 < x * 256 + b.toNat) : be (x * 256 + b.toNat) = be x ++ [b] := by
  have hb := b.toNat_lt
  rw [be_pos h, show (x * 256 + b.toNat) / 256 = x by omega, show (x * 256 + b.toNat) % 256 = b.toNat by omega, UInt8.ofNat_toNat]
theorem natB_be (n : Nat) : natB (be n) = n := by
  induction n using Nat.strongRecOn with
  | ind n ih =>
    by_cases h : n = 0
    · subst h; rw [be_zero]; rfl
    · rw [be_pos (by omega), natB_snoc, ih (n / 256) (by omega), UInt8.toNat_ofNat']
      omega
theorem be_len (n : Nat) : n < 256 ^ (be n).length := by
  have := natB_lt (be n)
  rwa [natB_be] at this
theorem be_len_le : ∀ (k n : Nat), n < 256 ^ k → (be n).length ≤ k
  | 0, n, h => by
    have : n = 0 := by simpa using h
    subst this; rw [be_zero]; simp
  | k + 1, n, h => by
    by_cases h0 : n = 0
    · subst h0; rw [be_zero]; simp
    · rw [be_pos (by omega), List.length_append, List.length_singleton]
      have := be_len_le k (n / 256) (by rw [Nat.pow_succ] at h; omega)
      omega
theorem be_ne {n : Nat} (h : 0 < n) : 0 < (be n).length := by
  rw [be_pos h]; simp
theorem be_small {n k : Nat} (h : (be n).length ≤ k) : n < 256 ^ k := Nat.lt_of_lt_of_le (be_len n) (Nat.pow_le_pow_right (by omega) h)

def canonL (l : List UInt8) : List UInt8 := l.dropWhile (· == 0)
theorem canon_be (l : List UInt8) : canonL l = be (natB l) := by
  induction l using snoc_ind with
  | h0 => rw [natB_nil, be_zero]; rfl
  | h1 l b ih =>
    rw [canonL, List.dropWhile_append, natB_snoc]
    have ih' : List.dropWhile (· == 0) l = be (natB l) := ih
    rw [ih']
    by_cases h0 : natB l = 0
    · rw [h0, be_zero]
      simp only [List.isEmpty_nil, if_true]
      by_cases hb : b = 0
      · subst hb
        rw [show 0 * 256 + (0 : UInt8).toNat = 0 from rfl, be_zero]
        rfl
      · have hb' : 0 < b.toNat := by
          rcases Nat.eq_zero_or_pos b.toNat with h | h
          · exact absurd (UInt8.toNat_inj.1 h) hb
          · exact h
        rw [be_snoc 0 b (by omega), be_zero]
        have : (b == 0) = false := by rw [beq_eq_false_iff_ne]; exact hb
        simp [List.dropWhile, this]
    · have hne : (be (natB l)).isEmpty = false := by
        have := be_ne (n := natB l) (by omega)
        cases hh : be (natB l) with
        | nil => rw [hh] at this; simp at this
        | cons => rfl
      rw [hne, be_snoc _ _ (by omega)]
      rfl
theorem canon_step {l : List UInt8} {k : Nat} (h : l[k]? = some 0) : canonL (l.drop k) = canonL (l.drop (k + 1)) := by
  obtain ⟨hk, he⟩ := List.getElem?_eq_some_iff.1 h
  rw [List.drop_eq_getElem_cons hk, he, canonL, List.dropWhile_cons]
  simp [canonL]
theorem canon_stop {l : List UInt8} {k : Nat} {b : UInt8} (h : l[k]? = some b) (hb : b ≠ 0) : canonL (l.drop k) = l.drop k := by
  obtain ⟨hk, he⟩ := List.getElem?_eq_some_iff.1 h
  rw [List.drop_eq_getElem_cons hk, he, canonL, List.dropWhile_cons]
  have : (b == 0) = false := by rw [beq_eq_false_iff_ne]; exact hb
  simp [this]

theorem natB_len8 (n : Nat) (h : n < 18446744073709551616) : natB (len8 n) = n := by
  have e : len8 n = [UInt8.ofNat (n / 2 ^ 56), UInt8.ofNat (n / 2 ^ 48), UInt8.ofNat (n / 2 ^ 40), UInt8.ofNat (n / 2 ^ 32), UInt8.ofNat (n / 2 ^ 24), UInt8.ofNat (n / 2 ^ 16), UInt8.ofNat (n / 2 ^ 8), UInt8.ofNat (n / 2 ^ 0)] := rfl
  rw [e]
  simp only [natB, List.foldl_cons, List.foldl_nil, UInt8.toNat_ofNat']
  omega

theorem be_div (x : Nat) : be (x / 256) = (be x).take ((be x).length - 1) := by
  by_cases h : x = 0
  · subst h; rw [show 0 / 256 = 0 from rfl, be_zero]; rfl
  · rw [be_pos (n := x) (by omega)]; simp
theorem be_div3 (x : Nat) : be (x / 16777216) = (be x).take ((be x).length - 3) := by
  have e : x / 16777216 = x / 256 / 256 / 256 := by omega
  rw [e, be_div (x / 256 / 256), be_div (x / 256), be_div x]
  simp only [List.length_take, List.take_take]
  congr 1
  omega
theorem be_mod3 (x : Nat) : natB ((be x).drop ((be x).length - 3)) = x % 16777216 := by
  have h := natB_append ((be x).take ((be x).length - 3)) ((be x).drop ((be x).length - 3))
  rw [List.take_append_drop, natB_be, ← be_div3, natB_be, List.length_drop] at h
  by_cases h3 : 3 ≤ (be x).length
  · rw [show (be x).length - ((be x).length - 3) = 3 by omega, show (256 : Nat) ^ 3 = 16777216 from rfl] at h
    omega
  · have hx : x < 16777216 := by
      have := be_small (n := x) (k := 3) (by omega)
      simpa using this
    rw [show (be x).length - 3 = 0 by omega, List.drop_zero, natB_be]
    omega

def valL : List Nat → Nat
  | [] => 0
  | d :: r => d + 16777216 * valL r
def okL (l : List Nat) : Prop := ∀ d ∈ l, d < 16777216
def dg (n : Nat) : List Nat := if n = 0 then [] else n % 16777216 :: dg (n / 16777216)
termination_by n
decreasing_by omega
theorem dg_zero : dg 0 = [] := by rw [dg]; rfl
theorem dg_pos {n : Nat} (h : 0 < n) : dg n = n % 16777216 :: dg (n / 16777216) := by rw [dg, if_neg (by omega)]
theorem valL_dg (n : Nat) : valL (dg n) = n := by
  induction n using Nat.strongRecOn with
  | ind n ih =>
    by_cases h : n = 0
    · subst h; rw [dg_zero]; rfl
    · rw [dg_pos (by omega), valL, ih (n / 16777216) (by omega)]
      omega
theorem dg_ok (n : Nat) : okL (dg n) := by
  induction n using Nat.strongRecOn with
  | ind n ih =>
    by_cases h : n = 0
    · subst h; rw [dg_zero]; intro d hd; simp at hd
    · rw [dg_pos (by omega)]
      intro d hd
      rcases List.mem_cons.1 hd with rfl | hd
      · omega
      · exact ih (n / 16777216) (by omega) d hd
theorem valL_append : ∀ (a b : List Nat), valL (a ++ b) = valL a + 16777216 ^ a.length * valL b
  | [], b => by simp [valL]
  | d :: r, b => by
    simp only [List.cons_append, valL, valL_append r b, List.length_cons, Nat.pow_succ]
    rw [Nat.mul_add, Nat.add_assoc, ← Nat.mul_assoc, Nat.mul_comm (16777216 ^ r.length) 16777216]
theorem valL_snoc (a : List Nat) (d : Nat) : valL (a ++ [d]) = valL a + 16777216 ^ a.length * d := by rw [valL_append]; simp [valL]
theorem okL_nil : okL [] := fun d hd => by simp at hd
theorem okL_snoc {l : List Nat} {d : Nat} (h : okL l) (hd : d < 16777216) : okL (l ++ [d]) := by
  intro x hx
  rcases List.mem_append.1 hx with hx | hx
  · exact h x hx
  · rw [List.mem_singleton] at hx; omega
theorem okL_take {l : List Nat} (h : okL l) (k : Nat) : okL (l.take k) := fun d hd => h d (List.mem_of_mem_take hd)
theorem valL_lt : ∀ {l : List Nat}, okL l → valL l < 16777216 ^ l.length
  | [], _ => by simp [valL]
  | d :: r, h => by
    have h1 := h d (by simp)
    have h2 := valL_lt (l := r) (fun x hx => h x (by simp [hx]))
    simp only [valL, List.length_cons, Nat.pow_succ]
    omega
theorem dg_of_last : ∀ {c : List Nat}, okL c → (∀ d, c.getLast? = some d → d ≠ 0) → c = dg (valL c)
  | [], _, _ => by rw [valL, dg_zero]
  | d :: r, h, hl => by
    have hd := h d (by simp)
    cases r with
    | nil =>
      have : d ≠ 0 := hl d (by simp)
      simp only [valL, Nat.mul_zero, Nat.add_zero]
      rw [dg_pos (by omega), show d % 16777216 = d by omega, show d / 16777216 = 0 by omega, dg_zero]
    | cons e r =>
      have ih := dg_of_last (c := e :: r) (fun x hx => h x (by simp [List.mem_cons.1 hx])) (fun x hx => hl x (by simpa using hx))
      have hpos : 0 < valL (e :: r) := by
        rcases Nat.eq_zero_or_pos (valL (e :: r)) with h0 | h0
        · rw [h0, dg_zero] at ih; cases ih
        · exact h0
      rw [valL, dg_pos (by omega), show (d + 16777216 * valL (e :: r)) % 16777216 = d by omega, show (d + 16777216 * valL (e :: r)) / 16777216 = valL (e :: r) by omega, ← ih]
theorem dg_len_le : ∀ (k n : Nat), n < 16777216 ^ k → (dg n).length ≤ k
  | 0, n, h => by
    have : n = 0 := by simpa using h
    subst this; rw [dg_zero]; simp
  | k + 1, n, h => by
    by_cases h0 : n = 0
    · subst h0; rw [dg_zero]; simp
    · rw [dg_pos (by omega), List.length_cons]
      have := dg_len_le k (n / 16777216) (by rw [Nat.pow_succ] at h; omega)
      omega
theorem dg_lt (n : Nat) : n < 16777216 ^ (dg n).length := by
  have := valL_lt (dg_ok n)
  rwa [valL_dg] at this
theorem dg_len_lt {x y : Nat} (h : (dg x).length < (dg y).length) : x < y := by
  rcases Nat.lt_or_ge x y with h1 | h1
  · exact h1
  · have := dg_len_le (dg x).length y (Nat.lt_of_le_of_lt h1 (dg_lt x))
    omega
theorem val_cmp {u v : List Nat} {k a b : Nat} (hu : okL u) (hk : u.drop (k + 1) = v.drop (k + 1)) (ha : u[k]? = some a) (hb : v[k]? = some b) (hab : a < b) : valL u < valL v := by
  obtain ⟨hku, rfl⟩ := List.getElem?_eq_some_iff.1 ha
  obtain ⟨hkv, rfl⟩ := List.getElem?_eq_some_iff.1 hb
  have eu := valL_append (u.take k) (u.drop k)
  have ev := valL_append (v.take k) (v.drop k)
  rw [List.take_append_drop, List.drop_eq_getElem_cons hku, valL] at eu
  rw [List.take_append_drop, List.drop_eq_getElem_cons hkv, valL, ← hk] at ev
  rw [List.length_take, Nat.min_eq_left (by omega)] at eu ev
  have hlt := valL_lt (okL_take hu k)
  rw [List.length_take, Nat.min_eq_left (by omega)] at hlt
  generalize 16777216 ^ k = m at *
  generalize 16777216 * valL (u.drop (k + 1)) = z at *
  have h2 : m * (u[k] + z) + m ≤ m * (v[k] + z) := by
    rw [← Nat.mul_succ]
    exact Nat.mul_le_mul_left _ (by omega)
  omega
theorem valL_drop_step {l : List Nat} {k d : Nat} (h : l[k]? = some d) : valL (l.drop k) = d + 16777216 * valL (l.drop (k + 1)) := by
  obtain ⟨hk, rfl⟩ := List.getElem?_eq_some_iff.1 h
  rw [List.drop_eq_getElem_cons hk, valL]
theorem take_step {α : Type} {l : List α} {k : Nat} {d : α} (h : l[k]? = some d) : l.take (k + 1) = l.take k ++ [d] := by
  rw [List.take_add_one, h]; rfl
theorem valL_take_step {l : List Nat} {k d : Nat} (h : l[k]? = some d) : valL (l.take (k + 1)) = valL (l.take k) + 16777216 ^ k * d := by
  have hk := (List.getElem?_eq_some_iff.1 h).1
  rw [take_step h, valL_snoc, List.length_take, Nat.min_eq_left (by omega)]

theorem times_step {u out : List Nat} {k x d c : Nat} (hx : u[k]? = some x) (hl : out.length = k) (h : valL out + 16777216 ^ k * c = valL (u.take k) * d) :
    valL (out ++ [(x * d + c) % 16777216]) + 16777216 ^ (k + 1) * ((x * d + c) / 16777216) = valL (u.take (k + 1)) * d := by
  rw [valL_snoc, hl, valL_take_step hx, Nat.add_mul, ← h, Nat.pow_succ, Nat.mul_assoc (16777216 ^ k) 16777216, Nat.add_assoc, ← Nat.mul_add, Nat.mul_assoc (16777216 ^ k) x d, Nat.add_assoc, ← Nat.mul_add]
  congr 2
  omega
theorem times_carry {x d c : Nat} (hx : x < 16777216) (hd : d < 16777216) (hc : c < 16777216) : (x * d + c) / 16777216 < 16777216 ∧ x * d + c < 281474976710656 := by
  have h : x * d ≤ 16777215 * 16777215 := Nat.mul_le_mul (by omega) (by omega)
  omega
theorem minus_step {u v out : List Nat} {k x r b b' : Nat} (hx : u[k]? = some x) (hl : out.length = k) (h : valL out + valL (v.take k) = valL (u.take k) + 16777216 ^ k * b) (hs : x + 16777216 * b' = r + b + v.getD k 0) :
    valL (out ++ [r]) + valL (v.take (k + 1)) = valL (u.take (k + 1)) + 16777216 ^ (k + 1) * b' := by
  have hv : valL (v.take (k + 1)) = valL (v.take k) + 16777216 ^ k * v.getD k 0 := by
    by_cases hk : k < v.length
    · have he : v[k]? = some v[k] := List.getElem?_eq_getElem hk
      rw [valL_take_step he, List.getD_eq_getElem?_getD, he]
      rfl
    · rw [List.take_of_length_le (by omega), List.take_of_length_le (by omega), List.getD_eq_getElem?_getD, List.getElem?_eq_none (by omega)]
      simp
  have e : 16777216 ^ k * (x + 16777216 * b') = 16777216 ^ k * (r + b + v.getD k 0) := by rw [hs]
  rw [Nat.mul_add, Nat.mul_add, Nat.mul_add, ← Nat.mul_assoc] at e
  rw [valL_snoc, hl, valL_take_step hx, hv, Nat.pow_succ]
  omega
theorem minus_end {u v out : List Nat} {b : Nat} (hl : out.length = u.length) (ho : okL out) (hv : v.length ≤ u.length) (hle : valL v ≤ valL u) (h : valL out + valL (v.take u.length) = valL (u.take u.length) + 16777216 ^ u.length * b) : valL out = valL u - valL v := by
  rw [List.take_of_length_le hv, List.take_length] at h
  have h1 := valL_lt ho
  rw [hl] at h1
  cases b with
  | zero => omega
  | succ b => rw [Nat.mul_succ] at h; omega
theorem dg_len_mono {x y : Nat} (h : y ≤ x) : (dg y).length ≤ (dg x).length := by
  rcases Nat.lt_or_ge (dg x).length (dg y).length with h1 | h1
  · have := dg_len_lt h1; omega
  · exact h1

theorem natB_three (l : List UInt8) (d : Nat) (h : d < 16777216) : natB (l ++ [UInt8.ofNat (d / 65536), UInt8.ofNat (d / 256), UInt8.ofNat d]) = natB l * 16777216 + d := by
  have e : l ++ [UInt8.ofNat (d / 65536), UInt8.ofNat (d / 256), UInt8.ofNat d] = ((l ++ [UInt8.ofNat (d / 65536)]) ++ [UInt8.ofNat (d / 256)]) ++ [UInt8.ofNat d] := by simp
  rw [e, natB_snoc, natB_snoc, natB_snoc]
  simp only [UInt8.toNat_ofNat']
  omega

theorem quo_step {X q Q y r x : Nat} (h : X = Q * y + r) (hq : q = (x + 16777216 * r) / y) : x + 16777216 * X = (q + 16777216 * Q) * y + (x + 16777216 * r) % y := by
  have := Nat.div_add_mod (x + 16777216 * r) y
  rw [← hq] at this
  rw [h, Nat.add_mul, Nat.mul_assoc, Nat.mul_add, Nat.mul_comm q y]
  omega
theorem quo_digit {y r x : Nat} (hr : r < y) (hx : x < 16777216) : (x + 16777216 * r) / y < 16777216 := by
  rw [Nat.div_lt_iff_lt_mul (by omega)]
  have : 16777216 * (r + 1) ≤ 16777216 * y := Nat.mul_le_mul_left _ (by omega)
  rw [Nat.mul_comm 16777216 y] at this
  omega
theorem digit_low {u y m : Nat} (_hy : 0 < y) (h : y * m ≤ u) : m ≤ u / y := (Nat.le_div_iff_mul_le _hy).2 (by rw [Nat.mul_comm]; exact h)
theorem digit_high {u y m : Nat} (_hy : 0 < y) (h : u < y * m) : u / y < m := (Nat.div_lt_iff_lt_mul _hy).2 (by rw [Nat.mul_comm]; exact h)
end Go.Proofs.YtabnlklkfgojgaaGreatDoor

namespace Go.Proofs.YtabnlklkfgojgaaGreatDoor
open Go.RowKit
set_option maxRecDepth 100000

def RetNat (n : Nat) (w : World) (e : Ending) (w' : World) : Prop := ∃ r : ByteArray, Hid (bs r = be n) ∧ e = .returned (.string r) ∧ w = w'
def MkNat (n : Nat) (w : World) (e : Ending) (w' : World) : Prop := ∃ r : ByteArray, Hid (bs r = be n) ∧ e = .returned (.string r) ∧ Upd [] [] w w'

theorem u8_zero {b : UInt8} (h : (b.toNat : Int) = 0) : b = 0 := UInt8.toNat_inj.1 (by have : (0 : UInt8).toNat = 0 := rfl; omega)
theorem bs_get (s : ByteArray) (k : Nat) (h : k < s.size) : (bs s)[k]? = some s[k] := by
  have : k < (bs s).length := h
  rw [List.getElem?_eq_getElem this]; rfl

theorem bs_cons' (s : ByteArray) (h : 0 < s.size) : bs s = s[0] :: (bs s).drop 1 := by
  have h2 : 0 < (bs s).length := h
  exact List.drop_eq_getElem_cons h2

theorem canon_any (s : ByteArray) (w : World) (hs : s.size ≤ 1000000000000) : Calls Tryz.prog 189 #[.string s] w (RetNat (natB (bs s)) w) := by
  go_enter Tryz.func189, Tryz.ntmps189
  go_wp2_with fail
  go_loop [3] (fun i => ∃ k : Nat, i = .int .i64 (k : Int) ∧ k ≤ s.size ∧ Hid (canonL ((bs s).drop k) = canonL (bs s))) (fun i => s.size - (intOf i).toNat)
  case atStart => exact ⟨0, rfl, Nat.zero_le _, rfl⟩
  case round =>
    obtain ⟨k, rfl, hk, HK⟩ := hrel
    by_cases hlt : k < s.size
    · by_cases h0 : (s[k].toNat : Int) = 0
      · have hb : ((s[k].toNat : Int) == 0) = true := by rw [beq_iff_eq]; exact h0
        have hst : canonL ((bs s).drop (k + 1)) = canonL (bs s) := by
          rw [← canon_step (by rw [bs_get s k hlt, u8_zero h0]), HK.out]
        have HST := Lib.hid hst
        clear hst h0
        go_wp2_with fail
        exact ⟨⟨k + 1, by go_num, by omega, HST.out⟩, by simp [intOf]; omega⟩
      · have hb : ((s[k].toNat : Int) == 0) = false := by rw [beq_eq_false_iff_ne]; exact h0
        have hst : (bs s).drop k = be (natB (bs s)) := by
          rw [← canon_be, ← HK.out, canon_stop (bs_get s k hlt) (fun e => h0 (by rw [e]; rfl))]
        have HST := Lib.hid hst
        clear hst h0
        go_wp2_with fail
        go_ret
        refine ⟨s.extract k s.size, ?_, rfl, rfl⟩
        show _ = _
        rw [bs_extract, HST.out, ← HST.out, List.take_of_length_le (by simp [bs_length])]
    · obtain rfl : k = s.size := by omega
      have hst : be (natB (bs s)) = [] := by
        rw [← canon_be, ← HK.out, List.drop_of_length_le (by simp [bs_length])]
        rfl
      have HST := Lib.hid hst
      clear hst
      go_wp2_with fail
      go_ret
      refine ⟨ByteArray.empty, ?_, rfl, rfl⟩
      show _ = _
      rw [HST.out]
      rfl

theorem size_of_be {r : ByteArray} {x : Nat} (h : bs r = be x) : r.size = (be x).length := by rw [← h, bs_length]

set_option maxHeartbeats 1000000 in
theorem int_any (s : ByteArray) (x : Nat) (w : World) (hs : s.size ≤ 1000000000000) (hx : x = natB (bs s)) (hb : x < 9223372036854775808) :
    Calls Tryz.prog 191 #[.string s] w (fun e w' => e = .returned (.tuple #[.int .i64 (x : Int), .bool true]) ∧ w = w') := by
  have HX := Lib.hid hx
  clear hx
  go_enter Tryz.func191, Tryz.ntmps191
  go_wp2_with fail
  refine (canon_any s w hs).mono ?_
  rintro e w' ⟨r, HR, rfl, rfl⟩
  have hr : bs r = be x := by rw [HR.out, HX.out]
  have hl : r.size ≤ 8 := by
    rw [size_of_be hr]
    exact be_len_le 8 x (Nat.lt_trans hb (by decide))
  have HRR := Lib.hid hr
  clear HR
  have hnat : natB (bs r) = x := by rw [hr, natB_be]
  have HN := Lib.hid hnat
  clear hr
  by_cases h8 : r.size = 8
  case' pos =>
    have hg : 0 < r.size := by omega
    have h0 : (r[0]'hg).toNat ≤ 127 := by
      have h1 := natB_cons (r[0]'hg) ((bs r).drop 1)
      have h2 := bs_cons' r hg
      have h3 : (bs r).length = 8 := h8
      rw [← h2, hnat, List.length_drop, h3] at h1
      have e : (256 : Nat) ^ (8 - 1) = 72057594037927936 := by decide
      rw [e] at h1
      omega
    have hb8 : ((r.size : Int) == 8) = true := by rw [beq_iff_eq]; omega
  case' neg =>
    have hb8 : ((r.size : Int) == 8) = false := by rw [beq_eq_false_iff_ne]; omega
  all_goals
    clear hnat h8
    go_wp2_with fail
    go_loop [4, 5] (fun n i => ∃ k m : Nat, n = .int .i64 (m : Int) ∧ i = .int .i64 (k : Int) ∧ k ≤ r.size ∧ m ≤ x ∧ Hid (m = natB ((bs r).take k))) (fun _ i => r.size - (intOf i).toNat)
    case atStart => exact ⟨0, 0, rfl, rfl, Nat.zero_le _, Nat.zero_le _, rfl⟩
    case round =>
      obtain ⟨k, m, rfl, rfl, hk, hm, HM⟩ := hrel
      by_cases hlt : k < r.size
      · have hst : natB ((bs r).take (k + 1)) = m * 256 + r[k].toNat := by
          rw [take_step (bs_get r k hlt), natB_snoc, ← HM.out]
        have hle : m * 256 + r[k].toNat ≤ x := by
          rw [← hst, ← HN.out]
          exact natB_take_le _ _
        have HST := Lib.hid hst
        have h1 : (m : Int) * 256 ≤ 9223372036854775807 := by omega
        have h2 : (m : Int) * 256 + (r[k].toNat : Int) ≤ 9223372036854775807 := by omega
        clear hst
        go_wp2_with fail
        exact ⟨⟨k + 1, m * 256 + r[k].toNat, by go_num, by go_num, by omega, hle, HST.out.symm⟩, by simp [intOf]; omega⟩
      · obtain rfl : k = r.size := by omega
        have hmx : m = x := by rw [HM.out, List.take_of_length_le (by simp [bs_length]), HN.out]
        have HMX := Lib.hid hmx
        clear hmx
        go_wp2_with fail
        go_ret2
        refine ⟨?_, rfl⟩
        rw [HMX.out]
        rfl

theorem small_ok (s : ByteArray) (x : Nat) (w : World) (hs : s.size ≤ 1000000000000) (hx : x = natB (bs s)) (hb : (be x).length ≤ 7) :
    Calls Tryz.prog 195 #[.string s, .int .i64 7] w (fun e w' => e = .returned (.tuple #[.int .i64 (x : Int), .bool true]) ∧ w = w') := by
  have HX := Lib.hid hx
  clear hx
  have hlt : x < 9223372036854775808 := by
    have := be_small hb
    have e : (256 : Nat) ^ 7 = 72057594037927936 := by decide
    omega
  go_enter Tryz.func195, Tryz.ntmps195
  go_wp2_with fail
  refine (canon_any s w hs).mono ?_
  rintro e w' ⟨r, HR, rfl, rfl⟩
  have hl : r.size ≤ 7 := by
    have := size_of_be HR.out
    rw [← HX.out] at this
    omega
  clear hb
  go_wp2_with fail
  refine (int_any s x w hs HX.out hlt).mono ?_
  rintro e w' ⟨rfl, rfl⟩
  go_wp2_with fail
  go_ret2
  exact ⟨rfl, rfl⟩
theorem small_big (s : ByteArray) (x : Nat) (w : World) (hs : s.size ≤ 1000000000000) (hx : x = natB (bs s)) (hb : 7 < (be x).length) :
    Calls Tryz.prog 195 #[.string s, .int .i64 7] w (fun e w' => e = .returned (.tuple #[.int .i64 0, .bool false]) ∧ w = w') := by
  have HX := Lib.hid hx
  clear hx
  go_enter Tryz.func195, Tryz.ntmps195
  go_wp2_with fail
  refine (canon_any s w hs).mono ?_
  rintro e w' ⟨r, HR, rfl, rfl⟩
  have hl : 7 < r.size := by
    have := size_of_be HR.out
    rw [← HX.out] at this
    omega
  clear hb
  go_wp2_with fail
  go_ret2
  exact ⟨rfl, rfl⟩

set_option maxHeartbeats 1000000 in
theorem of_int (n : Nat) (w : World) (hn : n < 9223372036854775808) : Calls Tryz.prog 182 #[.int .i64 (n : Int)] w (MkNat n w) := by
  by_cases h0 : 0 < n
  case neg =>
    obtain rfl : n = 0 := by omega
    go_enter Tryz.func182, Tryz.ntmps182
    go_wp2_with fail
    go_loop [3, 4] (fun t i => t = .slice none 0 0 ∧ i = .int .i64 56) (fun _ _ => 0)
    case atStart => exact ⟨rfl, rfl⟩
    case round =>
      obtain ⟨rfl, rfl⟩ := hrel
      have hcv := conv_row (P := Tryz.prog) w 84 216 5 Tryz.underlying84 Tryz.underlying5 Tryz.underlying216 (.slice none 0 0) [] (World.ownsRow_nil _ _ _ _)
      have HCV := Lib.hid hcv
      clear hcv
      go_wp2_with fail
      rw [HCV.out]
      go_wp2_with fail
      refine (canon_any _ w (by decide)).mono ?_
      rintro e w' ⟨r, HR, rfl, rfl⟩
      go_wp2_with fail
      go_ret
      exact ⟨r, HR, rfl, Upd.refl _ _⟩
  go_enter Tryz.func182, Tryz.ntmps182
  go_wp2_with fail
  go_loopw [3, 4] (fun t i wr => ∃ (k : Nat) (z : Int), i = .int .i64 z ∧ z = 56 - 8 * (k : Int) ∧ k ≤ 8 ∧ Hid (wr.ownsRow 0 5 1 t k (byteVals ((len8 n).take k))) ∧ Hid (Upd [] (foot t) w wr)) (fun _ i _ => (intOf i + 8).toNat)
  case atStart => exact ⟨0, 56, rfl, rfl, Nat.zero_le _, ⟨by simp [byteVals], .inl ⟨rfl, rfl⟩⟩, Upd.refl _ _⟩
  case round =>
    obtain ⟨k, z, rfl, hz, hk, HR, HU⟩ := hrel
    by_cases hlt : k < 8
    · obtain ⟨m, rfl⟩ : ∃ m : Nat, z = (m : Int) := ⟨(56 - 8 * k), by omega⟩
      obtain ⟨b, hb⟩ : ∃ b, b = UInt8.ofNat (n / 2 ^ m) := ⟨_, rfl⟩
      have hb1 : (n : Int) / 2 ^ m % 256 = (b.toNat : Int) := by
        have : (UInt8.ofNat (n / 2 ^ m)).toNat = n / 2 ^ m % 256 := by simp
        rw [hb, this]
        simp
      have hm7 : m ≤ 56 := by omega
      have hl : (len8 n).take (k + 1) = (len8 n).take k ++ [b] := by
        rw [List.take_succ_eq_append_getElem (by rw [len8_length]; omega)]
        congr 1
        rw [hb]
        have hm : m = 8 * (7 - k) := by omega
        simp [len8, hm]
      have HL := Lib.hid hl
      have HMZ := Lib.hid hz
      have hown := HR.out
      have hup := HU.out
      have hrow : (wr.alloc (.cells #[.int .u8 (b.toNat : Int)] 5)).ownsRow 0 5 1 u3 k (byteVals ((len8 n).take k)) := row_same hown (fun j hj => Below.heap_alloc _ _ _ (row_foot_lt hown j hj))
      have hw1 : (wr.alloc (.cells #[.int .u8 (b.toNat : Int)] 5)).heap[wr.heap.size]? = some (.cells #[.int .u8 (b.toNat : Int)] 5 (0, 0)) := heap_alloc_new _ _
      obtain ⟨iu, u1, u2, u3', u4⟩ := u8_parts
      obtain ⟨v', w', hrun, hown', hup'⟩ := append_block (P := Tryz.prog) (wr.alloc (.cells #[.int .u8 (b.toNat : Int)] 5)) 84 84 5 iu (.int .u8 0) 1 1 Tryz.underlying84 u1 u2 u3' u4 rfl (by omega) u3 k _ hrow ⟨wr.heap.size, 0, none⟩ 1 1 [byteV b] rfl (by
        intro j u hj
        have : j = 0 := by
          cases j with
          | zero => rfl
          | succ j => simp at hj
        subst this
        simp only [List.getElem?_cons_zero, Option.some.injEq] at hj
        subst hj
        have e : (⟨wr.heap.size, 0, none⟩ : Addr).add 0 = ⟨wr.heap.size, 0, none⟩ := by simp [Addr.add]
        rw [e, cell_of_row _ _ _ _ _ _ hw1]
        rfl) (byteVals_one [b]) (by omega) (by simp only [maxLen]; omega)
      have HRUN := Lib.hid hrun
      have HOWN := Lib.hid hown'
      have HUP := Lib.hid ((hup.alloc (.cells #[.int .u8 (b.toNat : Int)] 5)).trans hup')
      clear u1 u2 u3' u4
      clear hb hz hl hown hup hrow hw1 hrun hown' hup' HR HU
      go_wp2_with (refine wpList_append_run _ rfl _ _ _ _ rfl _ _ v' w' rfl rfl HRUN.out ?_)
      refine ⟨⟨k + 1, _, rfl, ?_, by omega, ?_, HUP.out⟩, ?_⟩
      · have := HMZ.out; omega
      · show World.ownsRow _ _ _ _ _ _ _
        rw [HL.out, byteVals_append]
        exact HOWN.out
      · first | (simp [intOf]; done) | (simp [intOf]; omega)
    · obtain rfl : z = -8 := by omega
      have hk8 : k = 8 := by omega
      have hown := HR.out
      rw [hk8, List.take_of_length_le (by rw [len8_length]; omega)] at hown
      have hcv := conv_row (P := Tryz.prog) wr 84 216 5 Tryz.underlying84 Tryz.underlying5 Tryz.underlying216 u3 (len8 n) (by rw [len8_length]; exact hown)
      have HCV := Lib.hid hcv
      clear hlt hz hk hk8 hown hcv HR
      go_wp2_with fail
      rw [HCV.out]
      go_wp2_with fail
      refine (canon_any _ wr (by show (len8 n).length ≤ _; rw [len8_length]; omega)).mono ?_
      rintro e w' ⟨r, HR, rfl, rfl⟩
      go_wp2_with fail
      go_ret
      refine ⟨r, ?_, rfl, HU.out.mono (fun _ h => h) (fun _ h => absurd h (by simp))⟩
      show _ = _
      rw [HR.out, bs_mk, natB_len8 n (by omega)]
end Go.Proofs.YtabnlklkfgojgaaGreatDoor

namespace Go.Proofs.YtabnlklkfgojgaaGreatDoor
open Go.RowKit
set_option maxRecDepth 100000

def digV (d : Nat) : Value := .int .i64 (d : Int)
def digVals (l : List Nat) : List Value := l.map digV
def Sl (w : World) (v : Value) (l : List Nat) : Prop := ∃ ao cap, v = .slice ao l.length cap ∧ l.length ≤ cap ∧ cap ≤ maxLen ∧ (l.length = 0 ∨ ∃ b, ao = some ⟨b, 0, none⟩ ∧ b < w.heap.size ∧ ∀ (j d : Nat), l[j]? = some d → w.cell? ⟨b, j, none⟩ = some (.int .i64 (d : Int)))
theorem Sl.nil (w : World) : Sl w (.slice none 0 0) [] := ⟨none, 0, rfl, Nat.le_refl _, by simp, .inl rfl⟩
theorem Sl.upd {w w' : World} {v : Value} {l : List Nat} (h : Sl w v l) (u : Upd [] [] w w') : Sl w' v l := by
  obtain ⟨ao, cap, rfl, h1, h2, h3⟩ := h
  refine ⟨ao, cap, rfl, h1, h2, ?_⟩
  rcases h3 with h3 | ⟨b, rfl, hb, hc⟩
  · exact .inl h3
  · exact .inr ⟨b, rfl, Nat.lt_of_lt_of_le hb u.size, fun j d hj => (u.cell hb (by simp)).trans (hc j d hj)⟩
theorem Sl.of_row {w : World} {v : Value} {l : List Nat} {t : TypeId} (h : w.ownsRow 0 t 1 v l.length (digVals l)) : Sl w v l := by
  by_cases h0 : l.length = 0
  · obtain ⟨ao, cap, rfl, h1, h2⟩ := row_slice h
    exact ⟨ao, cap, rfl, h1, h2, .inl h0⟩
  · obtain ⟨g, cap, cur, rfl, hg, h1, h2, h3, h4⟩ := row_pos h (by omega)
    refine ⟨_, cap, rfl, h1, h2, .inr ⟨g, rfl, (Array.getElem?_eq_some_iff.1 hg).1, fun j d hj => ?_⟩⟩
    have hjl := (List.getElem?_eq_some_iff.1 hj).1
    rw [cell_of_row w g j _ _ _ hg]
    have e : (digVals l)[j]? = some (digV d) := by simp [digVals, hj]
    rw [← h4, Nat.mul_one, List.getElem?_take_of_lt hjl] at e
    simpa [digV] using e
def slLen : Value → Nat
  | .slice _ n _ => n
  | _ => 0

theorem trim_at (v : Value) (l : List Nat) (w : World) (h : Sl w v l) (hl : okL l) : Calls Tryz.prog 197 #[v] w (fun e w' => ∃ v', Hid (Sl w v' (dg (valL l)) ∧ foot v' = foot v) ∧ e = .returned v' ∧ w = w') := by
  obtain ⟨ao, cap, rfl, h1, h2, h3⟩ := h
  obtain ⟨n, hn⟩ : ∃ n, n = l.length := ⟨_, rfl⟩
  rw [← hn] at h1 h3
  rw [← hn]
  unfold maxLen at h2
  have H3 := Lib.hid h3
  have HN := Lib.hid hn
  clear h3 hn
  go_enter Tryz.func197, Tryz.ntmps197
  go_wp2_with fail
  go_loop [0] (fun v => ∃ m : Nat, v = .slice ao m cap ∧ m ≤ n ∧ Hid (valL (l.take m) = valL l)) (fun v => slLen v)
  case atStart => exact ⟨n, rfl, Nat.le_refl _, by show _ = _; rw [HN.out, List.take_length]⟩
  case round =>
    obtain ⟨m, rfl, hm, HM⟩ := hrel
    have hend : ∀ k, k ≤ n → valL (l.take k) = valL l → (∀ d, (l.take k).getLast? = some d → d ≠ 0) → Sl w (.slice ao k cap) (dg (valL l)) := by
      intro k hk hv hlast
      have hd := dg_of_last (okL_take hl k) hlast
      rw [hv] at hd
      have hlen : (dg (valL l)).length = k := by rw [← hd, List.length_take, ← HN.out]; omega
      refine ⟨ao, cap, by rw [hlen], by omega, by simp only [maxLen]; omega, ?_⟩
      rcases H3.out with h3 | ⟨b, rfl, hb, hc⟩
      · exact .inl (by omega)
      · refine .inr ⟨b, rfl, hb, fun j d hj => hc j d ?_⟩
        rw [← hd, List.getElem?_take] at hj
        split at hj
        · exact hj
        · cases hj
    have HE := Lib.hid hend
    clear hend
    by_cases h0 : 0 < m
    · obtain ⟨k, rfl⟩ : ∃ k, m = k + 1 := ⟨m - 1, by omega⟩
      obtain ⟨b, rfl, hb, hc⟩ : ∃ b, ao = some ⟨b, 0, none⟩ ∧ b < w.heap.size ∧ ∀ (j d : Nat), l[j]? = some d → w.cell? ⟨b, j, none⟩ = some (.int .i64 (d : Int)) := by
        rcases H3.out with h | h
        · omega
        · exact h
      have hkl : k < l.length := by have := HN.out; omega
      have hk0 := hc k l[k] (List.getElem?_eq_getElem hkl)
      obtain ⟨d, hd⟩ : ∃ d, d = l[k] := ⟨_, rfl⟩
      rw [← hd] at hk0
      have hst : l[k]? = some d := by rw [hd]; exact List.getElem?_eq_getElem hkl
      have HST := Lib.hid hst
      clear hc hkl hd hst
      have hki : ((k + 1 : Nat) : Int) - 1 = (k : Int) := by omega
      by_cases hd0 : d = 0
      · subst hd0
        go_wp2_with fail
        refine ⟨⟨k, rfl, by omega, ?_⟩, by simp [slLen]⟩
        show _ = _
        rw [← HM.out, take_step HST.out, valL_snoc, Nat.mul_zero, Nat.add_zero]
      · have hb0 : ((d : Int) == 0) = false := by rw [beq_eq_false_iff_ne]; omega
        have hfin := HE.out (k + 1) hm HM.out (fun x hx => by
          rw [take_step HST.out, List.getLast?_concat] at hx
          simp only [Option.some.injEq] at hx
          omega)
        have HF := Lib.hid hfin
        clear hfin hd0
        go_wp2_with fail
        go_ret
        exact ⟨_, ⟨HF.out, rfl⟩, rfl, rfl⟩
    · obtain rfl : m = 0 := by omega
      have hfin := HE.out 0 hm HM.out (fun x hx => by simp at hx)
      have HF := Lib.hid hfin
      clear hfin
      go_wp2_with fail
      go_ret
      exact ⟨_, ⟨HF.out, by cases ao <;> rfl⟩, rfl, rfl⟩
theorem trim_any (v : Value) (l : List Nat) (w : World) (h : Sl w v l) (hl : okL l) : Calls Tryz.prog 197 #[v] w (fun e w' => ∃ v', Hid (Sl w v' (dg (valL l))) ∧ e = .returned v' ∧ w = w') := by
  refine (trim_at v l w h hl).mono ?_
  rintro e w' ⟨v', HV, he, hw⟩
  exact ⟨v', HV.out.1, he, hw⟩

theorem Sl.get {w : World} {ao : Option Addr} {n cap : Nat} {l : List Nat} (h : Sl w (.slice ao n cap) l) {k d : Nat} (hk : l[k]? = some d) : ∃ b, ao = some ⟨b, 0, none⟩ ∧ w.cell? ⟨b, k, none⟩ = some (.int .i64 (d : Int)) := by
  obtain ⟨ao', cap', e, h1, h2, h3⟩ := h
  simp only [Value.slice.injEq] at e
  obtain ⟨rfl, rfl, rfl⟩ := e
  have hkl := (List.getElem?_eq_some_iff.1 hk).1
  rcases h3 with h3 | ⟨b, rfl, hb, hc⟩
  · omega
  · exact ⟨b, rfl, hc k d hk⟩
theorem Sl.form {w : World} {v : Value} {l : List Nat} (h : Sl w v l) : ∃ ao cap, v = .slice ao l.length cap ∧ l.length ≤ cap ∧ cap ≤ 9223372036854775807 := by
  obtain ⟨ao', cap', e, h1, h2, h3⟩ := h
  exact ⟨ao', cap', e, h1, h2⟩

def CmpOk (x y : Nat) (r : Int) : Prop := (r < 0 ↔ x < y) ∧ (0 < r ↔ y < x)

set_option maxHeartbeats 1000000 in
theorem cmp_any (u v : Value) (x y : Nat) (w : World) (hu : Sl w u (dg x)) (hv : Sl w v (dg y)) : Calls Tryz.prog 198 #[u, v] w (fun e w' => ∃ r : Int, Hid (CmpOk x y r) ∧ (-9223372036854775808 ≤ r ∧ r ≤ 9223372036854775807) ∧ e = .returned (.int .i64 r) ∧ Upd [] [] w w') := by
  obtain ⟨ao, cap, rfl, hu1, hu2⟩ := hu.form
  obtain ⟨bo, cbp, rfl, hv1, hv2⟩ := hv.form
  obtain ⟨n, hn⟩ : ∃ n, n = (dg x).length := ⟨_, rfl⟩
  obtain ⟨m, hm⟩ : ∃ m, m = (dg y).length := ⟨_, rfl⟩
  rw [← hn] at hu1 hu
  rw [← hm] at hv1 hv
  rw [← hn, ← hm]
  have HU := Lib.hid hu
  have HV := Lib.hid hv
  have HN := Lib.hid hn
  have HM := Lib.hid hm
  clear hu hv hn hm
  by_cases hnm : n = m
  case neg =>
    have hb : ((n : Int) != (m : Int)) = true := by rw [bne_iff_ne]; omega
    have hb2 : ((n : Int) == (m : Int)) = false := by rw [beq_eq_false_iff_ne]; omega
    have hb3 : (n == m) = false := by rw [beq_eq_false_iff_ne]; omega
    have hc : CmpOk x y ((n : Int) - (m : Int)) := by
      rcases Nat.lt_or_ge n m with h | h
      · have := dg_len_lt (x := x) (y := y) (by rw [← HN.out, ← HM.out]; exact h)
        exact ⟨⟨fun _ => this, fun _ => by omega⟩, ⟨fun h => by omega, fun h => by omega⟩⟩
      · have := dg_len_lt (x := y) (y := x) (by rw [← HN.out, ← HM.out]; omega)
        exact ⟨⟨fun h => by omega, fun h => by omega⟩, ⟨fun _ => this, fun _ => by omega⟩⟩
    have HC := Lib.hid hc
    clear hc hnm
    go_enter Tryz.func198, Tryz.ntmps198
    go_wp2_with fail
    go_ret
    exact ⟨_, HC.out, ⟨by omega, by omega⟩, rfl, Upd.refl _ _⟩
  case pos =>
    subst hnm
    go_enter Tryz.func198, Tryz.ntmps198
    go_wp2_with fail
    go_loopw [5] (fun i wr => ∃ (z : Int) (k : Nat), i = .int .i64 z ∧ z + 1 = (k : Int) ∧ k ≤ n ∧ Hid ((dg x).drop k = (dg y).drop k) ∧ Hid (Upd [] [] w wr)) (fun i _ => (intOf i + 1).toNat)
    case atStart => exact ⟨(n : Int) - 1, n, rfl, by omega, Nat.le_refl _, by show _ = _; rw [List.drop_of_length_le (by rw [HN.out]; omega), List.drop_of_length_le (by rw [HM.out]; omega)], Upd.refl _ _⟩
    case round =>
      obtain ⟨z, k, rfl, hz, hk, HK, HUP⟩ := hrel
      by_cases h0 : 0 < k
      · obtain ⟨j, rfl⟩ : ∃ j, k = j + 1 := ⟨k - 1, by omega⟩
        obtain rfl : z = (j : Int) := by omega
        have hjx : j < (dg x).length := by rw [← HN.out]; omega
        have hjy : j < (dg y).length := by rw [← HM.out]; omega
        obtain ⟨a, ha⟩ : ∃ a, (dg x)[j]? = some a := ⟨_, List.getElem?_eq_getElem hjx⟩
        obtain ⟨b, hb⟩ : ∃ b, (dg y)[j]? = some b := ⟨_, List.getElem?_eq_getElem hjy⟩
        have ha2 : a < 16777216 := dg_ok x a (List.mem_of_getElem? ha)
        have hb2 : b < 16777216 := dg_ok y b (List.mem_of_getElem? hb)
        obtain ⟨g1, rfl, c1⟩ := (HU.out.upd HUP.out).get ha
        obtain ⟨g2, rfl, c2⟩ := (HV.out.upd HUP.out).get hb
        have HA := Lib.hid ha
        have HB := Lib.hid hb
        clear hjx hjy ha hb hz
        by_cases hab : a = b
        · subst hab
          have hst : (dg x).drop j = (dg y).drop j := by
            obtain ⟨h1, e1⟩ := List.getElem?_eq_some_iff.1 HA.out
            obtain ⟨h2, e2⟩ := List.getElem?_eq_some_iff.1 HB.out
            rw [List.drop_eq_getElem_cons h1, List.drop_eq_getElem_cons h2, e1, e2, HK.out]
          have HST := Lib.hid hst
          clear hst
          go_wp2_with fail
          go_quiet (fail)
          go_wp2_with fail
          exact ⟨⟨(j : Int) - 1, j, rfl, by omega, by omega, HST.out, HUP.out.drewN _⟩, by simp only [intOf]; omega⟩
        · have hb1 : ((a : Int) != (b : Int)) = true := by rw [bne_iff_ne]; omega
          have hb3 : ((a : Int) == (b : Int)) = false := by rw [beq_eq_false_iff_ne]; omega
          have hc : CmpOk x y ((a : Int) - (b : Int)) := by
            have ex := valL_dg x
            have ey := valL_dg y
            rcases Nat.lt_or_ge a b with h | h
            · have := val_cmp (dg_ok x) HK.out HA.out HB.out h
              rw [ex, ey] at this
              exact ⟨⟨fun _ => this, fun _ => by omega⟩, ⟨fun h => by omega, fun h => by omega⟩⟩
            · have := val_cmp (dg_ok y) HK.out.symm HB.out HA.out (by omega)
              rw [ex, ey] at this
              exact ⟨⟨fun h => by omega, fun h => by omega⟩, ⟨fun _ => this, fun _ => by omega⟩⟩
          have HC := Lib.hid hc
          clear hc hab
          go_wp2_with fail
          go_quiet (fail)
          go_wp2_with fail
          go_quiet (fail)
          go_wp2_with fail
          go_ret
          exact ⟨_, HC.out, ⟨by omega, by omega⟩, rfl, (HUP.out.drewN _).drewN _⟩
      · obtain rfl : k = 0 := by omega
        obtain rfl : z = -1 := by omega
        have hxy : x = y := by
          have := HK.out
          rw [List.drop_zero, List.drop_zero] at this
          rw [← valL_dg x, this, valL_dg]
        have hc : CmpOk x y 0 := by
          subst hxy
          exact ⟨⟨fun h => by omega, fun h => by omega⟩, ⟨fun h => by omega, fun h => by omega⟩⟩
        have HC := Lib.hid hc
        clear hc hxy hz
        go_wp2_with fail
        go_ret
        exact ⟨_, HC.out, ⟨by omega, by omega⟩, rfl, HUP.out⟩

theorem int_parts : ∃ i, Tryz.prog.info? 3 = some i ∧ i.zero = some (.int .i64 0) ∧ i.size = 1 ∧ i.bytes = 8 := by
  have h : (Tryz.prog.info? 3).map (fun i => (i.zero, i.size, i.bytes)) = some (some (.int .i64 0), 1, 8) := by kernel_rfl
  obtain ⟨i, hi, he⟩ := Option.map_eq_some_iff.1 h
  simp only [Prod.mk.injEq] at he
  exact ⟨i, hi, he.1, he.2.1, he.2.2⟩
theorem append_int (wr : World) (v : Value) (k : Nat) (xs : List Value) (x : Int) (hown : wr.ownsRow 0 3 1 v k xs) (hk : k < 1099511627776) :
    ∃ v' w', (Builtin.append_ #[71, 71] 71 #[v, .slice (some ⟨wr.heap.size, 0, none⟩) 1 1]).run Tryz.prog (wr.alloc (.cells #[.int .i64 x] 3)) = .ok v' w' ∧ w'.ownsRow 0 3 1 v' (k + 1) (xs ++ [.int .i64 x]) ∧ Upd (foot v) (foot v') wr w' := by
  have hrow : (wr.alloc (.cells #[.int .i64 x] 3)).ownsRow 0 3 1 v k xs := row_same hown (fun j hj => Below.heap_alloc _ _ _ (row_foot_lt hown j hj))
  have hw1 : (wr.alloc (.cells #[.int .i64 x] 3)).heap[wr.heap.size]? = some (.cells #[.int .i64 x] 3 (0, 0)) := heap_alloc_new _ _
  obtain ⟨iu, u1, u2, u3', u4⟩ := int_parts
  obtain ⟨v', w', hrun, hown', hup'⟩ := append_block (P := Tryz.prog) (wr.alloc (.cells #[.int .i64 x] 3)) 71 71 3 iu (.int .i64 0) 1 8 Tryz.underlying71 u1 u2 u3' u4 rfl (by omega) v k _ hrow ⟨wr.heap.size, 0, none⟩ 1 1 [.int .i64 x] rfl (by
    intro j u hj
    have : j = 0 := by
      cases j with
      | zero => rfl
      | succ j => simp at hj
    subst this
    simp only [List.getElem?_cons_zero, Option.some.injEq] at hj
    subst hj
    have e : (⟨wr.heap.size, 0, none⟩ : Addr).add 0 = ⟨wr.heap.size, 0, none⟩ := by simp [Addr.add]
    rw [e, cell_of_row _ _ _ _ _ _ hw1]
    rfl) (by intro u hu; simp at hu; subst hu; rfl) (by omega) (by simp only [maxLen]; omega)
  exact ⟨v', w', hrun, hown', ((Upd.refl _ _).alloc _).trans hup'⟩
theorem digVals_snoc (l : List Nat) (d : Nat) : digVals (l ++ [d]) = digVals l ++ [.int .i64 (d : Int)] := by simp [digVals, digV]

set_option maxHeartbeats 2000000 in
theorem times_any (u : Value) (x d : Nat) (w : World) (hu : Sl w u (dg x)) (hd : d < 16777216) (hx : (dg x).length ≤ 1000000000) : Calls Tryz.prog 201 #[u, .int .i64 (d : Int)] w (fun e w' => ∃ v', Hid (Sl w' v' (dg (x * d))) ∧ e = .returned v' ∧ Upd [] [] w w') := by
  obtain ⟨ao, cap, rfl, hu1, hu2⟩ := hu.form
  obtain ⟨n, hn⟩ : ∃ n, n = (dg x).length := ⟨_, rfl⟩
  rw [← hn] at hu1 hu hx
  rw [← hn]
  have HU := Lib.hid hu
  have HN := Lib.hid hn
  clear hu hn
  go_enter Tryz.func201, Tryz.ntmps201
  go_wp2_with fail
  go_loopw [5, 6, 7] (fun o c i wr => ∃ (k cy : Nat) (out : List Nat), i = .int .i64 (k : Int) ∧ c = .int .i64 (cy : Int) ∧ k ≤ n ∧ cy < 16777216 ∧ Hid (out.length = k ∧ okL out ∧ valL out + 16777216 ^ k * cy = valL ((dg x).take k) * d) ∧ Hid (wr.ownsRow 0 3 1 o k (digVals out)) ∧ Hid (Upd [] (foot o) w wr)) (fun _ _ i _ => n - (intOf i).toNat)
  case atStart => exact ⟨0, 0, [], rfl, rfl, Nat.zero_le _, by omega, ⟨rfl, okL_nil, by simp [valL]⟩, ⟨by simp [digVals], .inl ⟨rfl, rfl⟩⟩, Upd.refl _ _⟩
  case round =>
    obtain ⟨k, cy, out, rfl, rfl, hk, hcy, HI, HR, HUP⟩ := hrel
    have hup0 : Upd [] [] w wr := HUP.out.mono (fun _ h => h) (fun _ h => absurd h (by simp))
    by_cases hlt : k < n
    · have hkx : k < (dg x).length := by rw [← HN.out]; exact hlt
      obtain ⟨a, ha⟩ : ∃ a, (dg x)[k]? = some a := ⟨_, List.getElem?_eq_getElem hkx⟩
      have ha2 : a < 16777216 := dg_ok x a (List.mem_of_getElem? ha)
      obtain ⟨g1, rfl, c1⟩ := (HU.out.upd hup0).get ha
      obtain ⟨s, hs⟩ : ∃ s, s = a * d + cy := ⟨_, rfl⟩
      obtain ⟨hc1, hc2⟩ := times_carry ha2 hd hcy
      have hst := times_step ha HI.out.1 HI.out.2.2
      rw [← hs] at hc1 hc2 hst
      have hs1 : (a : Int) * (d : Int) + (cy : Int) = (s : Int) := by rw [hs]; simp
      have hs2 : (a : Int) * (d : Int) ≤ 281474976710656 := by have := Int.natCast_nonneg cy; omega
      have hs0 : 0 ≤ (a : Int) * (d : Int) := Int.mul_nonneg (by omega) (by omega)
      obtain ⟨r, hr⟩ : ∃ r, r = s % 16777216 := ⟨_, rfl⟩
      obtain ⟨q, hq⟩ : ∃ q, q = s / 16777216 := ⟨_, rfl⟩
      have hr1 : (s : Int) % 16777216 = (r : Int) := by omega
      have hq1 : (s : Int) / 16777216 = (q : Int) := by omega
      have hr2 : r < 16777216 := by omega
      rw [← hr, ← hq] at hst
      rw [← hq] at hc1
      obtain ⟨v', w', hrun, hown', hup'⟩ := append_int wr _ k _ (r : Int) HR.out (by omega)
      rw [← digVals_snoc] at hown'
      have hl : (out ++ [r]).length = k + 1 := by rw [List.length_append, HI.out.1]; rfl
      have HRUN := Lib.hid hrun
      have HOWN := Lib.hid hown'
      have HUPP := Lib.hid (HUP.out.trans hup')
      have HST := Lib.hid (And.intro hl (And.intro (okL_snoc HI.out.2.1 hr2) hst))
      clear ha hkx hs hst hrun hown' hup' HUP HR hr hq hl
      go_wp2_with (refine wpList_append_run _ rfl _ _ _ _ rfl _ _ v' w' rfl rfl HRUN.out ?_)
      exact ⟨⟨k + 1, q, out ++ [r], by go_num, rfl, by omega, hc1, HST.out, HOWN.out, HUPP.out⟩, by simp [intOf]; omega⟩
    · obtain rfl : k = n := by omega
      obtain ⟨v', w', hrun, hown', hup'⟩ := append_int wr _ k _ (cy : Int) HR.out (by omega)
      rw [← digVals_snoc] at hown'
      have hl : (out ++ [cy]).length = k + 1 := by rw [List.length_append, HI.out.1]; rfl
      have hv : valL (out ++ [cy]) = x * d := by
        rw [valL_snoc, HI.out.1, HI.out.2.2, HN.out, List.take_length, valL_dg]
      rw [← hl] at hown'
      have hsl := Sl.of_row hown'
      have HSL := Lib.hid hsl
      have HRUN := Lib.hid hrun
      have HUPP := Lib.hid (HUP.out.trans hup')
      have HV := Lib.hid hv
      have HOK := Lib.hid (okL_snoc HI.out.2.1 hcy)
      clear hrun hown' hup' HUP HR hl hv hsl hlt
      go_wp2_with (refine wpList_append_run _ rfl _ _ _ _ rfl _ _ v' w' rfl rfl HRUN.out ?_)
      refine (trim_any v' _ w' HSL.out HOK.out).mono ?_
      rintro e w2 ⟨v2, HV2, rfl, rfl⟩
      go_wp2_with fail
      go_ret
      refine ⟨v2, ?_, rfl, HUPP.out.mono (fun _ h => h) (fun _ h => absurd h (by simp))⟩
      show Sl _ _ _
      rw [← HV.out]
      exact HV2.out
end Go.Proofs.YtabnlklkfgojgaaGreatDoor

namespace Go.Proofs.YtabnlklkfgojgaaGreatDoor
open Go.RowKit
set_option maxRecDepth 100000

theorem getD_of {l : List Nat} {k d : Nat} (h : l[k]? = some d) : l.getD k 0 = d := by rw [List.getD_eq_getElem?_getD, h]; rfl
theorem getD_none {l : List Nat} {k : Nat} (h : l.length ≤ k) : l.getD k 0 = 0 := by rw [List.getD_eq_getElem?_getD, List.getElem?_eq_none h]; rfl

set_option maxHeartbeats 4000000 in
theorem minus_any (u v : Value) (x y : Nat) (w : World) (hu : Sl w u (dg x)) (hv : Sl w v (dg y)) (hxy : y ≤ x) (hx : (dg x).length ≤ 1000000000) : Calls Tryz.prog 200 #[u, v] w (fun e w' => ∃ v', Hid (Sl w' v' (dg (x - y))) ∧ e = .returned v' ∧ Upd [] [] w w') := by
  obtain ⟨ao, cap, rfl, hu1, hu2⟩ := hu.form
  obtain ⟨bo, cbp, rfl, hv1, hv2⟩ := hv.form
  have hmn := dg_len_mono hxy
  obtain ⟨n, hn⟩ : ∃ n, n = (dg x).length := ⟨_, rfl⟩
  obtain ⟨m, hm⟩ : ∃ m, m = (dg y).length := ⟨_, rfl⟩
  rw [← hn] at hu1 hu hx
  rw [← hm] at hv1 hv
  rw [← hn, ← hm] at hmn
  rw [← hn, ← hm]
  have HU := Lib.hid hu
  have HVV := Lib.hid hv
  have HN := Lib.hid hn
  have HM := Lib.hid hm
  clear hu hv hn hm
  go_enter Tryz.func200, Tryz.ntmps200
  go_wp2_with fail
  go_loopw [5, 6, 7] (fun o c i wr => ∃ (k b : Nat) (out : List Nat), i = .int .i64 (k : Int) ∧ c = .int .i64 (b : Int) ∧ k ≤ n ∧ b ≤ 1 ∧ Hid (out.length = k ∧ okL out ∧ valL out + valL ((dg y).take k) = valL ((dg x).take k) + 16777216 ^ k * b) ∧ Hid (wr.ownsRow 0 3 1 o k (digVals out)) ∧ Hid (Upd [] (foot o) w wr)) (fun _ _ i _ => n - (intOf i).toNat)
  case atStart => exact ⟨0, 0, [], rfl, rfl, Nat.zero_le _, by omega, ⟨rfl, okL_nil, by simp [valL]⟩, ⟨by simp [digVals], .inl ⟨rfl, rfl⟩⟩, Upd.refl _ _⟩
  case round =>
    obtain ⟨k, b, out, rfl, rfl, hk, hb, HI, HR, HUP⟩ := hrel
    have hup0 : Upd [] [] w wr := HUP.out.mono (fun _ h => h) (fun _ h => absurd h (by simp))
    by_cases hlt : k < n
    · have hkx : k < (dg x).length := by rw [← HN.out]; exact hlt
      obtain ⟨a, ha⟩ : ∃ a, (dg x)[k]? = some a := ⟨_, List.getElem?_eq_getElem hkx⟩
      have ha2 : a < 16777216 := dg_ok x a (List.mem_of_getElem? ha)
      obtain ⟨g1, rfl, c1⟩ := (HU.out.upd hup0).get ha
      have HA := Lib.hid ha
      clear ha hkx
      by_cases hkm : k < m
      · have hky : k < (dg y).length := by rw [← HM.out]; exact hkm
        obtain ⟨c, hc⟩ : ∃ c, (dg y)[k]? = some c := ⟨_, List.getElem?_eq_getElem hky⟩
        have hc2 : c < 16777216 := dg_ok y c (List.mem_of_getElem? hc)
        obtain ⟨g2, rfl, c2⟩ := (HVV.out.upd hup0).get hc
        have HC := Lib.hid (getD_of hc)
        clear hc hky
        by_cases hneg : (a : Int) - (b : Int) - (c : Int) < 0
        · obtain ⟨r, hr⟩ : ∃ r : Nat, (a : Int) - (b : Int) - (c : Int) + 16777216 = (r : Int) := ⟨a + 16777216 - b - c, by omega⟩
          have hr2 : r < 16777216 := by omega
          have hst := minus_step HA.out HI.out.1 HI.out.2.2 (r := r) (b' := 1) (by rw [HC.out]; omega)
          obtain ⟨v', w', hrun, hown', hup'⟩ := append_int wr _ k _ (r : Int) HR.out (by omega)
          rw [← digVals_snoc] at hown'
          have hl : (out ++ [r]).length = k + 1 := by rw [List.length_append, HI.out.1]; rfl
          have HRUN := Lib.hid hrun
          have HOWN := Lib.hid hown'
          have HUPP := Lib.hid (HUP.out.trans hup')
          have HST := Lib.hid (And.intro hl (And.intro (okL_snoc HI.out.2.1 hr2) hst))
          clear hst hrun hown' hup' HUP HR hl
          go_wp2_with (refine wpList_append_run _ rfl _ _ _ _ rfl _ _ v' w' rfl rfl HRUN.out ?_)
          exact ⟨⟨k + 1, 1, out ++ [r], by go_num, rfl, by omega, by omega, HST.out, HOWN.out, HUPP.out⟩, by simp [intOf]; omega⟩
        · obtain ⟨r, hr⟩ : ∃ r : Nat, (a : Int) - (b : Int) - (c : Int) = (r : Int) := ⟨a - b - c, by omega⟩
          have hr2 : r < 16777216 := by omega
          have hst := minus_step HA.out HI.out.1 HI.out.2.2 (r := r) (b' := 0) (by rw [HC.out]; omega)
          obtain ⟨v', w', hrun, hown', hup'⟩ := append_int wr _ k _ (r : Int) HR.out (by omega)
          rw [← digVals_snoc] at hown'
          have hl : (out ++ [r]).length = k + 1 := by rw [List.length_append, HI.out.1]; rfl
          have HRUN := Lib.hid hrun
          have HOWN := Lib.hid hown'
          have HUPP := Lib.hid (HUP.out.trans hup')
          have HST := Lib.hid (And.intro hl (And.intro (okL_snoc HI.out.2.1 hr2) hst))
          clear hst hrun hown' hup' HUP HR hl hneg
          go_wp2_with (refine wpList_append_run _ rfl _ _ _ _ rfl _ _ v' w' rfl rfl HRUN.out ?_)
          exact ⟨⟨k + 1, 0, out ++ [r], by go_num, rfl, by omega, by omega, HST.out, HOWN.out, HUPP.out⟩, by simp [intOf]; omega⟩
      · have HC := Lib.hid (getD_none (l := dg y) (k := k) (by rw [← HM.out]; omega))
        by_cases hneg : (a : Int) - (b : Int) < 0
        · obtain ⟨r, hr⟩ : ∃ r : Nat, (a : Int) - (b : Int) + 16777216 = (r : Int) := ⟨a + 16777216 - b, by omega⟩
          have hr2 : r < 16777216 := by omega
          have hst := minus_step HA.out HI.out.1 HI.out.2.2 (r := r) (b' := 1) (by rw [HC.out]; omega)
          obtain ⟨v', w', hrun, hown', hup'⟩ := append_int wr _ k _ (r : Int) HR.out (by omega)
          rw [← digVals_snoc] at hown'
          have hl : (out ++ [r]).length = k + 1 := by rw [List.length_append, HI.out.1]; rfl
          have HRUN := Lib.hid hrun
          have HOWN := Lib.hid hown'
          have HUPP := Lib.hid (HUP.out.trans hup')
          have HST := Lib.hid (And.intro hl (And.intro (okL_snoc HI.out.2.1 hr2) hst))
          clear hst hrun hown' hup' HUP HR hl
          go_wp2_with (refine wpList_append_run _ rfl _ _ _ _ rfl _ _ v' w' rfl rfl HRUN.out ?_)
          exact ⟨⟨k + 1, 1, out ++ [r], by go_num, rfl, by omega, by omega, HST.out, HOWN.out, HUPP.out⟩, by simp [intOf]; omega⟩
        · obtain ⟨r, hr⟩ : ∃ r : Nat, (a : Int) - (b : Int) = (r : Int) := ⟨a - b, by omega⟩
          have hr2 : r < 16777216 := by omega
          have hst := minus_step HA.out HI.out.1 HI.out.2.2 (r := r) (b' := 0) (by rw [HC.out]; omega)
          obtain ⟨v', w', hrun, hown', hup'⟩ := append_int wr _ k _ (r : Int) HR.out (by omega)
          rw [← digVals_snoc] at hown'
          have hl : (out ++ [r]).length = k + 1 := by rw [List.length_append, HI.out.1]; rfl
          have HRUN := Lib.hid hrun
          have HOWN := Lib.hid hown'
          have HUPP := Lib.hid (HUP.out.trans hup')
          have HST := Lib.hid (And.intro hl (And.intro (okL_snoc HI.out.2.1 hr2) hst))
          clear hst hrun hown' hup' HUP HR hl hneg
          go_wp2_with (refine wpList_append_run _ rfl _ _ _ _ rfl _ _ v' w' rfl rfl HRUN.out ?_)
          exact ⟨⟨k + 1, 0, out ++ [r], by go_num, rfl, by omega, by omega, HST.out, HOWN.out, HUPP.out⟩, by simp [intOf]; omega⟩
    · obtain rfl : k = n := by omega
      have hv : valL out = x - y := by
        have h := HI.out.2.2
        rw [HN.out] at h
        have := minus_end (by rw [HI.out.1, HN.out]) HI.out.2.1 (dg_len_mono hxy) (by rw [valL_dg, valL_dg]; exact hxy) h
        rwa [valL_dg, valL_dg] at this
      have hown := HR.out
      rw [← HI.out.1] at hown
      have HSL := Lib.hid (Sl.of_row hown)
      have HV := Lib.hid hv
      clear hown hv hlt
      go_wp2_with fail
      refine (trim_any _ _ _ HSL.out HI.out.2.1).mono ?_
      rintro e w2 ⟨v2, HV2, rfl, rfl⟩
      go_wp2_with fail
      go_ret
      refine ⟨v2, ?_, rfl, hup0⟩
      show Sl _ _ _
      rw [← HV.out]
      exact HV2.out

set_option maxHeartbeats 1000000 in
theorem digit_any (u v : Value) (x y : Nat) (w : World) (hu : Sl w u (dg x)) (hv : Sl w v (dg y)) (hy : 0 < y) (hq : x / y < 16777216) (hl : (dg y).length ≤ 1000000000) : Calls Tryz.prog 199 #[u, v] w (fun e w' => ∃ r : Nat, Hid (r = x / y) ∧ r < 16777216 ∧ e = .returned (.int .i64 (r : Int)) ∧ Upd [] [] w w') := by
  obtain ⟨q, hqq⟩ : ∃ q, q = x / y := ⟨_, rfl⟩
  rw [← hqq] at hq
  rw [← hqq]
  have HU := Lib.hid hu
  have HV := Lib.hid hv
  have HQ := Lib.hid hqq
  have HL := Lib.hid hl
  clear hu hv hqq hl
  go_enter Tryz.func199, Tryz.ntmps199
  go_wp2_with fail
  go_loopw [5, 6] (fun a b wr => ∃ lo hi : Nat, a = .int .i64 (lo : Int) ∧ b = .int .i64 (hi : Int) ∧ lo ≤ q ∧ q ≤ hi ∧ hi ≤ 16777215 ∧ Hid (Upd [] [] w wr)) (fun a b _ => (intOf b).toNat - (intOf a).toNat)
  case atStart => exact ⟨0, 16777215, rfl, rfl, Nat.zero_le _, by omega, Nat.le_refl _, Upd.refl _ _⟩
  case round =>
    obtain ⟨lo, hi, rfl, rfl, h1, h2, h3, HUP⟩ := hrel
    by_cases hlt : lo < hi
    · obtain ⟨m, hm⟩ : ∃ m : Nat, ((lo : Int) + (hi : Int) + 1) / 2 = (m : Int) := ⟨(lo + hi + 1) / 2, by omega⟩
      have hm1 : lo < m := by omega
      have hm2 : m ≤ hi := by omega
      go_wp2_with fail
      refine (times_any v y m wr (HV.out.upd HUP.out) (by omega) HL.out).mono ?_
      rintro e w2 ⟨v2, HV2, rfl, hu2⟩
      have HUP2 := Lib.hid (HUP.out.trans hu2)
      clear HUP hu2
      go_wp2_with fail
      refine (cmp_any v2 u (y * m) x w2 HV2.out (HU.out.upd HUP2.out)).mono ?_
      rintro e w3 ⟨r, HR, hr, rfl, hu3⟩
      have HUP3 := Lib.hid (HUP2.out.trans hu3)
      clear HUP2 hu3
      by_cases hr0 : r ≤ 0
      · have hle : y * m ≤ x := by
          have := HR.out.2
          omega
        have hmq : m ≤ q := by rw [HQ.out]; exact digit_low hy hle
        clear hle
        go_wp2_with fail
        exact ⟨⟨m, hi, rfl, rfl, hmq, h2, h3, HUP3.out⟩, by simp [intOf]; omega⟩
      · have hgt : x < y * m := HR.out.2.1 (by omega)
        have hmq : q < m := by rw [HQ.out]; exact digit_high hy hgt
        clear hgt
        go_wp2_with fail
        exact ⟨⟨lo, m - 1, rfl, by congr 1; omega, h1, by omega, by omega, HUP3.out⟩, by simp [intOf]; omega⟩
    · obtain rfl : lo = hi := by omega
      obtain rfl : q = lo := by omega
      go_wp2_with fail
      go_ret
      exact ⟨_, rfl, hq, rfl, HUP.out⟩
end Go.Proofs.YtabnlklkfgojgaaGreatDoor

namespace Go.Proofs.YtabnlklkfgojgaaGreatDoor
open Go.RowKit
set_option maxRecDepth 100000

theorem append_three (wr : World) (v : Value) (k : Nat) (xs : List Value) (a b c : UInt8) (hown : wr.ownsRow 0 5 1 v k xs) (hk : k < 1099511627776) :
    ∃ v' w', (Builtin.append_ #[84, 84] 84 #[v, .slice (some ⟨wr.heap.size, 0, none⟩) 3 3]).run Tryz.prog (wr.alloc (.cells #[.int .u8 (a.toNat : Int), .int .u8 (b.toNat : Int), .int .u8 (c.toNat : Int)] 5)) = .ok v' w' ∧ w'.ownsRow 0 5 1 v' (k + 3) (xs ++ [byteV a, byteV b, byteV c]) ∧ Upd (foot v) (foot v') wr w' := by
  have hrow : (wr.alloc (.cells #[.int .u8 (a.toNat : Int), .int .u8 (b.toNat : Int), .int .u8 (c.toNat : Int)] 5)).ownsRow 0 5 1 v k xs := row_same hown (fun j hj => Below.heap_alloc _ _ _ (row_foot_lt hown j hj))
  have hw1 : (wr.alloc (.cells #[.int .u8 (a.toNat : Int), .int .u8 (b.toNat : Int), .int .u8 (c.toNat : Int)] 5)).heap[wr.heap.size]? = some (.cells #[.int .u8 (a.toNat : Int), .int .u8 (b.toNat : Int), .int .u8 (c.toNat : Int)] 5 (0, 0)) := heap_alloc_new _ _
  obtain ⟨iu, u1, u2, u3', u4⟩ := u8_parts
  obtain ⟨v', w', hrun, hown', hup'⟩ := append_block (P := Tryz.prog) (wr.alloc (.cells #[.int .u8 (a.toNat : Int), .int .u8 (b.toNat : Int), .int .u8 (c.toNat : Int)] 5)) 84 84 5 iu (.int .u8 0) 1 1 Tryz.underlying84 u1 u2 u3' u4 rfl (by omega) v k _ hrow ⟨wr.heap.size, 0, none⟩ 3 3 [byteV a, byteV b, byteV c] rfl (by
    intro j u hj
    have hj3 : j < 3 := by
      have := (List.getElem?_eq_some_iff.1 hj).1
      simpa using this
    have e : (⟨wr.heap.size, 0, none⟩ : Addr).add j = ⟨wr.heap.size, j, none⟩ := by unfold Addr.add; split <;> simp_all
    rw [e, cell_of_row _ _ _ _ _ _ hw1]
    match j, hj3, hj with
    | 0, _, hj => exact hj
    | 1, _, hj => exact hj
    | 2, _, hj => exact hj) (byteVals_one [a, b, c]) (by omega) (by simp only [maxLen]; omega)
  exact ⟨v', w', hrun, hown', ((Upd.refl _ _).alloc _).trans hup'⟩

theorem Sl.at {w : World} {g n cap : Nat} {l : List Nat} (h : Sl w (.slice (some ⟨g, 0, none⟩) n cap) l) {k d : Nat} (hk : l[k]? = some d) : w.cell? ⟨g, k, none⟩ = some (.int .i64 (d : Int)) := by
  obtain ⟨b, e, hc⟩ := h.get hk
  simp only [Option.some.injEq, Addr.mk.injEq, and_true] at e
  subst e
  exact hc
theorem bigByte_of (d s : Nat) : IntKind.u8.wrap ((d : Int) / s) = ((UInt8.ofNat (d / s)).toNat : Int) := by
  rw [IntKind.wrap_u8, UInt8.toNat_ofNat']
  omega

set_option maxHeartbeats 2000000 in
theorem number_big (u : Value) (l : List Nat) (w : World) (hu : Sl w u l) (hl : okL l) (hn : l.length ≤ 100000000) : Calls Tryz.prog 202 #[u] w (MkNat (valL l) w) := by
  obtain ⟨ao, cap, rfl, hu1, hu2⟩ := hu.form
  obtain ⟨n, hnn⟩ : ∃ n, n = l.length := ⟨_, rfl⟩
  rw [← hnn] at hu1 hu hn
  rw [← hnn]
  have HU := Lib.hid hu
  have HN := Lib.hid hnn
  clear hu hnn
  go_enter Tryz.func202, Tryz.ntmps202
  go_wp2_with fail
  go_loopw [3, 4] (fun t i wr => ∃ (z : Int) (k q : Nat) (bl : List UInt8), i = .int .i64 z ∧ z + 1 = (k : Int) ∧ k ≤ n ∧ q ≤ 300000000 ∧ Hid (natB bl = valL (l.drop k)) ∧ Hid (q = bl.length ∧ q = 3 * (n - k)) ∧ Hid (wr.ownsRow 0 5 1 t q (byteVals bl)) ∧ Hid (Upd [] (foot t) w wr)) (fun _ i _ => (intOf i + 1).toNat)
  case atStart => exact ⟨(n : Int) - 1, n, 0, [], rfl, by omega, Nat.le_refl _, Nat.zero_le _, by show _ = _; rw [List.drop_of_length_le (by rw [HN.out]; omega)]; rfl, ⟨rfl, by omega⟩, ⟨by simp [byteVals], .inl ⟨rfl, rfl⟩⟩, Upd.refl _ _⟩
  case round =>
    obtain ⟨z, k, q, bl, rfl, hz, hk, hq, HB, HQ, HR, HUP⟩ := hrel
    have hup0 : Upd [] [] w wr := HUP.out.mono (fun _ h => h) (fun _ h => absurd h (by simp))
    by_cases h0 : 0 < k
    · obtain ⟨j, rfl⟩ : ∃ j, k = j + 1 := ⟨k - 1, by omega⟩
      obtain rfl : z = (j : Int) := by omega
      have hjl : j < l.length := by rw [← HN.out]; omega
      obtain ⟨d, hd⟩ : ∃ d, l[j]? = some d := ⟨_, List.getElem?_eq_getElem hjl⟩
      have hd2 : d < 16777216 := hl d (List.mem_of_getElem? hd)
      obtain ⟨g1, rfl, c1⟩ := (HU.out.upd hup0).get hd
      have hst : natB (bl ++ [UInt8.ofNat (d / 65536), UInt8.ofNat (d / 256), UInt8.ofNat d]) = valL (l.drop j) := by
        rw [natB_three _ _ hd2, HB.out, valL_drop_step hd]
        omega
      have e2 : IntKind.u8.wrap ((d : Int) / 65536) = ((UInt8.ofNat (d / 65536)).toNat : Int) := bigByte_of d 65536
      have e1 : IntKind.u8.wrap ((d : Int) / 256) = ((UInt8.ofNat (d / 256)).toNat : Int) := bigByte_of d 256
      have e0 : IntKind.u8.wrap (d : Int) = ((UInt8.ofNat d).toNat : Int) := by rw [IntKind.wrap_u8, UInt8.toNat_ofNat']; omega
      generalize UInt8.ofNat (d / 65536) = b2 at *
      generalize UInt8.ofNat (d / 256) = b1 at *
      generalize UInt8.ofNat d = b0 at *
      obtain ⟨v', w', hrun, hown', hup'⟩ := append_three wr.drew _ q _ b2 b1 b0 (row_same HR.out (fun _ _ => rfl)) (by omega)
      have HRUN := Lib.hid hrun
      have HOWN := Lib.hid hown'
      have HUPP := Lib.hid (HUP.out.drew.trans hup')
      have c3 := (HU.out.upd (HUPP.out.mono (fun _ h => h) (fun _ h => absurd h (by simp)))).at hd
      have HST := Lib.hid hst
      have hq2 := HQ.out
      have hq3 : q + 3 ≤ 300000000 := by omega
      have hq4 : q + 3 = (bl ++ [b2, b1, b0]).length ∧ q + 3 = 3 * (n - j) := ⟨by rw [List.length_append, ← hq2.1]; rfl, by omega⟩
      have HQQ := Lib.hid hq4
      clear hjl hd hst hrun hown' hup' HUP HR HQ hq2 hq4 hz HB
      go_wp2_with fail
      have p0 : (0 : Int) ≤ (j : Int) := by omega
      have p1 : (j : Int) < (n : Int) := by omega
      have c2 : wr.drew.cell? ⟨g1, j, none⟩ = some (.int .i64 (d : Int)) := c1
      go_region_held3 (fun wp => wp.cell? ⟨g1, j, none⟩ = some (.int .i64 (d : Int))) (first | exact c2 | assumption | go_keep)
        (first | (refine step_append_run _ rfl (.tmp 12) (.tmp 30) 84 84 rfl _ _ _ _ rfl rfl HRUN.out ?_))
      go_wp2_with fail
      exact ⟨⟨(j : Int) - 1, j, q + 3, bl ++ [b2, b1, b0], rfl, by omega, by omega, hq3, HST.out, HQQ.out, by show World.ownsRow _ _ _ _ _ _ _; rw [byteVals_append]; exact HOWN.out, HUPP.out⟩, by first | (simp [intOf]; done) | (simp [intOf]; omega)⟩
    · obtain rfl : k = 0 := by omega
      obtain rfl : z = -1 := by omega
      have hown := HR.out
      rw [HQ.out.1] at hown
      have hcv := conv_row (P := Tryz.prog) wr 84 216 5 Tryz.underlying84 Tryz.underlying5 Tryz.underlying216 u3 bl hown
      have HCV := Lib.hid hcv
      have hbl : bl.length ≤ 300000000 := by rw [← HQ.out.1]; exact hq
      clear hown hcv HR hz h0
      go_wp2_with fail
      rw [HCV.out]
      go_wp2_with fail
      refine (canon_any _ wr (by show bl.length ≤ _; omega)).mono ?_
      rintro e w' ⟨r, HR, rfl, rfl⟩
      go_wp2_with fail
      go_ret
      refine ⟨r, ?_, rfl, hup0⟩
      show _ = _
      rw [HR.out, bs_mk, HB.out, List.drop_zero]

set_option maxHeartbeats 4000000 in
theorem of_big (a : ByteArray) (x : Nat) (w : World) (hx : x = natB (bs a)) (ha : a.size ≤ 1000000000) (hd : (dg x).length ≤ 100000000) : Calls Tryz.prog 196 #[.string a] w (fun e w' => ∃ v', Hid (Sl w' v' (dg x)) ∧ e = .returned v' ∧ Upd [] [] w w') := by
  have HX := Lib.hid hx
  clear hx
  go_enter Tryz.func196, Tryz.ntmps196
  go_wp2_with fail
  refine (canon_any a w (by omega)).mono ?_
  rintro e w' ⟨r, HR, rfl, rfl⟩
  have hr : bs r = be x := by rw [HR.out, HX.out]
  have hrs : r.size ≤ 1000000000 := by
    have h1 := be_len_le a.size x (by rw [HX.out]; exact natB_lt (bs a))
    have h2 := size_of_be hr
    omega
  have HB := Lib.hid hr
  clear HR hr
  go_wp2_with fail
  go_loopw [3, 4] (fun o e wr => ∃ (z : Int) (t y q : Nat) (out : List Nat), e = .int .i64 z ∧ ((z ≤ 0 ∧ -3 < z ∧ t = 0) ∨ z = (t : Int)) ∧ t ≤ r.size ∧ q ≤ 100000000 ∧ Hid ((be x).take t = be y ∧ t = (be y).length) ∧ Hid (okL out ∧ dg x = out ++ dg y ∧ out.length = q) ∧ Hid (wr.ownsRow 0 3 1 o q (digVals out)) ∧ Hid (Upd [] (foot o) w wr)) (fun _ e _ => (intOf e).toNat)
  case atStart => exact ⟨(r.size : Int), r.size, x, 0, [], rfl, .inr rfl, Nat.le_refl _, Nat.zero_le _, ⟨by rw [← HB.out, List.take_of_length_le (by simp [bs_length])], by rw [← HB.out]; rfl⟩, ⟨okL_nil, rfl, rfl⟩, ⟨by simp [digVals], .inl ⟨rfl, rfl⟩⟩, Upd.refl _ _⟩
  case round =>
    obtain ⟨z, t, y, q, out, rfl, hz, ht, hq, HT, HO, HROW, HUP⟩ := hrel
    have hup0 : Upd [] [] w wr := HUP.out.mono (fun _ h => h) (fun _ h => absurd h (by simp))
    by_cases h0 : 0 < z
    · obtain rfl : z = (t : Int) := by omega
      have ht0 : 0 < t := by omega
      have hy : 0 < y := by
        rcases Nat.eq_zero_or_pos y with h | h
        · have := HT.out.2
          rw [h, be_zero] at this
          simp at this
          omega
        · exact h
      obtain ⟨s, hs⟩ : ∃ s, s = t - 3 := ⟨_, rfl⟩
      have hmax : max ((t : Int) - 3) 0 = (s : Int) := by omega
      have hst : s ≤ t := by omega
      have hs3 : t - s ≤ 3 := by omega
      have htx : t ≤ (bs r).length := ht
      have HS := Lib.hid hs
      have HY := Lib.hid hy
      clear hz hs hy
      go_wp2_with fail
      go_loopw [5, 6] (fun d k wq => ∃ m j : Nat, d = .int .i64 (m : Int) ∧ k = .int .i64 (j : Int) ∧ s ≤ j ∧ j ≤ t ∧ Hid (m = natB (((be x).drop s).take (j - s))) ∧ m ≤ 16777215 ∧ wq = wr) (fun _ k _ => t - (intOf k).toNat)
      case atStart => exact ⟨0, s, rfl, rfl, Nat.le_refl _, hst, by show _ = _; rw [Nat.sub_self, List.take_zero]; rfl, by omega, rfl⟩
      case round =>
        obtain ⟨m, j, rfl, rfl, hj1, hj2, HM, hm, hwq⟩ := hrel
        by_cases hlt : j < t
        · have hjr : j < r.size := by omega
          have hstep : natB (((be x).drop s).take (j + 1 - s)) = m * 256 + r[j].toNat := by
            rw [← HB.out, show j + 1 - s = (j - s) + 1 by omega, List.take_add_one, List.getElem?_drop, show s + (j - s) = j by omega, bs_get r j hjr, Option.toList_some, natB_snoc, HB.out, ← HM.out]
          have hle : m * 256 + r[j].toNat ≤ 16777215 := by
            rw [← hstep]
            have h1 := natB_lt (((be x).drop s).take (j + 1 - s))
            have h2 : (((be x).drop s).take (j + 1 - s)).length ≤ 3 := by rw [List.length_take]; omega
            have h3 := Nat.pow_le_pow_right (n := 256) (by omega) h2
            have h4 : (256 : Nat) ^ 3 = 16777216 := rfl
            omega
          have HST := Lib.hid hstep
          have hle1 : (m : Int) * 256 ≤ 16777215 := by omega
          have hle2 : (m : Int) * 256 + (r[j].toNat : Int) ≤ 16777215 := by omega
          subst hwq
          clear hstep
          go_wp2_with fail
          exact ⟨⟨m * 256 + r[j].toNat, j + 1, by go_num, by go_num, by omega, by omega, HST.out.symm, hle, by first | trivial | rfl⟩, by simp [intOf]; omega⟩
        · obtain rfl : j = t := by omega
          subst hwq
          have hbt : (be x).take j = be y := HT.out.1
          have hlen : j = (be y).length := HT.out.2
          have hmy : m = y % 16777216 := by
            rw [HM.out, ← List.drop_take, hbt, HS.out, hlen, be_mod3]
          have hdy : dg x = (out ++ [m]) ++ dg (y / 16777216) := by
            rw [HO.out.2.1, dg_pos HY.out, ← hmy]
            simp
          have hnt : (be x).take s = be (y / 16777216) := by
            rw [be_div3, ← hlen, ← hbt, List.take_take, ← HS.out]
            congr 1
            omega
          have hns : s = (be (y / 16777216)).length := by
            rw [be_div3, List.length_take, ← hlen, HS.out]
            omega
          have hq1 : q + 1 ≤ 100000000 := by
            have h1 := congrArg List.length hdy
            rw [List.length_append, List.length_append, List.length_singleton, HO.out.2.2] at h1
            omega
          obtain ⟨v', w', hrun, hown', hup'⟩ := append_int wr _ q _ (m : Int) HROW.out (by omega)
          rw [← digVals_snoc] at hown'
          have HRUN := Lib.hid hrun
          have HOWN := Lib.hid hown'
          have HUPP := Lib.hid (HUP.out.trans hup')
          have HN := Lib.hid (And.intro hnt hns)
          have HOO : Hid (okL (out ++ [m]) ∧ dg x = (out ++ [m]) ++ dg (y / 16777216) ∧ (out ++ [m]).length = q + 1) := ⟨okL_snoc HO.out.1 (by omega), hdy, by rw [List.length_append, HO.out.2.2]; rfl⟩
          have hz2 : (((j : Int) - 3 ≤ 0 ∧ -3 < (j : Int) - 3 ∧ s = 0) ∨ (j : Int) - 3 = (s : Int)) := by have := HS.out; omega
          have hs4 : s ≤ r.size := by omega
          have hms : ((j : Int) - 3).toNat < ((j : Int)).toNat := by omega
          clear hbt hlen hmy hdy hnt hns hrun hown' hup' HUP HROW hmax
          go_wp2_with (refine wpList_append_run _ rfl _ _ _ _ rfl _ _ v' w' rfl rfl HRUN.out ?_)
          exact ⟨⟨(j : Int) - 3, s, y / 16777216, q + 1, out ++ [m], rfl, hz2, hs4, hq1, HN.out, HOO, HOWN.out, HUPP.out⟩, by simp only [intOf]; exact hms⟩
    · have hy : y = 0 := by
        rcases Nat.eq_zero_or_pos y with h | h
        · exact h
        · have h1 := be_ne h
          have h2 := HT.out.2
          omega
      have hout : dg x = out := by rw [HO.out.2.1, hy, dg_zero, List.append_nil]
      have hown := HROW.out
      rw [← HO.out.2.2] at hown
      have hsl := Sl.of_row hown
      rw [← hout] at hsl
      have HSL := Lib.hid hsl
      clear hy hout hown hsl hz
      go_wp2_with fail
      go_ret
      exact ⟨_, HSL.out, rfl, hup0⟩
end Go.Proofs.YtabnlklkfgojgaaGreatDoor

namespace Go.Proofs.YtabnlklkfgojgaaGreatDoor
open Go.RowKit
set_option maxRecDepth 100000

theorem digVals_append (a b : List Nat) : digVals (a ++ b) = digVals a ++ digVals b := by simp [digVals]
theorem run_append_nilsrc {P : Program} (w : World) (base : Nat) (t ty e : TypeId) (i : TypeInfo) (size : Nat) (ht : P.underlying t = some (.slice e)) (hi : P.info? e = some i)
    (v : Value) (n : Nat) (xs : List Value) (hown : w.ownsRow base e size v n xs) (c : Nat) : (Builtin.append_ #[t, t] ty #[v, .slice none 0 c]).run P w = .ok v w := by
  rcases hown.2 with ⟨rfl, rfl⟩ | ⟨g, cap, cur, rfl, _, _, hnc, _⟩
  · simp [Builtin.append_, run_underlying ht, sizeOf, typeInfo, hi, Builtin.lenOf, Builtin.firstCells]
  · simp [Builtin.append_, run_underlying ht, sizeOf, typeInfo, hi, Builtin.lenOf, Builtin.firstCells, hnc, storeCells]
theorem append_sl (X : World) (v : Value) (k : Nat) (l0 : List Nat) (hown : X.ownsRow 0 3 1 v k (digVals l0)) (rest : Value) (l : List Nat) (h : Sl X rest l) (hk : k + l.length ≤ 1099511627776) :
    ∃ v' w', (Builtin.append_ #[71, 71] 71 #[v, rest]).run Tryz.prog X = .ok v' w' ∧ w'.ownsRow 0 3 1 v' (k + l.length) (digVals (l0 ++ l)) ∧ Upd (foot v) (foot v') X w' := by
  obtain ⟨ao, cap, rfl, h1, h2, h3⟩ := h
  obtain ⟨iu, u1, u2, u3, u4⟩ := int_parts
  cases ao with
  | none =>
    have h0 : l.length = 0 := by
      rcases h3 with h3 | ⟨b, e, _⟩
      · exact h3
      · cases e
    have hl : l = [] := List.eq_nil_of_length_eq_zero h0
    subst hl
    refine ⟨v, X, run_append_nilsrc X 0 _ _ 3 iu 1 Tryz.underlying71 u1 v k _ hown cap, ?_, ?_⟩
    · simpa using hown
    · exact Upd.refl _ _
  | some ad =>
    obtain ⟨v', w', hrun, hown', hup'⟩ := append_block (P := Tryz.prog) X 71 71 3 iu (.int .i64 0) 1 8 Tryz.underlying71 u1 u2 u3 u4 rfl (by omega) v k _ hown ad l.length cap (digVals l) (by simp [digVals]) (by
      intro j u hj
      have hjl : j < l.length := by
        have := (List.getElem?_eq_some_iff.1 hj).1
        simpa [digVals] using this
      rcases h3 with h3 | ⟨b, e, hb, hc⟩
      · omega
      · injection e with e
        subst e
        have e2 : (⟨b, 0, none⟩ : Addr).add j = ⟨b, j, none⟩ := by unfold Addr.add; split <;> simp_all
        rw [e2, hc j l[j] (List.getElem?_eq_getElem hjl)]
        have : (digVals l)[j]? = some (digV l[j]) := by simp [digVals, hjl]
        rw [this] at hj
        exact hj) (by
      intro u hu
      simp only [digVals, List.mem_map] at hu
      obtain ⟨d, _, rfl⟩ := hu
      rfl) (by omega) (by simp only [maxLen]; omega)
    exact ⟨v', w', hrun, by rw [digVals_append]; exact hown', hup'⟩

theorem made_digs (k : Nat) : madeCells (Value.int .i64 0).cells k = (digVals (List.replicate k 0)).toArray := by
  apply Array.ext
  · simp [madeCells, digVals]
  · intro i h1 h2
    simp [madeCells, digVals, digV, Value.cells, Nat.mod_one]
theorem make_digs (w : World) (n : Nat) (hn : n ≤ 1000000000) : (Instr.makeSlice 71 (.int .i64 (n : Int)) (.int .i64 (n : Int))).run Tryz.prog w = .ok (.slice (some ⟨w.heap.size, 0, none⟩) n n) (w.alloc (.cells (digVals (List.replicate n 0)).toArray 3)) := by
  obtain ⟨i0, hi, hz0, hz1, hz2⟩ := int_parts
  have := run_make (P := Tryz.prog) w 71 3 i0 (.int .i64 0) Tryz.underlying71 hi hz0 .i64 .i64 n n (by omega) (by omega) (by rw [hz2]; omega) (by omega)
  rw [this, hz1]
  simp only [Int.toNat_natCast, Nat.mul_one, made_digs]
theorem digVals_set (l : List Nat) (k x : Nat) : (digVals l).toArray.setIfInBounds k (.int .i64 (x : Int)) = (digVals (l.set k x)).toArray := by
  simp [digVals, List.map_set, digV]
theorem Sl.set {w : World} {v : Value} {l : List Nat} (h : Sl w v l) {g j : Nat} {x : Value} (hg : ∀ b ∈ foot v, b ≠ g) : Sl (w.setCell ⟨g, j, none⟩ x) v l := by
  obtain ⟨ao, cap, rfl, h1, h2, h3⟩ := h
  refine ⟨ao, cap, rfl, h1, h2, ?_⟩
  rcases h3 with h3 | ⟨b, rfl, hb, hc⟩
  · exact .inl h3
  · refine .inr ⟨b, rfl, by simpa using hb, fun i d hi => ?_⟩
    have hne : b ≠ g := hg b (by simp [foot, Value.ownBlock])
    rw [World.cell?_setCell_other _ _ _ _ (fun e => hne (Addr.mk.inj e).1.symm)]
    exact hc i d hi
theorem Sl.of_block {w : World} {g : Nat} {l : List Nat} {t : TypeId} (h : w.heap[g]? = some (.cells (digVals l).toArray t (0, 0))) (hl : l.length ≤ maxLen) : Sl w (.slice (some ⟨g, 0, none⟩) l.length l.length) l := by
  refine ⟨_, _, rfl, Nat.le_refl _, hl, .inr ⟨g, rfl, (Array.getElem?_eq_some_iff.1 h).1, fun j d hj => ?_⟩⟩
  rw [cell_of_row w g j _ _ _ h]
  simp [digVals, hj, digV]
theorem okL_zeros (k : Nat) : okL (List.replicate k 0) := fun d hd => by rw [List.mem_replicate] at hd; omega
theorem okL_set {l : List Nat} (h : okL l) {k x : Nat} (hx : x < 16777216) : okL (l.set k x) := by
  intro d hd
  rcases List.mem_or_eq_of_mem_set hd with h1 | h1
  · exact h d h1
  · omega
end Go.Proofs.YtabnlklkfgojgaaGreatDoor

namespace Go.Proofs.YtabnlklkfgojgaaGreatDoor
open Go.RowKit
set_option maxRecDepth 100000

def MkQuo (q r : Nat) (w : World) (e : Ending) (w' : World) : Prop := ∃ a b : ByteArray, Hid (bs a = be q) ∧ Hid (bs b = be r) ∧ e = .returned (.tuple #[.string a, .string b, .bool true]) ∧ Upd [] [] w w'

set_option maxHeartbeats 2000000 in
theorem quo_small (a b : ByteArray) (x y : Nat) (w : World) (ha : a.size ≤ 1000000000) (hb : b.size ≤ 1000000000) (hx : x = natB (bs a)) (hy : y = natB (bs b)) (hy0 : 0 < y) (lx : (be x).length ≤ 7) (ly : (be y).length ≤ 7) :
    Calls Tryz.prog 190 #[.string a, .string b] w (MkQuo (x / y) (x % y) w) := by
  have bx : x < 72057594037927936 := by have := be_small lx; have e : (256 : Nat) ^ 7 = 72057594037927936 := by decide
                                        omega
  have by' : y < 72057594037927936 := by have := be_small ly; have e : (256 : Nat) ^ 7 = 72057594037927936 := by decide
                                         omega
  obtain ⟨q, hq⟩ : ∃ q, q = x / y := ⟨_, rfl⟩
  obtain ⟨r, hr⟩ : ∃ r, r = x % y := ⟨_, rfl⟩
  have hq1 : (x : Int) / (y : Int) = (q : Int) := by rw [hq]; simp
  have hr1 : (x : Int) % (y : Int) = (r : Int) := by rw [hr]; simp
  have hq2 : q < 9223372036854775808 := by
    have := Nat.div_le_self x y
    omega
  have hr2 : r < 9223372036854775808 := by
    have := Nat.mod_le x y
    omega
  rw [← hq, ← hr]
  have HX := Lib.hid hx
  have HY := Lib.hid hy
  have HLX := Lib.hid lx
  have HLY := Lib.hid ly
  clear hx hy hq hr lx ly
  go_enter Tryz.func190, Tryz.ntmps190
  go_wp2_with fail
  refine (canon_any b w (by omega)).mono ?_
  rintro e w' ⟨c, HC, rfl, rfl⟩
  have hcb : bs c = be y := by rw [HC.out, HY.out]
  have hcy : y = natB (bs c) := by rw [hcb, natB_be]
  have hcs : 0 < c.size := by rw [size_of_be hcb]; exact be_ne hy0
  have hcl : c.size ≤ 1000000000 := by rw [size_of_be hcb]; have := HLY.out; omega
  have hb0 : ((c.size : Int) == 0) = false := by rw [beq_eq_false_iff_ne]; omega
  have HCY := Lib.hid hcy
  clear hcb hcy HC
  go_wp2_with fail
  refine (small_ok a x w (by omega) HX.out HLX.out).mono ?_
  rintro e w' ⟨rfl, rfl⟩
  go_wp2_with fail
  refine (small_ok c y w (by omega) HCY.out HLY.out).mono ?_
  rintro e w' ⟨rfl, rfl⟩
  have hyi : 0 < (y : Int) := by omega
  have hxi : 0 ≤ (x : Int) := by omega
  have hu0 : Upd [] [] w w.drew := (Upd.refl _ _).drew
  have hr3 : (x : Int).tmod (y : Int) = (r : Int) := by rw [Int.tmod_eq_emod_of_nonneg hxi]; exact hr1
  have hq3 : (x : Int).tdiv (y : Int) = (q : Int) := by rw [Int.tdiv_eq_ediv_of_nonneg hxi]; exact hq1
  have hq4 : IntKind.i64.wrap (q : Int) = (q : Int) := IntWalk.i64_in _ (by omega)
  have hyz : ((y : Int) == 0) = false := by rw [beq_eq_false_iff_ne]; omega
  have hyn : ¬ y = 0 := by omega
  go_wp2_with fail
  go_region_held3 (fun _ => True) (first | trivial | assumption)
    (first
      | (go_at_call 182; ((with_reducible refine (of_int q _ hq2).mono ?_); rintro e wq ⟨r1, HR1, rfl, hq⟩; have u1 := hu0.trans hq; clear hq))
      | (go_at_call 182; ((with_reducible refine (of_int r _ hr2).mono ?_); rintro e wq ⟨r2, HR2, rfl, hq⟩; have u2 := u1.trans hq; clear hq)))
  go_wp2_with fail
  go_ret3
  exact ⟨r1, r2, HR1, HR2, rfl, u2⟩

structure QuoAt (x y n k : Nat) (Q : List Nat) (R : Nat) : Prop where
  len : Q.length = n
  ok : okL Q
  val : valL ((dg x).drop k) = valL (Q.drop k) * y + R
  lt : R < y
theorem drop_set_eq (l : List Nat) (k x : Nat) (h : k < l.length) : (l.set k x).drop k = x :: l.drop (k + 1) := by
  rw [List.drop_eq_getElem_cons (by simpa using h), List.getElem_set_self, List.drop_set_of_lt (by omega)]
theorem QuoAt.step {x y n j : Nat} {Q : List Nat} {R d q : Nat} (h : QuoAt x y n (j + 1) Q R) (hj : j < n) (hd : (dg x)[j]? = some d) (hq : q = (d + 16777216 * R) / y) : QuoAt x y n j (Q.set j q) ((d + 16777216 * R) % y) := by
  have hlt := h.lt
  have hdl : d < 16777216 := dg_ok x d (List.mem_of_getElem? hd)
  have hql : q < 16777216 := by rw [hq]; exact quo_digit hlt hdl
  refine ⟨by rw [List.length_set]; exact h.len, okL_set h.ok hql, ?_, Nat.mod_lt _ (by omega)⟩
  rw [valL_drop_step hd, drop_set_eq _ _ _ (by rw [h.len]; exact hj), valL]
  exact quo_step h.val hq
theorem QuoAt.zero {x y n j : Nat} {Q : List Nat} {R d : Nat} (h : QuoAt x y n (j + 1) Q R) (_hj : j < n) (hz : Q[j]? = some 0) (hd : (dg x)[j]? = some d) (hlt : d + 16777216 * R < y) : QuoAt x y n j Q (d + 16777216 * R) := by
  refine ⟨h.len, h.ok, ?_, hlt⟩
  rw [valL_drop_step hd, valL_drop_step hz]
  have := quo_step (x := d) h.val (q := 0) (by rw [Nat.div_eq_of_lt hlt])
  rw [Nat.mod_eq_of_lt hlt] at this
  exact this

theorem Upd.own (w : World) (o : Obj) : Upd [] [w.heap.size] w (w.alloc o) := ⟨rfl, rfl, rfl, by simp, fun k hk _ => Below.heap_alloc _ _ _ hk, fun k hk => by simp at hk; omega⟩
theorem heap_upd {w w' : World} {g : Nat} {o : Obj} (h : w.heap[g]? = some o) (u : Upd [] [] w w') : w'.heap[g]? = some o := by
  rw [u.block _ (Array.getElem?_eq_some_iff.1 h).1 (by simp)]; exact h
theorem row_one (w : World) (d : Nat) : (w.alloc (.cells #[.int .i64 (d : Int)] 3)).ownsRow 0 3 1 (.slice (some ⟨w.heap.size, 0, none⟩) 1 1) 1 (digVals [d]) :=
  ⟨by simp [digVals], .inr ⟨w.heap.size, 1, _, rfl, Nat.zero_le _, heap_alloc_new _ _, Nat.le_refl _, by simp [maxLen], by simp, by simp [digVals, digV]⟩⟩
theorem quo_end {x y n : Nat} {Q : List Nat} {R : Nat} (h : QuoAt x y n 0 Q R) : valL Q = x / y ∧ R = x % y := by
  have hv := h.val
  rw [List.drop_zero, List.drop_zero, valL_dg] at hv
  have hlt := h.lt
  have hq : x / y = valL Q := by
    rw [hv, Nat.mul_comm, Nat.mul_add_div (by omega), Nat.div_eq_of_lt hlt, Nat.add_zero]
  have hr : x % y = R := by
    rw [hv, Nat.mul_comm, Nat.mul_add_mod, Nat.mod_eq_of_lt hlt]
  exact ⟨hq.symm, hr.symm⟩

theorem small_is (s : ByteArray) (x : Nat) (w : World) (hs : s.size ≤ 1000000000000) (hx : x = natB (bs s)) :
    Calls Tryz.prog 195 #[.string s, .int .i64 7] w (fun e w' => ∃ (z : Int) (p : Bool), Hid (p = true ↔ (be x).length ≤ 7) ∧ (-9223372036854775808 ≤ z ∧ z ≤ 9223372036854775807) ∧ e = .returned (.tuple #[.int .i64 z, .bool p]) ∧ w = w') := by
  by_cases h : (be x).length ≤ 7
  · refine (small_ok s x w hs hx h).mono ?_
    rintro e w' ⟨rfl, rfl⟩
    have bx : x < 72057594037927936 := by
      have := be_small h
      have e : (256 : Nat) ^ 7 = 72057594037927936 := by decide
      omega
    exact ⟨(x : Int), true, ⟨fun _ => h, fun _ => rfl⟩, by omega, rfl, rfl⟩
  · refine (small_big s x w hs hx (by omega)).mono ?_
    rintro e w' ⟨rfl, rfl⟩
    exact ⟨0, false, ⟨(fun h => by cases h), fun h2 => absurd h2 h⟩, by omega, rfl, rfl⟩

set_option maxHeartbeats 8000000 in
theorem quo_big (a b : ByteArray) (x y : Nat) (w : World) (ha : a.size ≤ 1000000000) (hb : b.size ≤ 1000000000) (hx : x = natB (bs a)) (hy : y = natB (bs b)) (hy0 : 0 < y) (hs : 7 < (be x).length ∨ 7 < (be y).length) (dx : (dg x).length ≤ 100000000) (dy : (dg y).length ≤ 100000000) :
    Calls Tryz.prog 190 #[.string a, .string b] w (MkQuo (x / y) (x % y) w) := by
  have HX := Lib.hid hx
  have HY := Lib.hid hy
  have HS := Lib.hid hs
  have HDX := Lib.hid dx
  have HDY := Lib.hid dy
  clear hx hy hs dx dy
  go_enter Tryz.func190, Tryz.ntmps190
  go_wp2_with fail
  refine (canon_any b w (by omega)).mono ?_
  rintro e w' ⟨c, HC, rfl, rfl⟩
  have hcb : bs c = be y := by rw [HC.out, HY.out]
  have hcy : y = natB (bs c) := by rw [hcb, natB_be]
  have hcs : 0 < c.size := by rw [size_of_be hcb]; exact be_ne hy0
  have hcl : c.size ≤ 1000000000 := by
    have h1 := be_len_le b.size y (by rw [HY.out]; exact natB_lt (bs b))
    rw [size_of_be hcb]; omega
  have hb0 : ((c.size : Int) == 0) = false := by rw [beq_eq_false_iff_ne]; omega
  have HCY := Lib.hid hcy
  clear hcb hcy HC
  go_wp2_with fail
  refine (small_is a x w (by omega) HX.out).mono ?_
  rintro e w' ⟨z1, p1, HP1, hz1, rfl, rfl⟩
  go_wp2_with fail
  refine (small_is c y w (by omega) HCY.out).mono ?_
  rintro e w' ⟨z2, p2, HP2, hz2, rfl, rfl⟩
  have hp : ¬ (p1 = true ∧ p2 = true) := by
    rintro ⟨h1, h2⟩
    have g1 := HP1.out.1 h1
    have g2 := HP2.out.1 h2
    have := HS.out
    omega
  have hpp : (p1 = false) ∨ (p1 = true ∧ p2 = false) := by
    cases p1 <;> cases p2 <;> simp_all
  clear hp HP1 HP2 HS
  rcases hpp with rfl | ⟨rfl, rfl⟩
  all_goals
    go_wp2_with fail
    refine (of_big a x w HX.out ha HDX.out).mono ?_
    rintro e w1 ⟨u, HU, rfl, hu1⟩
    go_wp2_with fail
    refine (of_big c y w1 HCY.out hcl HDY.out).mono ?_
    rintro e w2 ⟨v, HV, rfl, hu2⟩
    have HU2 := Lib.hid (HU.out.upd hu2)
    have u2 := hu1.trans hu2
    obtain ⟨ao, cap, rfl, hc1, hc2⟩ := HU2.out.form
    obtain ⟨n, hn⟩ : ∃ n, n = (dg x).length := ⟨_, rfl⟩
    have hnl : n ≤ 100000000 := by rw [hn]; exact HDX.out
    rw [← hn] at hc1 HU2
    rw [← hn]
    have HN := Lib.hid hn
    clear hn HU hu1 hu2
    go_wp2_with fail
    rw [make_digs w2 n (by omega)]
    have hg := heap_alloc_new w2 (.cells (digVals (List.replicate n 0)).toArray 3)
    have HG := Lib.hid hg
    have ugw : Upd [] [] w2 (w2.alloc (.cells (digVals (List.replicate n 0)).toArray 3)) := (Upd.refl _ _).alloc _
    clear hg
    go_wp2_with fail
    go_loopw [14, 15] (fun rest i wr => ∃ (z : Int) (k : Nat) (Q : List Nat) (R : Nat), i = .int .i64 z ∧ z + 1 = (k : Int) ∧ k ≤ n ∧ Hid (QuoAt x y n k Q R) ∧ Hid (∀ i, i < k → Q[i]? = some 0) ∧ Hid (wr.heap[w2.heap.size]? = some (.cells (digVals Q).toArray 3 (0, 0))) ∧ Hid (Sl wr rest (dg R)) ∧ Hid (Upd [] [] w2 wr)) (fun _ i _ => (intOf i + 1).toNat)
    case atStart =>
      refine ⟨(n : Int) - 1, n, List.replicate n 0, 0, rfl, by omega, Nat.le_refl _, ⟨by simp, okL_zeros n, ?_, hy0⟩, fun i hi => by simp [hi], HG.out, ?_, ugw⟩
      · rw [List.drop_of_length_le (by rw [HN.out]; omega), List.drop_of_length_le (by simp)]
        simp [valL]
      · rw [dg_zero]; exact Sl.nil _
    case round =>
      obtain ⟨z, k, Q, R, rfl, hz, hk, HQ, HZ, HROW, HR, HUP⟩ := hrel
      by_cases h0 : 0 < k
      · obtain ⟨j, rfl⟩ : ∃ j, k = j + 1 := ⟨k - 1, by omega⟩
        obtain rfl : z = (j : Int) := by omega
        have hjl : j < (dg x).length := by rw [← HN.out]; omega
        obtain ⟨d, hd⟩ : ∃ d, (dg x)[j]? = some d := ⟨_, List.getElem?_eq_getElem hjl⟩
        obtain ⟨g1, rfl, c1⟩ := (HU2.out.upd HUP.out).get hd
        have hdl : d < 16777216 := dg_ok x d (List.mem_of_getElem? hd)
        have hRl : (dg R).length ≤ 100000000 := Nat.le_trans (dg_len_mono (Nat.le_of_lt HQ.out.lt)) HDY.out
        have hgw : w2.heap.size < wr.heap.size := (Array.getElem?_eq_some_iff.1 HROW.out).1
        obtain ⟨v', w', hrun, hown', hup'⟩ := append_sl (wr.alloc (.cells #[.int .i64 (d : Int)] 3)) _ 1 [d] (row_one wr d) _ (dg R) (HR.out.upd ((Upd.refl _ _).alloc _)) (by omega)
        have hupw : Upd [] (foot v') wr w' := (Upd.own wr _).trans hup'
        have hupn : Upd [] [] wr w' := hupw.mono (fun _ h => h) (fun _ h => absurd h (by simp))
        have hfoot : ∀ b ∈ foot v', b ≠ w2.heap.size := fun b hb => by
          rcases hupw.new b hb with h | h
          · simp at h
          · omega
        have hsl := Sl.of_row (l := [d] ++ dg R) (by rw [List.length_append]; exact hown')
        have hokl : okL ([d] ++ dg R) := by
          intro e he
          rcases List.mem_cons.1 he with rfl | he
          · exact hdl
          · exact dg_ok R e he
        have hval : valL ([d] ++ dg R) = d + 16777216 * R := by
          show d + 16777216 * valL (dg R) = _
          rw [valL_dg]
        have HRUN := Lib.hid hrun
        have HSL := Lib.hid hsl
        have HOK := Lib.hid hokl
        have HVAL := Lib.hid hval
        have HFT := Lib.hid hfoot
        have HUPN := Lib.hid (HUP.out.trans hupn)
        have HROW1 := Lib.hid (heap_upd HROW.out hupn)
        have HD := Lib.hid hd
        clear hjl hd hrun hown' hup' hupw hupn hfoot hsl hokl hval HUP HROW HR hz
        go_wp2_with (refine wpList_append_run _ rfl _ _ _ _ rfl _ _ v' w' rfl rfl HRUN.out ?_)
        refine (trim_at v' _ w' HSL.out HOK.out).mono ?_
        rintro e w3 ⟨v2, HV2, rfl, rfl⟩
        obtain ⟨R2, hR2⟩ : ∃ R2, R2 = d + 16777216 * R := ⟨_, rfl⟩
        have hv2 : Sl w' v2 (dg R2) := by rw [hR2, ← HVAL.out]; exact HV2.out.1
        have hf2 : ∀ b ∈ foot v2, b ≠ w2.heap.size := by rw [HV2.out.2]; exact HFT.out
        have HR2 := Lib.hid hR2
        have HSV2 := Lib.hid hv2
        have HF2 := Lib.hid hf2
        clear hR2 hv2 hf2 HV2 HSL HOK HVAL HFT HRUN
        go_wp2_with fail
        refine (cmp_any v2 v R2 y w' HSV2.out (HV.out.upd HUPN.out)).mono ?_
        rintro e w4 ⟨r, HCMP, hr, rfl, hu4⟩
        have HUP4 := Lib.hid (HUPN.out.trans hu4)
        have HSV4 := Lib.hid (HSV2.out.upd hu4)
        have HROW4 := Lib.hid (heap_upd HROW1.out hu4)
        clear hu4 HUPN HSV2 HROW1
        by_cases hlt : r < 0
        · have hl2 : d + 16777216 * R < y := by rw [← HR2.out]; exact HCMP.out.1.1 hlt
          have hst := HQ.out.zero (by omega) (HZ.out j (by omega)) HD.out hl2
          rw [← HR2.out] at hst
          have HST := Lib.hid hst
          have HZ2 : Hid (∀ i, i < j → Q[i]? = some 0) := fun i hi => HZ.out i (by omega)
          clear hst hl2
          go_wp2_with fail
          exact ⟨⟨(j : Int) - 1, j, Q, R2, rfl, by omega, by omega, HST.out, HZ2.out, HROW4.out, HSV4.out, HUP4.out⟩, by first | (simp [intOf]; done) | (simp [intOf]; omega)⟩
        · have hge : y ≤ R2 := by
            have := HCMP.out.1
            omega
          have hq : R2 / y < 16777216 := by rw [HR2.out]; exact quo_digit HQ.out.lt hdl
          have HGE := Lib.hid hge
          clear hge
          go_wp2_with fail
          refine (digit_any v2 v R2 y w4 HSV4.out (HV.out.upd HUP4.out) hy0 hq (by have := HDY.out; omega)).mono ?_
          rintro e w5 ⟨q, HQQ, hql, rfl, hu5⟩
          have HUP5 := Lib.hid (HUP4.out.trans hu5)
          have HSV5 := Lib.hid (HSV4.out.upd hu5)
          have HROW5 := Lib.hid (heap_upd HROW4.out hu5)
          clear hu5 HUP4 HSV4 HROW4 hq
          have hjn : j < n := by omega
          have hjq : j < Q.length := by rw [HQ.out.len]; exact hjn
          have f1 : w5.frozen? ⟨w2.heap.size, j, none⟩ = false := frozen_of_row _ _ _ _ _ HROW5.out
          have hr6 := heap_setCell_same w5 w2.heap.size j _ _ (.int .i64 (q : Int)) HROW5.out
          rw [digVals_set] at hr6
          have k0 : w5.cell? ⟨w2.heap.size, j, none⟩ = some (.int .i64 0) := by
            rw [cell_of_row w5 _ j _ _ _ HROW5.out]
            have := HZ.out j (by omega)
            simp [digVals, this, digV]
          have k6 : (w5.setCell ⟨w2.heap.size, j, none⟩ (.int .i64 (q : Int))).cell? ⟨w2.heap.size, j, none⟩ = some (.int .i64 (q : Int)) := by
            rw [cell_of_row _ _ j _ _ _ hr6]
            simp [digVals, digV, hjq]
          have HROW6 := Lib.hid hr6
          have HUP6 := Lib.hid (HUP5.out.setNew (p := ⟨w2.heap.size, j, none⟩) (Nat.le_refl _) (.int .i64 (q : Int)))
          have HSV6 := Lib.hid (HSV5.out.set (j := j) (x := .int .i64 (q : Int)) HF2.out)
          have HST := Lib.hid (HQ.out.step (q := q) hjn HD.out (by rw [HQQ.out, HR2.out]))
          have HZ2 : Hid (∀ i, i < j → (Q.set j q)[i]? = some 0) := fun i hi => by rw [List.getElem?_set_ne (by omega)]; exact HZ.out i (by omega)
          have p0 : (0 : Int) ≤ (j : Int) := by omega
          have p1 : (j : Int) < (n : Int) := by omega
          clear hr6 HROW5 HUP5 HSV5 hjq
          go_wp2_with fail
          refine (times_any v y q _ (HV.out.upd HUP6.out) hql (by have := HDY.out; omega)).mono ?_
          rintro e w7 ⟨v3, HV3, rfl, hu7⟩
          have HUP7 := Lib.hid (HUP6.out.trans hu7)
          have HSV7 := Lib.hid (HSV6.out.upd hu7)
          have HROW7 := Lib.hid (heap_upd HROW6.out hu7)
          have hle : y * q ≤ R2 := by rw [HQQ.out]; exact Nat.mul_div_le R2 y
          have hR2l : (dg R2).length ≤ 1000000000 := by
            have h1 : R2 < 16777216 ^ ((dg y).length + 1) := by
              rw [HR2.out, Nat.pow_succ]
              have h2 := dg_lt y
              have h3 := HQ.out.lt
              have h4 : R + 1 ≤ 16777216 ^ (dg y).length := by omega
              omega
            have h5 := dg_len_le _ _ h1
            have := HDY.out
            omega
          clear hu7 HUP6 HSV6 HROW6 k0 k6 f1
          go_wp2_with fail
          refine (minus_any v2 v3 R2 (y * q) w7 HSV7.out HV3.out hle hR2l).mono ?_
          rintro e w8 ⟨v4, HV4, rfl, hu8⟩
          have hrest : R2 - y * q = (d + 16777216 * R) % y := by
            rw [HQQ.out, ← HR2.out]
            have := Nat.div_add_mod R2 y
            omega
          have hs8 := HV4.out
          rw [hrest] at hs8
          have HSV8 := Lib.hid hs8
          have HUP8 := Lib.hid (HUP7.out.trans hu8)
          have HROW8 := Lib.hid (heap_upd HROW7.out hu8)
          clear hrest hs8 hu8 hle hR2l
          go_wp2_with fail
          exact ⟨⟨(j : Int) - 1, j, Q.set j q, (d + 16777216 * R) % y, rfl, by omega, by omega, HST.out, HZ2.out, HROW8.out, HSV8.out, HUP8.out⟩, by first | (simp [intOf]; done) | (simp [intOf]; omega)⟩
      · obtain rfl : k = 0 := by omega
        obtain rfl : z = -1 := by omega
        have hqn := HQ.out.len
        have hsl := Sl.of_block HROW.out (by rw [hqn]; simp only [maxLen]; omega)
        rw [hqn] at hsl
        have hq1 := quo_end HQ.out
        have hRl : (dg R).length ≤ 100000000 := Nat.le_trans (dg_len_mono (Nat.le_of_lt HQ.out.lt)) HDY.out
        have HSL := Lib.hid hsl
        have HQE := Lib.hid hq1
        have HQN := Lib.hid hqn
        clear hqn hsl hq1 hz h0
        go_wp2_with fail
        refine (number_big _ Q wr HSL.out HQ.out.ok (by rw [HQN.out]; exact hnl)).mono ?_
        rintro e w9 ⟨s1, HS1, rfl, hu9⟩
        go_wp2_with fail
        refine (number_big _ (dg R) w9 (HR.out.upd hu9) (dg_ok R) hRl).mono ?_
        rintro e w10 ⟨s2, HS2, rfl, hu10⟩
        go_wp2_with fail
        go_ret3
        refine ⟨s1, s2, ?_, ?_, rfl, (u2.trans HUP.out).trans (hu9.trans hu10)⟩
        · show _ = _
          rw [HS1.out, HQE.out.1]
        · show _ = _
          rw [HS2.out, valL_dg, HQE.out.2]

theorem pow_wide (k : Nat) : (256 : Nat) ^ k ≤ 16777216 ^ k := Nat.pow_le_pow_left (by omega) k
theorem dg_len_be (z : Nat) : (dg z).length ≤ (be z).length := dg_len_le _ _ (Nat.lt_of_lt_of_le (be_len z) (pow_wide _))
theorem quo_any (a b : ByteArray) (x y : Nat) (w : World) (ha : bs a = be x) (hb : bs b = be y) (hy0 : 0 < y) (lx : (be x).length ≤ 100000000) (ly : (be y).length ≤ 100000000) :
    Calls Tryz.prog 190 #[.string a, .string b] w (MkQuo (x / y) (x % y) w) := by
  have hx : x = natB (bs a) := by rw [ha, natB_be]
  have hy : y = natB (bs b) := by rw [hb, natB_be]
  have sa : a.size ≤ 1000000000 := by rw [size_of_be ha]; omega
  have sb : b.size ≤ 1000000000 := by rw [size_of_be hb]; omega
  by_cases h : (be x).length ≤ 7 ∧ (be y).length ≤ 7
  · exact quo_small a b x y w sa sb hx hy hy0 h.1 h.2
  · exact quo_big a b x y w sa sb hx hy hy0 (by omega) (Nat.le_trans (dg_len_be x) lx) (Nat.le_trans (dg_len_be y) ly)

set_option maxHeartbeats 1000000 in
theorem text_big (a : ByteArray) (x : Nat) (w : World) (ha : x = natB (bs a)) (hl : a.size ≤ 100000000) (hD : (Lib.decDigits x).length ≤ 1000000000) :
    Calls Tryz.prog 181 #[.string a] w (MkS (Lib.decDigits x) w) := by
  have HA := Lib.hid ha
  clear ha
  go_enter Tryz.func181, Tryz.ntmps181
  go_wp2_with fail
  refine (canon_any a w (by omega)).mono ?_
  rintro e w' ⟨r, HR, rfl, rfl⟩
  have hr : bs r = be x := by rw [HR.out, HA.out]
  have hrl : (be x).length ≤ 100000000 := Nat.le_trans (be_len_le a.size x (by rw [HA.out]; exact natB_lt (bs a))) hl
  by_cases h0 : x = 0
  · subst h0
    have hs : r.size = 0 := by rw [size_of_be hr, be_zero]; rfl
    have hs2 : ((r.size : Int) == 0) = true := by rw [beq_iff_eq]; omega
    clear hr HR HA
    go_wp2_with fail
    go_ret
    exact ⟨⟨#[48]⟩, by show _ = _; rw [Lib.decDigits_one (by omega)]; rfl, by rw [Lib.decDigits_one (by omega)]; decide, rfl, Upd.refl _ _⟩
  · have hs : 0 < r.size := by rw [size_of_be hr]; exact be_ne (by omega)
    have hs2 : ((r.size : Int) == 0) = false := by rw [beq_eq_false_iff_ne]; omega
    have HB := Lib.hid hr
    have HLL := Lib.hid hrl
    have HDD := Lib.hid (digs_pos (v := x) (by omega))
    clear hr HR HA hrl h0
    go_wp2_with fail
    go_loopw [0, 3] (fun a s wr => ∃ (q : Nat) (c t : ByteArray), a = .string c ∧ s = .string t ∧ Hid (bs c = be q) ∧ Hid (digs q ++ bs t = digs x) ∧ q ≤ x ∧ Hid (Upd [] [] w wr)) (fun a _ _ => match a with | .string c => natB (bs c) | _ => 0)
    case atStart => exact ⟨x, r, ⟨#[]⟩, rfl, rfl, HB.out, by show _ = _; simp [bs], Nat.le_refl _, Upd.refl _ _⟩
    case round =>
      obtain ⟨q, c, t, rfl, rfl, HC, HT, hq, HUP⟩ := hrel
      by_cases h1 : 0 < q
      · have hcs : 0 < c.size := by rw [size_of_be HC.out]; exact be_ne h1
        have hql : (be q).length ≤ 100000000 := Nat.le_trans (be_len_le (be x).length q (Nat.lt_of_le_of_lt hq (be_len x))) HLL.out
        have HQL := Lib.hid hql
        clear hql
        go_wp2_with fail
        refine (of_int 10 wr (by omega)).mono ?_
        rintro e w2 ⟨ten, HTEN, rfl, hu2⟩
        go_wp2_with fail
        refine (quo_any c ten q 10 w2 HC.out HTEN.out (by omega) HQL.out (Nat.le_trans (be_len_le 1 10 (by decide)) (by omega))).mono ?_
        rintro e w3 ⟨q1, r1, HQ1, HR1, rfl, hu3⟩
        go_wp2_with fail
        have hr1n : q % 10 = natB (bs r1) := by rw [HR1.out, natB_be]
        have hr1s : r1.size ≤ 1000000000000 := by
          rw [size_of_be HR1.out]
          exact Nat.le_trans (be_len_le 1 (q % 10) (by omega)) (by omega)
        refine (int_any r1 (q % 10) w3 hr1s hr1n (by omega)).mono ?_
        rintro e w' ⟨rfl, rfl⟩
        obtain ⟨b, hb⟩ : ∃ b, b = UInt8.ofNat (48 + q % 10) := ⟨_, rfl⟩
        have hbn : b.toNat = 48 + q % 10 := by rw [hb]; exact digit_toNat (Nat.mod_lt _ (by omega))
        have hst := digs_step q h1
        rw [← hb] at hst
        have hb1 : 48 + (q : Int) % 10 = (b.toNat : Int) := by omega
        have hR2 : digs (q / 10) ++ bs (⟨#[b]⟩ ++ t) = digs x := by
          rw [bs_append, ← HT.out, hst, List.append_assoc]
          rfl
        have htl : t.size ≤ 1000000000 := by
          have h2 := congrArg List.length HT.out
          rw [List.length_append, bs_length, HDD.out] at h2
          omega
        have hb3 : (ByteArray.mk #[b]).size ≤ 1 := Nat.le_refl _
        have HR2 := Lib.hid hR2
        have HCV := Lib.hid (byte_str w3 b)
        have hu4 : Upd [] [] w3 (w3.alloc (.cells #[.int .u8 (b.toNat : Int)] 5)) := (Upd.refl _ _).alloc _
        have HB1 := Lib.hid hb1
        have hms : natB (bs q1) < natB (bs c) := by
          rw [HQ1.out, HC.out, natB_be, natB_be]
          omega
        have HMS := Lib.hid hms
        clear hb hbn hst hR2 hb1 hr1n hms
        go_wp2_with fail
        rw [HB1.out, HCV.out]
        go_wp2_with fail
        exact ⟨⟨q / 10, q1, _, rfl, rfl, HQ1.out, HR2.out, by omega, HUP.out.trans ((hu2.trans hu3).trans hu4)⟩, HMS.out⟩
      · obtain rfl : q = 0 := by omega
        have hcs : c.size = 0 := by rw [size_of_be HC.out, be_zero]; rfl
        have hres : bs t = Lib.decDigits x := by rw [← HDD.out, ← HT.out]; simp [digs]
        have HRES := Lib.hid hres
        clear hres h1
        go_wp2_with fail
        go_ret
        exact ⟨t, HRES.out, Nat.le_of_eq (bs_size HRES.out), rfl, HUP.out⟩
end Go.Proofs.YtabnlklkfgojgaaGreatDoor

namespace Go.Proofs.YtabnlklkfgojgaaGreatDoor
open Go.RowKit
set_option maxRecDepth 100000

theorem dec_short (u : Nat) (h : u ≤ 9223372036854775808) : (Lib.decDigits u).length ≤ 1000000000 := Nat.le_trans (dec_le19 h) (by omega)
theorem be_short (u : Nat) (h : u < 9223372036854775808) : (be u).length ≤ 8 := be_len_le 8 u (Nat.lt_trans h (by decide))
theorem text_of (u : Nat) (w : World) (a : ByteArray) (ha : bs a = be u) (h : u < 9223372036854775808) : Calls Tryz.prog 181 #[.string a] w (MkS (Lib.decDigits u) w) :=
  text_big a u w (by rw [ha, natB_be]) (by rw [size_of_be ha]; exact Nat.le_trans (be_short u h) (by omega)) (dec_short u (by omega))
theorem itoa_of_neg {n : Int} (h : n < 0) : Lib.itoa n = [45] ++ Lib.decDigits n.natAbs := by
  unfold Lib.itoa
  rw [if_pos h]
  rfl
theorem itoa_of_nat (u : Nat) : Lib.itoa (u : Int) = Lib.decDigits u := by
  unfold Lib.itoa
  rw [if_neg (by omega), Int.toNat_natCast]
theorem itoa_min : Lib.itoa (-9223372036854775808) = [45, 57, 50, 50, 51, 51, 55, 50, 48, 51, 54, 56, 53, 52, 55, 55, 53, 56, 48, 56] := by decide +kernel

set_option maxHeartbeats 1000000 in
theorem decimal22_any (n : Int) (w : World) (hn : i64in n) : Calls Tryz.prog 175 #[.int .i64 n] w (MkS (Lib.itoa n) w) := by
  have hn1 := hn.1
  have hn2 := hn.2
  by_cases h0 : 0 ≤ n
  · obtain ⟨u, rfl⟩ := Int.eq_ofNat_of_zero_le h0
    go_enter Tryz.func175, Tryz.ntmps175
    go_wp2_with fail
    refine (of_int u w (by omega)).mono ?_
    rintro e w1 ⟨a, HA, rfl, hu1⟩
    go_wp2_with fail
    refine (text_of u w1 a HA.out (by omega)).mono ?_
    rintro e w2 ⟨y, HY, hy, rfl, hu2⟩
    go_wp2_with fail
    go_ret
    rw [itoa_of_nat]
    exact ⟨y, HY.out, hy, rfl, hu1.trans hu2⟩
  · by_cases hm : n = -9223372036854775808
    · subst hm
      go_enter Tryz.func175, Tryz.ntmps175
      go_wp2_with fail
      go_ret
      refine ⟨_, ?_, ?_, rfl, Upd.refl _ _⟩
      · show _ = _
        rw [itoa_min]
        rfl
      · rw [itoa_min]
        decide
    · obtain ⟨u, hu⟩ : ∃ u : Nat, n = -(u : Int) := ⟨n.natAbs, by omega⟩
      have hneg : IntKind.i64.wrap (-n) = (u : Int) := by rw [IntWalk.i64_in _ (by omega)]; omega
      have hb : (n == -9223372036854775808) = false := by rw [beq_eq_false_iff_ne]; exact hm
      have hna : n.natAbs = u := by omega
      have HI : Hid (Lib.itoa n = [45] ++ Lib.decDigits u) := by show _ = _; rw [itoa_of_neg (by omega), hna]
      have hu63 : u < 9223372036854775808 := by omega
      have HU := Lib.hid hu
      clear hu hna
      go_enter Tryz.func175, Tryz.ntmps175
      go_wp2_with fail
      refine (of_int u w hu63).mono ?_
      rintro e w1 ⟨a, HA, rfl, hu1⟩
      go_wp2_with fail
      refine (text_of u w1 a HA.out hu63).mono ?_
      rintro e w2 ⟨y, HY, hy, rfl, hu2⟩
      have ly := dec_le19 (u := u) (by omega)
      have t1 : ¬ 9223372036854775807 < 1 + y.size := by omega
      go_wp2_with fail
      go_ret
      refine ⟨ByteArray.mk #[45] ++ y, ?_, ?_, rfl, hu1.trans hu2⟩
      · show _ = _
        rw [HI.out, bs_append, HY.out]
        rfl
      · rw [HI.out, ByteArray.size_append, List.length_append]
        show 1 + y.size ≤ 1 + _
        omega
end Go.Proofs.YtabnlklkfgojgaaGreatDoor

namespace Go.Proofs.YtabnlklkfgojgaaGreatDoor
open Go.RowKit
set_option maxRecDepth 100000

set_option maxHeartbeats 4000000 in
theorem rbody22_any (x : Rc) (hx : x.ok) (hd : x.draw.size ≤ 1000000000) (w : World) : Calls Tryz.prog 168 #[.agg (rcV x).toArray] w (MkS (bodyL x) w) := by
  have r0 := (rc_box w x _ rfl).upd (Upd.refl _ _).drew
  have u0 : Upd [] [] w (w.alloc (.cells (rcV x).toArray 37)).drew := ((Upd.refl _ _).alloc _).drew
  obtain ⟨C, hC⟩ : ∃ C, C = (rcV x).toArray := ⟨_, rfl⟩
  rw [← hC] at r0 u0 ⊢
  clear hC
  obtain ⟨h1, h2, h3, h4, h5, h6, _, _⟩ := id hx
  have l1 := itoa_len _ h1
  have l2 := itoa_len _ h2
  have l3 := itoa_len _ h3
  have hu24 : Tryz.prog.underlying 31 = some (.array 32 5) := Tryz.underlying31
  have i1 := hashLen h4
  have i2 := hashLen h5
  have i3 := hashLen h6
  have x1 := hexL_len x.out
  have x2 := hexL_len x.hash
  have x3 := hexL_len x.prev
  obtain ⟨k0, k1, k2, k3, _, _, _⟩ := r0.s hx
  have HH := Lib.hid (fun (W : World) (r : RcAt W w.heap.size x) => (⟨r.head.1, r.head.2.1, r.head.2.2.2⟩ : W.cell? ⟨w.heap.size, 0, none⟩ = some (.int .i64 x.kiosk) ∧ W.cell? ⟨w.heap.size, 1, none⟩ = some (.int .i64 x.serial) ∧ W.cell? ⟨w.heap.size, 3, none⟩ = some (.int .i64 x.seen)))
  have HK := Lib.hid (fun (W : World) (r : RcAt W w.heap.size x) => (⟨r.head.2.2.1, (r.ranges hx).1, (r.ranges hx).2.1, (r.ranges hx).2.2⟩ : W.cell? ⟨w.heap.size, 2, none⟩ = some (.string x.draw) ∧ W.rangeAt w.heap.size 4 (byteVals x.out) ∧ W.rangeAt w.heap.size 36 (byteVals x.hash) ∧ W.rangeAt w.heap.size 68 (byteVals x.prev)))
  go_enter Tryz.func168, Tryz.ntmps168
  go_wp2_with fail
  go_region_held3 (fun wp => wp.cell? ⟨w.heap.size, 0, none⟩ = some (.int .i64 x.kiosk) ∧ wp.cell? ⟨w.heap.size, 1, none⟩ = some (.int .i64 x.serial) ∧ wp.cell? ⟨w.heap.size, 3, none⟩ = some (.int .i64 x.seen)) (first | with_reducible exact HH.out _ r0 | with_reducible assumption)
    (first
      | (go_at_call 175; ((with_reducible refine (decimal22_any x.kiosk _ h1).mono ?_); rintro e w1 ⟨y1, HY1, hy1, rfl, hq⟩; have r1 := r0.upd hq; have u1 := u0.trans hq; have kq := HH.out _ r1; have t1 : ¬ 9223372036854775807 < 8 + y1.size := (by omega); have t2 : ¬ 9223372036854775807 < 8 + y1.size + 1 := (by omega); clear hq))
      | (go_at_call 175; ((with_reducible refine (decimal22_any x.serial _ h2).mono ?_); rintro e w2 ⟨y2, HY2, hy2, rfl, hq⟩; have r2 := r1.upd hq; have u2 := u1.trans hq; have kq := HH.out _ r2; have t3 : ¬ 9223372036854775807 < 8 + y1.size + 1 + y2.size := (by omega); have t4 : ¬ 9223372036854775807 < 8 + y1.size + 1 + y2.size + 1 := (by omega); clear hq))
      | (go_at_call 175; ((with_reducible refine (decimal22_any x.seen _ h3).mono ?_); rintro e w3 ⟨y3, HY3, hy3, rfl, hq⟩; have r3 := r2.upd hq; have u3 := u2.trans hq; have kq := HH.out _ r3; have t5 : ¬ 9223372036854775807 < 8 + y1.size + 1 + y2.size + 1 + y3.size := (by omega); clear hq)))
  go_upto_region 2 with (fail)
  obtain ⟨U, hU⟩ : ∃ U : ByteArray, U = ByteArray.mk #[114, 101, 99, 101, 105, 112, 116, 32] ++ y1 ++ ByteArray.mk #[32] ++ y2 ++ ByteArray.mk #[32] ++ y3 := ⟨_, rfl⟩
  have hUb : bs U = wRc ++ 32 :: (Lib.itoa x.kiosk ++ 32 :: (Lib.itoa x.serial ++ 32 :: Lib.itoa x.seen)) := by
    rw [hU, bs_append, bs_append, bs_append, bs_append, bs_append, HY1.out, HY2.out, HY3.out]
    simp [wRc, bs]
  have hUs : U.size ≤ 100 := by
    rw [hU]
    simp only [ByteArray.size_append]
    show 8 + y1.size + 1 + y2.size + 1 + y3.size ≤ _
    omega
  rw [← hU]
  have HUB := Lib.hid hUb
  have s1 : ¬ 9223372036854775807 < U.size + 1 := by omega
  clear hU hUb
  have r3d := r3.upd (Upd.refl [] w3).drew
  have u3d := u3.trans (Upd.refl [] w3).drew

  refine wp_region_noPanic ?_
  refine wp_region_held_drew (S := fun wp => wp.cell? ⟨w.heap.size, 2, none⟩ = some (.string x.draw) ∧ wp.rangeAt w.heap.size 4 (byteVals x.out) ∧ wp.rangeAt w.heap.size 36 (byteVals x.hash) ∧ wp.rangeAt w.heap.size 68 (byteVals x.prev)) (by kernel_rfl) ?_ (fun hHeld => ?_)
  · exact HK.out _ r3d
  refine tkY 0 hHeld ?_
  refine tkY 1 hHeld ?_
  refine tkY 2 hHeld ?_
  refine wpAnyH_take (i := 3) (v := .agg (byteVals x.out).toArray) (by simp only [List.getElem?_toArray, List.getElem?_cons_succ, List.getElem?_cons_zero] <;> rfl) (by kernel_rfl) (by kernel_rfl) (by kernel_rfl) (fun _ _ _ h => h) (yieldsIf_load_mid (by rfl) _ _ rfl _ _ rfl (byteVals x.out) _ (fun w hSw => hSw.2.1) hu24 rfl i1) hHeld ?_
  try simp only [Act.put, List.setIfInBounds_toArray, List.set_cons_zero, List.set_cons_succ]
  refine tkY 7 hHeld ?_
  refine wpAnyH_take (i := 8) (v := .agg (byteVals x.hash).toArray) (by simp only [List.getElem?_toArray, List.getElem?_cons_succ, List.getElem?_cons_zero] <;> rfl) (by kernel_rfl) (by kernel_rfl) (by kernel_rfl) (fun _ _ _ h => h) (yieldsIf_load_mid (by rfl) _ _ rfl _ _ rfl (byteVals x.hash) _ (fun w hSw => hSw.2.2.1) hu24 rfl i2) hHeld ?_
  try simp only [Act.put, List.setIfInBounds_toArray, List.set_cons_zero, List.set_cons_succ]
  refine tkY 12 hHeld ?_
  refine wpAnyH_take (i := 13) (v := .agg (byteVals x.prev).toArray) (by simp only [List.getElem?_toArray, List.getElem?_cons_succ, List.getElem?_cons_zero] <;> rfl) (by kernel_rfl) (by kernel_rfl) (by kernel_rfl) (fun _ _ _ h => h) (yieldsIf_load_mid (by rfl) _ _ rfl _ _ rfl (byteVals x.prev) _ (fun w hSw => hSw.2.2.2) hu24 rfl i3) hHeld ?_
  try simp only [Act.put, List.setIfInBounds_toArray, List.set_cons_zero, List.set_cons_succ]
  refine tkY 17 hHeld ?_
  refine tkY 18 hHeld ?_
  refine wpAnyH_ready (rs := [4]) (by kernel_rfl) (by simp) ?_
  refine AllReadyH.cons (by simp only [List.getElem?_toArray, List.getElem?_cons_succ, List.getElem?_cons_zero] <;> rfl) (fun K hK => ?_) ?_
  · go_simp; refine (rhexText_any x.out h4 _).mono ?_; rintro e w4 ⟨y4, HY4, hy4, rfl, hq⟩; have r4 := r3d.upd hq; have u4 := u3d.trans hq; have t1 : ¬ 9223372036854775807 < U.size + 1 + y4.size := (by omega); have t2 : ¬ 9223372036854775807 < U.size + 1 + y4.size + 1 := (by omega); clear hq; go_wp2_with fail
    refine hK.out _ _ ?_ (fun hHeld => ?_)
    · exact HK.out _ r4
    clear hK K
    try simp only [Act.put, List.setIfInBounds_toArray, List.set_cons_zero, List.set_cons_succ]
    refine tkY 5 hHeld ?_
    refine tkY 6 hHeld ?_
    refine wpAnyH_ready (rs := [9]) (by kernel_rfl) (by simp) ?_
    refine AllReadyH.cons (by simp only [List.getElem?_toArray, List.getElem?_cons_succ, List.getElem?_cons_zero] <;> rfl) (fun K hK => ?_) ?_
    · go_simp; refine (rhexText_any x.hash h5 _).mono ?_; rintro e w5 ⟨y5, HY5, hy5, rfl, hq⟩; have r5 := r4.upd hq; have u5 := u4.trans hq; have t3 : ¬ 9223372036854775807 < U.size + 1 + y4.size + 1 + y5.size := (by omega); have t4 : ¬ 9223372036854775807 < U.size + 1 + y4.size + 1 + y5.size + 1 := (by omega); clear hq; go_wp2_with fail
      refine hK.out _ _ ?_ (fun hHeld => ?_)
      · exact HK.out _ r5
      clear hK K
      try simp only [Act.put, List.setIfInBounds_toArray, List.set_cons_zero, List.set_cons_succ]
      refine tkY 10 hHeld ?_
      refine tkY 11 hHeld ?_
      refine wpAnyH_ready (rs := [14]) (by kernel_rfl) (by simp) ?_
      refine AllReadyH.cons (by simp only [List.getElem?_toArray, List.getElem?_cons_succ, List.getElem?_cons_zero] <;> rfl) (fun K hK => ?_) ?_
      · go_simp; refine (rhexText_any x.prev h6 _).mono ?_; rintro e w6 ⟨y6, HY6, hy6, rfl, hq⟩; have r6 := r5.upd hq; have u6 := u5.trans hq; have t5 : ¬ 9223372036854775807 < U.size + 1 + y4.size + 1 + y5.size + 1 + y6.size := (by omega); have t6 : ¬ 9223372036854775807 < U.size + 1 + y4.size + 1 + y5.size + 1 + y6.size + 1 := (by omega); have t7 : ¬ 9223372036854775807 < U.size + 1 + y4.size + 1 + y5.size + 1 + y6.size + 1 + x.draw.size := (by omega); clear hq; go_wp2_with fail
        refine hK.out _ _ ?_ (fun hHeld => ?_)
        · exact HK.out _ r6
        clear hK K
        try simp only [Act.put, List.setIfInBounds_toArray, List.set_cons_zero, List.set_cons_succ]
        refine tkY 15 hHeld ?_
        refine tkY 16 hHeld ?_
        refine tkY 19 hHeld ?_
        refine tkY 20 hHeld ?_
        refine wpAnyH_done (by kernel_rfl) ?_ _
        refine NoPanic.normal ?_
        go_wp2_with fail
        go_ret
        refine ⟨U ++ ByteArray.mk #[32] ++ y4 ++ ByteArray.mk #[32] ++ y5 ++ ByteArray.mk #[32] ++ y6 ++ ByteArray.mk #[32] ++ x.draw, ?_, ?_, rfl, u6⟩
        · show _ = _
          simp only [bs_append, HUB.out, HY4.out, HY5.out, HY6.out, bodyL]
          simp [bs]
        · have e : bs (U ++ ByteArray.mk #[32] ++ y4 ++ ByteArray.mk #[32] ++ y5 ++ ByteArray.mk #[32] ++ y6 ++ ByteArray.mk #[32] ++ x.draw) = bodyL x := by
            simp only [bs_append, HUB.out, HY4.out, HY5.out, HY6.out, bodyL]
            simp [bs]
          rw [← e, bs_length]
          exact Nat.le_refl _
      exact AllReadyH.nil
    exact AllReadyH.nil
  exact AllReadyH.nil

end Go.Proofs.YtabnlklkfgojgaaGreatDoor

namespace Go.Proofs.YtabnlklkfgojgaaGreatDoor
open Go.RowKit
set_option maxRecDepth 100000

set_option maxHeartbeats 4000000 in
theorem rtext22_any (x : Rc) (hx : x.ok) (hd : x.draw.size ≤ 1000000000) (w : World) : Calls Tryz.prog 156 #[.agg (rcV x).toArray] w (MkS (textL x) w) := by
  have r0 := (rc_box w x _ rfl).upd (Upd.refl _ _).drew
  have u0 : Upd [] [] w (w.alloc (.cells (rcV x).toArray 37)).drew := ((Upd.refl _ _).alloc _).drew
  obtain ⟨C, hC⟩ : ∃ C, C = (rcV x).toArray := ⟨_, rfl⟩
  rw [← hC] at r0 u0 ⊢
  clear hC
  obtain ⟨_, _, _, _, _, _, h7, h8⟩ := id hx
  have hi := rcInfo hx
  have hu33 := Tryz.underlying37
  have HK := Lib.hid (fun (W : World) (r : RcAt W w.heap.size x) => r.two hx)
  obtain ⟨k0, k1, k2⟩ := r0.two hx
  have lb := bodyL_len hx
  have lp := pairL_len (a := x.r) (b := x.s) h7 h8
  go_enter Tryz.func156, Tryz.ntmps156
  go_wp2_with fail
  refine wp_region_noPanic ?_
  refine wp_region_held_drew (S := fun wp => wp.cell? ⟨w.heap.size, 100, none⟩ = some (.int .i64 x.r) ∧ wp.cell? ⟨w.heap.size, 101, none⟩ = some (.int .i64 x.s) ∧ wp.rangeAt w.heap.size 0 (rcV x)) (by kernel_rfl) ?_ (fun hHeld => ?_)
  · exact HK.out _ r0
  refine tkY 0 hHeld ?_
  refine tkY 1 hHeld ?_
  refine wpAnyH_take (i := 4) (v := .agg (rcV x).toArray) (by simp only [List.getElem?_toArray, List.getElem?_cons_succ, List.getElem?_cons_zero] <;> rfl) (by kernel_rfl) (by kernel_rfl) (by kernel_rfl) (fun _ _ _ h => h) (yieldsIf_load_mid (by rfl) _ _ rfl _ _ rfl (rcV x) _ (fun w hSw => hSw.2.2) hu33 rfl hi) hHeld ?_
  try simp only [Act.put, List.setIfInBounds_toArray, List.set_cons_zero, List.set_cons_succ]
  refine wpAnyH_ready (rs := [2]) (by kernel_rfl) (by simp) ?_
  refine AllReadyH.cons (by simp only [List.getElem?_toArray, List.getElem?_cons_succ, List.getElem?_cons_zero] <;> rfl) (fun K hK => ?_) ?_
  · go_simp; refine (rtext_any x.r x.s _ h7 h8).mono ?_; rintro e w1 ⟨y1, HY1, hy1, rfl, hq⟩; have r1 := r0.upd hq; have u1 := u0.trans hq; have t1 : ¬ 9223372036854775807 < y1.size + 1 := (by omega); clear hq; go_wp2_with fail
    refine hK.out _ _ ?_ (fun hHeld => ?_)
    · exact HK.out _ r1
    clear hK K
    try simp only [Act.put, List.setIfInBounds_toArray, List.set_cons_zero, List.set_cons_succ]
    refine tkY 3 hHeld ?_
    refine wpAnyH_ready (rs := [5]) (by kernel_rfl) (by simp) ?_
    refine AllReadyH.cons (by simp only [List.getElem?_toArray, List.getElem?_cons_succ, List.getElem?_cons_zero] <;> rfl) (fun K hK => ?_) ?_
    · go_simp; refine (rbody22_any x hx hd _).mono ?_; rintro e w2 ⟨y2, HY2, hy2, rfl, hq⟩; have r2 := r1.upd hq; have u2 := u1.trans hq; have t2 : ¬ 9223372036854775807 < y1.size + 1 + y2.size := (by omega); clear hq; go_wp2_with fail
      refine hK.out _ _ ?_ (fun hHeld => ?_)
      · exact HK.out _ r2
      clear hK K
      try simp only [Act.put, List.setIfInBounds_toArray, List.set_cons_zero, List.set_cons_succ]
      refine tkY 6 hHeld ?_
      refine tkY 7 hHeld ?_
      refine wpAnyH_done (by kernel_rfl) ?_ _
      refine NoPanic.normal ?_
      go_wp2_with fail
      go_ret
      have hb : bs (y1 ++ ByteArray.mk #[32] ++ y2) = textL x := by
        rw [bs_append, bs_append, HY1.out, HY2.out, textL]
        simp [bs]
      exact ⟨_, hb, by rw [← hb, bs_length]; exact Nat.le_refl _, rfl, u2⟩
    exact AllReadyH.nil
  exact AllReadyH.nil

set_option maxHeartbeats 2000000 in
theorem rhash22_any (x : Rc) (hx : x.ok) (hd : x.draw.size ≤ 1000000000) (w : World) : Calls Tryz.prog 131 #[.agg (rcV x).toArray] w (Mk (.agg (byteVals (sha (textL x))).toArray) w) := by
  have r0 : RcAt ((w.alloc (.cells (rcV x).toArray 37)).alloc (.cells (byteVals zero32).toArray 31)) w.heap.size x := (rc_box w x _ rfl).upd ((Upd.refl _ _).alloc _)
  have s0 : AB 31 ((w.alloc (.cells (rcV x).toArray 37)).alloc (.cells (byteVals zero32).toArray 31)) (w.heap.size + 1) zero32 := by
    have h := heap_alloc_new (w.alloc (.cells (rcV x).toArray 37)) (.cells (byteVals zero32).toArray 31)
    rw [World.size_alloc] at h
    exact h
  have u0 : Upd [] [] w ((w.alloc (.cells (rcV x).toArray 37)).alloc (.cells (byteVals zero32).toArray 31)) := ((Upd.refl _ _).alloc _).alloc _
  have HS := Lib.hid (rcSz hx)
  have HCT := Lib.hid (rtext22_any x hx hd ((w.alloc (.cells (rcV x).toArray 37)).alloc (.cells (byteVals zero32).toArray 31)))
  have lb := textL_len hx
  obtain ⟨C, hC⟩ : ∃ C, C = (rcV x).toArray := ⟨_, rfl⟩
  rw [← hC] at r0 u0 s0 HS HCT ⊢
  have HR : Hid (((w.alloc (.cells C 37)).alloc (.cells (byteVals zero32).toArray 31)).heap[w.heap.size]? = some (.cells C 37 (0, 0))) := by
    show _ = _
    rw [hC] at r0 ⊢
    exact r0
  clear hC
  have HZ := Lib.hid s0
  clear r0 s0
  go_enter Tryz.func131, Tryz.ntmps131
  go_wp2_with (first | (refine wpList_load_row rfl 37 _ rfl w.heap.size rfl _ C _ _ HR.out Tryz.underlying37 rfl HS.out ?_))
  refine HCT.out.mono ?_
  rintro e w1 ⟨y, HY, hy, rfl, hq⟩
  have u1 := u0.trans hq
  have HZ1 := Lib.hid (HZ.out.upd hq)
  clear hq HCT HR
  go_wp2_with fail
  refine (rsum_any y w1 (by omega)).mono ?_
  rintro e w2 ⟨rfl, hq⟩
  have u2 := u1.trans hq
  have HZ2 := Lib.hid (HZ1.out.upd hq)
  obtain ⟨D, hD⟩ : ∃ D, D = sha (bs y) := ⟨_, rfl⟩
  have hDl : D.length = 32 := by rw [hD]; exact sha_len _
  have HDL := Lib.hid hDl
  have HDE := Lib.hid hD
  rw [← hD]
  clear hq hD hDl
  go_wp2_with (first | (refine wpList_store_row rfl 31 _ _ rfl (w.heap.size + 1) (byteVals D).toArray rfl rfl _ _ HZ2.out (hashInfo HDL.out) (by simp [byteVals, HDL.out, zero32]) (hashOne _) ?_))
  refine bodyPost_ret (results_cell_row rfl _ _ (w.heap.size + 1) _ (byteVals D).toArray _ _ rfl (HZ2.out.setRow D) Tryz.underlying31 rfl (hashInfo HDL.out)) rfl ⟨?_, u2.setRowNew (by omega) _⟩
  rw [HDE.out, HY.out]

end Go.Proofs.YtabnlklkfgojgaaGreatDoor

namespace Go.Proofs.YtabnlklkfgojgaaGreatDoor
open Go.RowKit
set_option maxRecDepth 100000

def signR (X : Rc) (x : Int) : Rc := { X with r := (gP (nonceN (expN x) (bodyL X)) : Int), s := (sWith (expN x) (nonceN (expN x) (bodyL X)) (bodyL X) : Int) }

set_option maxHeartbeats 4000000 in
theorem signed22_any (x : Int) (X : Rc) (hx : i64in x) (hXo : X.ok) (hXd : X.draw.size ≤ 1000000000) (w : World) :
    Calls Tryz.prog 157 #[.int .i64 x, .agg (rcV X).toArray] w (Mk (.agg (rcV (signR X x)).toArray) w) := by
  obtain ⟨R, hR⟩ : ∃ R, R = (rcV X).toArray := ⟨_, rfl⟩
  obtain ⟨Z, hZ⟩ : ∃ Z, Z = Tryz.zeroCells37 := ⟨_, rfl⟩
  have hZr : Z = (rcV Rc.zero).toArray := by rw [hZ]; rfl
  have r1 : RcAt ((w.alloc (.cells R 37)).alloc (.cells Z 37)) w.heap.size X := (rc_box w X R hR).upd ((Upd.refl _ _).alloc _)
  have z1 : ((w.alloc (.cells R 37)).alloc (.cells Z 37)).heap[w.heap.size + 1]? = some (.cells Z 37 (0, 0)) := by
    have h := heap_alloc_new (w.alloc (.cells R 37)) (.cells Z 37)
    rw [World.size_alloc] at h
    exact h
  have u1 : Upd [] [] w ((w.alloc (.cells R 37)).alloc (.cells Z 37)) := ((Upd.refl _ _).alloc _).alloc _
  have hs1 : ((w.alloc (.cells R 37)).alloc (.cells Z 37)).heap.size = w.heap.size + 1 + 1 := by simp
  obtain ⟨w4, hw4⟩ : ∃ w4, (w.alloc (.cells R 37)).alloc (.cells Z 37) = w4 := ⟨_, rfl⟩
  rw [hw4] at r1 z1 u1 hs1
  have RZ := Lib.hid z1
  have RB : Hid (w4.heap[w.heap.size]? = some (.cells R 37 (0, 0))) := by show _ = _; rw [hR]; exact r1
  have rz5 : Hid ((w4.alloc (.cells Z 37)).heap[w4.heap.size]? = some (.cells Z 37 (0, 0))) := heap_alloc_new w4 (.cells Z 37)
  have u6 : Upd [] [] w4 ((w4.alloc (.cells Z 37)).setRow w4.heap.size R) := ((Upd.refl _ _).alloc _).setRowNew (Nat.le_refl _) _
  have R6 : Hid (((w4.alloc (.cells Z 37)).setRow w4.heap.size R).heap[w.heap.size]? = some (.cells R 37 (0, 0))) := row_updH RB.out u6
  have r6 : RcAt ((w4.alloc (.cells Z 37)).setRow w4.heap.size R) w4.heap.size X := by
    rw [hR]
    exact setRow_heap _ _ _ _ _ _ rz5.out
  have HBC : Hid (∀ W, Calls Tryz.prog 168 #[.agg R] W (MkS (bodyL X) W)) := by
    intro W
    rw [hR]
    exact rbody22_any X hXo hXd W
  have lbX := bodyL_len hXo
  have HRS : Hid ((Tryz.prog.info? 37).map (·.size) = some R.size) := by show _ = _; rw [hR]; exact rcSz hXo
  have HRZ : Hid (Z.size = R.size) := by show _ = _; rw [hR, hZr]; simp [rcV_len hXo, rcV_len Rc.zero_ok]
  have HR1 : Hid (R.all (·.oneCell') = true) := by show _ = _; rw [hR]; exact rcOne _
  have HZE := Lib.hid hZr
  rw [← hR]
  have u6' := u1.trans u6
  subst hZ
  have HS1 := Lib.hid hs1
  clear hZr z1 r1 hR hs1
  go_enter Tryz.func157, Tryz.ntmps157
  go_wp2_with (first | (refine wpList_load_row rfl 37 _ rfl w.heap.size rfl _ R _ _ RB.out Tryz.underlying37 rfl HRS.out ?_) | (refine wpList_store_row rfl 37 _ _ rfl w4.heap.size R rfl rfl _ _ rz5.out HRS.out HRZ.out HR1.out ?_) | (refine wpList_load_row rfl 37 _ rfl w.heap.size rfl _ R _ _ R6.out Tryz.underlying37 rfl HRS.out ?_))
  refine (HBC.out _).mono ?_
  rintro e w7 ⟨y, HY, hy, rfl, hq⟩
  have r7 := r6.upd hq
  have u7 := u6'.trans hq
  have RZ7 := Lib.hid (row_updH RZ.out (u6.trans hq))
  have RZ4 := RZ
  clear hq r6 R6 rz5 u6 u6' RZ RB
  go_wp2_with fail
  refine (rsign_any x y w7 (by unfold i64in at hx; omega) (by omega)).mono ?_
  rintro e w8 ⟨g1, g2, HG1, HG2, hg1, hg2, rfl, hq⟩
  have r8 := r7.upd hq
  have u8 := u7.trans hq
  have RZ8 := Lib.hid (row_updH RZ7.out hq)
  clear hq RZ7
  obtain ⟨c0, c1⟩ := r8.sig hXo
  have f0 := r8.frozen 100
  have f1 := r8.frozen 101
  obtain ⟨Y, hY⟩ : ∃ Y : Rc, Y = { X with r := (g1 : Int), s := (g2 : Int) } := ⟨_, rfl⟩
  have hYo : Y.ok := by
    rw [hY]
    obtain ⟨o1, o2, o3, o4, o5, o6, _, _⟩ := hXo
    exact ⟨o1, o2, o3, o4, o5, o6, ⟨show (-9223372036854775808 : Int) ≤ (g1 : Int) by omega, show (g1 : Int) ≤ 9223372036854775807 by omega⟩, ⟨show (-9223372036854775808 : Int) ≤ (g2 : Int) by omega, show (g2 : Int) ≤ 9223372036854775807 by omega⟩⟩
  have r9 := r8.sigs hXo (g1 : Int) (g2 : Int)
  rw [← hY] at r9
  have hYE : rcV (signR X x) = rcV Y := by
    rw [signR, hY, HG1.out, HG2.out, HY.out]
  obtain ⟨M, hM⟩ : ∃ M, M = (rcV Y).toArray := ⟨_, rfl⟩
  have HYE : Hid (M = (rcV (signR X x)).toArray) := by show _ = _; rw [hM, hYE]
  have hMs : (Tryz.prog.info? 37).map (·.size) = some M.size := by rw [hM]; exact rcSz hYo
  have hMo : M.all (·.oneCell') = true := by rw [hM]; exact rcOne _
  have hMz : (Tryz.zeroCells37).size = M.size := by rw [hM, HZE.out]; simp [rcV_len hYo, rcV_len Rc.zero_ok]
  have hle := u1.size
  have hne : w.heap.size + 1 ≠ w4.heap.size := by rw [HS1.out]; omega
  have R9 : Hid (((w8.setCell ⟨w4.heap.size, 100, none⟩ (.int .i64 (g1 : Int))).setCell ⟨w4.heap.size, 101, none⟩ (.int .i64 (g2 : Int))).heap[w4.heap.size]? = some (.cells M 37 (0, 0))) := by rw [hM]; exact r9
  have RZ9 : Hid (((w8.setCell ⟨w4.heap.size, 100, none⟩ (.int .i64 (g1 : Int))).setCell ⟨w4.heap.size, 101, none⟩ (.int .i64 (g2 : Int))).heap[w.heap.size + 1]? = some (.cells Tryz.zeroCells37 37 (0, 0))) := row_otherE (row_otherE RZ8.out hne _) hne _
  have u9 := (u8.setNew (p := ⟨w4.heap.size, 100, none⟩) hle (.int .i64 (g1 : Int))).setNew (p := ⟨w4.heap.size, 101, none⟩) hle (.int .i64 (g2 : Int))
  have HMS := Lib.hid hMs
  have HMO := Lib.hid hMo
  have HMZ := Lib.hid hMz
  have RFH := Lib.hid (setRow_heap _ _ _ M _ _ RZ9.out)
  clear hMs hMo hMz hM hYE r8 r9 RZ8 hY HG1 HG2 r7 HBC
  go_wp2_with (first | (refine wpList_load_row rfl 37 _ rfl w4.heap.size rfl _ M _ _ R9.out Tryz.underlying37 rfl HMS.out ?_) | (refine wpList_store_row rfl 37 _ _ rfl (w.heap.size + 1) M rfl rfl _ _ RZ9.out HMS.out HMZ.out HMO.out ?_))
  refine bodyPost_ret (results_cell_row rfl _ _ (w.heap.size + 1) _ M _ _ rfl RFH.out Tryz.underlying37 rfl HMS.out) rfl ⟨by rw [HYE.out], u9.setRowNew (by omega) _⟩
end Go.Proofs.YtabnlklkfgojgaaGreatDoor

namespace Go.Proofs.YtabnlklkfgojgaaGreatDoor
open Go.RowKit
set_option maxRecDepth 100000

set_option maxHeartbeats 4000000 in
theorem rprint22_any (k x s n : Int) (d : ByteArray) (a b c : List UInt8) (hk : i64in k) (hx : i64in x) (hs : i64in s) (hn : i64in n) (hd : d.size ≤ 1000000000) (ha : a.length = 32) (hb : b.length = 32) (hc : c.length = 32) (w : World) :
    Calls Tryz.prog 132 #[.int .i64 k, .int .i64 x, .int .i64 s, .string d, .int .i64 n, .agg (byteVals a).toArray, .agg (byteVals b).toArray, .agg (byteVals c).toArray] w (Mk (.agg (rcV (printR k s n d a b c x)).toArray) w) := by
  obtain ⟨X, hX⟩ : ∃ X : Rc, X = ⟨k, s, n, d, a, b, c, 0, 0⟩ := ⟨_, rfl⟩
  have hXo : X.ok := by rw [hX]; exact ⟨hk, hs, hn, ha, hb, hc, ⟨show (-9223372036854775808 : Int) ≤ 0 by decide, show (0 : Int) ≤ 9223372036854775807 by decide⟩, ⟨show (-9223372036854775808 : Int) ≤ 0 by decide, show (0 : Int) ≤ 9223372036854775807 by decide⟩⟩
  have hXd : X.draw.size ≤ 1000000000 := by rw [hX]; exact hd
  have hP : printR k s n d a b c x = signR X x := by rw [hX]; rfl
  have HP := Lib.hid hP
  clear hP
  have hbd := built_print k s n d a b c ha hb hc
  rw [← hX] at hbd
  obtain ⟨A, hA⟩ : ∃ A, A = (byteVals a).toArray := ⟨_, rfl⟩
  obtain ⟨B, hB⟩ : ∃ B, B = (byteVals b).toArray := ⟨_, rfl⟩
  obtain ⟨C, hC⟩ : ∃ C, C = (byteVals c).toArray := ⟨_, rfl⟩
  have hA0 : A.size = 32 := by rw [hA]; simp [byteVals, ha]
  have hB0 : B.size = 32 := by rw [hB]; simp [byteVals, hb]
  have hC0 : C.size = 32 := by rw [hC]; simp [byteVals, hc]
  rw [← hA, ← hB, ← hC] at hbd ⊢
  clear hA hB hC hX
  have IA : Hid ((Tryz.prog.info? 31).map (·.size) = some A.size) := by show _ = _; rw [hA0]; kernel_rfl
  have IB : Hid ((Tryz.prog.info? 31).map (·.size) = some B.size) := by show _ = _; rw [hB0]; kernel_rfl
  have IC : Hid ((Tryz.prog.info? 31).map (·.size) = some C.size) := by show _ = _; rw [hC0]; kernel_rfl
  clear hA0 hB0 hC0
  obtain ⟨Z, hZ⟩ : ∃ Z, Z = Tryz.zeroCells37 := ⟨_, rfl⟩
  have hZr : Z = (rcV Rc.zero).toArray := by rw [hZ]; rfl
  have ra : ((((w.alloc (.cells A 31)).alloc (.cells B 31)).alloc (.cells C 31)).alloc (.cells Z 37)).heap[w.heap.size]? = some (.cells A 31 (0, 0)) :=
    row_updH (heap_alloc_new w (.cells A 31)) ((((Upd.refl [] _).alloc _).alloc _).alloc _)
  have rb : ((((w.alloc (.cells A 31)).alloc (.cells B 31)).alloc (.cells C 31)).alloc (.cells Z 37)).heap[w.heap.size + 1]? = some (.cells B 31 (0, 0)) := by
    have h := row_updH (heap_alloc_new (w.alloc (.cells A 31)) (.cells B 31)) (((Upd.refl [] _).alloc (.cells C 31)).alloc (.cells Z 37))
    rw [World.size_alloc] at h
    exact h
  have rc : ((((w.alloc (.cells A 31)).alloc (.cells B 31)).alloc (.cells C 31)).alloc (.cells Z 37)).heap[w.heap.size + 1 + 1]? = some (.cells C 31 (0, 0)) := by
    have h := row_updH (heap_alloc_new ((w.alloc (.cells A 31)).alloc (.cells B 31)) (.cells C 31)) ((Upd.refl [] _).alloc (.cells Z 37))
    rw [World.size_alloc, World.size_alloc] at h
    exact h
  have rz : ((((w.alloc (.cells A 31)).alloc (.cells B 31)).alloc (.cells C 31)).alloc (.cells Z 37)).heap[w.heap.size + 1 + 1 + 1]? = some (.cells Z 37 (0, 0)) := by
    have h := heap_alloc_new (((w.alloc (.cells A 31)).alloc (.cells B 31)).alloc (.cells C 31)) (.cells Z 37)
    rw [World.size_alloc, World.size_alloc, World.size_alloc] at h
    exact h
  have u4 : Upd [] [] w ((((w.alloc (.cells A 31)).alloc (.cells B 31)).alloc (.cells C 31)).alloc (.cells Z 37)) := (((((Upd.refl _ _).alloc _).alloc _).alloc _).alloc _)
  have hs4 : ((((w.alloc (.cells A 31)).alloc (.cells B 31)).alloc (.cells C 31)).alloc (.cells Z 37)).heap.size = w.heap.size + 1 + 1 + 1 + 1 := by simp
  obtain ⟨w4, hw4⟩ : ∃ w4, ((((w.alloc (.cells A 31)).alloc (.cells B 31)).alloc (.cells C 31)).alloc (.cells Z 37)) = w4 := ⟨_, rfl⟩
  rw [hw4] at ra rb rc rz u4 hs4
  have RA := Lib.hid ra
  have RB := Lib.hid rb
  have RC := Lib.hid rc
  have RZ := Lib.hid rz
  clear ra rb rc rz
  obtain ⟨R, hR⟩ : ∃ R, R = (rcV X).toArray := ⟨_, rfl⟩
  rw [← hR] at hbd
  have HBD := Lib.hid hbd
  clear hbd
  have HR := Lib.hid hR
  clear hR
  have HRS : Hid ((Tryz.prog.info? 37).map (·.size) = some R.size) := by show _ = _; rw [HR.out]; exact rcSz hXo
  have hSo : (signR X x).ok := by
    obtain ⟨o1, o2, o3, o4, o5, o6, _, _⟩ := hXo
    have g1 := gP_lt (nonceN (expN x) (bodyL X))
    have g2 := sWith_lt (expN x) (nonceN (expN x) (bodyL X)) (bodyL X)
    have p1 : Pn = 2305843009213691579 := rfl
    have p2 : Qn = 1152921504606845789 := rfl
    exact ⟨o1, o2, o3, o4, o5, o6, ⟨show (-9223372036854775808 : Int) ≤ (gP (nonceN (expN x) (bodyL X)) : Int) by omega, show (gP (nonceN (expN x) (bodyL X)) : Int) ≤ 9223372036854775807 by omega⟩, ⟨show (-9223372036854775808 : Int) ≤ (sWith (expN x) (nonceN (expN x) (bodyL X)) (bodyL X) : Int) by omega, show (sWith (expN x) (nonceN (expN x) (bodyL X)) (bodyL X) : Int) ≤ 9223372036854775807 by omega⟩⟩
  have HSC : Hid (∀ W, Calls Tryz.prog 157 #[.int .i64 x, .agg R] W (Mk (.agg (rcV (signR X x)).toArray) W)) := by
    intro W
    rw [HR.out]
    exact signed22_any x X hx hXo hXd W
  obtain ⟨M, hM⟩ : ∃ M, M = (rcV (signR X x)).toArray := ⟨_, rfl⟩
  rw [← hM] at HSC
  have HMS : Hid ((Tryz.prog.info? 37).map (·.size) = some M.size) := by show _ = _; rw [hM]; exact rcSz hSo
  have HMO : Hid (M.all (·.oneCell') = true) := by show _ = _; rw [hM]; exact rcOne _
  have HMZ : Hid (Z.size = M.size) := by show _ = _; rw [hM, hZr]; simp [rcV_len hSo, rcV_len Rc.zero_ok]
  have HYE : Hid (M = (rcV (printR k s n d a b c x)).toArray) := by show _ = _; rw [hM, HP.out]
  subst hZ
  clear hZr hs4 hM
  go_enter Tryz.func132, Tryz.ntmps132
  go_wp2_with (first | (refine wpList_buildTo rfl 37 _ rfl _ rfl R (Eq.trans (congrArg (fun z => Tryz.prog.built 37 z) (by kernel_rfl)) HBD.out) ?_) | (refine wpList_load_row rfl 31 _ rfl w.heap.size rfl _ A _ _ RA.out Tryz.underlying31 rfl IA.out ?_) | (refine wpList_load_row rfl 31 _ rfl (w.heap.size + 1) rfl _ B _ _ RB.out Tryz.underlying31 rfl IB.out ?_) | (refine wpList_load_row rfl 31 _ rfl (w.heap.size + 1 + 1) rfl _ C _ _ RC.out Tryz.underlying31 rfl IC.out ?_))
  refine (HSC.out _).mono ?_
  rintro e w7 ⟨rfl, hq⟩
  have u7 := u4.trans hq
  have RZ7 := Lib.hid (row_updH RZ.out hq)
  have RFH := Lib.hid (setRow_heap _ _ _ M _ _ RZ7.out)
  clear hq RZ RA RB RC HSC HP HR
  go_wp2_with (first | (refine wpList_store_row rfl 37 _ _ rfl (w.heap.size + 1 + 1 + 1) M rfl rfl _ _ RZ7.out HMS.out HMZ.out HMO.out ?_))
  refine bodyPost_ret (results_cell_row rfl _ _ (w.heap.size + 1 + 1 + 1) _ M _ _ rfl RFH.out Tryz.underlying37 rfl HMS.out) rfl ⟨by rw [HYE.out], u7.setRowNew (by omega) _⟩
end Go.Proofs.YtabnlklkfgojgaaGreatDoor
