/- Big numbers as bytes and as digits to the base 2^24, plainly. sortesref01: Canon, Int, Of, small. -/
import Derived.Test.YtcimcodljjcmgaaGreatDoorGAA
import Derived.Lib.Hide
import Derived.Test.YtcimcodljjcmgaaGreatDoorRows
import Derived.Test.YtcimcodljjcmgaaGreatDoorGAE
import Derived.Test.YtcimcodljjcmgaaGreatDoorGAH
namespace Go.Proofs.YtcimcodljjcmgaaGreatDoor
set_option maxRecDepth 100000

theorem snoc_ind {α : Type} {p : List α → Prop} (h0 : p []) (h1 : ∀ l b, p l → p (l ++ [b])) (l : List α) : p l := by
  rw [← List.reverse_reverse l]
  induction l.reverse with
  | nil => exact h0
  | cons a r ih => rw [List.reverse_cons]; exact h1 _ _ ih

def natB (l : List UInt8) : Nat := l.foldl (fun a b => a * 256 + b.toNat) 0
theorem natB_nil : natB [] = 0 := rfl
theorem natB_snoc (l : List UInt8) (b : UInt8) : natB (l ++ [b]) = natB l * 256 + b.toNat := by simp [natB]
theorem natB_append (a : List UInt8) : ∀ b, natB (a ++ b) = natB a * 256 ^ b.length + natB b := by
  intro b
  induction b using snoc_ind with
  | h0 => simp [natB_nil]
  | h1 l b ih =>
    rw [← List.append_assoc, natB_snoc, ih, natB_snoc, List.length_append, List.length_singleton, Nat.pow_succ, Nat.add_mul, Nat.mul_assoc, Nat.add_assoc]
theorem natB_cons (a : UInt8) (r : List UInt8) : natB (a :: r) = a.toNat * 256 ^ r.length + natB r := by
  have := natB_append [a] r
  simpa [natB] using this
theorem natB_take_le (l : List UInt8) (k : Nat) : natB (l.take k) ≤ natB l := by
  have h := natB_append (l.take k) (l.drop k)
  rw [List.take_append_drop] at h
  have h1 : natB (l.take k) * 1 ≤ natB (l.take k) * 256 ^ (l.drop k).length := Nat.mul_le_mul_left _ (Nat.pow_pos (by omega))
  omega
theorem natB_lt (l : List UInt8) : natB l < 256 ^ l.length := by
  induction l using snoc_ind with
  | h0 => simp [natB_nil]
  | h1 l b ih =>
    have := b.toNat_lt
    rw [natB_snoc, List.length_append, List.length_singleton, Nat.pow_succ]
    omega

def be (n : Nat) : List UInt8 := if n = 0 then [] else be (n / 256) ++ [UInt8.ofNat (n % 256)]
termination_by n
decreasing_by omega
theorem be_zero : be 0 = [] := by rw [be]; rfl
theorem be_pos {n : Nat} (h : 0 < n) : be n = be (n / 256) ++ [UInt8.ofNat (n % 256)] := by rw [be, if_neg (by omega)]
theorem be_snoc (x : Nat) (b : UInt8) (h : 0 < x * 256 + b.toNat) : be (x * 256 + b.toNat) = be x ++ [b] := by
  have hb := b.toNat_lt
  rw [be_pos h, show (x * 256 + b.toNat) / 256 = x by omega, show (x * 256 + b.toNat) % 256 = b.toNat by omega, UInt8.ofNat_toNat]
theorem natB_be (n : Nat) : natB (be n) = n := by
  induction n using Nat.strongRecOn with
  | ind n ih =>
    by_cases h : n = 0
    · subst h; rw [be_zero]; rfl
    · rw [be_pos (by omega), natB_snoc, ih (n / 256) (by omega), UInt8.toNat_ofNat']
      omega
theorem be_len (n : Nat) : n < 256 ^ (be n).length := by
  have := natB_lt (be n)
  rwa [natB_be] at this
theorem be_len_le : ∀ (k n : Nat), n < 256 ^ k → (be n).length ≤ k
  | 0, n, h => by
    have : n = 0 := by simpa using h
    subst this; rw [be_zero]; simp
  | k + 1, n, h => by
    by_cases h0 : n = 0
    · subst h0; rw [be_zero]; simp
    · rw [be_pos (by omega), List.length_append, List.length_singleton]
      have := be_len_le k (n / 256) (by rw [Nat.pow_succ] at h; omega)
      omega
theorem be_ne {n : Nat} (h : 0 < n) : 0 < (be n).length := by
  rw [be_pos h]; simp
theorem be_small {n k : Nat} (h : (be n).length ≤ k) : n < 256 ^ k := Nat.lt_of_lt_of_le (be_len n) (Nat.pow_le_pow_right (by omega) h)

def canonL (l : List UInt8) : List UInt8 := l.dropWhile (· == 0)
theorem canon_be (l : List UInt8) : canonL l = be (natB l) := by
  induction l using snoc_ind with
  | h0 => rw [natB_nil, be_zero]; rfl
  | h1 l b ih =>
    rw [canonL, List.dropWhile_append, natB_snoc]
    have ih' : List.dropWhile (· == 0) l = be (natB l) := ih
    rw [ih']
    by_cases h0 : natB l = 0
    · rw [h0, be_zero]
      simp only [List.isEmpty_nil, if_true]
      by_cases hb : b = 0
      · subst hb
        rw [show 0 * 256 + (0 : UInt8).toNat = 0 from rfl, be_zero]
        rfl
      · have hb' : 0 < b.toNat := by
          rcases Nat.eq_zero_or_pos b.toNat with h | h
          · exact absurd (UInt8.toNat_inj.1 h) hb
          · exact h
        rw [be_snoc 0 b (by omega), be_zero]
        have : (b == 0) = false := by rw [beq_eq_false_iff_ne]; exact hb
        simp [List.dropWhile, this]
    · have hne : (be (natB l)).isEmpty = false := by
        have := be_ne (n := natB l) (by omega)
        cases hh : be (natB l) with
        | nil => rw [hh] at this; simp at this
        | cons => rfl
      rw [hne, be_snoc _ _ (by omega)]
      rfl
theorem canon_step {l : List UInt8} {k : Nat} (h : l[k]? = some 0) : canonL (l.drop k) = canonL (l.drop (k + 1)) := by
  obtain ⟨hk, he⟩ := List.getElem?_eq_some_iff.1 h
  rw [List.drop_eq_getElem_cons hk, he, canonL, List.dropWhile_cons]
  simp [canonL]
theorem canon_stop {l : List UInt8} {k : Nat} {b : UInt8} (h : l[k]? = some b) (hb : b ≠ 0) : canonL (l.drop k) = l.drop k := by
  obtain ⟨hk, he⟩ := List.getElem?_eq_some_iff.1 h
  rw [List.drop_eq_getElem_cons hk, he, canonL, List.dropWhile_cons]
  have : (b == 0) = false := by rw [beq_eq_false_iff_ne]; exact hb
  simp [this]

theorem natB_len8 (n : Nat) (h : n < 18446744073709551616) : natB (len8 n) = n := by
  have e : len8 n = [UInt8.ofNat (n / 2 ^ 56), UInt8.ofNat (n / 2 ^ 48), UInt8.ofNat (n / 2 ^ 40), UInt8.ofNat (n / 2 ^ 32), UInt8.ofNat (n / 2 ^ 24), UInt8.ofNat (n / 2 ^ 16), UInt8.ofNat (n / 2 ^ 8), UInt8.ofNat (n / 2 ^ 0)] := rfl
  rw [e]
  simp only [natB, List.foldl_cons, List.foldl_nil, UInt8.toNat_ofNat']
  omega

theorem be_div (x : Nat) : be (x / 256) = (be x).take ((be x).length - 1) := by
  by_cases h : x = 0
  · subst h; rw [show 0 / 256 = 0 from rfl, be_zero]; rfl
  · rw [be_pos (n := x) (by omega)]; simp
theorem be_div3 (x : Nat) : be (x / 16777216) = (be x).take ((be x).length - 3) := by
  have e : x / 16777216 = x / 256 / 256 / 256 := by omega
  rw [e, be_div (x / 256 / 256), be_div (x / 256), be_div x]
  simp only [List.length_take, List.take_take]
  congr 1
  omega
theorem be_mod3 (x : Nat) : natB ((be x).drop ((be x).length - 3)) = x % 16777216 := by
  have h := natB_append ((be x).take ((be x).length - 3)) ((be x).drop ((be x).length - 3))
  rw [List.take_append_drop, natB_be, ← be_div3, natB_be, List.length_drop] at h
  by_cases h3 : 3 ≤ (be x).length
  · rw [show (be x).length - ((be x).length - 3) = 3 by omega, show (256 : Nat) ^ 3 = 16777216 from rfl] at h
    omega
  · have hx : x < 16777216 := by
      have := be_small (n := x) (k := 3) (by omega)
      simpa using this
    rw [show (be x).length - 3 = 0 by omega, List.drop_zero, natB_be]
    omega

def valL : List Nat → Nat
  | [] => 0
  | d :: r => d + 16777216 * valL r
def okL (l : List Nat) : Prop := ∀ d ∈ l, d < 16777216
def dg (n : Nat) : List Nat := if n = 0 then [] else n % 16777216 :: dg (n / 16777216)
termination_by n
decreasing_by omega
theorem dg_zero : dg 0 = [] := by rw [dg]; rfl
theorem dg_pos {n : Nat} (h : 0 < n) : dg n = n % 16777216 :: dg (n / 16777216) := by rw [dg, if_neg (by omega)]
theorem valL_dg (n : Nat) : valL (dg n) = n := by
  induction n using Nat.strongRecOn with
  | ind n ih =>
    by_cases h : n = 0
    · subst h; rw [dg_zero]; rfl
    · rw [dg_pos (by omega), valL, ih (n / 16777216) (by omega)]
      omega
theorem dg_ok (n : Nat) : okL (dg n) := by
  induction n using Nat.strongRecOn with
  | ind n ih =>
    by_cases h : n = 0
    · subst h; rw [dg_zero]; intro d hd; simp at hd
    · rw [dg_pos (by omega)]
      intro d hd
      rcases List.mem_cons.1 hd with rfl | hd
      · omega
      · exact ih (n / 16777216) (by omega) d hd
theorem valL_append : ∀ (a b : List Nat), valL (a ++ b) = valL a + 16777216 ^ a.length * valL b
  | [], b => by simp [valL]
  | d :: r, b => by
    simp only [List.cons_append, valL, valL_append r b, List.length_cons, Nat.pow_succ]
    rw [Nat.mul_add, Nat.add_assoc, ← Nat.mul_assoc, Nat.mul_comm (16777216 ^ r.length) 16777216]
theorem valL_snoc (a : List Nat) (d : Nat) : valL (a ++ [d]) = valL a + 16777216 ^ a.length * d := by rw [valL_append]; simp [valL]
theorem okL_nil : okL [] := fun d hd => by simp at hd
theorem okL_snoc {l : List Nat} {d : Nat} (h : okL l) (hd : d < 16777216) : okL (l ++ [d]) := by
  intro x hx
  rcases List.mem_append.1 hx with hx | hx
  · exact h x hx
  · rw [List.mem_singleton] at hx; omega
theorem okL_take {l : List Nat} (h : okL l) (k : Nat) : okL (l.take k) := fun d hd => h d (List.mem_of_mem_take hd)
theorem valL_lt : ∀ {l : List Nat}, okL l → valL l < 16777216 ^ l.length
  | [], _ => by simp [valL]
  | d :: r, h => by
    have h1 := h d (by simp)
    have h2 := valL_lt (l := r) (fun x hx => h x (by simp [hx]))
    simp only [valL, List.length_cons, Nat.pow_succ]
    omega
theorem dg_of_last : ∀ {c : List Nat}, okL c → (∀ d, c.getLast? = some d → d ≠ 0) → c = dg (valL c)
  | [], _, _ => by rw [valL, dg_zero]
  | d :: r, h, hl => by
    have hd := h d (by simp)
    cases r with
    | nil =>
      have : d ≠ 0 := hl d (by simp)
      simp only [valL, Nat.mul_zero, Nat.add_zero]
      rw [dg_pos (by omega), show d % 16777216 = d by omega, show d / 16777216 = 0 by omega, dg_zero]
    | cons e r =>
      have ih := dg_of_last (c := e :: r) (fun x hx => h x (by simp [List.mem_cons.1 hx])) (fun x hx => hl x (by simpa using hx))
      have hpos : 0 < valL (e :: r) := by
        rcases Nat.eq_zero_or_pos (valL (e :: r)) with h0 | h0
        · rw [h0, dg_zero] at ih; cases ih
        · exact h0
      rw [valL, dg_pos (by omega), show (d + 16777216 * valL (e :: r)) % 16777216 = d by omega, show (d + 16777216 * valL (e :: r)) / 16777216 = valL (e :: r) by omega, ← ih]
theorem dg_len_le : ∀ (k n : Nat), n < 16777216 ^ k → (dg n).length ≤ k
  | 0, n, h => by
    have : n = 0 := by simpa using h
    subst this; rw [dg_zero]; simp
  | k + 1, n, h => by
    by_cases h0 : n = 0
    · subst h0; rw [dg_zero]; simp
    · rw [dg_pos (by omega), List.length_cons]
      have := dg_len_le k (n / 16777216) (by rw [Nat.pow_succ] at h; omega)
      omega
theorem dg_lt (n : Nat) : n < 16777216 ^ (dg n).length := by
  have := valL_lt (dg_ok n)
  rwa [valL_dg] at this
theorem dg_len_lt {x y : Nat} (h : (dg x).length < (dg y).length) : x < y := by
  rcases Nat.lt_or_ge x y with h1 | h1
  · exact h1
  · have := dg_len_le (dg x).length y (Nat.lt_of_le_of_lt h1 (dg_lt x))
    omega
theorem val_cmp {u v : List Nat} {k a b : Nat} (hu : okL u) (hk : u.drop (k + 1) = v.drop (k + 1)) (ha : u[k]? = some a) (hb : v[k]? = some b) (hab : a < b) : valL u < valL v := by
  obtain ⟨hku, rfl⟩ := List.getElem?_eq_some_iff.1 ha
  obtain ⟨hkv, rfl⟩ := List.getElem?_eq_some_iff.1 hb
  have eu := valL_append (u.take k) (u.drop k)
  have ev := valL_append (v.take k) (v.drop k)
  rw [List.take_append_drop, List.drop_eq_getElem_cons hku, valL] at eu
  rw [List.take_append_drop, List.drop_eq_getElem_cons hkv, valL, ← hk] at ev
  rw [List.length_take, Nat.min_eq_left (by omega)] at eu ev
  have hlt := valL_lt (okL_take hu k)
  rw [List.length_take, Nat.min_eq_left (by omega)] at hlt
  generalize 16777216 ^ k = m at *
  generalize 16777216 * valL (u.drop (k + 1)) = z at *
  have h2 : m * (u[k] + z) + m ≤ m * (v[k] + z) := by
    rw [← Nat.mul_succ]
    exact Nat.mul_le_mul_left _ (by omega)
  omega
theorem valL_drop_step {l : List Nat} {k d : Nat} (h : l[k]? = some d) : valL (l.drop k) = d + 16777216 * valL (l.drop (k + 1)) := by
  obtain ⟨hk, rfl⟩ := List.getElem?_eq_some_iff.1 h
  rw [List.drop_eq_getElem_cons hk, valL]
theorem take_step {α : Type} {l : List α} {k : Nat} {d : α} (h : l[k]? = some d) : l.take (k + 1) = l.take k ++ [d] := by
  rw [List.take_add_one, h]; rfl
theorem valL_take_step {l : List Nat} {k d : Nat} (h : l[k]? = some d) : valL (l.take (k + 1)) = valL (l.take k) + 16777216 ^ k * d := by
  have hk := (List.getElem?_eq_some_iff.1 h).1
  rw [take_step h, valL_snoc, List.length_take, Nat.min_eq_left (by omega)]

theorem times_step {u out : List Nat} {k x d c : Nat} (hx : u[k]? = some x) (hl : out.length = k) (h : valL out + 16777216 ^ k * c = valL (u.take k) * d) :
    valL (out ++ [(x * d + c) % 16777216]) + 16777216 ^ (k + 1) * ((x * d + c) / 16777216) = valL (u.take (k + 1)) * d := by
  rw [valL_snoc, hl, valL_take_step hx, Nat.add_mul, ← h, Nat.pow_succ, Nat.mul_assoc (16777216 ^ k) 16777216, Nat.add_assoc, ← Nat.mul_add, Nat.mul_assoc (16777216 ^ k) x d, Nat.add_assoc, ← Nat.mul_add]
  congr 2
  omega
theorem times_carry {x d c : Nat} (hx : x < 16777216) (hd : d < 16777216) (hc : c < 16777216) : (x * d + c) / 16777216 < 16777216 ∧ x * d + c < 281474976710656 := by
  have h : x * d ≤ 16777215 * 16777215 := Nat.mul_le_mul (by omega) (by omega)
  omega
theorem minus_step {u v out : List Nat} {k x r b b' : Nat} (hx : u[k]? = some x) (hl : out.length = k) (h : valL out + valL (v.take k) = valL (u.take k) + 16777216 ^ k * b) (hs : x + 16777216 * b' = r + b + v.getD k 0) :
    valL (out ++ [r]) + valL (v.take (k + 1)) = valL (u.take (k + 1)) + 16777216 ^ (k + 1) * b' := by
  have hv : valL (v.take (k + 1)) = valL (v.take k) + 16777216 ^ k * v.getD k 0 := by
    by_cases hk : k < v.length
    · have he : v[k]? = some v[k] := List.getElem?_eq_getElem hk
      rw [valL_take_step he, List.getD_eq_getElem?_getD, he]
      rfl
    · rw [List.take_of_length_le (by omega), List.take_of_length_le (by omega), List.getD_eq_getElem?_getD, List.getElem?_eq_none (by omega)]
      simp
  have e : 16777216 ^ k * (x + 16777216 * b') = 16777216 ^ k * (r + b + v.getD k 0) := by rw [hs]
  rw [Nat.mul_add, Nat.mul_add, Nat.mul_add, ← Nat.mul_assoc] at e
  rw [valL_snoc, hl, valL_take_step hx, hv, Nat.pow_succ]
  omega
theorem minus_end {u v out : List Nat} {b : Nat} (hl : out.length = u.length) (ho : okL out) (hv : v.length ≤ u.length) (hle : valL v ≤ valL u) (h : valL out + valL (v.take u.length) = valL (u.take u.length) + 16777216 ^ u.length * b) : valL out = valL u - valL v := by
  rw [List.take_of_length_le hv, List.take_length] at h
  have h1 := valL_lt ho
  rw [hl] at h1
  cases b with
  | zero => omega
  | succ b => rw [Nat.mul_succ] at h; omega
theorem dg_len_mono {x y : Nat} (h : y ≤ x) : (dg y).length ≤ (dg x).length := by
  rcases Nat.lt_or_ge (dg x).length (dg y).length with h1 | h1
  · have := dg_len_lt h1; omega
  · exact h1

theorem natB_three (l : List UInt8) (d : Nat) (h : d < 16777216) : natB (l ++ [UInt8.ofNat (d / 65536), UInt8.ofNat (d / 256), UInt8.ofNat d]) = natB l * 16777216 + d := by
  have e : l ++ [UInt8.ofNat (d / 65536), UInt8.ofNat (d / 256), UInt8.ofNat d] = ((l ++ [UInt8.ofNat (d / 65536)]) ++ [UInt8.ofNat (d / 256)]) ++ [UInt8.ofNat d] := by simp
  rw [e, natB_snoc, natB_snoc, natB_snoc]
  simp only [UInt8.toNat_ofNat']
  omega

theorem quo_step {X q Q y r x : Nat} (h : X = Q * y + r) (hq : q = (x + 16777216 * r) / y) : x + 16777216 * X = (q + 16777216 * Q) * y + (x + 16777216 * r) % y := by
  have := Nat.div_add_mod (x + 16777216 * r) y
  rw [← hq] at this
  rw [h, Nat.add_mul, Nat.mul_assoc, Nat.mul_add, Nat.mul_comm q y]
  omega
theorem quo_digit {y r x : Nat} (hr : r < y) (hx : x < 16777216) : (x + 16777216 * r) / y < 16777216 := by
  rw [Nat.div_lt_iff_lt_mul (by omega)]
  have : 16777216 * (r + 1) ≤ 16777216 * y := Nat.mul_le_mul_left _ (by omega)
  rw [Nat.mul_comm 16777216 y] at this
  omega
theorem digit_low {u y m : Nat} (_hy : 0 < y) (h : y * m ≤ u) : m ≤ u / y := (Nat.le_div_iff_mul_le _hy).2 (by rw [Nat.mul_comm]; exact h)
theorem digit_high {u y m : Nat} (_hy : 0 < y) (h : u < y * m) : u / y < m := (Nat.div_lt_iff_lt_mul _hy).2 (by rw [Nat.mul_comm]; exact h)
end Go.Proofs.YtcimcodljjcmgaaGreatDoor

namespace Go.Proofs.YtcimcodljjcmgaaGreatDoor
open Go.RowKit
set_option maxRecDepth 100000

def RetNat (n : Nat) (w : World) (e : Ending) (w' : World) : Prop := ∃ r : ByteArray, Hid (bs r = be n) ∧ e = .returned (.string r) ∧ w = w'
def MkNat (n : Nat) (w : World) (e : Ending) (w' : World) : Prop := ∃ r : ByteArray, Hid (bs r = be n) ∧ e = .returned (.string r) ∧ Upd [] [] w w'

theorem u8_zero {b : UInt8} (h : (b.toNat : Int) = 0) : b = 0 := UInt8.toNat_inj.1 (by have : (0 : UInt8).toNat = 0 := rfl; omega)
theorem bs_get (s : ByteArray) (k : Nat) (h : k < s.size) : (bs s)[k]? = some s[k] := by
  have : k < (bs s).length := h
  rw [List.getElem?_eq_getElem this]; rfl

theorem bs_cons' (s : ByteArray) (h : 0 < s.size) : bs s = s[0] :: (bs s).drop 1 := by
  have h2 : 0 < (bs s).length := h
  exact List.drop_eq_getElem_cons h2

theorem canon_any (s : ByteArray) (w : World) (hs : s.size ≤ 1000000000000) : Calls Tryz.prog 57 #[.string s] w (RetNat (natB (bs s)) w) := by
  go_enter Tryz.func57, Tryz.ntmps57
  go_wp2_with fail
  go_loop [3] (fun i => ∃ k : Nat, i = .int .i64 (k : Int) ∧ k ≤ s.size ∧ Hid (canonL ((bs s).drop k) = canonL (bs s))) (fun i => s.size - (intOf i).toNat)
  case atStart => exact ⟨0, rfl, Nat.zero_le _, rfl⟩
  case round =>
    obtain ⟨k, rfl, hk, HK⟩ := hrel
    by_cases hlt : k < s.size
    · by_cases h0 : (s[k].toNat : Int) = 0
      · have hb : ((s[k].toNat : Int) == 0) = true := by rw [beq_iff_eq]; exact h0
        have hst : canonL ((bs s).drop (k + 1)) = canonL (bs s) := by
          rw [← canon_step (by rw [bs_get s k hlt, u8_zero h0]), HK.out]
        have HST := Lib.hid hst
        clear hst h0
        go_wp2_with fail
        exact ⟨⟨k + 1, by go_num, by omega, HST.out⟩, by simp [intOf]; omega⟩
      · have hb : ((s[k].toNat : Int) == 0) = false := by rw [beq_eq_false_iff_ne]; exact h0
        have hst : (bs s).drop k = be (natB (bs s)) := by
          rw [← canon_be, ← HK.out, canon_stop (bs_get s k hlt) (fun e => h0 (by rw [e]; rfl))]
        have HST := Lib.hid hst
        clear hst h0
        go_wp2_with fail
        go_ret
        refine ⟨s.extract k s.size, ?_, rfl, rfl⟩
        show _ = _
        rw [bs_extract, HST.out, ← HST.out, List.take_of_length_le (by simp [bs_length])]
    · obtain rfl : k = s.size := by omega
      have hst : be (natB (bs s)) = [] := by
        rw [← canon_be, ← HK.out, List.drop_of_length_le (by simp [bs_length])]
        rfl
      have HST := Lib.hid hst
      clear hst
      go_wp2_with fail
      go_ret
      refine ⟨ByteArray.empty, ?_, rfl, rfl⟩
      show _ = _
      rw [HST.out]
      rfl

theorem size_of_be {r : ByteArray} {x : Nat} (h : bs r = be x) : r.size = (be x).length := by rw [← h, bs_length]

set_option maxHeartbeats 1000000 in
theorem int_any (s : ByteArray) (x : Nat) (w : World) (hs : s.size ≤ 1000000000000) (hx : x = natB (bs s)) (hb : x < 9223372036854775808) :
    Calls Tryz.prog 59 #[.string s] w (fun e w' => e = .returned (.tuple #[.int .i64 (x : Int), .bool true]) ∧ w = w') := by
  have HX := Lib.hid hx
  clear hx
  go_enter Tryz.func59, Tryz.ntmps59
  go_wp2_with fail
  refine (canon_any s w hs).mono ?_
  rintro e w' ⟨r, HR, rfl, rfl⟩
  have hr : bs r = be x := by rw [HR.out, HX.out]
  have hl : r.size ≤ 8 := by
    rw [size_of_be hr]
    exact be_len_le 8 x (Nat.lt_trans hb (by decide))
  have HRR := Lib.hid hr
  clear HR
  have hnat : natB (bs r) = x := by rw [hr, natB_be]
  have HN := Lib.hid hnat
  clear hr
  by_cases h8 : r.size = 8
  case' pos =>
    have hg : 0 < r.size := by omega
    have h0 : (r[0]'hg).toNat ≤ 127 := by
      have h1 := natB_cons (r[0]'hg) ((bs r).drop 1)
      have h2 := bs_cons' r hg
      have h3 : (bs r).length = 8 := h8
      rw [← h2, hnat, List.length_drop, h3] at h1
      have e : (256 : Nat) ^ (8 - 1) = 72057594037927936 := by decide
      rw [e] at h1
      omega
    have hb8 : ((r.size : Int) == 8) = true := by rw [beq_iff_eq]; omega
  case' neg =>
    have hb8 : ((r.size : Int) == 8) = false := by rw [beq_eq_false_iff_ne]; omega
  all_goals
    clear hnat h8
    go_wp2_with fail
    go_loop [4, 5] (fun n i => ∃ k m : Nat, n = .int .i64 (m : Int) ∧ i = .int .i64 (k : Int) ∧ k ≤ r.size ∧ m ≤ x ∧ Hid (m = natB ((bs r).take k))) (fun _ i => r.size - (intOf i).toNat)
    case atStart => exact ⟨0, 0, rfl, rfl, Nat.zero_le _, Nat.zero_le _, rfl⟩
    case round =>
      obtain ⟨k, m, rfl, rfl, hk, hm, HM⟩ := hrel
      by_cases hlt : k < r.size
      · have hst : natB ((bs r).take (k + 1)) = m * 256 + r[k].toNat := by
          rw [take_step (bs_get r k hlt), natB_snoc, ← HM.out]
        have hle : m * 256 + r[k].toNat ≤ x := by
          rw [← hst, ← HN.out]
          exact natB_take_le _ _
        have HST := Lib.hid hst
        have h1 : (m : Int) * 256 ≤ 9223372036854775807 := by omega
        have h2 : (m : Int) * 256 + (r[k].toNat : Int) ≤ 9223372036854775807 := by omega
        clear hst
        go_wp2_with fail
        exact ⟨⟨k + 1, m * 256 + r[k].toNat, by go_num, by go_num, by omega, hle, HST.out.symm⟩, by simp [intOf]; omega⟩
      · obtain rfl : k = r.size := by omega
        have hmx : m = x := by rw [HM.out, List.take_of_length_le (by simp [bs_length]), HN.out]
        have HMX := Lib.hid hmx
        clear hmx
        go_wp2_with fail
        go_ret2
        refine ⟨?_, rfl⟩
        rw [HMX.out]
        rfl

theorem small_ok (s : ByteArray) (x : Nat) (w : World) (hs : s.size ≤ 1000000000000) (hx : x = natB (bs s)) (hb : (be x).length ≤ 7) :
    Calls Tryz.prog 84 #[.string s, .int .i64 7] w (fun e w' => e = .returned (.tuple #[.int .i64 (x : Int), .bool true]) ∧ w = w') := by
  have HX := Lib.hid hx
  clear hx
  have hlt : x < 9223372036854775808 := by
    have := be_small hb
    have e : (256 : Nat) ^ 7 = 72057594037927936 := by decide
    omega
  go_enter Tryz.func84, Tryz.ntmps84
  go_wp2_with fail
  refine (canon_any s w hs).mono ?_
  rintro e w' ⟨r, HR, rfl, rfl⟩
  have hl : r.size ≤ 7 := by
    have := size_of_be HR.out
    rw [← HX.out] at this
    omega
  clear hb
  go_wp2_with fail
  refine (int_any s x w hs HX.out hlt).mono ?_
  rintro e w' ⟨rfl, rfl⟩
  go_wp2_with fail
  go_ret2
  exact ⟨rfl, rfl⟩
theorem small_big (s : ByteArray) (x : Nat) (w : World) (hs : s.size ≤ 1000000000000) (hx : x = natB (bs s)) (hb : 7 < (be x).length) :
    Calls Tryz.prog 84 #[.string s, .int .i64 7] w (fun e w' => e = .returned (.tuple #[.int .i64 0, .bool false]) ∧ w = w') := by
  have HX := Lib.hid hx
  clear hx
  go_enter Tryz.func84, Tryz.ntmps84
  go_wp2_with fail
  refine (canon_any s w hs).mono ?_
  rintro e w' ⟨r, HR, rfl, rfl⟩
  have hl : 7 < r.size := by
    have := size_of_be HR.out
    rw [← HX.out] at this
    omega
  clear hb
  go_wp2_with fail
  go_ret2
  exact ⟨rfl, rfl⟩

set_option maxHeartbeats 1000000 in
theorem of_int (n : Nat) (w : World) (hn : n < 9223372036854775808) : Calls Tryz.prog 36 #[.int .i64 (n : Int)] w (MkNat n w) := by
  by_cases h0 : 0 < n
  case neg =>
    obtain rfl : n = 0 := by omega
    go_enter Tryz.func36, Tryz.ntmps36
    go_wp2_with fail
    go_loop [3, 4] (fun t i => t = .slice none 0 0 ∧ i = .int .i64 56) (fun _ _ => 0)
    case atStart => exact ⟨rfl, rfl⟩
    case round =>
      obtain ⟨rfl, rfl⟩ := hrel
      have hcv := conv_row (P := Tryz.prog) w 26 35 5 Tryz.underlying26 Tryz.underlying5 Tryz.underlying35 (.slice none 0 0) [] (World.ownsRow_nil _ _ _ _)
      have HCV := Lib.hid hcv
      clear hcv
      go_wp2_with fail
      rw [HCV.out]
      go_wp2_with fail
      refine (canon_any _ w (by decide)).mono ?_
      rintro e w' ⟨r, HR, rfl, rfl⟩
      go_wp2_with fail
      go_ret
      exact ⟨r, HR, rfl, Upd.refl _ _⟩
  go_enter Tryz.func36, Tryz.ntmps36
  go_wp2_with fail
  go_loopw [3, 4] (fun t i wr => ∃ (k : Nat) (z : Int), i = .int .i64 z ∧ z = 56 - 8 * (k : Int) ∧ k ≤ 8 ∧ Hid (wr.ownsRow 0 5 1 t k (byteVals ((len8 n).take k))) ∧ Hid (Upd [] (foot t) w wr)) (fun _ i _ => (intOf i + 8).toNat)
  case atStart => exact ⟨0, 56, rfl, rfl, Nat.zero_le _, ⟨by simp [byteVals], .inl ⟨rfl, rfl⟩⟩, Upd.refl _ _⟩
  case round =>
    obtain ⟨k, z, rfl, hz, hk, HR, HU⟩ := hrel
    by_cases hlt : k < 8
    · obtain ⟨m, rfl⟩ : ∃ m : Nat, z = (m : Int) := ⟨(56 - 8 * k), by omega⟩
      obtain ⟨b, hb⟩ : ∃ b, b = UInt8.ofNat (n / 2 ^ m) := ⟨_, rfl⟩
      have hb1 : (n : Int) / 2 ^ m % 256 = (b.toNat : Int) := by
        have : (UInt8.ofNat (n / 2 ^ m)).toNat = n / 2 ^ m % 256 := by simp
        rw [hb, this]
        simp
      have hm7 : m ≤ 56 := by omega
      have hl : (len8 n).take (k + 1) = (len8 n).take k ++ [b] := by
        rw [List.take_succ_eq_append_getElem (by rw [len8_length]; omega)]
        congr 1
        rw [hb]
        have hm : m = 8 * (7 - k) := by omega
        simp [len8, hm]
      have HL := Lib.hid hl
      have HMZ := Lib.hid hz
      have hown := HR.out
      have hup := HU.out
      have hrow : (wr.alloc (.cells #[.int .u8 (b.toNat : Int)] 5)).ownsRow 0 5 1 u3 k (byteVals ((len8 n).take k)) := row_same hown (fun j hj => Below.heap_alloc _ _ _ (row_foot_lt hown j hj))
      have hw1 : (wr.alloc (.cells #[.int .u8 (b.toNat : Int)] 5)).heap[wr.heap.size]? = some (.cells #[.int .u8 (b.toNat : Int)] 5 (0, 0)) := heap_alloc_new _ _
      obtain ⟨iu, u1, u2, u3', u4⟩ := u8_parts
      obtain ⟨v', w', hrun, hown', hup'⟩ := append_block (P := Tryz.prog) (wr.alloc (.cells #[.int .u8 (b.toNat : Int)] 5)) 26 26 5 iu (.int .u8 0) 1 1 Tryz.underlying26 u1 u2 u3' u4 rfl (by omega) u3 k _ hrow ⟨wr.heap.size, 0, none⟩ 1 1 [byteV b] rfl (by
        intro j u hj
        have : j = 0 := by
          cases j with
          | zero => rfl
          | succ j => simp at hj
        subst this
        simp only [List.getElem?_cons_zero, Option.some.injEq] at hj
        subst hj
        have e : (⟨wr.heap.size, 0, none⟩ : Addr).add 0 = ⟨wr.heap.size, 0, none⟩ := by simp [Addr.add]
        rw [e, cell_of_row _ _ _ _ _ _ hw1]
        rfl) (byteVals_one [b]) (by omega) (by simp only [maxLen]; omega)
      have HRUN := Lib.hid hrun
      have HOWN := Lib.hid hown'
      have HUP := Lib.hid ((hup.alloc (.cells #[.int .u8 (b.toNat : Int)] 5)).trans hup')
      clear u1 u2 u3' u4
      clear hb hz hl hown hup hrow hw1 hrun hown' hup' HR HU
      go_wp2_with (refine wpList_append_run _ rfl _ _ _ _ rfl _ _ v' w' rfl rfl HRUN.out ?_)
      refine ⟨⟨k + 1, _, rfl, ?_, by omega, ?_, HUP.out⟩, ?_⟩
      · have := HMZ.out; omega
      · show World.ownsRow _ _ _ _ _ _ _
        rw [HL.out, byteVals_append]
        exact HOWN.out
      · first | (simp [intOf]; done) | (simp [intOf]; omega)
    · obtain rfl : z = -8 := by omega
      have hk8 : k = 8 := by omega
      have hown := HR.out
      rw [hk8, List.take_of_length_le (by rw [len8_length]; omega)] at hown
      have hcv := conv_row (P := Tryz.prog) wr 26 35 5 Tryz.underlying26 Tryz.underlying5 Tryz.underlying35 u3 (len8 n) (by rw [len8_length]; exact hown)
      have HCV := Lib.hid hcv
      clear hlt hz hk hk8 hown hcv HR
      go_wp2_with fail
      rw [HCV.out]
      go_wp2_with fail
      refine (canon_any _ wr (by show (len8 n).length ≤ _; rw [len8_length]; omega)).mono ?_
      rintro e w' ⟨r, HR, rfl, rfl⟩
      go_wp2_with fail
      go_ret
      refine ⟨r, ?_, rfl, HU.out.mono (fun _ h => h) (fun _ h => absurd h (by simp))⟩
      show _ = _
      rw [HR.out, bs_mk, natB_len8 n (by omega)]
end Go.Proofs.YtcimcodljjcmgaaGreatDoor
