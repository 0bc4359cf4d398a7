/- sorteslaw05.sanity. More on numerals, plainly: digits one by one, the value of digits, when a text is a numeral. Hashes, receipts and batches as texts, plainly. Arrays of bytes in blocks; digest.Text: a hash's text. digest.Text: a hash's text. sortesref03.Text: a hash's text. digest.Read: a hash's text, read. One byte as a text. sortesref05.decimal, Text. How numerals and pairs are read digit by digit, plainly. sortesref05.Text, number, Read. -/
import Derived.Test.YtmnmhhbldbdpfaaGreatDoorGC
import Derived.RowKit
import Derived.Test.YtmnmhhbldbdpfaaGreatDoorGA
import Derived.Test.YtmnmhhbldbdpfaaGreatDoorShelf
import Derived.Deep.MidRow
import Derived.Laws.ResultCell
import Derived.Test.YtmnmhhbldbdpfaaGreatDoorRows
import Derived.Test.YtmnmhhbldbdpfaaGreatDoorGD
namespace Go.Proofs.YtmnmhhbldbdpfaaGreatDoor
open Go.RowKit
set_option maxRecDepth 100000

/-- It returns true; only new blocks have come. -/
def TrueMk (w : World) (e : Ending) (w' : World) : Prop := e = .returned (.bool true) ∧ Upd [] [] w w'

theorem verify_is (p : Int) (t : ByteArray) (r s : Int) (b : Bool) (w : World) (hp : i64in p) (hr : i64in r) (hs : i64in s) (ht : t.size ≤ 140737488355000) (htab : Tabs w) (h : verB p (bs t) r s = b) :
    Calls Tryz.prog 58 #[.int .i64 p, .string t, .agg #[.int .i64 r, .int .i64 s]] w (fun e w' => e = .returned (.bool b) ∧ Upd [] [] w w') := by
  refine (verify_any p t r s w hp hr hs ht htab).mono ?_
  rintro e w' ⟨x, HX, rfl, hu⟩
  exact ⟨by rw [HX.out, h], hu⟩

theorem itoa_12 : Lib.itoa 12 = [49, 50] := by
  show Lib.decDigits 12 = _
  rw [Lib.decDigits_two (by omega) (by omega)]
  rfl
theorem itoa_3 : Lib.itoa 3 = [51] := by
  show Lib.decDigits 3 = _
  rw [Lib.decDigits_one (by omega)]
  rfl
theorem itoa_m3 : Lib.itoa (-3) = [45, 51] := by
  show 45 :: Lib.decDigits 3 = _
  rw [Lib.decDigits_one (by omega)]
  rfl
theorem readV_good : readV [49, 50, 46, 51] = (12, 3, true) := by
  have h : pairL 12 3 = [49, 50, 46, 51] := by rw [pairL, itoa_12, itoa_3]; rfl
  rw [← h, readV, readL_pair ⟨by omega, by omega⟩ ⟨by omega, by omega⟩]
theorem readV_bad : readV [48, 49, 50, 46, 51] = (0, 0, false) := by
  have hc : Lib.cut [48, 49, 50, 46, 51] [46] = ([48, 49, 50], [51], true) := cut_hit 46 [48, 49, 50] [51] (by decide)
  have h1 : Lib.atoiAll (Lib.cut [48, 49, 50, 46, 51] [46]).1 = .ok 12 := by rw [hc]; decide
  have h2 : Lib.atoiAll (Lib.cut [48, 49, 50, 46, 51] [46]).2.1 = .ok 3 := by rw [hc]; decide
  rw [readV_ok h1 h2, if_neg]
  rw [pairL, itoa_12, itoa_3]
  decide
theorem read_is (s : ByteArray) (a b : Int) (ok : Bool) (w : World) (hs : s.size ≤ 4000000000) (htab : Tabs w) (h : readV (bs s) = (a, b, ok)) :
    Calls Tryz.prog 79 #[.string s] w (fun e w' => e = .returned (.tuple #[.agg #[.int .i64 a, .int .i64 b], .bool ok]) ∧ Upd [] [] w w') := by
  refine (read_any s w hs htab).mono ?_
  rintro e w' ⟨x, y, z, HX, _, _, rfl, hu⟩
  have := HX.out
  rw [h] at this
  simp only [Prod.mk.injEq] at this
  obtain ⟨rfl, rfl, rfl⟩ := this
  exact ⟨rfl, hu⟩

theorem ver_one_good (t : List UInt8) : verB 1 t 1 0 = true := by
  have h : verB ((1 : Nat) : Int) t ((1 : Nat) : Int) ((0 : Nat) : Int) = true := by
    rw [verB_cast]
    have m1 : memN 1 := by
      refine ⟨Nat.le_refl _, by decide, ?_⟩
      rw [Nat.one_pow]; decide
    refine ⟨m1, m1, by decide, ?_⟩
    rw [Nat.one_pow]
    decide
  exact h
theorem ver_zero (t : List UInt8) (r s : Int) : verB 0 t r s = false := by
  have : memB 0 = false := memB_low (by omega)
  simp [verB, this]
theorem ver_high (p : Int) (t : List UInt8) (r : Int) : verB p t r 1152921504606845789 = false := by
  simp [verB]

theorem textBytes_is (r s : Int) (l : ByteArray) (w : World) (hr : i64in r) (hs : i64in s) (htab : Tabs w) (h : pairL r s = bs l) : Calls Tryz.prog 43 #[.agg #[.int .i64 r, .int .i64 s]] w (fun e w' => e = .returned (.string l) ∧ Upd [] [] w w') := by
  refine (text_any r s w hr hs htab).mono ?_
  rintro e w' ⟨y, HY, _, rfl, hu⟩
  exact ⟨by rw [bs_inj (HY.out.trans h)], hu⟩

end Go.Proofs.YtmnmhhbldbdpfaaGreatDoor

namespace Go.Proofs.YtmnmhhbldbdpfaaGreatDoor
set_option maxRecDepth 100000
open Go Go.RowKit

/-- The digits of v; none for 0. -/
def digs (v : Nat) : List UInt8 := if v = 0 then [] else Lib.decDigits v
theorem digs_step (v : Nat) (h : 0 < v) : digs v = digs (v / 10) ++ [UInt8.ofNat (48 + v % 10)] := by
  unfold digs
  rw [if_neg (by omega), Lib.decDigits]
  by_cases hv : v < 10
  · rw [dif_pos hv, if_pos (by omega), show v % 10 = v by omega]; rfl
  · rw [dif_neg hv, if_neg (by omega)]
theorem digs_pos {v : Nat} (h : 0 < v) : digs v = Lib.decDigits v := by unfold digs; rw [if_neg (by omega)]
theorem digs_zero : digs 0 = [] := rfl
theorem digs_len {v : Nat} (h : v ≤ 9223372036854775808) : (digs v).length ≤ 19 := by
  unfold digs
  split
  · simp
  · have e : (10 : Nat) ^ 19 = 10000000000000000000 := by decide
    have := dec_len 18 v (by rw [e]; omega)
    omega
theorem itoa_zero : Lib.itoa 0 = [48] := by
  show Lib.decDigits 0 = _
  rw [Lib.decDigits_one (by omega)]
  rfl
theorem itoa_pos {n : Int} (h : 0 < n) : Lib.itoa n = digs n.natAbs := by
  unfold Lib.itoa
  rw [if_neg (by omega), digs_pos (by omega), show n.toNat = n.natAbs by omega]
theorem itoa_neg {n : Int} (h : n < 0) : Lib.itoa n = 45 :: digs n.natAbs := by
  unfold Lib.itoa
  rw [if_pos h, digs_pos (by omega)]

/-- The number that digits spell. -/
def valD : List UInt8 → Nat
  | l => l.foldl (fun a c => a * 10 + (c.toNat - 48)) 0
theorem valD_snoc (l : List UInt8) (c : UInt8) : valD (l ++ [c]) = valD l * 10 + (c.toNat - 48) := by simp [valD]
theorem valD_dec : ∀ u : Nat, valD (Lib.decDigits u) = u := by
  intro u
  induction u using Nat.strongRecOn with
  | ind u ih =>
    rw [Lib.decDigits]
    by_cases h : u < 10
    · rw [dif_pos h]
      show 0 * 10 + ((UInt8.ofNat (48 + u)).toNat - 48) = u
      rw [digit_toNat h]; omega
    · rw [dif_neg h, valD_snoc, ih (u / 10) (by omega), digit_toNat (by omega)]
      omega

/-- The text is the numeral of an int. -/
def isNum (l : List UInt8) : Prop := ∃ m : Int, i64in m ∧ l = Lib.itoa m

theorem dec_head {u : Nat} {c : UInt8} {r : List UInt8} (h : Lib.decDigits u = c :: r) : c.toNat ≠ 45 := by
  have := dec_digits u c (by rw [h]; simp)
  omega

/-- A numeral behind a minus. -/
theorem num_minus {D : List UInt8} {m : Int} (hm : i64in m) (h : 45 :: D = Lib.itoa m) : m < 0 ∧ D = Lib.decDigits m.natAbs ∧ m.natAbs ≤ 9223372036854775808 := by
  unfold i64in at hm
  unfold Lib.itoa at h
  by_cases hn : m < 0
  · rw [if_pos hn] at h
    injection h with _ h
    exact ⟨hn, h, by omega⟩
  · rw [if_neg hn] at h
    have := dec_head h.symm
    exact absurd rfl this
/-- A numeral without one. -/
theorem num_plain {D : List UInt8} {m : Int} (hm : i64in m) (h0 : ∀ r, D ≠ 45 :: r) (h : D = Lib.itoa m) : 0 ≤ m ∧ D = Lib.decDigits m.natAbs ∧ m.natAbs ≤ 9223372036854775808 := by
  unfold i64in at hm
  unfold Lib.itoa at h
  by_cases hn : m < 0
  · rw [if_pos hn] at h
    exact absurd h (h0 _)
  · rw [if_neg hn] at h
    exact ⟨by omega, by rw [h, show m.toNat = m.natAbs by omega], by omega⟩

theorem dec_le19 {u : Nat} (h : u ≤ 9223372036854775808) : (Lib.decDigits u).length ≤ 19 := by
  have e : (10 : Nat) ^ 19 = 10000000000000000000 := by decide
  exact dec_len 18 u (by rw [e]; omega)

/-- What a text is read as: the number, and whether it is the numeral of it. -/
def numOk (l : List UInt8) (n : Int) (ok : Bool) : Prop := i64in n ∧ (ok = true → l = Lib.itoa n) ∧ (ok = false → ¬ isNum l)
theorem numOk_bad {l : List UInt8} (h : ¬ isNum l) : numOk l 0 false := ⟨⟨by omega, by omega⟩, (fun h => by cases h), fun _ => h⟩

theorem wrap_step (v d : Nat) : wrap64 (10 * wrap64 (-(v : Int)) - (d : Int)) = wrap64 (-((v * 10 + d : Nat) : Int)) := by
  simp only [wrap64]
  omega
theorem wrap_flip (v : Nat) : wrap64 (-wrap64 (-(v : Int))) = wrap64 (v : Int) := by
  simp only [wrap64]
  omega
theorem wrap_bounds (x : Int) : i64in (wrap64 x) := by
  unfold i64in
  simp only [wrap64]
  omega
theorem wrap_of {x : Int} (h : i64in x) : wrap64 x = x := by
  unfold i64in at h
  simp only [wrap64]
  omega
end Go.Proofs.YtmnmhhbldbdpfaaGreatDoor

namespace Go.Proofs.YtmnmhhbldbdpfaaGreatDoor
set_option maxRecDepth 100000
open Go Go.RowKit

/-- A sixteenth's digit. -/
def hexD (n : Nat) : UInt8 := UInt8.ofNat (if n < 10 then 48 + n else 87 + n)
/-- The number of a digit. -/
def digH (c : UInt8) : Option Nat := if 48 ≤ c.toNat ∧ c.toNat ≤ 57 then some (c.toNat - 48) else if 97 ≤ c.toNat ∧ c.toNat ≤ 102 then some (c.toNat - 87) else none
theorem digH_hexD : ∀ n, n < 16 → digH (hexD n) = some n := by decide
theorem hexD_digH {c : UInt8} {n : Nat} (h : digH c = some n) : n < 16 ∧ hexD n = c := by
  unfold digH at h
  split at h
  · injection h with h
    subst h
    refine ⟨by omega, UInt8.toNat_inj.1 ?_⟩
    unfold hexD
    rw [if_pos (by omega), UInt8.toNat_ofNat']
    omega
  · split at h
    · injection h with h
      subst h
      refine ⟨by omega, UInt8.toNat_inj.1 ?_⟩
      unfold hexD
      rw [if_neg (by omega), UInt8.toNat_ofNat']
      omega
    · cases h
theorem hexD_ne32 : ∀ n, n < 16 → hexD n ≠ 32 := by decide
/-- A hash's text. -/
def hexL : List UInt8 → List UInt8
  | [] => []
  | b :: r => hexD (b.toNat / 16) :: hexD (b.toNat % 16) :: hexL r
theorem hexL_len : ∀ l, (hexL l).length = 2 * l.length
  | [] => rfl
  | b :: r => by rw [hexL, List.length_cons, List.length_cons, hexL_len r, List.length_cons]; omega
theorem hexL_app : ∀ a b, hexL (a ++ b) = hexL a ++ hexL b
  | [], b => rfl
  | x :: r, b => by rw [List.cons_append, hexL, hexL, hexL_app r b]; rfl
theorem hexL_no32 : ∀ l, (32 : UInt8) ∉ hexL l
  | [] => by simp [hexL]
  | b :: r => by
    have hb : b.toNat < 256 := b.toNat_lt
    rw [hexL, List.mem_cons, List.mem_cons]
    rintro (h | h | h)
    · exact hexD_ne32 _ (by omega) h.symm
    · exact hexD_ne32 _ (by omega) h.symm
    · exact hexL_no32 r h
theorem hexD_inj {a b : Nat} (ha : a < 16) (hb : b < 16) (h : hexD a = hexD b) : a = b := by
  have := digH_hexD a ha
  rw [h, digH_hexD b hb] at this
  injection this with this
  exact this.symm
theorem hexL_inj : ∀ {a b : List UInt8}, hexL a = hexL b → a = b
  | [], [], _ => rfl
  | [], b :: r, h => by simp [hexL] at h
  | a :: r, [], h => by simp [hexL] at h
  | a :: r, b :: s, h => by
    have ha : a.toNat < 256 := a.toNat_lt
    have hb : b.toNat < 256 := b.toNat_lt
    rw [hexL, hexL] at h
    injection h with h1 h
    injection h with h2 h
    have e1 := hexD_inj (by omega) (by omega) h1
    have e2 := hexD_inj (by omega) (by omega) h2
    rw [UInt8.toNat_inj.1 (show a.toNat = b.toNat by omega), hexL_inj h]
theorem hexL_get (l : List UInt8) (i : Nat) (b : UInt8) (h : l[i]? = some b) : (hexL l)[2 * i]? = some (hexD (b.toNat / 16)) ∧ (hexL l)[2 * i + 1]? = some (hexD (b.toNat % 16)) := by
  induction l generalizing i with
  | nil => simp at h
  | cons a r ih =>
    cases i with
    | zero =>
      simp at h
      subst h
      exact ⟨rfl, rfl⟩
    | succ i =>
      rw [hexL, show 2 * (i + 1) = 2 * i + 1 + 1 by omega]
      exact ih i (by simpa using h)
/-- What a reader of a hash's text gives. -/
def hexOk (l h : List UInt8) (ok : Bool) : Prop := h.length = 32 ∧ (ok = true → l = hexL h) ∧ (ok = false → h = List.replicate 32 0 ∧ ∀ h' : List UInt8, h'.length = 32 → l ≠ hexL h')
theorem hexOk_unique {l a b : List UInt8} {p q : Bool} (h : hexOk l a p) (k : hexOk l b q) : a = b ∧ p = q := by
  cases p with
  | true =>
    have e := h.2.1 rfl
    cases q with
    | true => exact ⟨hexL_inj (e.symm.trans (k.2.1 rfl)), rfl⟩
    | false => exact absurd e ((k.2.2 rfl).2 a h.1)
  | false =>
    cases q with
    | true => exact absurd (k.2.1 rfl) ((h.2.2 rfl).2 b k.1)
    | false => exact ⟨(h.2.2 rfl).1.trans (k.2.2 rfl).1.symm, rfl⟩
theorem hexOk_hex {a b : List UInt8} {q : Bool} (ha : a.length = 32) (k : hexOk (hexL a) b q) : b = a ∧ q = true := by
  cases q with
  | true => exact ⟨(hexL_inj (k.2.1 rfl)).symm, rfl⟩
  | false => exact absurd rfl ((k.2.2 rfl).2 a ha)

/-- A receipt. -/
structure Rc where
  kiosk : Int
  serial : Int
  seen : Int
  draw : ByteArray
  out : List UInt8
  hash : List UInt8
  prev : List UInt8
  r : Int
  s : Int
def Rc.ok (x : Rc) : Prop := i64in x.kiosk ∧ i64in x.serial ∧ i64in x.seen ∧ x.out.length = 32 ∧ x.hash.length = 32 ∧ x.prev.length = 32 ∧ i64in x.r ∧ i64in x.s
def Rc.zero : Rc := ⟨0, 0, 0, ByteArray.empty, List.replicate 32 0, List.replicate 32 0, List.replicate 32 0, 0, 0⟩
theorem Rc.zero_ok : Rc.zero.ok := ⟨⟨by decide, by decide⟩, ⟨by decide, by decide⟩, ⟨by decide, by decide⟩, rfl, rfl, rfl, ⟨by decide, by decide⟩, ⟨by decide, by decide⟩⟩
/-- "receipt" -/
def wRc : List UInt8 := [114, 101, 99, 101, 105, 112, 116]
/-- The body of a receipt. -/
def bodyL (x : Rc) : List UInt8 := wRc ++ 32 :: (Lib.itoa x.kiosk ++ 32 :: (Lib.itoa x.serial ++ 32 :: (Lib.itoa x.seen ++ 32 :: (hexL x.out ++ 32 :: (hexL x.hash ++ 32 :: (hexL x.prev ++ 32 :: bs x.draw))))))
/-- Its text. -/
def textL (x : Rc) : List UInt8 := pairL x.r x.s ++ 32 :: bodyL x

theorem dec_no (c : UInt8) (hc : ¬ (48 ≤ c.toNat ∧ c.toNat ≤ 57)) (h45 : c.toNat ≠ 45) (n : Int) : c ∉ Lib.itoa n := by
  intro h
  unfold Lib.itoa at h
  split at h
  · simp only [List.mem_cons] at h
    rcases h with h | h
    · exact h45 (by rw [h]; rfl)
    · exact hc (dec_digits _ _ h)
  · exact hc (dec_digits _ _ h)
theorem itoa_no32 (n : Int) : (32 : UInt8) ∉ Lib.itoa n := dec_no 32 (by decide) (by decide) n
theorem itoa_no58 (n : Int) : (58 : UInt8) ∉ Lib.itoa n := dec_no 58 (by decide) (by decide) n
theorem pairL_no32 (a b : Int) : (32 : UInt8) ∉ pairL a b := by
  unfold pairL
  intro h
  rw [List.mem_append, List.mem_append] at h
  rcases h with (h | h) | h
  · exact itoa_no32 _ h
  · simp at h
  · exact itoa_no32 _ h
theorem split32 {c : UInt8} {a b a' b' : List UInt8} (ha : c ∉ a) (ha' : c ∉ a') (h : a ++ c :: b = a' ++ c :: b') : a = a' ∧ b = b' := by
  have h1 := cut_hit c a b ha
  rw [h, cut_hit c a' b' ha'] at h1
  simp only [Prod.mk.injEq] at h1
  exact ⟨h1.1.symm, h1.2.1.symm⟩
theorem bs_injE {a b : ByteArray} (h : bs a = bs b) : a = b := by
  cases a; cases b
  simp only [bs, Array.toList_inj] at h
  rw [h]
theorem bodyL_inj {x y : Rc} (hx : x.ok) (hy : y.ok) (h : bodyL x = bodyL y) : x.kiosk = y.kiosk ∧ x.serial = y.serial ∧ x.seen = y.seen ∧ x.out = y.out ∧ x.hash = y.hash ∧ x.prev = y.prev ∧ x.draw = y.draw := by
  obtain ⟨x1, x2, x3, x4, x5, x6, x7, x8⟩ := hx
  obtain ⟨y1, y2, y3, y4, y5, y6, y7, y8⟩ := hy
  unfold bodyL at h
  have h0 := (split32 (by decide) (by decide) h).2
  obtain ⟨e1, h1⟩ := split32 (itoa_no32 _) (itoa_no32 _) h0
  obtain ⟨e2, h2⟩ := split32 (itoa_no32 _) (itoa_no32 _) h1
  obtain ⟨e3, h3⟩ := split32 (itoa_no32 _) (itoa_no32 _) h2
  obtain ⟨e4, h4⟩ := split32 (hexL_no32 _) (hexL_no32 _) h3
  obtain ⟨e5, h5⟩ := split32 (hexL_no32 _) (hexL_no32 _) h4
  obtain ⟨e6, h6⟩ := split32 (hexL_no32 _) (hexL_no32 _) h5
  exact ⟨itoa_inj x1 y1 e1, itoa_inj x2 y2 e2, itoa_inj x3 y3 e3, hexL_inj e4, hexL_inj e5, hexL_inj e6, bs_injE h6⟩
theorem textL_inj {x y : Rc} (hx : x.ok) (hy : y.ok) (h : textL x = textL y) : x = y := by
  obtain ⟨e0, h0⟩ := split32 (pairL_no32 _ _) (pairL_no32 _ _) h
  obtain ⟨e1, e2, e3, e4, e5, e6, e7⟩ := bodyL_inj hx hy h0
  obtain ⟨e8, e9⟩ := pairL_inj hx.2.2.2.2.2.2.1 hx.2.2.2.2.2.2.2 hy.2.2.2.2.2.2.1 hy.2.2.2.2.2.2.2 e0
  cases x; cases y
  simp only at e1 e2 e3 e4 e5 e6 e7 e8 e9
  subst e1 e2 e3 e4 e5 e6 e7 e8 e9
  rfl
/-- What a reader of a receipt's text gives. -/
def rcOk (l : List UInt8) (x : Rc) (ok : Bool) : Prop := x.ok ∧ (ok = true → l = textL x) ∧ (ok = false → x = Rc.zero ∧ ∀ y : Rc, y.ok → l ≠ textL y)
theorem rcOk_unique {l : List UInt8} {a b : Rc} {p q : Bool} (h : rcOk l a p) (k : rcOk l b q) : a = b ∧ p = q := by
  cases p with
  | true =>
    have e := h.2.1 rfl
    cases q with
    | true => exact ⟨textL_inj h.1 k.1 (e.symm.trans (k.2.1 rfl)), rfl⟩
    | false => exact absurd e ((k.2.2 rfl).2 a h.1)
  | false =>
    cases q with
    | true => exact absurd (k.2.1 rfl) ((h.2.2 rfl).2 b k.1)
    | false => exact ⟨(h.2.2 rfl).1.trans (k.2.2 rfl).1.symm, rfl⟩
theorem rcOk_text {a b : Rc} {q : Bool} (ha : a.ok) (k : rcOk (textL a) b q) : b = a ∧ q = true := by
  cases q with
  | true => exact ⟨(textL_inj ha k.1 (k.2.1 rfl)).symm, rfl⟩
  | false => exact absurd rfl ((k.2.2 rfl).2 a ha)

/-- A receipt's cells. -/
def rcV (x : Rc) : List Value := [.int .i64 x.kiosk, .int .i64 x.serial, .string x.draw, .int .i64 x.seen] ++ (byteVals x.out ++ (byteVals x.hash ++ (byteVals x.prev ++ [.int .i64 x.r, .int .i64 x.s])))
theorem rcV_len {x : Rc} (h : x.ok) : (rcV x).length = 102 := by
  obtain ⟨_, _, _, h1, h2, h3, _⟩ := h
  simp [rcV, byteVals_length, h1, h2, h3]
theorem rcV_one (x : Rc) : ∀ v ∈ rcV x, v.oneCell' = true := by
  intro v hv
  unfold rcV byteVals at hv
  simp only [List.mem_append, List.mem_cons, List.mem_map, List.not_mem_nil, or_false] at hv
  rcases hv with (rfl | rfl | rfl | rfl) | ⟨b, _, rfl⟩ | ⟨b, _, rfl⟩ | ⟨b, _, rfl⟩ | rfl | rfl <;> rfl
theorem byteVals_injE {a b : List UInt8} (h : byteVals a = byteVals b) : a = b := by
  unfold byteVals at h
  refine List.map_inj_right (fun x y hxy => ?_) |>.1 h
  unfold byteV at hxy
  injection hxy with _ hxy
  exact UInt8.toNat_inj.1 (by omega)
theorem rcV_inj {x y : Rc} (hx : x.ok) (hy : y.ok) (h : rcV x = rcV y) : x = y := by
  obtain ⟨_, _, _, x4, x5, x6, _⟩ := hx
  obtain ⟨_, _, _, y4, y5, y6, _⟩ := hy
  unfold rcV at h
  have a1 := List.append_inj h rfl
  have a2 := List.append_inj a1.2 (by rw [byteVals_length, byteVals_length, x4, y4])
  have a3 := List.append_inj a2.2 (by rw [byteVals_length, byteVals_length, x5, y5])
  have a4 := List.append_inj a3.2 (by rw [byteVals_length, byteVals_length, x6, y6])
  have e2 := byteVals_injE a2.1
  have e3 := byteVals_injE a3.1
  have e4 := byteVals_injE a4.1
  have h1 := a1.1
  have h5 := a4.2
  clear a1 a2 a3 a4 h x4 x5 x6 y4 y5 y6
  simp only [List.cons.injEq, Value.int.injEq, Value.string.injEq, true_and, and_true] at h1 h5
  obtain ⟨f1, f2, f3, f4⟩ := h1
  obtain ⟨f5, f6⟩ := h5
  cases x; cases y
  simp only at f1 f2 f3 f4 f5 f6 e2 e3 e4
  subst f1 f2 f3 f4 f5 f6 e2 e3 e4
  rfl

/-- The receipts of a batch. -/
def recsT : List Rc → List UInt8
  | [] => []
  | x :: r => 32 :: (Lib.itoa ((textL x).length : Int) ++ 58 :: (textL x ++ recsT r))
/-- "batch" -/
def wBa : List UInt8 := [98, 97, 116, 99, 104]
/-- A batch's text. -/
def batchL (k : Int) (l : List Rc) : List UInt8 := wBa ++ 32 :: (Lib.itoa k ++ 32 :: (Lib.itoa (l.length : Int) ++ recsT l))
theorem recsT_app : ∀ a b, recsT (a ++ b) = recsT a ++ recsT b
  | [], b => rfl
  | x :: r, b => by
    rw [List.cons_append, recsT, recsT, recsT_app r b]
    simp
/-- A number ahead of something that is empty or begins with a blank. -/
theorem num_tail {a b : Int} (ha : i64in a) (hb : i64in b) {s t : List UInt8} (h : Lib.itoa a ++ s = Lib.itoa b ++ t) (hs : s = [] ∨ ∃ r, s = 32 :: r) (ht : t = [] ∨ ∃ r, t = 32 :: r) : a = b ∧ s = t := by
  have key : ∀ {a b : Int} {s t : List UInt8}, s = [] → (∃ r, t = 32 :: r) → Lib.itoa a ++ s = Lib.itoa b ++ t → False := by
    rintro a b s t rfl ⟨r, rfl⟩ h
    rw [List.append_nil] at h
    exact itoa_no32 a (by rw [h]; simp)
  rcases hs with hs | hs <;> rcases ht with ht | ht
  · subst hs ht
    rw [List.append_nil, List.append_nil] at h
    exact ⟨itoa_inj ha hb h, rfl⟩
  · exact (key hs ht h).elim
  · exact (key ht hs h.symm).elim
  · obtain ⟨r, rfl⟩ := hs
    obtain ⟨q, rfl⟩ := ht
    obtain ⟨e1, e2⟩ := split32 (itoa_no32 _) (itoa_no32 _) h
    exact ⟨itoa_inj ha hb e1, by rw [e2]⟩
theorem recsT_head : ∀ l, recsT l = [] ∨ ∃ r, recsT l = 32 :: r
  | [] => .inl rfl
  | _ :: _ => .inr ⟨_, rfl⟩
theorem recsT_inj : ∀ {a b : List Rc}, (∀ x ∈ a, x.ok ∧ (textL x).length ≤ 9223372036854775807) → (∀ x ∈ b, x.ok ∧ (textL x).length ≤ 9223372036854775807) → recsT a = recsT b → a = b
  | [], [], _, _, _ => rfl
  | [], b :: r, _, _, h => by simp [recsT] at h
  | a :: r, [], _, _, h => by simp [recsT] at h
  | a :: r, b :: s, ha, hb, h => by
    rw [recsT, recsT] at h
    injection h with _ h
    obtain ⟨e1, h1⟩ := split32 (itoa_no58 _) (itoa_no58 _) h
    have l1 := (ha a (by simp)).2
    have l2 := (hb b (by simp)).2
    have e := itoa_inj (by unfold i64in; omega) (by unfold i64in; omega) e1
    have e2 := List.append_inj h1 (by omega)
    rw [textL_inj (ha a (by simp)).1 (hb b (by simp)).1 e2.1, recsT_inj (fun x hx => ha x (by simp [hx])) (fun x hx => hb x (by simp [hx])) e2.2]
theorem batchL_inj {k k' : Int} {a b : List Rc} (hk : i64in k) (hk' : i64in k') (la : a.length ≤ 9223372036854775807) (lb : b.length ≤ 9223372036854775807) (ha : ∀ x ∈ a, x.ok ∧ (textL x).length ≤ 9223372036854775807) (hb : ∀ x ∈ b, x.ok ∧ (textL x).length ≤ 9223372036854775807) (h : batchL k a = batchL k' b) : k = k' ∧ a = b := by
  unfold batchL at h
  have h0 := (split32 (by decide) (by decide) h).2
  obtain ⟨e1, h1⟩ := split32 (itoa_no32 _) (itoa_no32 _) h0
  have h2 := num_tail (by unfold i64in; omega) (by unfold i64in; omega) h1 (recsT_head _) (recsT_head _)
  exact ⟨itoa_inj hk hk' e1, recsT_inj ha hb h2.2⟩
end Go.Proofs.YtmnmhhbldbdpfaaGreatDoor

namespace Go.Proofs.YtmnmhhbldbdpfaaGreatDoor
open Go.RowKit
set_option maxRecDepth 100000

/-- The block holds just the bytes c. -/
def AB (T : TypeId) (w : World) (g : Nat) (c : List UInt8) : Prop := w.heap[g]? = some (.cells (byteVals c).toArray T (0, 0))
theorem AB.upd {T : TypeId} {w w' : World} {g : Nat} {c : List UInt8} (h : AB T w g c) (u : Upd [] [] w w') : AB T w' g c := by
  unfold AB at h ⊢
  rw [u.block _ (Array.getElem?_eq_some_iff.1 h).1 (by simp)]; exact h
theorem AB.cell {T : TypeId} {w : World} {g : Nat} {c : List UInt8} (h : AB T w g c) {j : Nat} {b : UInt8} (hj : c[j]? = some b) : w.cell? ⟨g, j, none⟩ = some (.int .u8 (b.toNat : Int)) := by
  rw [cell_of_row w g j _ _ _ h, List.getElem?_toArray]
  simp [byteVals, hj, byteV]
theorem AB.frozen {T : TypeId} {w : World} {g : Nat} {c : List UInt8} (h : AB T w g c) (j : Nat) : w.frozen? ⟨g, j, none⟩ = false := frozen_of_row _ _ _ _ _ h
theorem AB.set {T : TypeId} {w : World} {g : Nat} {c : List UInt8} (h : AB T w g c) (j : Nat) (b : UInt8) : AB T (w.setCell ⟨g, j, none⟩ (.int .u8 (b.toNat : Int))) g (c.set j b) := by
  have := heap_setCell_same w g j _ _ (.int .u8 (b.toNat : Int)) h
  unfold AB
  rw [this]
  congr 2
  simp [byteVals, List.map_set, byteV]
theorem AB.text {T : TypeId} {w : World} {g : Nat} {c : List UInt8} (h : AB T w g c) (z : ByteArray) (hz : bs z = c) (k : Nat) : (convert 40 9 (.slice (some ⟨g, 0, none⟩) c.length k)).run Tryz.prog w = .ok (.string z) w := by
  have := conv_bytes (P := Tryz.prog) w 40 9 5 Tryz.underlying40 Tryz.underlying5 Tryz.underlying9 g _ _ T h c (List.take_of_length_le (by simp [byteVals])) 0 c.length k (by omega)
  rw [List.drop_zero, List.take_of_length_le (Nat.le_refl _)] at this
  rw [this, ← hz]
  rfl
theorem row_updH {w w' : World} {g : Nat} {o : Obj} (h : w.heap[g]? = some o) (u : Upd [] [] w w') : w'.heap[g]? = some o := by
  rw [u.block _ (Array.getElem?_eq_some_iff.1 h).1 (by simp)]; exact h
theorem set_two (A : List UInt8) (m : Nat) (x y : UInt8) : ((A ++ List.replicate (m + 2) 0).set A.length x).set (A.length + 1) y = (A ++ [x, y]) ++ List.replicate m 0 := by
  rw [List.set_append_right _ _ (Nat.le_refl _), Nat.sub_self, List.replicate_succ, List.replicate_succ, List.set_cons_zero, List.set_append_right _ _ (by omega), show A.length + 1 - A.length = 1 by omega]
  simp
theorem hexL_snoc (l : List UInt8) (b : UInt8) : hexL (l ++ [b]) = hexL l ++ [hexD (b.toNat / 16), hexD (b.toNat % 16)] := by rw [hexL_app]; rfl
theorem hex_fill {l : List UInt8} (hl : l.length = 32) {i : Nat} {b : UInt8} (hb : l[i]? = some b) : ((hexL (l.take i) ++ List.replicate (64 - 2 * i) 0).set (2 * i) (hexD (b.toNat / 16))).set (2 * i + 1) (hexD (b.toNat % 16)) = hexL (l.take (i + 1)) ++ List.replicate (64 - 2 * (i + 1)) 0 := by
  have hi := (List.getElem?_eq_some_iff.1 hb).1
  have e1 : l.take (i + 1) = l.take i ++ [b] := by rw [List.take_add_one, hb]; rfl
  have e2 : (hexL (l.take i)).length = 2 * i := by rw [hexL_len, List.length_take]; omega
  have := set_two (hexL (l.take i)) (64 - 2 * (i + 1)) (hexD (b.toNat / 16)) (hexD (b.toNat % 16))
  rw [e2, show 64 - 2 * (i + 1) + 2 = 64 - 2 * i by omega] at this
  rw [this, e1, hexL_snoc]
theorem and15 : ∀ n : Nat, n < 256 → Go.bits .and .u8 (n : Int) 15 = ((n % 16 : Nat) : Int) := by decide +kernel
/-- The digits. -/
def hexS : ByteArray := ⟨#[48, 49, 50, 51, 52, 53, 54, 55, 56, 57, 97, 98, 99, 100, 101, 102]⟩
theorem hexS_get : ∀ n : Nat, n < 16 → hexS[n]? = some (hexD n) := by decide
theorem run_index_digit (n : Nat) (hn : n < 16) (w : World) : (Instr.index 9 (.string ⟨#[48, 49, 50, 51, 52, 53, 54, 55, 56, 57, 97, 98, 99, 100, 101, 102]⟩) (.int .u8 (n : Int))).run Tryz.prog w = .ok (.int .u8 ((hexD n).toNat : Int)) w := by
  have hu : Tryz.prog.underlying 9 = some .string := Tryz.underlying9
  have h0 : (0 : Int) ≤ (n : Int) := by omega
  simp only [Instr.index, asIntOf, Sem.run_bind, Sem.run_pure, Result.andThen_ok, run_underlying hu w]
  rw [if_pos h0, Int.toNat_natCast]
  have := hexS_get n hn
  unfold hexS at this
  rw [this]
  rfl
/-- An element of a hash by value. -/
theorem run_index_hash (C : Array Value) (k : Nat) (hk : k < 32) (v : Value) (hv : C[k]? = some v) (w : World) : (Instr.index 24 (.agg C) (.int .i64 (k : Int))).run Tryz.prog w = .ok v w := by
  have hu : Tryz.prog.underlying 24 = some (.array 32 5) := Tryz.underlying24
  have hs : (sizeOf 5).run Tryz.prog w = .ok 1 w := by kernel_rfl
  have ha : (isAgg 5).run Tryz.prog w = .ok false w := by kernel_rfl
  have h0 : (0 : Int) ≤ (k : Int) ∧ (k : Int) < ((32 : Nat) : Int) := by omega
  simp only [Instr.index, asIntOf, Sem.run_bind, Sem.run_pure, Result.andThen_ok, run_underlying hu w]
  rw [if_pos h0]
  simp only [part, Sem.run_bind, Sem.run_pure, Result.andThen_ok, hs, ha, Bool.false_eq_true, if_false, Nat.mul_one, Int.toNat_natCast, hv]
end Go.Proofs.YtmnmhhbldbdpfaaGreatDoor

namespace Go.Proofs.YtmnmhhbldbdpfaaGreatDoor
open Go.RowKit
set_option maxRecDepth 100000

set_option maxHeartbeats 2000000 in
theorem hexText_any (l : List UInt8) (hl : l.length = 32) (w : World) : Calls Tryz.prog 75 #[.agg (byteVals l).toArray] w (MkS (hexL l) w) := by
  obtain ⟨C, hC⟩ : ∃ C, C = (byteVals l).toArray := ⟨_, rfl⟩
  rw [← hC]
  have hcz : C.size = 32 := by rw [hC]; simp [byteVals, hl]
  have HI : Hid ((Tryz.prog.info? 24).map (·.size) = some C.size) := by show _ = _; rw [hcz]; kernel_rfl
  have HC := Lib.hid hC
  clear hC
  have hg0 : Hid (((w.alloc (.cells C 24)).alloc (.cells (byteVals (List.replicate 64 0)).toArray 139)).heap[w.heap.size]? = some (.cells C 24 (0, 0))) := row_updH (heap_alloc_new w _) ((Upd.refl _ _).alloc _)
  go_enter Tryz.func75, Tryz.ntmps75
  go_wp2_with (first | (refine wpList_load_row rfl 24 _ rfl w.heap.size rfl _ C _ _ hg0.out Tryz.underlying24 rfl HI.out ?_))
  go_loopw [4, 5, 7] (fun _ _ i wr => ∃ k : Nat, i = .int .i64 (k : Int) ∧ k ≤ 32 ∧ Hid (AB 139 wr (w.heap.size + 1) (hexL (l.take k) ++ List.replicate (64 - 2 * k) 0)) ∧ Hid (Upd [] [] w wr)) (fun _ _ i _ => 32 - (intOf i).toNat)
  case atStart =>
    refine ⟨0, rfl, Nat.zero_le _, ?_, ((Upd.refl _ _).alloc _).alloc _⟩
    have h := heap_alloc_new (w.alloc (.cells C 24)) (.cells (byteVals (List.replicate 64 0)).toArray 139)
    rw [World.size_alloc] at h
    exact h
  case round =>
    obtain ⟨k, rfl, hk, HA, HU⟩ := hrel
    by_cases hlt : k < 32
    · obtain ⟨b, hb⟩ : ∃ b, l[k]? = some b := ⟨_, List.getElem?_eq_getElem (by omega)⟩
      have hck : C[k]? = some (.int .u8 (b.toNat : Int)) := by rw [HC.out, List.getElem?_toArray]; simp [byteVals, hb, byteV]
      have hb256 : b.toNat < 256 := b.toNat_lt
      have f0 := HA.out.frozen (2 * k)
      have f1 := HA.out.frozen (2 * k + 1)
      have i0 : (0 : Int) ≤ (k : Int) := by omega
      have i1 : (k : Int) < 32 := by omega
      have hix := run_index_hash C k hlt _ hck
      obtain ⟨j, hj⟩ : ∃ j, j = 2 * k := ⟨_, rfl⟩
      obtain ⟨j1, hj1⟩ : ∃ j1, j1 = j + 1 := ⟨_, rfl⟩
      have e1 : IntKind.i64.wrap (2 * (k : Int)) = (j : Int) := by rw [IntWalk.i64_in _ (by omega)]; omega
      have e2 : IntKind.i64.wrap ((j : Int) + 1) = (j1 : Int) := by rw [IntWalk.i64_in _ (by omega)]; omega
      have b0 : (0 : Int) ≤ (j : Int) := by omega
      have b1 : (j : Int) < 64 := by omega
      have b2 : (0 : Int) ≤ (j1 : Int) := by omega
      have b3 : (j1 : Int) < 64 := by omega
      rw [← hj] at f0 f1
      rw [← hj1] at f1
      obtain ⟨x0, hx0⟩ : ∃ x0, x0 = b.toNat / 16 := ⟨_, rfl⟩
      obtain ⟨x1, hx1⟩ : ∃ x1, x1 = b.toNat % 16 := ⟨_, rfl⟩
      have v0 : (b.toNat : Int) / 16 = (x0 : Int) := by omega
      have v1 : Go.bits .and .u8 (b.toNat : Int) 15 = (x1 : Int) := by rw [hx1]; exact and15 _ hb256
      have y0 := run_index_digit x0 (by omega)
      have y1 := run_index_digit x1 (by omega)
      have c0 : wr.cell? ⟨w.heap.size + 1, j, none⟩ = some (.int .u8 0) := HA.out.cell (b := 0) (by rw [hj, List.getElem?_append_right (by rw [hexL_len, List.length_take]; omega), List.getElem?_replicate, if_pos (by rw [hexL_len, List.length_take]; omega)])
      have c1 : wr.cell? ⟨w.heap.size + 1, j1, none⟩ = some (.int .u8 0) := HA.out.cell (b := 0) (by rw [hj1, hj, List.getElem?_append_right (by rw [hexL_len, List.length_take]; omega), List.getElem?_replicate, if_pos (by rw [hexL_len, List.length_take]; omega)])
      have n0 : ¬ j = j1 := by omega
      have n1 : ¬ j1 = j := by omega
      have HJ := Lib.hid (And.intro hj (And.intro hj1 (And.intro hx0 hx1)))
      have HB := Lib.hid hb
      clear hj hj1 hx0 hx1 hb
      have HA2 : Hid (AB 139 ((wr.setCell ⟨w.heap.size + 1, j, none⟩ (.int .u8 ((hexD x0).toNat : Int))).setCell ⟨w.heap.size + 1, j1, none⟩ (.int .u8 ((hexD x1).toNat : Int))).drew (w.heap.size + 1) (hexL (l.take (k + 1)) ++ List.replicate (64 - 2 * (k + 1)) 0)) := by
        have h := ((HA.out.set j (hexD x0)).set j1 (hexD x1)).upd (Upd.refl _ _).drew
        obtain ⟨q1, q2, q3, q4⟩ := HJ.out
        rw [q2, q1, q3, q4, hex_fill hl HB.out] at h
        rw [q2, q1, q3, q4]
        exact h
      have HU2 : Hid (Upd [] [] w ((wr.setCell ⟨w.heap.size + 1, j, none⟩ (.int .u8 ((hexD x0).toNat : Int))).setCell ⟨w.heap.size + 1, j1, none⟩ (.int .u8 ((hexD x1).toNat : Int))).drew) :=
        ((HU.out.setNew (p := ⟨w.heap.size + 1, j, none⟩) (by show w.heap.size ≤ w.heap.size + 1; omega) _).setNew (p := ⟨w.heap.size + 1, j1, none⟩) (by show w.heap.size ≤ w.heap.size + 1; omega) _).drew
      go_wp2_with fail
      go_region_held3 (fun _ => True) (first | trivial | assumption) (fail)
      all_goals
        go_wp2_with fail
        exact ⟨⟨k + 1, by go_num, by omega, HA2, HU2⟩, by simp [intOf]; omega⟩
    · obtain rfl : k = 32 := by omega
      obtain ⟨z, hz⟩ : ∃ z : ByteArray, bs z = hexL l := ⟨⟨(hexL l).toArray⟩, rfl⟩
      have hcv := HA.out.text z (by rw [hz, List.take_of_length_le (by omega)]; simp) 64
      rw [List.take_of_length_le (by omega)] at hcv
      have hlen : (hexL l ++ List.replicate (64 - 2 * 32) 0).length = 64 := by simp [hexL_len, hl]
      rw [hlen] at hcv
      have HZ := Lib.hid hz
      clear hz hlt hk HA hlen
      go_wp2_with fail
      go_ret
      refine ⟨z, HZ, ?_, rfl, HU.out⟩
      rw [← HZ.out, bs_length]
      exact Nat.le_refl _
end Go.Proofs.YtmnmhhbldbdpfaaGreatDoor

namespace Go.Proofs.YtmnmhhbldbdpfaaGreatDoor
open Go.RowKit
set_option maxRecDepth 100000

theorem run_slice_digit (n : Nat) (hn : n < 16) (w : World) : (Instr.slice 9 (.string ⟨#[48, 49, 50, 51, 52, 53, 54, 55, 56, 57, 97, 98, 99, 100, 101, 102]⟩) (some (.int .u8 (n : Int))) (some (.int .u8 ((n + 1 : Nat) : Int))) none).run Tryz.prog w = .ok (.string (ByteArray.mk #[hexD n])) w := by
  have h : n = 0 ∨ n = 1 ∨ n = 2 ∨ n = 3 ∨ n = 4 ∨ n = 5 ∨ n = 6 ∨ n = 7 ∨ n = 8 ∨ n = 9 ∨ n = 10 ∨ n = 11 ∨ n = 12 ∨ n = 13 ∨ n = 14 ∨ n = 15 := by omega
  rcases h with rfl | rfl | rfl | rfl | rfl | rfl | rfl | rfl | rfl | rfl | rfl | rfl | rfl | rfl | rfl | rfl
  all_goals (show _ = _; first | kernel_rfl | rfl)

set_option maxHeartbeats 2000000 in
theorem rhexText_any (l : List UInt8) (hl : l.length = 32) (w : World) : Calls Tryz.prog 39 #[.agg (byteVals l).toArray] w (MkS (hexL l) w) := by
  obtain ⟨C, hC⟩ : ∃ C, C = (byteVals l).toArray := ⟨_, rfl⟩
  have hg0 : Hid (AB 24 (w.alloc (.cells C 24)) w.heap.size l) := by rw [hC]; exact heap_alloc_new _ _
  rw [← hC]
  clear hC
  go_enter Tryz.func39, Tryz.ntmps39
  go_wp2_with fail
  go_loopw [3, 4] (fun s i wr => ∃ (k : Nat) (acc : ByteArray), s = .string acc ∧ i = .int .i64 (k : Int) ∧ k ≤ 32 ∧ acc.size = 2 * k ∧ Hid (bs acc = hexL (l.take k)) ∧ Hid (AB 24 wr w.heap.size l) ∧ Hid (Upd [] [] w wr)) (fun _ i _ => 32 - (intOf i).toNat)
  case atStart => exact ⟨0, ByteArray.empty, rfl, rfl, Nat.zero_le _, rfl, rfl, hg0, (Upd.refl _ _).alloc _⟩
  case round =>
    obtain ⟨k, acc, rfl, rfl, hk, has, HS, HA, HU⟩ := hrel
    by_cases hlt : k < 32
    · obtain ⟨b, hb⟩ : ∃ b, l[k]? = some b := ⟨_, List.getElem?_eq_getElem (by omega)⟩
      have hb256 : b.toNat < 256 := b.toNat_lt
      have cb := HA.out.cell hb
      obtain ⟨x0, hx0⟩ : ∃ x0, x0 = b.toNat / 16 := ⟨_, rfl⟩
      obtain ⟨x1, hx1⟩ : ∃ x1, x1 = b.toNat % 16 := ⟨_, rfl⟩
      obtain ⟨m0, hm0⟩ : ∃ m0, m0 = x0 + 1 := ⟨_, rfl⟩
      obtain ⟨m1, hm1⟩ : ∃ m1, m1 = x1 + 1 := ⟨_, rfl⟩
      have v0 : (b.toNat : Int).tdiv 16 = (x0 : Int) := by rw [Int.tdiv_eq_ediv_of_nonneg (by omega)]; omega
      have v1 : (b.toNat : Int).tmod 16 = (x1 : Int) := by rw [Int.tmod_eq_emod_of_nonneg (by omega)]; omega
      have v2 : IntKind.u8.wrap ((x0 : Int) + 1) = (m0 : Int) := by unfold IntKind.wrap; simp [IntKind.bits, IntKind.signed]; omega
      have v3 : IntKind.u8.wrap ((x1 : Int) + 1) = (m1 : Int) := by unfold IntKind.wrap; simp [IntKind.bits, IntKind.signed]; omega
      have v4 : IntKind.u8.wrap (x0 : Int) = (x0 : Int) := by unfold IntKind.wrap; simp [IntKind.bits, IntKind.signed]; omega
      have v5 : IntKind.u8.wrap (x1 : Int) = (x1 : Int) := by unfold IntKind.wrap; simp [IntKind.bits, IntKind.signed]; omega
      have y0 := run_slice_digit x0 (by omega)
      have y1 := run_slice_digit x1 (by omega)
      rw [← hm0] at y0
      rw [← hm1] at y1
      have i0 : (0 : Int) ≤ (k : Int) := by omega
      have i1 : (k : Int) < 32 := by omega
      have HST : Hid (bs (acc ++ ByteArray.mk #[hexD x0] ++ ByteArray.mk #[hexD x1]) = hexL (l.take (k + 1))) := by
        show _ = _
        have e1 : l.take (k + 1) = l.take k ++ [b] := by rw [List.take_add_one, hb]; rfl
        rw [e1, hexL_snoc, bs_append, bs_append, HS.out, ← hx0, ← hx1]
        simp [bs]
      have hsz : (acc ++ ByteArray.mk #[hexD x0] ++ ByteArray.mk #[hexD x1]).size = 2 * (k + 1) := by
        rw [ByteArray.size_append, ByteArray.size_append, has]
        show 2 * k + 1 + 1 = _
        omega
      have k4 : wr.drew.cell? ⟨w.heap.size, k, none⟩ = some (.int .u8 (b.toNat : Int)) := cb
      have hz : ¬ 9223372036854775807 < 2 * k + 1 + 1 := by omega
      have hz0 : ¬ 9223372036854775807 < 2 * k + 1 := by omega
      clear hx0 hx1 hm0 hm1 hb
      go_wp2_with fail
      go_region_held3 (fun wp => wp.cell? ⟨w.heap.size, k, none⟩ = some (.int .u8 (b.toNat : Int))) (first | with_reducible exact k4 | with_reducible assumption) (fail)
      go_wp2_with fail
      exact ⟨⟨k + 1, _, rfl, by go_num, by omega, hsz, HST, HA.out.upd (Upd.refl _ _).drew, HU.out.drew⟩, by simp [intOf]; omega⟩
    · obtain rfl : k = 32 := by omega
      have hs := HS.out
      rw [List.take_of_length_le (by omega)] at hs
      have HSS := Lib.hid hs
      clear hs hlt hk
      go_wp2_with fail
      go_ret
      refine ⟨acc, HSS, ?_, rfl, HU.out⟩
      rw [← HSS.out, bs_length]
      exact Nat.le_refl _
end Go.Proofs.YtmnmhhbldbdpfaaGreatDoor

namespace Go.Proofs.YtmnmhhbldbdpfaaGreatDoor
open Go.RowKit
set_option maxRecDepth 100000

/-- A digit's number, 0 of others. -/
def dv (c : UInt8) : UInt8 := UInt8.ofNat ((digH c).getD 0)
/-- What the digits make. -/
def fillH : List UInt8 → List UInt8
  | [] => []
  | [a] => [dv a]
  | a :: b :: r => UInt8.ofNat (16 * (dv a).toNat + (dv b).toNat) :: fillH r
theorem fillH_app : ∀ (t r : List UInt8), t.length % 2 = 0 → fillH (t ++ r) = fillH t ++ fillH r
  | [], r, _ => rfl
  | [a], r, h => by simp at h
  | a :: b :: t, r, h => by
    rw [List.cons_append, List.cons_append, fillH, fillH, fillH_app t r (by simp at h; omega), List.cons_append]
theorem fillH_len : ∀ t : List UInt8, (fillH t).length = (t.length + 1) / 2
  | [] => rfl
  | [a] => by simp [fillH]
  | a :: b :: t => by rw [fillH, List.length_cons, fillH_len t, List.length_cons, List.length_cons]; omega
/-- All are digits. -/
def digs16 (t : List UInt8) : Prop := ∀ c ∈ t, ∃ n, digH c = some n
theorem dv_of {c : UInt8} {n : Nat} (h : digH c = some n) : (dv c).toNat = n ∧ n < 16 := by
  have := (hexD_digH h).1
  unfold dv
  rw [h]
  exact ⟨by show (UInt8.ofNat n).toNat = n; rw [UInt8.toNat_ofNat']; omega, this⟩
theorem hexL_fillH : ∀ t : List UInt8, t.length % 2 = 0 → digs16 t → hexL (fillH t) = t
  | [], _, _ => rfl
  | [a], h, _ => by simp at h
  | a :: b :: t, h, hd => by
    obtain ⟨n, hn⟩ := hd a (by simp)
    obtain ⟨m, hm⟩ := hd b (by simp)
    obtain ⟨e1, l1⟩ := dv_of hn
    obtain ⟨e2, l2⟩ := dv_of hm
    rw [fillH, hexL, hexL_fillH t (by simp at h; omega) (fun c hc => hd c (by simp [hc])), e1, e2]
    have e : (UInt8.ofNat (16 * n + m)).toNat = 16 * n + m := by rw [UInt8.toNat_ofNat']; omega
    rw [e, show (16 * n + m) / 16 = n by omega, show (16 * n + m) % 16 = m by omega, (hexD_digH hn).2, (hexD_digH hm).2]
theorem digs16_hexL : ∀ l : List UInt8, digs16 (hexL l)
  | [], c, h => by simp [hexL] at h
  | b :: r, c, h => by
    have hb : b.toNat < 256 := b.toNat_lt
    rw [hexL, List.mem_cons, List.mem_cons] at h
    rcases h with rfl | rfl | h
    · exact ⟨_, digH_hexD _ (by omega)⟩
    · exact ⟨_, digH_hexD _ (by omega)⟩
    · exact digs16_hexL r c h
theorem hexOk_yes {t : List UInt8} (h : t.length = 64) (hd : digs16 t) : hexOk t (fillH t) true :=
  ⟨by rw [fillH_len, h], fun _ => (hexL_fillH t (by omega) hd).symm, fun h => by cases h⟩
theorem hexOk_len {t : List UInt8} (h : t.length ≠ 64) : hexOk t (List.replicate 32 0) false :=
  ⟨by simp, (fun h => by cases h), fun _ => ⟨rfl, fun h' hl e => h (by rw [e, hexL_len, hl])⟩⟩
theorem hexOk_dig {t : List UInt8} {c : UInt8} (hc : c ∈ t) (h : digH c = none) : hexOk t (List.replicate 32 0) false :=
  ⟨by simp, (fun h => by cases h), fun _ => ⟨rfl, fun h' hl e => by
    obtain ⟨n, hn⟩ := digs16_hexL h' c (by rw [← e]; exact hc)
    rw [h] at hn
    cases hn⟩⟩
/-- What a reader of a hash's text gives. -/
def MkHash (l : List UInt8) (w : World) (e : Ending) (w' : World) : Prop := ∃ (h : List UInt8) (ok : Bool), Hid (hexOk l h ok) ∧ e = .returned (.tuple #[.agg (byteVals h).toArray, .bool ok]) ∧ Upd [] [] w w'
theorem fill_even {t : List UInt8} {m : Nat} {c : UInt8} (hc : t[2 * m]? = some c) (hm : 2 * m < 64) : (fillH (t.take (2 * m)) ++ List.replicate (32 - m) 0).set m (dv c) = fillH (t.take (2 * m + 1)) ++ List.replicate (32 - (m + 1)) 0 := by
  have hl := (List.getElem?_eq_some_iff.1 hc).1
  have e0 : (t.take (2 * m)).length = 2 * m := by rw [List.length_take]; omega
  have e1 : t.take (2 * m + 1) = t.take (2 * m) ++ [c] := by rw [List.take_add_one, hc]; rfl
  have e2 : (fillH (t.take (2 * m))).length = m := by rw [fillH_len, e0]; omega
  rw [e1, fillH_app _ _ (by rw [e0]; omega), List.set_append_right _ _ (by omega), e2, Nat.sub_self, show 32 - m = (32 - (m + 1)) + 1 by omega, List.replicate_succ, List.set_cons_zero, List.append_assoc]
  rfl
theorem fill_odd {t : List UInt8} {m : Nat} {a c : UInt8} (ha : t[2 * m]? = some a) (hc : t[2 * m + 1]? = some c) : (fillH (t.take (2 * m + 1)) ++ List.replicate (32 - (m + 1)) 0)[m]? = some (dv a) ∧ (fillH (t.take (2 * m + 1)) ++ List.replicate (32 - (m + 1)) 0).set m (UInt8.ofNat (16 * (dv a).toNat + (dv c).toNat)) = fillH (t.take (2 * m + 1 + 1)) ++ List.replicate (32 - (m + 1)) 0 := by
  have hl := (List.getElem?_eq_some_iff.1 hc).1
  have e0 : (t.take (2 * m)).length = 2 * m := by rw [List.length_take]; omega
  have e1 : t.take (2 * m + 1) = t.take (2 * m) ++ [a] := by rw [List.take_add_one, ha]; rfl
  have e3 : t.take (2 * m + 1 + 1) = t.take (2 * m) ++ [a, c] := by rw [List.take_add_one, hc, e1]; simp
  have e2 : (fillH (t.take (2 * m))).length = m := by rw [fillH_len, e0]; omega
  rw [e3, e1, fillH_app _ _ (by rw [e0]; omega), fillH_app _ _ (by rw [e0]; omega), List.append_assoc, List.append_assoc]
  refine ⟨?_, ?_⟩
  · rw [List.getElem?_append_right (by omega), e2, Nat.sub_self]
    rfl
  · rw [List.set_append_right _ _ (by omega), e2, Nat.sub_self]
    rfl
theorem digit_index (c : UInt8) : (Lib.indexByte [48, 49, 50, 51, 52, 53, 54, 55, 56, 57, 97, 98, 99, 100, 101, 102] c = match digH c with | some n => (n : Int) | none => -1) := by
  have : ∀ n : Fin 256, (Lib.indexByte [48, 49, 50, 51, 52, 53, 54, 55, 56, 57, 97, 98, 99, 100, 101, 102] (UInt8.ofNat n.val) = match digH (UInt8.ofNat n.val) with | some n => (n : Int) | none => -1) := by decide +kernel
  have h := this ⟨c.toNat, c.toNat_lt⟩
  simp only [UInt8.ofNat_toNat] at h
  exact h
theorem or_digit : ∀ a : Nat, a < 16 → ∀ b : Nat, b < 16 → Go.bits .or .u8 ((16 * a : Nat) : Int) (b : Int) = ((16 * a + b : Nat) : Int) := by
  have : ∀ a : Fin 16, ∀ b : Fin 16, Go.bits .or .u8 ((16 * a.val : Nat) : Int) (b.val : Int) = ((16 * a.val + b.val : Nat) : Int) := by decide +kernel
  exact fun a ha b hb => this ⟨a, ha⟩ ⟨b, hb⟩
theorem results_row_tmp {P : Program} {fn : Func} {p u : Tmp} {ty : TypeId} (h : fn.results = #[.cell p ty, .tmp u]) (tmps : Array Value) (w : World) (g : Nat) (t : TypeId) (cs : Array Value) (fr : Nat × Nat) (d : TypeDesc)
    (hp : tmps.getD p undef = .pointer (some ⟨g, 0, none⟩)) (hg : w.heap[g]? = some (.cells cs t fr))
    (hu : P.underlying ty = some d) (hd : d.isRow = true) (hi : (P.info? ty).map (·.size) = some cs.size) :
    (results fn tmps).run P w = .ok (.tuple #[.agg cs, tmps.getD u undef]) w := by
  have hl : (loadVar ty ⟨g, 0, none⟩).run P w = .ok (.agg cs) w := by
    cases d with
    | struct fs => exact run_loadVar_row w g t ty cs fr _ hg hu rfl hi
    | array n e => exact run_loadVar_row w g t ty cs fr _ hg hu rfl hi
    | _ => cases hd
  rw [results_cell_tmp h, hp]
  simp only [asAddr, Sem.run_pure, Result.andThen_ok, hl]
end Go.Proofs.YtmnmhhbldbdpfaaGreatDoor

namespace Go.Proofs.YtmnmhhbldbdpfaaGreatDoor
open Go.RowKit
set_option maxRecDepth 100000

/-- One byte as a text: the new row, and its conversion. -/
theorem byte_str (wr : World) (b : UInt8) : (convert 40 9 (.slice (some ⟨wr.heap.size, 0, none⟩) 1 1)).run Tryz.prog (wr.alloc (.cells #[.int .u8 (b.toNat : Int)] 5)) = .ok (.string ⟨#[b]⟩) (wr.alloc (.cells #[.int .u8 (b.toNat : Int)] 5)) :=
  conv_bytes (P := Tryz.prog) (wr.alloc (.cells #[.int .u8 (b.toNat : Int)] 5)) 40 9 5 Tryz.underlying40 Tryz.underlying5 Tryz.underlying9 wr.heap.size _ _ _ (heap_alloc_new _ _) [b] rfl 0 1 1 (by simp)

end Go.Proofs.YtmnmhhbldbdpfaaGreatDoor

namespace Go.Proofs.YtmnmhhbldbdpfaaGreatDoor
open Go.RowKit
set_option maxRecDepth 100000

set_option maxHeartbeats 1000000 in
theorem decimal_any (n : Int) (w : World) (hn : i64in n) : Calls Tryz.prog 95 #[.int .i64 n] w (MkS (Lib.itoa n) w) := by
  have hn1 := hn.1
  have hn2 := hn.2
  by_cases h0 : n = 0
  · subst h0
    go_enter Tryz.func95, Tryz.ntmps95
    go_wp2_with fail
    go_ret
    exact ⟨⟨#[48]⟩, by show _ = _; rw [itoa_zero]; rfl, by rw [itoa_zero]; decide, rfl, Upd.refl _ _⟩
  · have hb0 : (n == 0) = false := by rw [beq_eq_false_iff_ne]; exact h0
    have HN := Lib.hid h0
    clear h0
    obtain ⟨u, hu⟩ : ∃ u : Nat, u = n.natAbs := ⟨_, rfl⟩
    have hul : u ≤ 9223372036854775808 := by omega
    have HU := Lib.hid hu
    have HUL := Lib.hid hul
    clear hu hul
    go_enter Tryz.func95, Tryz.ntmps95
    go_wp2_with fail
    go_loopw [3, 4] (fun t i wr => ∃ (z : Int) (r : ByteArray), i = .int .i64 z ∧ t = .string r ∧ (-9223372036854775808 ≤ z ∧ z ≤ 9223372036854775807) ∧ Hid (digs z.natAbs ++ bs r = digs u) ∧ r.size ≤ 30 ∧ Upd [] [] w wr) (fun _ i _ => (intOf i).natAbs)
    case atStart => exact ⟨n, ⟨#[]⟩, rfl, rfl, hn, by show _ = _; rw [HU.out]; simp [bs], by decide, Upd.refl _ _⟩
    case round =>
      obtain ⟨z, r, rfl, rfl, hz, HR, hr, hup⟩ := hrel
      by_cases hz0 : z = 0
      · subst hz0
        have hR := HR.out
        have hR : bs r = digs u := by simpa [digs] using hR
        have HR2 := Lib.hid hR
        clear hR HR
        by_cases hneg : n < 0
        · go_wp2_with fail
          go_ret
          refine ⟨_, ?_, ?_, rfl, hup⟩
          · show _ = _
            rw [bs_append, HR2.out, itoa_neg hneg, HU.out]
            rfl
          · rw [itoa_neg hneg, ByteArray.size_append]
            have := bs_size HR2.out
            have e : (ByteArray.mk #[45]).size = 1 := rfl
            simp [this, e, ← HU.out]; omega
        · go_wp2_with fail
          go_ret
          have hpos : 0 < n := by have := HN.out; omega
          refine ⟨r, ?_, ?_, rfl, hup⟩
          · show _ = _
            rw [HR2.out, itoa_pos hpos, HU.out]
          · rw [itoa_pos hpos, ← HU.out, ← HR2.out]
            exact Nat.le_refl _
      · have hnz : (z == 0) = false := by rw [beq_eq_false_iff_ne]; exact hz0
        obtain ⟨b, hb⟩ : ∃ b, b = UInt8.ofNat (48 + z.natAbs % 10) := ⟨_, rfl⟩
        have hbn : b.toNat = 48 + z.natAbs % 10 := by rw [hb]; exact digit_toNat (Nat.mod_lt _ (by omega))
        have hst := digs_step z.natAbs (by omega)
        rw [← hb] at hst
        have hq : (z.tdiv 10).natAbs = z.natAbs / 10 := by rw [Int.natAbs_tdiv]; rfl
        have hm : (z.tmod 10).natAbs = z.natAbs % 10 := by rw [Int.natAbs_tmod]; rfl
        have hR2 : digs (z.tdiv 10).natAbs ++ bs (⟨#[b]⟩ ++ r) = digs u := by
          rw [bs_append, ← HR.out, hst, hq, List.append_assoc]
          rfl
        have hlen : (⟨#[b]⟩ ++ r : ByteArray).size ≤ 19 := by
          have h1 := congrArg List.length hR2
          rw [List.length_append, bs_length] at h1
          have h2 := digs_len HUL.out
          omega
        have HR2 := Lib.hid hR2
        have HLEN := Lib.hid hlen
        have hbig : (z.tdiv 10).natAbs < z.natAbs := by rw [hq]; omega
        have HBIG := Lib.hid hbig
        have hdb : -9223372036854775808 ≤ z.tdiv 10 ∧ z.tdiv 10 ≤ 9223372036854775807 := by omega
        have HDB := Lib.hid hdb
        have HCV := Lib.hid (byte_str wr b)
        have hu1 := hup.alloc (.cells #[.int .u8 (b.toNat : Int)] 5)
        have h1 : (ByteArray.mk #[b]).size ≤ 1 := Nat.le_refl _
        by_cases hd : z.tmod 10 < 0
        · have hb1 : 48 + -(z.tmod 10) = (b.toNat : Int) := by omega
          have hlo : -10 < z.tmod 10 := by omega
          have HB1 := Lib.hid hb1
          clear hb hbn hst hq hm hR2 hlen hbig hdb hz0 hb1
          go_wp2_with fail
          rw [HB1.out, HCV.out]
          go_wp2_with fail
          exact ⟨⟨_, _, rfl, rfl, HDB.out, HR2.out, by have := HLEN.out; omega, hu1⟩, by simp only [intOf]; exact HBIG.out⟩
        · have hb1 : 48 + z.tmod 10 = (b.toNat : Int) := by omega
          have hlo : z.tmod 10 < 10 := by omega
          have HB1 := Lib.hid hb1
          clear hb hbn hst hq hm hR2 hlen hbig hdb hz0 hb1
          go_wp2_with fail
          rw [HB1.out, HCV.out]
          go_wp2_with fail
          exact ⟨⟨_, _, rfl, rfl, HDB.out, HR2.out, by have := HLEN.out; omega, hu1⟩, by simp only [intOf]; exact HBIG.out⟩
end Go.Proofs.YtmnmhhbldbdpfaaGreatDoor

namespace Go.Proofs.YtmnmhhbldbdpfaaGreatDoor
set_option maxRecDepth 100000
open Go Go.RowKit

theorem num_value_minus {D : List UInt8} (h : isNum (45 :: D)) : Lib.itoa (wrap64 (-(valD D : Int))) = 45 :: D := by
  obtain ⟨m, hm, he⟩ := h
  obtain ⟨h1, h2, h3⟩ := num_minus hm he
  rw [h2, valD_dec, show -((m.natAbs : Nat) : Int) = m by omega, wrap_of hm, ← he, ← h2]
theorem num_value_plain {D : List UInt8} (h0 : ∀ r, D ≠ 45 :: r) (h : isNum D) : Lib.itoa (wrap64 (valD D : Int)) = D := by
  obtain ⟨m, hm, he⟩ := h
  obtain ⟨h1, h2, h3⟩ := num_plain hm h0 he
  have hv : valD D = m.natAbs := by rw [h2, valD_dec]
  rw [hv, show ((m.natAbs : Nat) : Int) = m by omega, wrap_of hm, ← he]
/-- The characters of a numeral. -/
theorem num_minus_chars {D : List UInt8} (h : isNum (45 :: D)) : D ≠ [] ∧ D.length ≤ 19 ∧ ∀ c ∈ D, 48 ≤ c.toNat ∧ c.toNat ≤ 57 := by
  obtain ⟨m, hm, he⟩ := h
  obtain ⟨h1, h2, h3⟩ := num_minus hm he
  rw [h2]
  exact ⟨dec_ne _, dec_le19 h3, dec_digits _⟩
theorem num_plain_chars {D : List UInt8} (h0 : ∀ r, D ≠ 45 :: r) (h : isNum D) : D ≠ [] ∧ D.length ≤ 19 ∧ ∀ c ∈ D, 48 ≤ c.toNat ∧ c.toNat ≤ 57 := by
  obtain ⟨m, hm, he⟩ := h
  obtain ⟨h1, h2, h3⟩ := num_plain hm h0 he
  rw [h2]
  exact ⟨dec_ne _, dec_le19 h3, dec_digits _⟩
theorem valD_nil : valD [] = 0 := rfl

/-- The verdict of a reader that writes the number again. -/
theorem numOk_minus {D : List UInt8} {n : Int} {ok : Bool} (hn : n = wrap64 (-(valD D : Int))) (hok : ok = true ↔ Lib.itoa n = 45 :: D) : numOk (45 :: D) n ok := by
  refine ⟨hn ▸ wrap_bounds _, fun h => (hok.1 h).symm, fun h hnum => ?_⟩
  have := hok.2 (by rw [hn]; exact num_value_minus hnum)
  rw [h] at this; cases this
theorem numOk_plain {D : List UInt8} {n : Int} {ok : Bool} (h0 : ∀ r, D ≠ 45 :: r) (hn : n = wrap64 (valD D : Int)) (hok : ok = true ↔ Lib.itoa n = D) : numOk D n ok := by
  refine ⟨hn ▸ wrap_bounds _, fun h => (hok.1 h).symm, fun h hnum => ?_⟩
  have := hok.2 (by rw [hn]; exact num_value_plain h0 hnum)
  rw [h] at this; cases this

theorem split_at {l : List UInt8} {k : Nat} {c : UInt8} (h : l[k]? = some c) : l = l.take k ++ c :: l.drop (k + 1) := by
  obtain ⟨hk, rfl⟩ := List.getElem?_eq_some_iff.1 h
  conv => lhs; rw [← List.take_append_drop k l, List.drop_eq_getElem_cons hk]
theorem readV_dot {l : List UInt8} {k : Nat} (hk : l[k]? = some 46) (hno : (46 : UInt8) ∉ l.take k) {a b : Int} {p q : Bool} (h1 : numOk (l.take k) a p) (h2 : numOk (l.drop (k + 1)) b q) : readV l = if (p && q) = true then (a, b, true) else (0, 0, false) := by
  have hl := split_at hk
  cases hp : p with
  | true =>
    cases hq : q with
    | true =>
      have e1 := h1.2.1 hp
      have e2 := h2.2.1 hq
      have : l = pairL a b := by rw [pairL, ← e1, ← e2]; simpa using hl
      rw [readV, this, readL_pair h1.1 h2.1]
      rfl
    | false =>
      have hne := h2.2.2 hq
      have : readL l = none := by
        cases hh : readL l with
        | none => rfl
        | some v =>
          obtain ⟨x, y⟩ := v
          obtain ⟨i1, i2, e⟩ := readL_some hh
          have c1 := cut_hit 46 (l.take k) (l.drop (k + 1)) hno
          rw [← hl, e, pairL_cut] at c1
          simp only [Prod.mk.injEq] at c1
          exact absurd ⟨y, i2, by rw [c1.2.1, ← e]⟩ hne
      rw [readV, this]
      rfl
  | false =>
    have hne := h1.2.2 hp
    have : readL l = none := by
      cases hh : readL l with
      | none => rfl
      | some v =>
        obtain ⟨x, y⟩ := v
        obtain ⟨i1, i2, e⟩ := readL_some hh
        have c1 := cut_hit 46 (l.take k) (l.drop (k + 1)) hno
        rw [← hl, e, pairL_cut] at c1
        simp only [Prod.mk.injEq] at c1
        exact absurd ⟨x, i1, by rw [c1.1, ← e]⟩ hne
    rw [readV, this]
    rfl
theorem readV_nodot {l : List UInt8} (h : (46 : UInt8) ∉ l) : readV l = (0, 0, false) := by
  have : readL l = none := by
    cases hh : readL l with
    | none => rfl
    | some v =>
      obtain ⟨x, y⟩ := v
      obtain ⟨i1, i2, e⟩ := readL_some hh
      exact absurd (by rw [e, pairL]; simp) h
  rw [readV, this]
end Go.Proofs.YtmnmhhbldbdpfaaGreatDoor

namespace Go.Proofs.YtmnmhhbldbdpfaaGreatDoor
open Go.RowKit
set_option maxRecDepth 100000

set_option maxHeartbeats 1000000 in
theorem rtext_any (r s : Int) (w : World) (hr : i64in r) (hs : i64in s) : Calls Tryz.prog 63 #[.agg #[.int .i64 r, .int .i64 s]] w (MkS (pairL r s) w) := by
  have h1 := SigAt.start w r s
  have h4 := h1.upd (Upd.refl _ _).drew
  have k4 := h4.cells
  have hlr := itoa_len r hr
  have hls := itoa_len s hs
  go_enter Tryz.func63, Tryz.ntmps63
  go_wp2_with fail
  clear h1
  go_region_held3 (fun wp => wp.cell? ⟨w.heap.size, 0, none⟩ = some (.int .i64 r) ∧ wp.cell? ⟨w.heap.size, 1, none⟩ = some (.int .i64 s)) (first | exact k4 | assumption)
    (first
      | (go_at_call 95; ((with_reducible refine (decimal_any r _ hr).mono ?_); rintro e wq ⟨y1, HY1, hy1, rfl, hq⟩; have t1 : ¬ 9223372036854775807 < y1.size + 1 := (by omega); have g1 := h4.upd hq; have kq := g1.cells; clear hq))
      | (go_at_call 95; ((with_reducible refine (decimal_any s _ hs).mono ?_); rintro e wq ⟨y2, HY2, hy2, rfl, hq⟩; have t2 : ¬ 9223372036854775807 < y1.size + 1 + y2.size := (by omega); have g2 := g1.upd hq; have kq := g2.cells; clear hq)))
  go_wp2_with fail
  go_ret
  refine ⟨_, ?_, ?_, rfl, g2.up⟩
  · show _ = _
    rw [bs_append, bs_append, HY1.out, HY2.out]
    rfl
  · have e1 := bs_size HY1.out
    have e2 := bs_size HY2.out
    have e3 : (ByteArray.mk #[46]).size = 1 := rfl
    simp [ByteArray.size_append, pairL, e1, e2, e3]
    omega

/-- It returns what a text is read as. -/
def MkNum (l : List UInt8) (w : World) (e : Ending) (w' : World) : Prop := ∃ (n : Int) (ok : Bool), Hid (numOk l n ok) ∧ i64in n ∧ e = .returned (.tuple #[.int .i64 n, .bool ok]) ∧ Upd [] [] w w'

theorem bs_cons (s : ByteArray) (h : 0 < s.size) : bs s = s[0] :: (bs s).drop 1 := by
  have h2 : 0 < (bs s).length := h
  have := List.drop_eq_getElem_cons h2
  exact this
theorem bs_get' (s : ByteArray) (k : Nat) (h : k < s.size) : (bs s)[k]? = some s[k] := by
  have : k < (bs s).length := h
  rw [List.getElem?_eq_getElem this]; rfl
theorem drop_take_step (s : ByteArray) (a k : Nat) (ha : a ≤ k) (h : k < s.size) : ((bs s).drop a).take (k + 1 - a) = ((bs s).drop a).take (k - a) ++ [s[k]] := by
  rw [show k + 1 - a = (k - a) + 1 by omega]
  rw [List.take_add_one, List.getElem?_drop, show a + (k - a) = k by omega]
  have : k < (bs s).length := h
  rw [List.getElem?_eq_getElem this]
  rfl
theorem digit_step (z : Int) (v : Nat) (c : UInt8) (hc : 48 ≤ c.toNat) (hz : z = wrap64 (-(v : Int))) : wrap64 (wrap64 (10 * z) - ((c.toNat : Int) - 48)) = wrap64 (-((v * 10 + (c.toNat - 48) : Nat) : Int)) := by
  rw [hz, ← wrap_step v (c.toNat - 48)]
  simp only [wrap64]
  omega
theorem eq_beq {y s : ByteArray} : (y.toList == s.toList) = true ↔ bs y = bs s := by
  rw [beq_iff_eq, ByteArray.toList_eq, ByteArray.toList_eq]
  rfl

set_option maxHeartbeats 2000000 in
theorem number5_any (s : ByteArray) (w : World) (hs : s.size ≤ 4000000000) : Calls Tryz.prog 80 #[.string s] w (MkNum (bs s) w) := by
  by_cases hne : 0 < s.size
  case neg =>
    have hb : ¬ isNum (bs s) := by
      intro hn
      have : bs s = [] := List.eq_nil_of_length_eq_zero (by rw [bs_length]; omega)
      rw [this] at hn
      exact (num_plain_chars (fun r h => by cases h) hn).1 rfl
    have HB := Lib.hid (numOk_bad hb)
    clear hb
    have h0 : s.size = 0 := by omega
    go_enter Tryz.func80, Tryz.ntmps80
    go_wp2_with fail
    go_ret2
    exact ⟨0, false, HB.out, ⟨by omega, by omega⟩, rfl, Upd.refl _ _⟩
  case pos =>
    have hc := bs_cons s hne
    by_cases hm : (s[0].toNat : Int) = 45
    · have hb45 : ((s[0].toNat : Int) == 45) = true := by rw [beq_iff_eq]; exact hm
      have h45 : s[0] = 45 := UInt8.toNat_inj.1 (by have : (45 : UInt8).toNat = 45 := rfl; omega)
      rw [h45] at hc
      obtain ⟨D, hD⟩ : ∃ D, D = (bs s).drop 1 := ⟨_, rfl⟩
      rw [← hD] at hc
      have HC := Lib.hid hc
      have HD := Lib.hid hD
      have hDl : D.length = s.size - 1 := by rw [hD]; simp [bs_length]
      clear hc hD h45 hm
      by_cases hlen : s.size ≤ 20 ∧ 1 < s.size
      case neg =>
        have hb : ¬ isNum (bs s) := by
          intro hn
          rw [HC.out] at hn
          obtain ⟨h1, h2, h3⟩ := num_minus_chars hn
          cases D with
          | nil => exact h1 rfl
          | cons a r => simp at hDl h2; omega
        have HB := Lib.hid (numOk_bad hb)
        clear hb hDl
        by_cases h1 : 1 < s.size
        · have h2 : 19 < (s.size : Int) - 1 := by omega
          clear hlen
          go_enter Tryz.func80, Tryz.ntmps80
          go_wp2_with fail
          go_ret2
          exact ⟨0, false, HB.out, ⟨by omega, by omega⟩, rfl, Upd.refl _ _⟩
        · have h2 : s.size = 1 := by omega
          have h3 : (s.size : Int) ≤ 1 := by omega
          clear hlen
          go_enter Tryz.func80, Tryz.ntmps80
          go_wp2_with fail
          go_ret2
          exact ⟨0, false, HB.out, ⟨by omega, by omega⟩, rfl, Upd.refl _ _⟩
      case pos =>
        obtain ⟨hl1, hl2⟩ := hlen
        go_enter Tryz.func80, Tryz.ntmps80
        go_wp2_with fail
        go_loopw [5, 6] (fun n i wr => ∃ (k : Nat) (z : Int), n = .int .i64 z ∧ i = .int .i64 (k : Int) ∧ 1 ≤ k ∧ k ≤ s.size ∧ (-9223372036854775808 ≤ z ∧ z ≤ 9223372036854775807) ∧ Hid (z = wrap64 (-(valD (D.take (k - 1)) : Int))) ∧ wr = w) (fun _ i _ => s.size - (intOf i).toNat)
        case atStart => exact ⟨1, 0, rfl, rfl, Nat.le_refl _, by omega, by omega, by show _ = _; simp [valD, wrap64], rfl⟩
        case round =>
          obtain ⟨k, z, rfl, rfl, hk1, hk, hz, HZ, hwr⟩ := hrel
          subst hwr
          by_cases hlt : k < s.size
          · by_cases hdg : 48 ≤ s[k].toNat ∧ s[k].toNat ≤ 57
            · obtain ⟨d1, d2⟩ := hdg
              have hst : D.take (k + 1 - 1) = D.take (k - 1) ++ [s[k]] := by rw [HD.out]; exact drop_take_step s 1 k hk1 hlt
              have hv : wrap64 (wrap64 (10 * z) - ((s[k].toNat : Int) - 48)) = wrap64 (-(valD (D.take (k + 1 - 1)) : Int)) := by
                rw [hst, valD_snoc]
                exact digit_step z _ s[k] d1 HZ.out
              have hb2 := wrap_bounds (-(valD (D.take (k + 1 - 1)) : Int))
              rw [← hv] at hb2
              have HV := Lib.hid hv
              have HB2 := Lib.hid hb2
              have e1 : (48 : Int) ≤ (s[k].toNat : Int) := by omega
              have e2 : (s[k].toNat : Int) ≤ 57 := by omega
              clear hst hv hb2
              go_wp2_with fail
              exact ⟨⟨k + 1, _, rfl, by go_num, by omega, by omega, HB2.out, HV.out, by first | trivial | rfl⟩, by simp [intOf]; omega⟩
            · have hb : ¬ isNum (bs s) := by
                intro hn
                rw [HC.out] at hn
                have h3 := (num_minus_chars hn).2.2 s[k] (by
                  rw [HD.out]
                  refine List.mem_of_getElem? (i := k - 1) ?_
                  rw [List.getElem?_drop, show 1 + (k - 1) = k by omega]
                  exact bs_get' s k hlt)
                exact hdg h3
              have HB := Lib.hid (numOk_bad hb)
              have hcs : s[k].toNat < 48 ∨ 57 < s[k].toNat := by omega
              clear hb hdg
              rcases hcs with h | h
              all_goals
                go_wp2_with fail
                go_ret2
                exact ⟨0, false, HB.out, ⟨by omega, by omega⟩, rfl, Upd.refl _ _⟩
          · obtain rfl : k = s.size := by omega
            have hzz : z = wrap64 (-(valD D : Int)) := by
              rw [HZ.out, List.take_of_length_le (by omega)]
            have HZZ := Lib.hid hzz
            have hzi : i64in z := hz
            clear hzz hlt hk HZ
            go_wp2_with fail
            refine (decimal_any z _ hzi).mono ?_
            rintro e w2 ⟨y, HY, hy, rfl, hu2⟩
            go_wp2_with fail
            go_ret2
            refine ⟨z, y.toList == s.toList, ?_, hzi, rfl, hu2⟩
            show numOk _ _ _
            rw [HC.out]
            refine numOk_minus HZZ.out ?_
            rw [eq_beq, HY.out, HC.out]
    · have hb45 : ((s[0].toNat : Int) == 45) = false := by rw [beq_eq_false_iff_ne]; exact hm
      have h0 : ∀ r, bs s ≠ 45 :: r := by
        intro r hr
        rw [hc] at hr
        injection hr with h1 _
        exact hm (by rw [h1]; rfl)
      have H0 := Lib.hid h0
      have hpI : (0 : Int) < (s.size : Int) := by omega
      have hpZ : ¬ s.size = 0 := by omega
      clear hc hm h0
      by_cases hlen : s.size ≤ 19
      case neg =>
        have hb : ¬ isNum (bs s) := by
          intro hn
          obtain ⟨h1, h2, h3⟩ := num_plain_chars H0.out hn
          rw [bs_length] at h2
          omega
        have HB := Lib.hid (numOk_bad hb)
        have h2 : 19 < (s.size : Int) := by omega
        clear hb hlen
        go_enter Tryz.func80, Tryz.ntmps80
        go_wp2_with fail
        go_ret2
        exact ⟨0, false, HB.out, ⟨by omega, by omega⟩, rfl, Upd.refl _ _⟩
      case pos =>
        have hleI : (s.size : Int) ≤ 19 := by omega
        go_enter Tryz.func80, Tryz.ntmps80
        go_wp2_with fail
        go_loopw [5, 6] (fun n i wr => ∃ (k : Nat) (z : Int), n = .int .i64 z ∧ i = .int .i64 (k : Int) ∧ k ≤ s.size ∧ (-9223372036854775808 ≤ z ∧ z ≤ 9223372036854775807) ∧ Hid (z = wrap64 (-(valD ((bs s).take k) : Int))) ∧ wr = w) (fun _ i _ => s.size - (intOf i).toNat)
        case atStart => exact ⟨0, 0, rfl, rfl, Nat.zero_le _, by omega, by show _ = _; simp [valD, wrap64], rfl⟩
        case round =>
          obtain ⟨k, z, rfl, rfl, hk, hz, HZ, hwr⟩ := hrel
          subst hwr
          by_cases hlt : k < s.size
          · by_cases hdg : 48 ≤ s[k].toNat ∧ s[k].toNat ≤ 57
            · obtain ⟨d1, d2⟩ := hdg
              have hst : (bs s).take (k + 1) = (bs s).take k ++ [s[k]] := by rw [List.take_add_one, bs_get' s k hlt]; rfl
              have hv : wrap64 (wrap64 (10 * z) - ((s[k].toNat : Int) - 48)) = wrap64 (-(valD ((bs s).take (k + 1)) : Int)) := by
                rw [hst, valD_snoc]
                exact digit_step z _ s[k] d1 HZ.out
              have hb2 := wrap_bounds (-(valD ((bs s).take (k + 1)) : Int))
              rw [← hv] at hb2
              have HV := Lib.hid hv
              have HB2 := Lib.hid hb2
              have e1 : (48 : Int) ≤ (s[k].toNat : Int) := by omega
              have e2 : (s[k].toNat : Int) ≤ 57 := by omega
              clear hst hv hb2
              go_wp2_with fail
              exact ⟨⟨k + 1, _, rfl, by go_num, by omega, HB2.out, HV.out, by first | trivial | rfl⟩, by simp [intOf]; omega⟩
            · have hb : ¬ isNum (bs s) := by
                intro hn
                have h3 := (num_plain_chars H0.out hn).2.2 s[k] (List.mem_of_getElem? (bs_get' s k hlt))
                exact hdg h3
              have HB := Lib.hid (numOk_bad hb)
              have hcs : s[k].toNat < 48 ∨ 57 < s[k].toNat := by omega
              clear hb hdg
              rcases hcs with h | h
              all_goals
                go_wp2_with fail
                go_ret2
                exact ⟨0, false, HB.out, ⟨by omega, by omega⟩, rfl, Upd.refl _ _⟩
          · obtain rfl : k = s.size := by omega
            obtain ⟨y0, hy0⟩ : ∃ y0, y0 = wrap64 (-z) := ⟨_, rfl⟩
            have hzz : y0 = wrap64 (valD (bs s) : Int) := by
              rw [hy0, HZ.out, List.take_of_length_le (by simp [bs_length]), wrap_flip]
            have hyi : i64in y0 := by rw [hy0]; exact wrap_bounds _
            have HZZ := Lib.hid hzz
            have HY0 := Lib.hid hy0
            clear hzz hlt hk HZ hy0
            go_wp2_with fail
            rw [← HY0.out]
            refine (decimal_any y0 _ hyi).mono ?_
            rintro e w2 ⟨y, HY, hy, rfl, hu2⟩
            go_wp2_with fail
            go_ret2
            refine ⟨y0, y.toList == s.toList, ?_, hyi, rfl, hu2⟩
            show numOk _ _ _
            refine numOk_plain H0.out HZZ.out ?_
            rw [eq_beq, HY.out]

theorem bs_left (s : ByteArray) (k : Nat) : bs (s.extract 0 k) = (bs s).take k := by rw [bs_extract]; simp
theorem bs_right (s : ByteArray) (k : Nat) : bs (s.extract k s.size) = (bs s).drop k := by
  rw [bs_extract, List.take_of_length_le]
  simp [bs_length]

set_option maxHeartbeats 2000000 in
theorem rread5_any (s : ByteArray) (w : World) (hs : s.size ≤ 4000000000) : Calls Tryz.prog 49 #[.string s] w (MkRead (bs s) w) := by
  have h0 := SigAt.start w 0 0
  obtain ⟨z0, z1⟩ := h0.cells
  obtain ⟨f0, f1⟩ := h0.free
  go_enter Tryz.func49, Tryz.ntmps49
  go_wp2_with fail
  generalize hww : w.alloc (.cells #[.int .i64 0, .int .i64 0] 31) = ww at *
  clear hww
  go_loop [4] (fun i => ∃ k : Nat, i = .int .i64 (k : Int) ∧ k ≤ s.size ∧ Hid ((46 : UInt8) ∉ (bs s).take k)) (fun i => s.size - (intOf i).toNat)
  case atStart => exact ⟨0, rfl, Nat.zero_le _, by show _ ∉ _; simp⟩
  case round =>
    obtain ⟨k, rfl, hk, HK⟩ := hrel
    by_cases hlt : k < s.size
    · by_cases hd : (s[k].toNat : Int) = 46
      · have hb : ((s[k].toNat : Int) == 46) = true := by rw [beq_iff_eq]; exact hd
        have h46 : (bs s)[k]? = some 46 := by
          rw [bs_get' s k hlt]
          congr 1
          exact UInt8.toNat_inj.1 (by have : (46 : UInt8).toNat = 46 := rfl; omega)
        have HD := Lib.hid h46
        have hls : (s.extract 0 k).size ≤ 4000000000 := by rw [ByteArray.size_extract]; omega
        have hrs : (s.extract (k + 1) s.size).size ≤ 4000000000 := by rw [ByteArray.size_extract]; omega
        have hk1 : (k : Int) + 1 ≤ (s.size : Int) := by omega
        clear h46 hd
        go_wp2_with fail
        refine (number5_any _ _ hls).mono ?_
        rintro e w1 ⟨a, p, HA, ha, rfl, hu1⟩
        have h1 := h0.upd hu1
        clear h0 z0 z1 f0 f1
        go_wp2_with fail
        refine (number5_any _ _ hrs).mono ?_
        rintro e w2 ⟨b, q, HB, hbb, rfl, hu2⟩
        have h2 := h1.upd hu2
        clear h1
        have hv := readV_dot HD.out HK.out (by rw [← bs_left]; exact HA.out) (by rw [← bs_right]; exact HB.out)
        have HV := Lib.hid hv
        obtain ⟨z0, z1⟩ := h2.cells
        obtain ⟨f0, f1⟩ := h2.free
        clear hv
        cases p with
        | false =>
          go_wp2_with fail
          refine bodyPost_ret (v := .tuple #[.agg #[.int .i64 0, .int .i64 0], .bool false]) (by simp [results, Tryz.results49, go_sem, z0, z1]) rfl ⟨0, 0, false, HV.out, ⟨by omega, by omega⟩, ⟨by omega, by omega⟩, rfl, ?_⟩
          exact (h2.up.setNew (p := ⟨_, _, none⟩) (Nat.le_refl _) _).setNew (p := ⟨_, _, none⟩) (Nat.le_refl _) _
        | true =>
          cases q with
          | false =>
            go_wp2_with fail
            refine bodyPost_ret (v := .tuple #[.agg #[.int .i64 0, .int .i64 0], .bool false]) (by simp [results, Tryz.results49, go_sem, z0, z1]) rfl ⟨0, 0, false, HV.out, ⟨by omega, by omega⟩, ⟨by omega, by omega⟩, rfl, ?_⟩
            exact (h2.up.setNew (p := ⟨_, _, none⟩) (Nat.le_refl _) _).setNew (p := ⟨_, _, none⟩) (Nat.le_refl _) _
          | true =>
            go_wp2_with fail
            refine bodyPost_ret (v := .tuple #[.agg #[.int .i64 a, .int .i64 b], .bool true]) (by simp [results, Tryz.results49, go_sem, z0, z1]) rfl ⟨a, b, true, HV.out, ha, hbb, rfl, ?_⟩
            exact (h2.up.setNew (p := ⟨_, _, none⟩) (Nat.le_refl _) _).setNew (p := ⟨_, _, none⟩) (Nat.le_refl _) _
      · have hb : ((s[k].toNat : Int) == 46) = false := by rw [beq_eq_false_iff_ne]; exact hd
        have hst : (46 : UInt8) ∉ (bs s).take (k + 1) := by
          have : (bs s).take (k + 1) = (bs s).take k ++ [s[k]] := by rw [List.take_add_one, bs_get' s k hlt]; rfl
          rw [this]
          intro hm
          rcases List.mem_append.1 hm with hm | hm
          · exact HK.out hm
          · rw [List.mem_singleton] at hm
            exact hd (by rw [← hm]; rfl)
        have HST := Lib.hid hst
        clear hst hd
        go_wp2_with fail
        exact ⟨⟨k + 1, by go_num, by omega, HST.out⟩, by simp [intOf]; omega⟩
    · obtain rfl : k = s.size := by omega
      have hv := readV_nodot (l := bs s) (by have := HK.out; rwa [List.take_of_length_le (by simp [bs_length])] at this)
      have HV := Lib.hid hv
      clear hv
      go_wp2_with fail
      refine bodyPost_ret (v := .tuple #[.agg #[.int .i64 0, .int .i64 0], .bool false]) (by simp [results, Tryz.results49, go_sem, z0, z1]) rfl ⟨0, 0, false, HV.out, ⟨by omega, by omega⟩, ⟨by omega, by omega⟩, rfl, ?_⟩
      first | exact (h0.up.setNew (p := ⟨_, _, none⟩) (Nat.le_refl _) _).setNew (p := ⟨_, _, none⟩) (Nat.le_refl _) _ | exact h0.up
end Go.Proofs.YtmnmhhbldbdpfaaGreatDoor
