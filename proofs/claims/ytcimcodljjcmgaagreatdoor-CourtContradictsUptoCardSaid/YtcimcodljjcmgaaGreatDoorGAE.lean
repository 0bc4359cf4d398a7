/- Signatures, plainly: keys, challenges, the equation; a signature verifies, only one S does, a challenge decides. sign.bytes, positive, power, scalar, challenge, Key. sign.Key, sign.Sign, sign.Verify. Decimal numerals, plainly: what Itoa writes Atoi reads; a pair of numbers as a text, and read again. -/
import Derived.Test.YtcimcodljjcmgaaGreatDoorGAD
import Derived.Lib.ItoaNum
import Derived.Lib.AtoiAllCases
import Derived.Lib.IndexMore
import Derived.Lib.IndexLaws
namespace Go.Proofs.YtcimcodljjcmgaaGreatDoor
set_option maxRecDepth 100000

theorem g_member : 4 ^ Qn % Pn = 1 := by
  rw [← pmF_eq Pn 64 4 Qn (by decide +kernel)]
  decide +kernel
theorem pn_pos : 0 < Pn := by decide
theorem pn_one : 1 < Pn := by decide
theorem qn_pos : 0 < Qn := by decide

def gP (n : Nat) : Nat := 4 ^ n % Pn
def memN (a : Nat) : Prop := 1 ≤ a ∧ a < Pn ∧ a ^ Qn % Pn = 1

theorem mem_pow {a : Nat} (h : a ^ Qn % Pn = 1) (n : Nat) : memN (a ^ n % Pn) := by
  have e : (a ^ n % Pn) ^ Qn % Pn = 1 := by
    rw [pow_mod_base, ← Nat.pow_mul, Nat.mul_comm, Nat.pow_mul, Nat.pow_mod, h, Nat.one_pow, Nat.mod_eq_of_lt pn_one]
  refine ⟨?_, Nat.mod_lt _ pn_pos, e⟩
  by_cases h0 : a ^ n % Pn = 0
  · rw [h0, Nat.zero_pow qn_pos, Nat.zero_mod] at e
    omega
  · omega
theorem gP_mem (n : Nat) : memN (gP n) := mem_pow g_member n
theorem powZ_cast (a n : Nat) : powZ (a : Int) n 2305843009213691579 = ((a ^ n % Pn : Nat) : Int) := by
  rw [powZ, Int.natCast_emod, Int.natCast_pow]
  rfl
theorem memB_cast (a : Nat) : memB (a : Int) = true ↔ memN a := by
  have hp := powZ_cast a 1152921504606845789
  unfold memB memN
  rw [hp]
  have e1 : (decide (1 ≤ (a : Int)) = true) ↔ 1 ≤ a := by rw [decide_eq_true_iff]; omega
  have e2 : (decide ((a : Int) < 2305843009213691579) = true) ↔ a < Pn := by rw [decide_eq_true_iff]; unfold Pn; omega
  have e3 : (decide (((a ^ 1152921504606845789 % Pn : Nat) : Int) = 1) = true) ↔ a ^ Qn % Pn = 1 := by
    rw [decide_eq_true_iff]
    show ((a ^ Qn % Pn : Nat) : Int) = 1 ↔ _
    omega
  rw [Bool.and_eq_true, Bool.and_eq_true, e1, e2, e3, and_assoc]
theorem memB_pos {a : Int} (h : memB a = true) : ∃ n : Nat, a = (n : Int) ∧ memN n := by
  by_cases h0 : 0 ≤ a
  · obtain ⟨n, rfl⟩ := Int.eq_ofNat_of_zero_le h0
    exact ⟨n, rfl, (memB_cast n).1 h⟩
  · rw [memB_low (by omega)] at h
    cases h

def chalN (r p : Nat) (t : List UInt8) : Nat := scalN ([99] ++ len8 r ++ len8 p ++ t)
def posN (n : Nat) : Nat := if n = 0 then 1 else n
def keyN (seed : List UInt8) : Nat := posN (scalN ([107] ++ seed))
def nonceN (x : Nat) (t : List UInt8) : Nat := posN (scalN ([110] ++ len8 x ++ t))
def sWith (x n : Nat) (t : List UInt8) : Nat := (n + x * chalN (gP n) (gP x) t) % Qn

theorem scalN_lt (s : List UInt8) : scalN s < Qn := Nat.mod_lt _ qn_pos
theorem posN_lt {n : Nat} (h : n < Qn) : posN n < Qn := by
  unfold posN
  split
  · decide
  · exact h
theorem posN_pos (n : Nat) : 0 < posN n := by unfold posN; split <;> omega
theorem sWith_lt (x n : Nat) (t : List UInt8) : sWith x n t < Qn := Nat.mod_lt _ qn_pos
theorem chalN_lt (r p : Nat) (t : List UInt8) : chalN r p t < Qn := scalN_lt _

def verB (p : Int) (t : List UInt8) (r s : Int) : Bool :=
  memB p && memB r && decide (0 ≤ s) && decide (s < 1152921504606845789) && decide (powZ 4 s.toNat 2305843009213691579 = r * powZ p (chalN r.toNat p.toNat t) 2305843009213691579 % 2305843009213691579)

theorem verB_cast (p r s : Nat) (t : List UInt8) : verB (p : Int) t (r : Int) (s : Int) = true ↔ memN p ∧ memN r ∧ s < Qn ∧ gP s = r * p ^ chalN r p t % Pn := by
  unfold verB
  have e3 : (decide (0 ≤ (s : Int)) = true) := by rw [decide_eq_true_iff]; omega
  have e4 : (decide ((s : Int) < 1152921504606845789) = true) ↔ s < Qn := by rw [decide_eq_true_iff]; unfold Qn; omega
  have e5 : (r : Int) * ((p ^ chalN r p t % Pn : Nat) : Int) % 2305843009213691579 = ((r * p ^ chalN r p t % Pn : Nat) : Int) := by
    rw [← Int.natCast_mul]
    show ((r * (p ^ chalN r p t % Pn) : Nat) : Int) % ((Pn : Nat) : Int) = _
    rw [← Int.natCast_emod, Nat.mul_mod_mod]
  have e6 : powZ 4 s 2305843009213691579 = ((gP s : Nat) : Int) := powZ_cast 4 s
  rw [Bool.and_eq_true, Bool.and_eq_true, Bool.and_eq_true, Bool.and_eq_true, e4, memB_cast, memB_cast, Int.toNat_natCast, Int.toNat_natCast, Int.toNat_natCast, powZ_cast, e5, e6]
  constructor
  · rintro ⟨⟨⟨⟨h1, h2⟩, _⟩, h4⟩, h5⟩
    exact ⟨h1, h2, h4, by rw [decide_eq_true_iff] at h5; exact_mod_cast h5⟩
  · rintro ⟨h1, h2, h4, h5⟩
    exact ⟨⟨⟨⟨h1, h2⟩, e3⟩, h4⟩, by rw [decide_eq_true_iff, h5]⟩

theorem ver_with (x n : Nat) (t : List UInt8) : verB (gP x : Int) t (gP n : Int) (sWith x n t : Int) = true := by
  rw [verB_cast]
  refine ⟨gP_mem x, gP_mem n, sWith_lt x n t, ?_⟩
  unfold sWith
  generalize chalN (gP n) (gP x) t = c
  unfold gP
  rw [← pow_red g_member, Nat.mod_mul_mod, Nat.mul_mod, pow_mod_base, ← Nat.pow_mul, ← Nat.mul_mod, ← Nat.pow_add]

theorem ver_two {p r s : Nat} {t u : List UInt8} (h : verB (p : Int) t (r : Int) (s : Int) = true) (h' : verB (p : Int) u (r : Int) (s : Int) = true) : chalN r p t = chalN r p u ∨ p = 1 := by
  rw [verB_cast] at h h'
  obtain ⟨⟨p1, p2, p3⟩, ⟨r1, r2, r3⟩, _, e1⟩ := h
  obtain ⟨_, _, _, e2⟩ := h'
  by_cases hp : p = 1
  · exact .inr hp
  · left
    refine pow_inj p3 (by rw [Nat.mod_eq_of_lt p2]; exact hp) (chalN_lt _ _ _) (chalN_lt _ _ _) ?_
    exact cancel (no_dvd r3) (e1.symm.trans e2)

end Go.Proofs.YtcimcodljjcmgaaGreatDoor

namespace Go.Proofs.YtcimcodljjcmgaaGreatDoor
open Go.RowKit
set_option maxRecDepth 100000

def MkS (l : List UInt8) (w : World) (e : Ending) (w' : World) : Prop := ∃ r : ByteArray, Hid (bs r = l) ∧ r.size ≤ l.length ∧ e = .returned (.string r) ∧ Upd [] [] w w'
theorem bs_size {r : ByteArray} {l : List UInt8} (h : bs r = l) : r.size = l.length := by rw [← h, bs_length]

theorem bytes_any (n : Nat) (w : World) (_hn : n ≤ 9223372036854775807) : Calls Tryz.prog 64 #[.int .i64 (n : Int)] w (MkS (len8 n) w) := by
  have hw1 : (w.alloc (.cells (byteVals (List.replicate 8 0)).toArray 167)).heap[w.heap.size]? = some (.cells (byteVals (List.replicate 8 0)).toArray 167 (0, 0)) := heap_alloc_new _ _
  have hu1 : Upd [] [] w (w.alloc (.cells (byteVals (List.replicate 8 0)).toArray 167)) := (Upd.refl _ _).alloc _
  have HW1 := Lib.hid hw1
  clear hw1
  go_enter Tryz.func64, Tryz.ntmps64
  go_wp2_with fail
  go_loopw [5] (fun i wr => ∃ k : Nat, i = .int .i64 (k : Int) ∧ k ≤ 8 ∧ Hid (wr.heap[w.heap.size]? = some (.cells (byteVals ((len8 n).take k ++ List.replicate (8 - k) 0)).toArray 167 (0, 0))) ∧ Upd [] [] w wr) (fun i _ => 8 - (intOf i).toNat)
  case atStart => exact ⟨0, rfl, Nat.zero_le _, HW1.out, hu1⟩
  case round =>
    clear HW1 hu1
    obtain ⟨k, rfl, hk, HR, hu⟩ := hrel
    by_cases hlt : k < 8
    · have q1 : ∃ v0, wr.cell? ⟨w.heap.size, k, none⟩ = some v0 := by
        rw [cell_of_row wr w.heap.size k _ _ _ HR.out]
        exact ⟨_, Array.getElem?_eq_getElem (by simp [byteVals, len8]; omega)⟩
      obtain ⟨v0, q1⟩ := q1
      have q2 : wr.frozen? ⟨w.heap.size, k, none⟩ = false := frozen_of_row wr w.heap.size k _ _ HR.out
      have h3 := heap_setCell_same wr w.heap.size k _ _ (byteV (UInt8.ofNat (n / 2 ^ (8 * (7 - k))))) HR.out
      rw [len8_step n k hlt] at h3
      have H3 := Lib.hid h3
      have HU3 := Lib.hid (hu.setNew (p := ⟨w.heap.size, k, none⟩) (Nat.le_refl _) (byteV (UInt8.ofNat (n / 2 ^ (8 * (7 - k))))))
      clear h3
      have hk8 : 56 - 8 * k = 8 * (7 - k) := by omega
      go_wp2_with fail
      go_roundw
      case rel => exact ⟨k + 1, by go_num, by omega, by rw [len8_val]; exact H3.out, by rw [len8_val]; exact HU3.out⟩
      case measure => simp [intOf]; omega
    · obtain rfl : k = 8 := by omega
      have hR := HR.out
      rw [List.take_of_length_le (by rw [len8_length]; omega)] at hR
      simp only [Nat.sub_self, List.replicate_zero, List.append_nil] at hR
      have hcv := conv_bytes (P := Tryz.prog) wr 26 9 5 Tryz.underlying26 Tryz.underlying5 Tryz.underlying9 w.heap.size _ _ _ hR (len8 n) (by rw [List.take_of_length_le (by simp [byteVals])]) 0 8 8 (by rw [len8_length]; omega)
      have HCV := Lib.hid hcv
      clear hcv hR
      go_wp2_with fail
      rw [HCV.out]
      go_wp2_with fail
      go_ret
      refine ⟨⟨(len8 n).toArray⟩, rfl, ?_, ?_, hu⟩
      · exact Nat.le_refl _
      · rw [List.take_of_length_le (by rw [len8_length]; omega)]
        rfl

theorem positive_any (n : Nat) (w : World) : Calls Tryz.prog 60 #[.int .i64 (n : Int)] w (Ret (.int .i64 (posN n : Int)) w) := by
  by_cases h : n = 0
  · subst h
    go_enter Tryz.func60, Tryz.ntmps60
    go_wp2_with fail
    go_ret
    exact ⟨rfl, rfl⟩
  · have hp : posN n = n := by simp [posN, h]
    have HP := Lib.hid hp
    have h1 : 0 < n := by omega
    clear h hp
    go_enter Tryz.func60, Tryz.ntmps60
    go_wp2_with fail
    go_ret
    exact ⟨by rw [HP.out]; rfl, rfl⟩

theorem power_any (n : Nat) (w : World) (hn : n ≤ 9223372036854775807) : Calls Tryz.prog 62 #[.int .i64 (n : Int)] w (MkN 2305843009213691579 (gP n) w) := by
  go_enter Tryz.func62, Tryz.ntmps62
  go_wp2_with fail
  refine (pow_any 4 2305843009213691579 n w (by omega) hn (by omega)).mono ?_
  rintro e w1 ⟨r, HR, r0, r1, rfl, hu⟩
  obtain ⟨m, rfl⟩ : ∃ m : Nat, r = (m : Int) := ⟨r.toNat, by omega⟩
  go_wp2_with fail
  go_ret
  refine ⟨m, ?_, by omega, rfl, hu⟩
  show _ = _
  have h := HR.out
  have h2 : powZ 4 n 2305843009213691579 = ((gP n : Nat) : Int) := powZ_cast 4 n
  rw [h2] at h
  omega

theorem join_nil (xs : List (List UInt8)) : Lib.join xs [] = xs.flatten := by
  unfold Lib.join
  induction xs with
  | nil => rfl
  | cons x r ih =>
    cases r with
    | nil => simp
    | cons y r => simpa [List.intercalate] using ih

def StrsIn (w : World) (g : Nat) (xs : List ByteArray) : Prop := g < w.heap.size ∧ ∀ (j : Nat) x, xs[j]? = some x → w.cell? ⟨g, 0 + j, none⟩ = some (.string x)

theorem sScalar_any (xs : List ByteArray) (g c : Nat) (w : World) (hx : StrsIn w g xs) (hc : xs.length ≤ c) (hN : xs.length ≤ 1000) (hl : (xs.map bs).flatten.length ≤ 140737488355328) (htab : Tabs w) :
    Calls Tryz.prog 61 #[.slice (some ⟨g, 0, none⟩) xs.length c] w (MkN 1152921504606845789 (scalN (xs.map bs).flatten) w) := by
  have hj : Lib.join (xs.map (·.data.toList)) (ByteArray.mk #[]).data.toList = (xs.map bs).flatten := join_nil _
  have HJ := Lib.hid hj
  have HX := Lib.hid hx
  clear hj hx
  go_enter Tryz.func61, Tryz.ntmps61
  go_wp2_with fail
  refine (Tryz.strings_Join g 0 c xs ⟨#[]⟩ w HX.out.2 HX.out.1 (by omega) hc (by rw [HJ.out]; omega)).mono ?_
  rintro e w1 ⟨rfl, hb⟩
  have hu := upd_of_below hb
  clear hb
  rw [HJ.out]
  obtain ⟨T, hT⟩ : ∃ T : ByteArray, T = ⟨(xs.map bs).flatten.toArray⟩ := ⟨_, rfl⟩
  rw [← hT]
  have hTb : bs T = (xs.map bs).flatten := by rw [hT, bs_mk]
  have hTl : T.size ≤ 140737488355328 := by rw [bs_size hTb]; exact hl
  have HTB := Lib.hid hTb
  clear hT hTb
  go_wp2_with fail
  refine (gScalar_any T w1 (by omega) (htab.upd hu)).mono ?_
  rintro e w2 ⟨r, HR, hr, rfl, hu2⟩
  go_wp2_with fail
  go_ret
  refine ⟨r, ?_, hr, rfl, hu.trans hu2⟩
  show _ = _
  rw [HR.out, HTB.out]

theorem strs2 (w : World) (a b : ByteArray) (t : TypeId) : StrsIn (w.alloc (.cells #[.string a, .string b] t)) w.heap.size [a, b] := by
  refine ⟨by simp, fun j x h => ?_⟩
  rw [cell_of_row _ w.heap.size _ #[.string a, .string b] t (0, 0) (heap_alloc_new _ _)]
  match j, h with
  | 0, h => simp at h; subst h; rfl
  | 1, h => simp at h; subst h; rfl
  | n + 2, h => simp at h
theorem strs3 (w : World) (a b c : ByteArray) (t : TypeId) : StrsIn (w.alloc (.cells #[.string a, .string b, .string c] t)) w.heap.size [a, b, c] := by
  refine ⟨by simp, fun j x h => ?_⟩
  rw [cell_of_row _ w.heap.size _ #[.string a, .string b, .string c] t (0, 0) (heap_alloc_new _ _)]
  match j, h with
  | 0, h => simp at h; subst h; rfl
  | 1, h => simp at h; subst h; rfl
  | 2, h => simp at h; subst h; rfl
  | n + 3, h => simp at h
theorem strs4 (w : World) (a b c d : ByteArray) (t : TypeId) : StrsIn (w.alloc (.cells #[.string a, .string b, .string c, .string d] t)) w.heap.size [a, b, c, d] := by
  refine ⟨by simp, fun j x h => ?_⟩
  rw [cell_of_row _ w.heap.size _ #[.string a, .string b, .string c, .string d] t (0, 0) (heap_alloc_new _ _)]
  match j, h with
  | 0, h => simp at h; subst h; rfl
  | 1, h => simp at h; subst h; rfl
  | 2, h => simp at h; subst h; rfl
  | 3, h => simp at h; subst h; rfl
  | n + 4, h => simp at h

theorem challenge_any (r p : Nat) (t : ByteArray) (w : World) (hr : r ≤ 9223372036854775807) (hp : p ≤ 9223372036854775807) (ht : t.size ≤ 140737488355000) (htab : Tabs w) :
    Calls Tryz.prog 65 #[.int .i64 (r : Int), .int .i64 (p : Int), .string t] w (MkN 1152921504606845789 (chalN r p (bs t)) w) := by
  go_enter Tryz.func65, Tryz.ntmps65
  go_wp2_with fail
  refine (bytes_any r w hr).mono ?_
  rintro e w1 ⟨b1, HB1, b1l, rfl, hu1⟩
  go_wp2_with fail
  refine (bytes_any p w1 hp).mono ?_
  rintro e w2 ⟨b2, HB2, b2l, rfl, hu2⟩
  have hu := hu1.trans hu2
  go_wp2_with fail
  have hst := strs4 w2 ⟨#[99]⟩ b1 b2 t 9
  have hu0 : Upd [] [] w2 (w2.alloc (.cells #[.string ⟨#[99]⟩, .string b1, .string b2, .string t] 9)) := (Upd.refl _ _).alloc _
  have HST := Lib.hid hst
  have HFL : Hid ((([⟨#[99]⟩, b1, b2, t] : List ByteArray).map bs).flatten = [99] ++ len8 r ++ len8 p ++ bs t) := by
    show _ = _
    simp [HB1.out, HB2.out]
    rfl
  clear hst
  refine (sScalar_any [⟨#[99]⟩, b1, b2, t] w2.heap.size _ _ HST.out (by simp) (by simp) (by rw [HFL.out]; simp [bs_length, len8_length]; omega) (htab.upd (hu.trans hu0))).mono ?_
  rintro e w3 ⟨c, HC, hc, rfl, hu3⟩
  go_wp2_with fail
  go_ret
  exact ⟨c, by show _ = _; rw [HC.out, HFL.out, chalN], hc, rfl, (hu.trans hu0).trans hu3⟩
end Go.Proofs.YtcimcodljjcmgaaGreatDoor

namespace Go.Proofs.YtcimcodljjcmgaaGreatDoor
open Go.RowKit
set_option maxRecDepth 100000

def expN (x : Int) : Nat := (x % 1152921504606845789).toNat
theorem expN_cast (x : Int) : (expN x : Int) = x % 1152921504606845789 := by unfold expN; omega
theorem expN_lt (x : Int) : expN x < 1152921504606845789 := by unfold expN; omega
theorem expN_of {n : Nat} (h : n < Qn) : expN (n : Int) = n := by
  have h' : n < 1152921504606845789 := h
  unfold expN; omega

def MkTwo (m k r s : Nat) (w : World) (e : Ending) (w' : World) : Prop := ∃ a b : Nat, Hid (a = r) ∧ Hid (b = s) ∧ a < m ∧ b < k ∧ e = .returned (.tuple #[.int .i64 (a : Int), .int .i64 (b : Int)]) ∧ Upd [] [] w w'
def MkSig (r s : Nat) (w : World) (e : Ending) (w' : World) : Prop := ∃ a b : Nat, Hid (a = r) ∧ Hid (b = s) ∧ a < 2305843009213691579 ∧ b < 1152921504606845789 ∧ e = .returned (.agg #[.int .i64 (a : Int), .int .i64 (b : Int)]) ∧ Upd [] [] w w'

theorem positive_hid (n : Nat) (w : World) (hn : n < 1152921504606845789) : Calls Tryz.prog 60 #[.int .i64 (n : Int)] w (fun e w' => ∃ r : Nat, Hid (r = posN n) ∧ 0 < r ∧ r < 1152921504606845789 ∧ e = .returned (.int .i64 (r : Int)) ∧ w = w') := by
  refine (positive_any n w).mono ?_
  rintro e w' ⟨rfl, rfl⟩
  exact ⟨_, rfl, posN_pos n, posN_lt hn, rfl, rfl⟩

theorem key_any (s : ByteArray) (w : World) (hs : s.size ≤ 140737488355000) (htab : Tabs w) :
    Calls Tryz.prog 31 #[.string s] w (MkTwo 1152921504606845789 2305843009213691579 (keyN (bs s)) (gP (keyN (bs s))) w) := by
  go_enter Tryz.func31, Tryz.ntmps31
  go_wp2_with fail
  have hst := strs2 w ⟨#[107]⟩ s 9
  have hu0 : Upd [] [] w (w.alloc (.cells #[.string ⟨#[107]⟩, .string s] 9)) := (Upd.refl _ _).alloc _
  have HST := Lib.hid hst
  have HFL : Hid ((([⟨#[107]⟩, s] : List ByteArray).map bs).flatten = [107] ++ bs s) := by
    show _ = _
    simp
    rfl
  clear hst
  refine (sScalar_any [⟨#[107]⟩, s] w.heap.size _ _ HST.out (by simp) (by simp) (by rw [HFL.out]; simp [bs_length]; omega) (htab.upd hu0)).mono ?_
  rintro e w1 ⟨c, HC, hc, rfl, hu1⟩
  go_wp2_with fail
  refine (positive_hid c w1 hc).mono ?_
  rintro e w2 ⟨r, HR, hr0, hr, rfl, rfl⟩
  go_wp2_with fail
  refine (power_any r w1 (by omega)).mono ?_
  rintro e w3 ⟨y, HY, hy, rfl, hu3⟩
  go_wp2_with fail
  go_ret2
  have e1 : r = keyN (bs s) := by
    rw [HR.out, HC.out, HFL.out, keyN]
  exact ⟨r, y, e1, by show _ = _; rw [HY.out, e1], hr, hy, rfl, (hu0.trans hu1).trans hu3⟩

set_option maxHeartbeats 1000000 in
theorem sign_any (x : Int) (t : ByteArray) (w : World) (hx : -9223372036854775808 ≤ x ∧ x ≤ 9223372036854775807) (ht : t.size ≤ 140737488355000) (htab : Tabs w) :
    Calls Tryz.prog 32 #[.int .i64 x, .string t] w (MkSig (gP (nonceN (expN x) (bs t))) (sWith (expN x) (nonceN (expN x) (bs t)) (bs t)) w) := by
  obtain ⟨X, hX⟩ : ∃ X, X = expN x := ⟨_, rfl⟩
  have hXl := expN_lt x
  rw [← hX] at hXl
  rw [← hX]
  have HX := Lib.hid hX
  clear hX
  go_enter Tryz.func32, Tryz.ntmps32
  go_wp2_with fail
  have hu0 : Upd [] [] w (w.alloc (.cells #[.int .i64 0, .int .i64 0] 31)) := (Upd.refl _ _).alloc _
  refine (add_any x 0 1152921504606845789 _ hx (by omega) (by omega)).mono ?_
  rintro e w1 ⟨x1, HX1, x10, x11, rfl, rfl⟩
  have hx2 : x1 = (X : Int) := by rw [HX1.out, HX.out, expN_cast, Int.add_zero]
  subst hx2
  have hc0 : (w.alloc (.cells #[.int .i64 0, .int .i64 0] 31)).heap[w.heap.size]? = some (.cells #[.int .i64 0, .int .i64 0] 31 (0, 0)) := heap_alloc_new _ _
  have HC0 := Lib.hid hc0
  clear hc0 HX1
  have hg : w.heap.size < (w.alloc (.cells #[.int .i64 0, .int .i64 0] 31)).heap.size := by simp
  generalize w.alloc (.cells #[.int .i64 0, .int .i64 0] 31) = w1 at *
  go_wp2_with fail
  refine (bytes_any X w1 (by omega)).mono ?_
  rintro e w2 ⟨b1, HB1, b1l, rfl, hu2⟩
  go_wp2_with fail
  have hst := strs3 w2 ⟨#[110]⟩ b1 t 9
  have hu3 : Upd [] [] w2 (w2.alloc (.cells #[.string ⟨#[110]⟩, .string b1, .string t] 9)) := (Upd.refl _ _).alloc _
  have HST := Lib.hid hst
  have HFL : Hid ((([⟨#[110]⟩, b1, t] : List ByteArray).map bs).flatten = [110] ++ len8 X ++ bs t) := by
    show _ = _
    simp [HB1.out]
    rfl
  clear hst
  refine (sScalar_any [⟨#[110]⟩, b1, t] w2.heap.size _ _ HST.out (by simp) (by simp) (by rw [HFL.out]; simp [bs_length, len8_length]; omega) (htab.upd (hu0.trans (hu2.trans hu3)))).mono ?_
  rintro e w4 ⟨c, HC, hc, rfl, hu4⟩
  go_wp2_with fail
  refine (positive_hid c w4 hc).mono ?_
  rintro e w5 ⟨n, HN, hn0, hn, rfl, rfl⟩
  have hnn : n = nonceN X (bs t) := by rw [HN.out, HC.out, HFL.out, nonceN]
  have HNN := Lib.hid hnn
  clear hnn
  go_wp2_with fail
  refine (power_any n w4 (by omega)).mono ?_
  rintro e w6 ⟨r, HR, hr, rfl, hu6⟩
  go_wp2_with fail
  refine (power_any X w6 (by omega)).mono ?_
  rintro e w7 ⟨y, HY, hy, rfl, hu7⟩
  have hu8 := ((hu2.trans hu3).trans hu4).trans (hu6.trans hu7)
  go_wp2_with fail
  refine (challenge_any r y t w7 (by omega) (by omega) ht (htab.upd (hu0.trans hu8))).mono ?_
  rintro e w9 ⟨c2, HC2, hc2, rfl, hu9⟩
  have hu10 := hu8.trans hu9
  go_wp2_with fail
  refine (mul_any _ _ _ _ (by omega) (by omega) (by omega)).mono ?_
  rintro e w10 ⟨m1, HM1, m10, m11, rfl, rfl⟩
  go_wp2_with fail
  refine (add_any _ _ _ _ (by omega) (by omega) (by omega)).mono ?_
  rintro e w10 ⟨m2, HM2, m20, m21, rfl, rfl⟩
  obtain ⟨s, rfl⟩ : ∃ s : Nat, m2 = (s : Int) := ⟨m2.toNat, by omega⟩
  have hc9 : w9.heap[w.heap.size]? = some (.cells #[.int .i64 0, .int .i64 0] 31 (0, 0)) := by rw [hu10.block _ hg (by simp)]; exact HC0.out
  have k0 : w9.cell? ⟨w.heap.size, 0, none⟩ = some (.int .i64 0) := by rw [cell_of_row _ _ _ _ _ _ hc9]; rfl
  have k1 : w9.cell? ⟨w.heap.size, 1, none⟩ = some (.int .i64 0) := by rw [cell_of_row _ _ _ _ _ _ hc9]; rfl
  have f0 : w9.frozen? ⟨w.heap.size, 0, none⟩ = false := frozen_of_row _ _ _ _ _ hc9
  have f1 : w9.frozen? ⟨w.heap.size, 1, none⟩ = false := frozen_of_row _ _ _ _ _ hc9
  clear hc9
  go_wp2_with fail
  refine bodyPost_ret (v := .agg #[.int .i64 (r : Int), .int .i64 (s : Int)]) (by simp [results, Tryz.results32, go_sem, k0, k1]) rfl ⟨r, s, ?_, ?_, hr, by omega, rfl, ?_⟩
  · show _ = _
    rw [HR.out, HNN.out]
  · show _ = _
    have h2 := HM2.out
    rw [HM1.out, HC2.out, HR.out, HY.out, HNN.out] at h2
    rw [Int.add_emod_emod] at h2
    rw [sWith]
    have h3 : ((s : Nat) : Int) = (((nonceN X (bs t) + X * chalN (gP (nonceN X (bs t))) (gP X) (bs t)) % Qn : Nat) : Int) := by
      rw [h2]; simp [Qn]
    omega
  · exact ((hu0.trans hu10).setNew (p := ⟨_, _, none⟩) (Nat.le_refl _) _).setNew (p := ⟨_, _, none⟩) (Nat.le_refl _) _

theorem member_is (a : Int) (b : Bool) (w : World) (ha : -9223372036854775808 ≤ a ∧ a ≤ 9223372036854775807) (h : memB a = b) :
    Calls Tryz.prog 161 #[.int .i64 a] w (fun e w' => e = .returned (.bool b) ∧ Upd [] [] w w') := by
  refine (member_any a w ha).mono ?_
  rintro e w' ⟨r, HR, rfl, hu⟩
  exact ⟨by rw [HR.out, h], hu⟩

structure SigAt (w wp : World) (r s : Int) : Prop where
  up : Upd [] [] w wp
  row : wp.heap[w.heap.size]? = some (.cells #[.int .i64 r, .int .i64 s] 31 (0, 0))
theorem SigAt.start (w : World) (r s : Int) : SigAt w (w.alloc (.cells #[.int .i64 r, .int .i64 s] 31)) r s := ⟨(Upd.refl _ _).alloc _, heap_alloc_new _ _⟩
theorem SigAt.upd {w wp wq : World} {r s : Int} (h : SigAt w wp r s) (u : Upd [] [] wp wq) : SigAt w wq r s :=
  ⟨h.up.trans u, by rw [u.block _ (Array.getElem?_eq_some_iff.1 h.row).1 (by simp)]; exact h.row⟩
theorem SigAt.cells {w wp : World} {r s : Int} (h : SigAt w wp r s) : wp.cell? ⟨w.heap.size, 0, none⟩ = some (.int .i64 r) ∧ wp.cell? ⟨w.heap.size, 1, none⟩ = some (.int .i64 s) :=
  ⟨by rw [cell_of_row _ _ _ _ _ _ h.row]; rfl, by rw [cell_of_row _ _ _ _ _ _ h.row]; rfl⟩

set_option maxHeartbeats 1000000 in
theorem verify_any (p : Int) (t : ByteArray) (r s : Int) (w : World) (hp : -9223372036854775808 ≤ p ∧ p ≤ 9223372036854775807) (hr : -9223372036854775808 ≤ r ∧ r ≤ 9223372036854775807) (hs : -9223372036854775808 ≤ s ∧ s ≤ 9223372036854775807) (ht : t.size ≤ 140737488355000) (htab : Tabs w) :
    Calls Tryz.prog 124 #[.int .i64 p, .string t, .agg #[.int .i64 r, .int .i64 s]] w (MkB (verB p (bs t) r s) w) := by
  have hu0 : Upd [] [] w (w.alloc (.cells #[.int .i64 r, .int .i64 s] 31)) := (Upd.refl _ _).alloc _
  have hc0 : (w.alloc (.cells #[.int .i64 r, .int .i64 s] 31)).heap[w.heap.size]? = some (.cells #[.int .i64 r, .int .i64 s] 31 (0, 0)) := heap_alloc_new _ _
  have HC0 := Lib.hid hc0
  clear hc0
  have hg : w.heap.size < (w.alloc (.cells #[.int .i64 r, .int .i64 s] 31)).heap.size := by simp
  cases hm1 : memB p with
  | false =>
    have HV : Hid (verB p (bs t) r s = false) := by show _ = _; simp [verB, hm1]
    have HM1 := Lib.hid hm1
    clear hm1
    go_enter Tryz.func124, Tryz.ntmps124
    go_wp2_with fail
    refine (member_is p false _ hp HM1.out).mono ?_
    rintro e w1 ⟨rfl, hu1⟩
    go_wp2_with fail
    go_ret
    exact ⟨_, HV.out.symm, rfl, hu0.trans hu1⟩
  | true =>
  have HM1 := Lib.hid hm1
  cases hm2 : memB r with
  | false =>
    have HV : Hid (verB p (bs t) r s = false) := by show _ = _; simp [verB, hm2]
    have HM2 := Lib.hid hm2
    clear hm1 hm2
    go_enter Tryz.func124, Tryz.ntmps124
    go_wp2_with fail
    refine (member_is p true _ hp HM1.out).mono ?_
    rintro e w1 ⟨rfl, hu1⟩
    have hc1 : w1.heap[w.heap.size]? = some (.cells #[.int .i64 r, .int .i64 s] 31 (0, 0)) := by rw [hu1.block _ hg (by simp)]; exact HC0.out
    have k0 : w1.cell? ⟨w.heap.size, 0, none⟩ = some (.int .i64 r) := by rw [cell_of_row _ _ _ _ _ _ hc1]; rfl
    clear hc1
    go_wp2_with fail
    refine (member_is r false _ hr HM2.out).mono ?_
    rintro e w2 ⟨rfl, hu2⟩
    go_wp2_with fail
    go_ret
    exact ⟨_, HV.out.symm, rfl, (hu0.trans hu1).trans hu2⟩
  | true =>
  obtain ⟨P, rfl, hP⟩ := memB_pos hm1
  obtain ⟨R, rfl, hR⟩ := memB_pos hm2
  have HM2 := Lib.hid hm2
  clear hm1 hm2
  have hP2 : P < 2305843009213691579 := hP.2.1
  have hR2 : R < 2305843009213691579 := hR.2.1
  have HPR := Lib.hid (And.intro hP hR)
  clear hP hR
  by_cases hs0 : s < 0
  · have HV : Hid (verB (P : Int) (bs t) (R : Int) s = false) := by
      show _ = _
      have : decide (0 ≤ s) = false := by rw [decide_eq_false_iff_not]; omega
      simp [verB, this]
    go_enter Tryz.func124, Tryz.ntmps124
    go_wp2_with fail
    refine (member_is P true _ hp HM1.out).mono ?_
    rintro e w1 ⟨rfl, hu1⟩
    have h1 := (SigAt.start w R s).upd hu1
    obtain ⟨k0, k1⟩ := h1.cells
    go_wp2_with fail
    refine (member_is R true _ hr HM2.out).mono ?_
    rintro e w2 ⟨rfl, hu2⟩
    have h2 := h1.upd hu2
    clear h1 k0 k1
    obtain ⟨k0, k1⟩ := h2.cells
    go_wp2_with fail
    go_ret
    exact ⟨_, HV.out.symm, rfl, h2.up⟩
  by_cases hs1 : 1152921504606845788 < s
  · have HV : Hid (verB (P : Int) (bs t) (R : Int) s = false) := by
      show _ = _
      have : decide (s < 1152921504606845789) = false := by rw [decide_eq_false_iff_not]; omega
      simp [verB, this]
    go_enter Tryz.func124, Tryz.ntmps124
    go_wp2_with fail
    refine (member_is P true _ hp HM1.out).mono ?_
    rintro e w1 ⟨rfl, hu1⟩
    have h1 := (SigAt.start w R s).upd hu1
    obtain ⟨k0, k1⟩ := h1.cells
    go_wp2_with fail
    refine (member_is R true _ hr HM2.out).mono ?_
    rintro e w2 ⟨rfl, hu2⟩
    have h2 := h1.upd hu2
    clear h1 k0 k1
    obtain ⟨k0, k1⟩ := h2.cells
    go_wp2_with fail
    go_ret
    exact ⟨_, HV.out.symm, rfl, h2.up⟩
  obtain ⟨T, rfl⟩ : ∃ T : Nat, s = (T : Int) := ⟨s.toNat, by omega⟩
  go_enter Tryz.func124, Tryz.ntmps124
  go_wp2_with fail
  refine (member_is P true _ hp HM1.out).mono ?_
  rintro e w1 ⟨rfl, hu1⟩
  have h1 := (SigAt.start w R T).upd hu1
  obtain ⟨k0, k1⟩ := h1.cells
  go_wp2_with fail
  refine (member_is R true _ hr HM2.out).mono ?_
  rintro e w2 ⟨rfl, hu2⟩
  have h2 := h1.upd hu2
  clear h1 k0 k1
  obtain ⟨k0, k1⟩ := h2.cells
  go_wp2_with fail
  refine (challenge_any R P t w2 (by omega) (by omega) ht (htab.upd h2.up)).mono ?_
  rintro e w3 ⟨c, HC, hc, rfl, hu3⟩
  have h3 := h2.upd hu3
  clear h2 k0 k1
  have h4 := h3.upd (Upd.refl _ _).drew
  have k4 := h4.cells
  go_wp2_with fail
  clear h3 HC0
  go_region_held3 (fun wp => wp.cell? ⟨w.heap.size, 0, none⟩ = some (.int .i64 (R : Int)) ∧ wp.cell? ⟨w.heap.size, 1, none⟩ = some (.int .i64 (T : Int))) (first | exact k4 | assumption)
    (first
      | (go_at_call 62; ((with_reducible refine (power_any T _ (by omega)).mono ?_); rintro e wq ⟨y1, HY1, hy1, rfl, hq⟩; have g1 := h4.upd hq; have kq := g1.cells; clear hq))
      | (go_at_call 120; ((with_reducible refine (pow_any P 2305843009213691579 c _ (by omega) (by omega) (by omega)).mono ?_); rintro e wq ⟨y2, HY2, y20, y21, rfl, hq⟩; have g2 := g1.upd hq; have kq := g2.cells; clear hq))
      | (go_at_call 66; ((with_reducible refine (mul_any R y2 2305843009213691579 _ (by omega) (by omega) (by omega)).mono ?_); rintro e wq ⟨y3, HY3, y30, y31, rfl, rfl⟩)))
  go_wp2_with fail
  go_ret
  refine ⟨_, ?_, rfl, g2.up⟩
  show _ = _
  have e1 := HY3.out
  rw [HY2.out, HC.out] at e1
  have e2 : powZ 4 T 2305843009213691579 = ((gP T : Nat) : Int) := powZ_cast 4 T
  have e3 : decide (0 ≤ (T : Int)) = true := by rw [decide_eq_true_iff]; omega
  have e4 : decide ((T : Int) < 1152921504606845789) = true := by rw [decide_eq_true_iff]; omega
  unfold verB
  rw [HM1.out, HM2.out, e3, e4, Int.toNat_natCast, Int.toNat_natCast, Int.toNat_natCast, e2, ← e1, ← HY1.out]
  rfl
end Go.Proofs.YtcimcodljjcmgaaGreatDoor

namespace Go.Proofs.YtcimcodljjcmgaaGreatDoor
set_option maxRecDepth 100000
open Go

theorem parse_snoc (c : UInt8) (d : Nat) (hc : c.toNat = 48 + d) (hd : d < 10) : ∀ (l : List UInt8) (acc v : Nat), Lib.parseUint10 acc l = .ok v → v < 1844674407370955162 → v * 10 + d < 18446744073709551616 → Lib.parseUint10 acc (l ++ [c]) = .ok (v * 10 + d)
  | [], acc, v, h, h1, h2 => by
    simp only [Lib.parseUint10] at h
    injection h with h
    subst h
    simp only [List.nil_append, Lib.parseUint10]
    rw [if_pos (by omega), if_neg (by omega), if_neg (by omega), show c.toNat - 48 = d by omega]
  | x :: r, acc, v, h, h1, h2 => by
    simp only [List.cons_append, Lib.parseUint10] at h ⊢
    split at h
    · rename_i hx
      rw [if_pos hx]
      split at h
      · cases h
      · rename_i hy
        rw [if_neg hy]
        split at h
        · cases h
        · rename_i hz
          rw [if_neg hz]
          exact parse_snoc c d hc hd r _ v h h1 h2
    · cases h

theorem digit_toNat {d : Nat} (h : d < 10) : (UInt8.ofNat (48 + d)).toNat = 48 + d := by
  rw [UInt8.toNat_ofNat']; omega

theorem parse_dec : ∀ u : Nat, u < 18446744073709551616 → Lib.parseUint10 0 (Lib.decDigits u) = .ok u := by
  intro u
  induction u using Nat.strongRecOn with
  | ind u ih =>
    intro hu
    rw [Lib.decDigits]
    by_cases h : u < 10
    · rw [dif_pos h]
      simp only [Lib.parseUint10]
      rw [digit_toNat h, if_pos (by omega), if_neg (by omega), if_neg (by omega)]
      congr 1
      omega
    · rw [dif_neg h]
      have := parse_snoc _ (u % 10) (digit_toNat (by omega)) (by omega) (Lib.decDigits (u / 10)) 0 (u / 10) (ih (u / 10) (by omega) (by omega)) (by omega) (by omega)
      rw [this]
      congr 1
      omega

theorem dec_digits : ∀ (u : Nat), ∀ c ∈ Lib.decDigits u, 48 ≤ c.toNat ∧ c.toNat ≤ 57 := by
  intro u
  induction u using Nat.strongRecOn with
  | ind u ih =>
    intro c hc
    rw [Lib.decDigits] at hc
    by_cases h : u < 10
    · rw [dif_pos h] at hc
      simp only [List.mem_singleton] at hc
      subst hc
      rw [digit_toNat h]; omega
    · rw [dif_neg h] at hc
      simp only [List.mem_append, List.mem_singleton] at hc
      rcases hc with hc | hc
      · exact ih (u / 10) (by omega) c hc
      · subst hc
        rw [digit_toNat (by omega)]; omega

theorem dec_ne (u : Nat) : Lib.decDigits u ≠ [] := by
  rw [Lib.decDigits]
  split <;> simp

def i64in (n : Int) : Prop := -9223372036854775808 ≤ n ∧ n ≤ 9223372036854775807

theorem atoi_itoa (n : Int) (h : i64in n) : Lib.atoiAll (Lib.itoa n) = .ok n := by
  unfold i64in at h
  unfold Lib.itoa
  split
  · rename_i hn
    rw [Lib.atoiAll_minus, Lib.parseMag, if_neg (dec_ne _), parse_dec _ (by omega), Lib.signed, if_neg (by omega)]
    congr 1
    omega
  · rename_i hn
    obtain ⟨c, r, hcr⟩ : ∃ c r, Lib.decDigits n.toNat = c :: r := by
      cases hd : Lib.decDigits n.toNat with
      | nil => exact absurd hd (dec_ne _)
      | cons c r => exact ⟨c, r, rfl⟩
    have hc := dec_digits n.toNat c (by rw [hcr]; simp)
    rw [hcr, Lib.atoiAll_plain c r (by omega) (by omega), ← hcr, Lib.parseMag, if_neg (dec_ne _), parse_dec _ (by omega), Lib.signless, if_neg (by omega)]
    congr 1
    omega

theorem itoa_inj {a b : Int} (ha : i64in a) (hb : i64in b) (h : Lib.itoa a = Lib.itoa b) : a = b := by
  have h1 := atoi_itoa a ha
  rw [h, atoi_itoa b hb] at h1
  injection h1 with h1
  exact h1.symm

theorem dec_len : ∀ (k u : Nat), u < 10 ^ (k + 1) → (Lib.decDigits u).length ≤ k + 1
  | 0, u, h => by
    rw [Lib.decDigits, dif_pos (by simpa using h)]; simp
  | k + 1, u, h => by
    rw [Lib.decDigits]
    split
    · simp
    · have := dec_len k (u / 10) (by rw [Nat.pow_succ] at h; omega)
      simp; omega

theorem itoa_len (n : Int) (h : i64in n) : (Lib.itoa n).length ≤ 20 := by
  unfold i64in at h
  unfold Lib.itoa
  have e : (10 : Nat) ^ 19 = 10000000000000000000 := by decide
  split
  · have := dec_len 18 n.natAbs (by rw [e]; omega)
    simp; omega
  · have := dec_len 18 n.toNat (by rw [e]; omega)
    omega

theorem index_hit1 (c : UInt8) : ∀ (a b : List UInt8), c ∉ a → Lib.index (a ++ c :: b) [c] = (a.length : Int)
  | [], b, _ => by simp [Lib.index]
  | x :: a, b, h => by
    have hx : c ≠ x := fun e => h (by simp [e])
    have ih := index_hit1 c a b (fun e => h (by simp [e]))
    simp only [List.cons_append, Lib.index]
    rw [ih]
    have h1 : ([c] : List UInt8).isPrefixOf (x :: (a ++ c :: b)) = false := by simp [List.isPrefixOf, hx]
    have h2 : ((a.length : Int) == -1) = false := by rw [beq_eq_false_iff_ne]; omega
    rw [h1, h2]
    simp
theorem index_miss1 (c : UInt8) : ∀ (a : List UInt8), c ∉ a → Lib.index a [c] = -1
  | [], _ => rfl
  | x :: a, h => by
    have hx : c ≠ x := fun e => h (by simp [e])
    have ih := index_miss1 c a (fun e => h (by simp [e]))
    simp only [Lib.index]
    rw [ih]
    have h1 : ([c] : List UInt8).isPrefixOf (x :: a) = false := by simp [List.isPrefixOf, hx]
    rw [h1]
    simp

theorem cut_hit (c : UInt8) (a b : List UInt8) (h : c ∉ a) : Lib.cut (a ++ c :: b) [c] = (a, b, true) := by
  unfold Lib.cut
  rw [index_hit1 c a b h, if_pos (by omega), Int.toNat_natCast]
  have h1 : (a ++ c :: b).take a.length = a := List.take_left
  have h2 : (a ++ c :: b).drop (a.length + [c].length) = b := by
    rw [show a ++ c :: b = (a ++ [c]) ++ b by simp, show a.length + [c].length = (a ++ [c]).length by simp]
    exact List.drop_left
  rw [h1, h2]
theorem cut_miss (c : UInt8) (a : List UInt8) (h : c ∉ a) : Lib.cut a [c] = (a, [], false) := by
  unfold Lib.cut
  rw [index_miss1 c a h, if_neg (by omega)]

end Go.Proofs.YtcimcodljjcmgaaGreatDoor
