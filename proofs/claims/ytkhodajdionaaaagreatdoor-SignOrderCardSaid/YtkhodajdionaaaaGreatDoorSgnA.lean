/- sign.bytes, positive, power, scalar, challenge, Key. -/
import Derived.Test.YtkhodajdionaaaaGreatDoorSPlain
namespace Go.Proofs.YtkhodajdionaaaaGreatDoor
open Go.RowKit
set_option maxRecDepth 100000

/-- It returns a text that is l; only new blocks have come. -/
def MkS (l : List UInt8) (w : World) (e : Ending) (w' : World) : Prop := ∃ r : ByteArray, Hid (bs r = l) ∧ r.size ≤ l.length ∧ e = .returned (.string r) ∧ Upd [] [] w w'
theorem bs_size {r : ByteArray} {l : List UInt8} (h : bs r = l) : r.size = l.length := by rw [← h, bs_length]

theorem bytes_any (n : Nat) (w : World) (_hn : n ≤ 9223372036854775807) : Calls Tryz.prog 74 #[.int .i64 (n : Int)] w (MkS (len8 n) w) := by
  have hw1 : (w.alloc (.cells (byteVals (List.replicate 8 0)).toArray 114)).heap[w.heap.size]? = some (.cells (byteVals (List.replicate 8 0)).toArray 114 (0, 0)) := heap_alloc_new _ _
  have hu1 : Upd [] [] w (w.alloc (.cells (byteVals (List.replicate 8 0)).toArray 114)) := (Upd.refl _ _).alloc _
  have HW1 := Lib.hid hw1
  clear hw1
  go_enter Tryz.func74, Tryz.ntmps74
  go_wp2_with fail
  go_loopw [5] (fun i wr => ∃ k : Nat, i = .int .i64 (k : Int) ∧ k ≤ 8 ∧ Hid (wr.heap[w.heap.size]? = some (.cells (byteVals ((len8 n).take k ++ List.replicate (8 - k) 0)).toArray 114 (0, 0))) ∧ Upd [] [] w wr) (fun i _ => 8 - (intOf i).toNat)
  case atStart => exact ⟨0, rfl, Nat.zero_le _, HW1.out, hu1⟩
  case round =>
    clear HW1 hu1
    obtain ⟨k, rfl, hk, HR, hu⟩ := hrel
    by_cases hlt : k < 8
    · have q1 : ∃ v0, wr.cell? ⟨w.heap.size, k, none⟩ = some v0 := by
        rw [cell_of_row wr w.heap.size k _ _ _ HR.out]
        exact ⟨_, Array.getElem?_eq_getElem (by simp [byteVals, len8]; omega)⟩
      obtain ⟨v0, q1⟩ := q1
      have q2 : wr.frozen? ⟨w.heap.size, k, none⟩ = false := frozen_of_row wr w.heap.size k _ _ HR.out
      have h3 := heap_setCell_same wr w.heap.size k _ _ (byteV (UInt8.ofNat (n / 2 ^ (8 * (7 - k))))) HR.out
      rw [len8_step n k hlt] at h3
      have H3 := Lib.hid h3
      have HU3 := Lib.hid (hu.setNew (p := ⟨w.heap.size, k, none⟩) (Nat.le_refl _) (byteV (UInt8.ofNat (n / 2 ^ (8 * (7 - k))))))
      clear h3
      have hk8 : 56 - 8 * k = 8 * (7 - k) := by omega
      go_wp2_with fail
      go_roundw
      case rel => exact ⟨k + 1, by go_num, by omega, by rw [len8_val]; exact H3.out, by rw [len8_val]; exact HU3.out⟩
      case measure => simp [intOf]; omega
    · obtain rfl : k = 8 := by omega
      have hR := HR.out
      rw [List.take_of_length_le (by rw [len8_length]; omega)] at hR
      simp only [Nat.sub_self, List.replicate_zero, List.append_nil] at hR
      have hcv := conv_bytes (P := Tryz.prog) wr 100 9 5 Tryz.underlying100 Tryz.underlying5 Tryz.underlying9 w.heap.size _ _ _ hR (len8 n) (by rw [List.take_of_length_le (by simp [byteVals])]) 0 8 8 (by rw [len8_length]; omega)
      have HCV := Lib.hid hcv
      clear hcv hR
      go_wp2_with fail
      rw [HCV.out]
      go_wp2_with fail
      go_ret
      refine ⟨⟨(len8 n).toArray⟩, rfl, ?_, ?_, hu⟩
      · exact Nat.le_refl _
      · rw [List.take_of_length_le (by rw [len8_length]; omega)]
        rfl

theorem positive_any (n : Nat) (w : World) : Calls Tryz.prog 62 #[.int .i64 (n : Int)] w (Ret (.int .i64 (posN n : Int)) w) := by
  by_cases h : n = 0
  · subst h
    go_enter Tryz.func62, Tryz.ntmps62
    go_wp2_with fail
    go_ret
    exact ⟨rfl, rfl⟩
  · have hp : posN n = n := by simp [posN, h]
    have HP := Lib.hid hp
    have h1 : 0 < n := by omega
    clear h hp
    go_enter Tryz.func62, Tryz.ntmps62
    go_wp2_with fail
    go_ret
    exact ⟨by rw [HP.out]; rfl, rfl⟩

theorem power_any (n : Nat) (w : World) (hn : n ≤ 9223372036854775807) : Calls Tryz.prog 57 #[.int .i64 (n : Int)] w (MkN 2305843009213691579 (gP n) w) := by
  go_enter Tryz.func57, Tryz.ntmps57
  go_wp2_with fail
  refine (pow_any 4 2305843009213691579 n w (by omega) hn (by omega)).mono ?_
  rintro e w1 ⟨r, HR, r0, r1, rfl, hu⟩
  obtain ⟨m, rfl⟩ : ∃ m : Nat, r = (m : Int) := ⟨r.toNat, by omega⟩
  go_wp2_with fail
  go_ret
  refine ⟨m, ?_, by omega, rfl, hu⟩
  show _ = _
  have h := HR.out
  have h2 : powZ 4 n 2305843009213691579 = ((gP n : Nat) : Int) := powZ_cast 4 n
  rw [h2] at h
  omega

theorem join_nil (xs : List (List UInt8)) : Lib.join xs [] = xs.flatten := by
  unfold Lib.join
  induction xs with
  | nil => rfl
  | cons x r ih =>
    cases r with
    | nil => simp
    | cons y r => simpa [List.intercalate] using ih

/-- Texts in the cells of a block. -/
def StrsIn (w : World) (g : Nat) (xs : List ByteArray) : Prop := g < w.heap.size ∧ ∀ (j : Nat) x, xs[j]? = some x → w.cell? ⟨g, 0 + j, none⟩ = some (.string x)

theorem sScalar_any (xs : List ByteArray) (g c : Nat) (w : World) (hx : StrsIn w g xs) (hc : xs.length ≤ c) (hN : xs.length ≤ 1000) (hl : (xs.map bs).flatten.length ≤ 140737488355328) (htab : Tabs w) :
    Calls Tryz.prog 63 #[.slice (some ⟨g, 0, none⟩) xs.length c] w (MkN 1152921504606845789 (scalN (xs.map bs).flatten) w) := by
  have hj : Lib.join (xs.map (·.data.toList)) (ByteArray.mk #[]).data.toList = (xs.map bs).flatten := join_nil _
  have HJ := Lib.hid hj
  have HX := Lib.hid hx
  clear hj hx
  go_enter Tryz.func63, Tryz.ntmps63
  go_wp2_with fail
  refine (Tryz.strings_Join g 0 c xs ⟨#[]⟩ w HX.out.2 HX.out.1 (by omega) hc (by rw [HJ.out]; omega)).mono ?_
  rintro e w1 ⟨rfl, hb⟩
  have hu := upd_of_below hb
  clear hb
  rw [HJ.out]
  obtain ⟨T, hT⟩ : ∃ T : ByteArray, T = ⟨(xs.map bs).flatten.toArray⟩ := ⟨_, rfl⟩
  rw [← hT]
  have hTb : bs T = (xs.map bs).flatten := by rw [hT, bs_mk]
  have hTl : T.size ≤ 140737488355328 := by rw [bs_size hTb]; exact hl
  have HTB := Lib.hid hTb
  clear hT hTb
  go_wp2_with fail
  refine (gScalar_any T w1 (by omega) (htab.upd hu)).mono ?_
  rintro e w2 ⟨r, HR, hr, rfl, hu2⟩
  go_wp2_with fail
  go_ret
  refine ⟨r, ?_, hr, rfl, hu.trans hu2⟩
  show _ = _
  rw [HR.out, HTB.out]

theorem strs2 (w : World) (a b : ByteArray) (t : TypeId) : StrsIn (w.alloc (.cells #[.string a, .string b] t)) w.heap.size [a, b] := by
  refine ⟨by simp, fun j x h => ?_⟩
  rw [cell_of_row _ w.heap.size _ #[.string a, .string b] t (0, 0) (heap_alloc_new _ _)]
  match j, h with
  | 0, h => simp at h; subst h; rfl
  | 1, h => simp at h; subst h; rfl
  | n + 2, h => simp at h
theorem strs3 (w : World) (a b c : ByteArray) (t : TypeId) : StrsIn (w.alloc (.cells #[.string a, .string b, .string c] t)) w.heap.size [a, b, c] := by
  refine ⟨by simp, fun j x h => ?_⟩
  rw [cell_of_row _ w.heap.size _ #[.string a, .string b, .string c] t (0, 0) (heap_alloc_new _ _)]
  match j, h with
  | 0, h => simp at h; subst h; rfl
  | 1, h => simp at h; subst h; rfl
  | 2, h => simp at h; subst h; rfl
  | n + 3, h => simp at h
theorem strs4 (w : World) (a b c d : ByteArray) (t : TypeId) : StrsIn (w.alloc (.cells #[.string a, .string b, .string c, .string d] t)) w.heap.size [a, b, c, d] := by
  refine ⟨by simp, fun j x h => ?_⟩
  rw [cell_of_row _ w.heap.size _ #[.string a, .string b, .string c, .string d] t (0, 0) (heap_alloc_new _ _)]
  match j, h with
  | 0, h => simp at h; subst h; rfl
  | 1, h => simp at h; subst h; rfl
  | 2, h => simp at h; subst h; rfl
  | 3, h => simp at h; subst h; rfl
  | n + 4, h => simp at h

theorem challenge_any (r p : Nat) (t : ByteArray) (w : World) (hr : r ≤ 9223372036854775807) (hp : p ≤ 9223372036854775807) (ht : t.size ≤ 140737488355000) (htab : Tabs w) :
    Calls Tryz.prog 56 #[.int .i64 (r : Int), .int .i64 (p : Int), .string t] w (MkN 1152921504606845789 (chalN r p (bs t)) w) := by
  go_enter Tryz.func56, Tryz.ntmps56
  go_wp2_with fail
  refine (bytes_any r w hr).mono ?_
  rintro e w1 ⟨b1, HB1, b1l, rfl, hu1⟩
  go_wp2_with fail
  refine (bytes_any p w1 hp).mono ?_
  rintro e w2 ⟨b2, HB2, b2l, rfl, hu2⟩
  have hu := hu1.trans hu2
  go_wp2_with fail
  have hst := strs4 w2 ⟨#[99]⟩ b1 b2 t 9
  have hu0 : Upd [] [] w2 (w2.alloc (.cells #[.string ⟨#[99]⟩, .string b1, .string b2, .string t] 9)) := (Upd.refl _ _).alloc _
  have HST := Lib.hid hst
  have HFL : Hid ((([⟨#[99]⟩, b1, b2, t] : List ByteArray).map bs).flatten = [99] ++ len8 r ++ len8 p ++ bs t) := by
    show _ = _
    simp [HB1.out, HB2.out]
    rfl
  clear hst
  refine (sScalar_any [⟨#[99]⟩, b1, b2, t] w2.heap.size _ _ HST.out (by simp) (by simp) (by rw [HFL.out]; simp [bs_length, len8_length]; omega) (htab.upd (hu.trans hu0))).mono ?_
  rintro e w3 ⟨c, HC, hc, rfl, hu3⟩
  go_wp2_with fail
  go_ret
  exact ⟨c, by show _ = _; rw [HC.out, HFL.out, chalN], hc, rfl, (hu.trans hu0).trans hu3⟩
end Go.Proofs.YtkhodajdionaaaaGreatDoor
