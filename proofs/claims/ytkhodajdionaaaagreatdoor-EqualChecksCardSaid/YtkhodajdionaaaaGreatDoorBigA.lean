/- sortesref01: Canon, Int, Of, small. -/
import Derived.Test.YtkhodajdionaaaaGreatDoorRows
import Derived.Test.YtkhodajdionaaaaGreatDoorBigP
import Derived.Test.YtkhodajdionaaaaGreatDoorCont
import Derived.Test.YtkhodajdionaaaaGreatDoorSgnA
import Derived.Test.YtkhodajdionaaaaGreatDoorRSgnA
namespace Go.Proofs.YtkhodajdionaaaaGreatDoor
open Go.RowKit
set_option maxRecDepth 100000

/-- It returns the bytes of a number; the world is as it was. -/
def RetNat (n : Nat) (w : World) (e : Ending) (w' : World) : Prop := ∃ r : ByteArray, Hid (bs r = be n) ∧ e = .returned (.string r) ∧ w = w'
/-- The same; only new blocks have come. -/
def MkNat (n : Nat) (w : World) (e : Ending) (w' : World) : Prop := ∃ r : ByteArray, Hid (bs r = be n) ∧ e = .returned (.string r) ∧ Upd [] [] w w'

theorem u8_zero {b : UInt8} (h : (b.toNat : Int) = 0) : b = 0 := UInt8.toNat_inj.1 (by have : (0 : UInt8).toNat = 0 := rfl; omega)
theorem bs_get (s : ByteArray) (k : Nat) (h : k < s.size) : (bs s)[k]? = some s[k] := by
  have : k < (bs s).length := h
  rw [List.getElem?_eq_getElem this]; rfl

theorem bs_cons' (s : ByteArray) (h : 0 < s.size) : bs s = s[0] :: (bs s).drop 1 := by
  have h2 : 0 < (bs s).length := h
  exact List.drop_eq_getElem_cons h2

theorem canon_any (s : ByteArray) (w : World) (hs : s.size ≤ 1000000000000) : Calls Tryz.prog 100 #[.string s] w (RetNat (natB (bs s)) w) := by
  go_enter Tryz.func100, Tryz.ntmps100
  go_wp2_with fail
  go_loop [3] (fun i => ∃ k : Nat, i = .int .i64 (k : Int) ∧ k ≤ s.size ∧ Hid (canonL ((bs s).drop k) = canonL (bs s))) (fun i => s.size - (intOf i).toNat)
  case atStart => exact ⟨0, rfl, Nat.zero_le _, rfl⟩
  case round =>
    obtain ⟨k, rfl, hk, HK⟩ := hrel
    by_cases hlt : k < s.size
    · by_cases h0 : (s[k].toNat : Int) = 0
      · have hb : ((s[k].toNat : Int) == 0) = true := by rw [beq_iff_eq]; exact h0
        have hst : canonL ((bs s).drop (k + 1)) = canonL (bs s) := by
          rw [← canon_step (by rw [bs_get s k hlt, u8_zero h0]), HK.out]
        have HST := Lib.hid hst
        clear hst h0
        go_wp2_with fail
        exact ⟨⟨k + 1, by go_num, by omega, HST.out⟩, by simp [intOf]; omega⟩
      · have hb : ((s[k].toNat : Int) == 0) = false := by rw [beq_eq_false_iff_ne]; exact h0
        have hst : (bs s).drop k = be (natB (bs s)) := by
          rw [← canon_be, ← HK.out, canon_stop (bs_get s k hlt) (fun e => h0 (by rw [e]; rfl))]
        have HST := Lib.hid hst
        clear hst h0
        go_wp2_with fail
        go_ret
        refine ⟨s.extract k s.size, ?_, rfl, rfl⟩
        show _ = _
        rw [bs_extract, HST.out, ← HST.out, List.take_of_length_le (by simp [bs_length])]
    · obtain rfl : k = s.size := by omega
      have hst : be (natB (bs s)) = [] := by
        rw [← canon_be, ← HK.out, List.drop_of_length_le (by simp [bs_length])]
        rfl
      have HST := Lib.hid hst
      clear hst
      go_wp2_with fail
      go_ret
      refine ⟨ByteArray.empty, ?_, rfl, rfl⟩
      show _ = _
      rw [HST.out]
      rfl

theorem size_of_be {r : ByteArray} {x : Nat} (h : bs r = be x) : r.size = (be x).length := by rw [← h, bs_length]

set_option maxHeartbeats 1000000 in
theorem int_any (s : ByteArray) (x : Nat) (w : World) (hs : s.size ≤ 1000000000000) (hx : x = natB (bs s)) (hb : x < 9223372036854775808) :
    Calls Tryz.prog 102 #[.string s] w (fun e w' => e = .returned (.tuple #[.int .i64 (x : Int), .bool true]) ∧ w = w') := by
  have HX := Lib.hid hx
  clear hx
  go_enter Tryz.func102, Tryz.ntmps102
  go_wp2_with fail
  refine (canon_any s w hs).mono ?_
  rintro e w' ⟨r, HR, rfl, rfl⟩
  have hr : bs r = be x := by rw [HR.out, HX.out]
  have hl : r.size ≤ 8 := by
    rw [size_of_be hr]
    exact be_len_le 8 x (Nat.lt_trans hb (by decide))
  have HRR := Lib.hid hr
  clear HR
  have hnat : natB (bs r) = x := by rw [hr, natB_be]
  have HN := Lib.hid hnat
  clear hr
  by_cases h8 : r.size = 8
  case' pos =>
    have hg : 0 < r.size := by omega
    have h0 : (r[0]'hg).toNat ≤ 127 := by
      have h1 := natB_cons (r[0]'hg) ((bs r).drop 1)
      have h2 := bs_cons' r hg
      have h3 : (bs r).length = 8 := h8
      rw [← h2, hnat, List.length_drop, h3] at h1
      have e : (256 : Nat) ^ (8 - 1) = 72057594037927936 := by decide
      rw [e] at h1
      omega
    have hb8 : ((r.size : Int) == 8) = true := by rw [beq_iff_eq]; omega
  case' neg =>
    have hb8 : ((r.size : Int) == 8) = false := by rw [beq_eq_false_iff_ne]; omega
  all_goals
    clear hnat h8
    go_wp2_with fail
    go_loop [4, 5] (fun n i => ∃ k m : Nat, n = .int .i64 (m : Int) ∧ i = .int .i64 (k : Int) ∧ k ≤ r.size ∧ m ≤ x ∧ Hid (m = natB ((bs r).take k))) (fun _ i => r.size - (intOf i).toNat)
    case atStart => exact ⟨0, 0, rfl, rfl, Nat.zero_le _, Nat.zero_le _, rfl⟩
    case round =>
      obtain ⟨k, m, rfl, rfl, hk, hm, HM⟩ := hrel
      by_cases hlt : k < r.size
      · have hst : natB ((bs r).take (k + 1)) = m * 256 + r[k].toNat := by
          rw [take_step (bs_get r k hlt), natB_snoc, ← HM.out]
        have hle : m * 256 + r[k].toNat ≤ x := by
          rw [← hst, ← HN.out]
          exact natB_take_le _ _
        have HST := Lib.hid hst
        have h1 : (m : Int) * 256 ≤ 9223372036854775807 := by omega
        have h2 : (m : Int) * 256 + (r[k].toNat : Int) ≤ 9223372036854775807 := by omega
        clear hst
        go_wp2_with fail
        exact ⟨⟨k + 1, m * 256 + r[k].toNat, by go_num, by go_num, by omega, hle, HST.out.symm⟩, by simp [intOf]; omega⟩
      · obtain rfl : k = r.size := by omega
        have hmx : m = x := by rw [HM.out, List.take_of_length_le (by simp [bs_length]), HN.out]
        have HMX := Lib.hid hmx
        clear hmx
        go_wp2_with fail
        go_ret2
        refine ⟨?_, rfl⟩
        rw [HMX.out]
        rfl

theorem small_ok (s : ByteArray) (x : Nat) (w : World) (hs : s.size ≤ 1000000000000) (hx : x = natB (bs s)) (hb : (be x).length ≤ 7) :
    Calls Tryz.prog 119 #[.string s, .int .i64 7] w (fun e w' => e = .returned (.tuple #[.int .i64 (x : Int), .bool true]) ∧ w = w') := by
  have HX := Lib.hid hx
  clear hx
  have hlt : x < 9223372036854775808 := by
    have := be_small hb
    have e : (256 : Nat) ^ 7 = 72057594037927936 := by decide
    omega
  go_enter Tryz.func119, Tryz.ntmps119
  go_wp2_with fail
  refine (canon_any s w hs).mono ?_
  rintro e w' ⟨r, HR, rfl, rfl⟩
  have hl : r.size ≤ 7 := by
    have := size_of_be HR.out
    rw [← HX.out] at this
    omega
  clear hb
  go_wp2_with fail
  refine (int_any s x w hs HX.out hlt).mono ?_
  rintro e w' ⟨rfl, rfl⟩
  go_wp2_with fail
  go_ret2
  exact ⟨rfl, rfl⟩
theorem small_big (s : ByteArray) (x : Nat) (w : World) (hs : s.size ≤ 1000000000000) (hx : x = natB (bs s)) (hb : 7 < (be x).length) :
    Calls Tryz.prog 119 #[.string s, .int .i64 7] w (fun e w' => e = .returned (.tuple #[.int .i64 0, .bool false]) ∧ w = w') := by
  have HX := Lib.hid hx
  clear hx
  go_enter Tryz.func119, Tryz.ntmps119
  go_wp2_with fail
  refine (canon_any s w hs).mono ?_
  rintro e w' ⟨r, HR, rfl, rfl⟩
  have hl : 7 < r.size := by
    have := size_of_be HR.out
    rw [← HX.out] at this
    omega
  clear hb
  go_wp2_with fail
  go_ret2
  exact ⟨rfl, rfl⟩

set_option maxHeartbeats 1000000 in
theorem of_int (n : Nat) (w : World) (hn : n < 9223372036854775808) : Calls Tryz.prog 87 #[.int .i64 (n : Int)] w (MkNat n w) := by
  by_cases h0 : 0 < n
  case neg =>
    obtain rfl : n = 0 := by omega
    go_enter Tryz.func87, Tryz.ntmps87
    go_wp2_with fail
    go_loop [3, 4] (fun t i => t = .slice none 0 0 ∧ i = .int .i64 56) (fun _ _ => 0)
    case atStart => exact ⟨rfl, rfl⟩
    case round =>
      obtain ⟨rfl, rfl⟩ := hrel
      have hcv := conv_row (P := Tryz.prog) w 100 112 5 Tryz.underlying100 Tryz.underlying5 Tryz.underlying112 (.slice none 0 0) [] (World.ownsRow_nil _ _ _ _)
      have HCV := Lib.hid hcv
      clear hcv
      go_wp2_with fail
      rw [HCV.out]
      go_wp2_with fail
      refine (canon_any _ w (by decide)).mono ?_
      rintro e w' ⟨r, HR, rfl, rfl⟩
      go_wp2_with fail
      go_ret
      exact ⟨r, HR, rfl, Upd.refl _ _⟩
  go_enter Tryz.func87, Tryz.ntmps87
  go_wp2_with fail
  go_loopw [3, 4] (fun t i wr => ∃ (k : Nat) (z : Int), i = .int .i64 z ∧ z = 56 - 8 * (k : Int) ∧ k ≤ 8 ∧ Hid (wr.ownsRow 0 5 1 t k (byteVals ((len8 n).take k))) ∧ Hid (Upd [] (foot t) w wr)) (fun _ i _ => (intOf i + 8).toNat)
  case atStart => exact ⟨0, 56, rfl, rfl, Nat.zero_le _, ⟨by simp [byteVals], .inl ⟨rfl, rfl⟩⟩, Upd.refl _ _⟩
  case round =>
    obtain ⟨k, z, rfl, hz, hk, HR, HU⟩ := hrel
    by_cases hlt : k < 8
    · obtain ⟨m, rfl⟩ : ∃ m : Nat, z = (m : Int) := ⟨(56 - 8 * k), by omega⟩
      obtain ⟨b, hb⟩ : ∃ b, b = UInt8.ofNat (n / 2 ^ m) := ⟨_, rfl⟩
      have hb1 : (n : Int) / 2 ^ m % 256 = (b.toNat : Int) := by
        have : (UInt8.ofNat (n / 2 ^ m)).toNat = n / 2 ^ m % 256 := by simp
        rw [hb, this]
        simp
      have hm7 : m ≤ 56 := by omega
      have hl : (len8 n).take (k + 1) = (len8 n).take k ++ [b] := by
        rw [List.take_succ_eq_append_getElem (by rw [len8_length]; omega)]
        congr 1
        rw [hb]
        have hm : m = 8 * (7 - k) := by omega
        simp [len8, hm]
      have HL := Lib.hid hl
      have HMZ := Lib.hid hz
      have hown := HR.out
      have hup := HU.out
      have hrow : (wr.alloc (.cells #[.int .u8 (b.toNat : Int)] 5)).ownsRow 0 5 1 u3 k (byteVals ((len8 n).take k)) := row_same hown (fun j hj => Below.heap_alloc _ _ _ (row_foot_lt hown j hj))
      have hw1 : (wr.alloc (.cells #[.int .u8 (b.toNat : Int)] 5)).heap[wr.heap.size]? = some (.cells #[.int .u8 (b.toNat : Int)] 5 (0, 0)) := heap_alloc_new _ _
      obtain ⟨iu, u1, u2, u3', u4⟩ := u8_parts
      obtain ⟨v', w', hrun, hown', hup'⟩ := append_block (P := Tryz.prog) (wr.alloc (.cells #[.int .u8 (b.toNat : Int)] 5)) 100 100 5 iu (.int .u8 0) 1 1 Tryz.underlying100 u1 u2 u3' u4 rfl (by omega) u3 k _ hrow ⟨wr.heap.size, 0, none⟩ 1 1 [byteV b] rfl (by
        intro j u hj
        have : j = 0 := by
          cases j with
          | zero => rfl
          | succ j => simp at hj
        subst this
        simp only [List.getElem?_cons_zero, Option.some.injEq] at hj
        subst hj
        have e : (⟨wr.heap.size, 0, none⟩ : Addr).add 0 = ⟨wr.heap.size, 0, none⟩ := by simp [Addr.add]
        rw [e, cell_of_row _ _ _ _ _ _ hw1]
        rfl) (byteVals_one [b]) (by omega) (by simp only [maxLen]; omega)
      have HRUN := Lib.hid hrun
      have HOWN := Lib.hid hown'
      have HUP := Lib.hid ((hup.alloc (.cells #[.int .u8 (b.toNat : Int)] 5)).trans hup')
      clear u1 u2 u3' u4
      clear hb hz hl hown hup hrow hw1 hrun hown' hup' HR HU
      go_wp2_with (refine wpList_append_run _ rfl _ _ _ _ rfl _ _ v' w' rfl rfl HRUN.out ?_)
      refine ⟨⟨k + 1, _, rfl, ?_, by omega, ?_, HUP.out⟩, ?_⟩
      · have := HMZ.out; omega
      · show World.ownsRow _ _ _ _ _ _ _
        rw [HL.out, byteVals_append]
        exact HOWN.out
      · first | (simp [intOf]; done) | (simp [intOf]; omega)
    · obtain rfl : z = -8 := by omega
      have hk8 : k = 8 := by omega
      have hown := HR.out
      rw [hk8, List.take_of_length_le (by rw [len8_length]; omega)] at hown
      have hcv := conv_row (P := Tryz.prog) wr 100 112 5 Tryz.underlying100 Tryz.underlying5 Tryz.underlying112 u3 (len8 n) (by rw [len8_length]; exact hown)
      have HCV := Lib.hid hcv
      clear hlt hz hk hk8 hown hcv HR
      go_wp2_with fail
      rw [HCV.out]
      go_wp2_with fail
      refine (canon_any _ wr (by show (len8 n).length ≤ _; rw [len8_length]; omega)).mono ?_
      rintro e w' ⟨r, HR, rfl, rfl⟩
      go_wp2_with fail
      go_ret
      refine ⟨r, ?_, rfl, HU.out.mono (fun _ h => h) (fun _ h => absurd h (by simp))⟩
      show _ = _
      rw [HR.out, bs_mk, natB_len8 n (by omega)]
end Go.Proofs.YtkhodajdionaaaaGreatDoor
