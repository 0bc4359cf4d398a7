/- sortesref03.rot, rounds, padded. -/
import Derived.Test.YtkhodajdionaaaaGreatDoorShaD
namespace Go.Proofs.YtkhodajdionaaaaGreatDoor
open Go.RowKit
set_option maxRecDepth 100000

theorem rrot_any (x : W32) (n : Nat) (w : World) (hn : 1 ≤ n ∧ n ≤ 31) :
    Calls Tryz.prog 99 #[.int .u32 (x.toNat : Int), .int .i64 (n : Int)] w (DrawnTo (.int .u32 ((rotR x n).toNat : Int)) w) := by
  obtain ⟨l1, el1, dl1⟩ : ∃ l : W32, (x.toNat : Int) / 2 ^ n = (l.toNat : Int) ∧ Hid (l = x >>> n) := ⟨_, shr_w _ _, rfl⟩
  obtain ⟨l2, el2, dl2⟩ : ∃ l : W32, (x.toNat : Int) * 2 ^ (32 - n) % 4294967296 = (l.toNat : Int) ∧ Hid (l = x <<< (32 - n)) := ⟨_, shl_w _ _, rfl⟩
  obtain ⟨l3, el3, dl3⟩ : ∃ l : W32, bits .or .u32 (l1.toNat : Int) (l2.toNat : Int) = (l.toNat : Int) ∧ Hid (l = l1 ||| l2) := ⟨_, or_w _ _, rfl⟩
  obtain ⟨m, hm⟩ : ∃ m : Nat, m = 32 - n := ⟨_, rfl⟩
  rw [← hm] at el2
  have i1 : IntKind.i64.wrap (32 - (n : Int)) = (m : Int) := by rw [wrap_in (by omega) (by omega)]; omega
  have m0 : m ≤ 31 := by omega
  have e : rotR x n = l3 := by rw [rotR, dl3.out, dl1.out, dl2.out]
  rw [e]
  clear e hm dl1 dl2 dl3
  go_enter Tryz.func99, Tryz.ntmps99
  go_wp2_with fail
  go_quiet (fail)
  go_wp2_with fail
  go_ret
  exact ⟨nq, rfl, rfl⟩

def szOf : Value → Nat
  | .string r => r.size
  | _ => 0
theorem szOf_s (r : ByteArray) : szOf (.string r) = r.size := rfl

theorem padded_any (s : ByteArray) (w : World) (hs : s.size ≤ 281474976710656) :
    Calls Tryz.prog 84 #[.string s] w (fun e w' => ∃ r : ByteArray, Hid (bs r = padS (bs s)) ∧ e = .returned (.string r) ∧ Upd [] [] w w') := by
  go_enter Tryz.func84, Tryz.ntmps84
  go_wp2_with fail
  go_loop [3] (fun t => ∃ (k : Nat) (r : ByteArray), t = .string r ∧ k ≤ zerosN s.size ∧ Hid (bs r = bs s ++ [0x80] ++ List.replicate k 0) ∧ r.size = s.size + 1 + k) (fun t => zerosN s.size + s.size + 1 - szOf t)
  case atStart => 
    refine ⟨0, _, rfl, Nat.zero_le _, ?_, ?_⟩
    · show _ = _
      rw [bs_append]; simp; rfl
    · simp [ByteArray.size_append]; rfl
  case round =>
    obtain ⟨k, r, rfl, hk, HR, hrs⟩ := hrel
    have hz : zerosN s.size = (119 - s.size % 64) % 64 := rfl
    by_cases hlt : k < zerosN s.size
    · have hne : (((r.size % 64 : Nat) : Int) != 56) = true := by
        rw [bne_iff_ne]; omega
      have HZ := Lib.hid hz
      have HRS := Lib.hid hrs
      clear hz hrs
      have hrb : r.size ≤ 400000000000000 := by have := HRS.out; have := HZ.out; omega
      have HBR : Hid (bs (r ++ ⟨#[0]⟩) = bs s ++ [0x80] ++ List.replicate (k + 1) 0) := by
        show _ = _
        rw [bs_append, HR.out, List.replicate_succ', List.append_assoc]
        rfl
      have HSR : Hid ((r ++ ⟨#[0]⟩ : ByteArray).size = r.size + 1) := by
        show _ = _
        rw [ByteArray.size_append]; rfl
      go_wp2_with fail
      refine ⟨⟨k + 1, _, rfl, by omega, HBR.out, by rw [HSR.out, HRS.out]; omega⟩, ?_⟩
      rw [szOf_s, szOf_s, HSR.out, HRS.out]
      omega
    · have hne : (((r.size % 64 : Nat) : Int) != 56) = false := by
        have : ((r.size % 64 : Nat) : Int) = 56 := by omega
        rw [this]; rfl
      have hrb : r.size ≤ 400000000000000 := by omega
      obtain rfl : k = zerosN s.size := by omega
      have HZ := Lib.hid hz
      have HRS := Lib.hid hrs
      clear hz hrs hlt
      obtain ⟨N, hN⟩ : ∃ N : Nat, N = s.size * 8 := ⟨_, rfl⟩
      have hn1 : (s.size : Int) * 8 = (N : Int) := by omega
      have hn2 : N ≤ 18446744073709551615 := by omega
      obtain ⟨B, hB⟩ : ∃ B, B = bs s ++ [0x80] ++ List.replicate (zerosN s.size) 0 := ⟨_, rfl⟩
      rw [← hB] at HR
      have HB := Lib.hid hB
      have HN := Lib.hid hN
      clear hB hN
      go_wp2_with fail
      clear hn1
      have HRX := HR
      clear HR HRS
      go_loopw [3, 5] (fun t i wr => ∃ (k : Nat) (z : Int) (r : ByteArray), i = .int .i64 z ∧ z = 7 - (k : Int) ∧ k ≤ 8 ∧ t = .string r ∧ Hid (bs r = B ++ (len8 N).take k) ∧ r.size ≤ 400000000000000 + k ∧ Upd [] [] w wr) (fun _ i _ => (intOf i + 1).toNat)
      case atStart => exact ⟨0, 7, r, rfl, rfl, Nat.zero_le _, rfl, by rw [List.take_zero, List.append_nil]; exact HRX.out, by omega, Upd.refl _ _⟩
      case round =>
        clear HRX hrb hne
        obtain ⟨k, z, R, rfl, hz, hk, rfl, HR, hrb, hu⟩ := hrel
        by_cases hlt : k < 8
        · obtain ⟨m, rfl⟩ : ∃ m : Nat, z = (m : Int) := ⟨7 - k, by omega⟩
          obtain ⟨b, hb⟩ : ∃ b, b = UInt8.ofNat (N / 2 ^ (8 * m)) := ⟨_, rfl⟩
          have hb1 : (N : Int) / 2 ^ (8 * m) % 256 = (b.toNat : Int) := by
            have : (UInt8.ofNat (N / 2 ^ (8 * m))).toNat = N / 2 ^ (8 * m) % 256 := by simp
            rw [hb, this]
            simp
          have hm7 : m ≤ 7 := by omega
          have HBB := Lib.hid hb
          have HMZ := Lib.hid hz
          have hw1 : (wr.alloc (.cells #[.int .u8 (b.toNat : Int)] 5)).heap[wr.heap.size]? = some (.cells #[.int .u8 (b.toNat : Int)] 5 (0, 0)) := heap_alloc_new _ _
          have hcv := conv_bytes (P := Tryz.prog) (wr.alloc (.cells #[.int .u8 (b.toNat : Int)] 5)) 100 9 5 Tryz.underlying100 Tryz.underlying5 Tryz.underlying9 wr.heap.size _ _ _ hw1 [b] rfl 0 1 1 (by simp)
          have HCV := Lib.hid hcv
          have hu1 := hu.alloc (.cells #[.int .u8 (b.toNat : Int)] 5)
          clear hb hz hcv hw1
          go_wp2_with fail
          rw [HCV.out]
          have hsv : strV (([b].drop 0).take 1) = .string ⟨#[b]⟩ := rfl
          rw [hsv]
          have h1 : (ByteArray.mk #[b]).size = 1 := rfl
          have h2 : (ByteArray.mk #[b]).size ≤ 1 := Nat.le_refl _
          clear h1 hsv
          go_wp2_with fail
          refine ⟨⟨k + 1, _, _, rfl, ?_, by omega, rfl, ?_, ?_, hu1⟩, ?_⟩
          · have := HMZ.out; omega
          · show _ = _
            rw [bs_append, HR.out, List.append_assoc]
            have hl : (len8 N).take (k + 1) = (len8 N).take k ++ [b] := by
              rw [List.take_succ_eq_append_getElem (by rw [len8_length]; omega)]
              congr 1
              rw [HBB.out]
              have := HMZ.out
              have hm : m = 7 - k := by omega
              simp [len8, hm]
            rw [hl]
            rfl
          · rw [ByteArray.size_append]; omega
          · first | (simp [intOf]; done) | (simp [intOf]; omega)
        · obtain rfl : z = -1 := by omega
          have hk8 : k = 8 := by omega
          rw [hk8, List.take_of_length_le (by rw [len8_length]; omega)] at HR
          clear hlt hz hk hk8
          go_wp2_with fail
          go_ret
          refine ⟨R, ?_, rfl, hu⟩
          show _ = _
          rw [HR.out, HB.out, padS, HN.out, bs_length]
end Go.Proofs.YtkhodajdionaaaaGreatDoor
