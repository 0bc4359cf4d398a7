/- group.number, group.Scalar: the scalar of a text by SHA-256. -/
import Derived.Test.YtkhodajdionaaaaGreatDoorShaD
import Derived.Test.YtkhodajdionaaaaGreatDoorGrpC
import Derived.Laws.BitsAllLaws
namespace Go.Proofs.YtkhodajdionaaaaGreatDoor
open Go.RowKit
set_option maxRecDepth 100000

/-- The number of the first k bytes. -/
def acc8 (h : List UInt8) : Nat → Nat
  | 0 => 0
  | k + 1 => acc8 h k * 256 + (h.getD k 0).toNat
theorem acc8_lt (h : List UInt8) : ∀ k, acc8 h k < 256 ^ k
  | 0 => by simp [acc8]
  | k + 1 => by
    have h1 := acc8_lt h k
    have h2 := (h.getD k 0).toNat_lt
    rw [acc8, Nat.pow_succ]
    omega
def numN (h : List UInt8) : Nat := acc8 h 8 % 9223372036854775808
def scalN (s : List UInt8) : Nat := numN (sha ([115, 47] ++ s)) % 1152921504606845789

theorem or64 (a : Nat) (b : UInt8) (ha : a < 72057594037927936) : bits .or .u64 ((a : Int) * 256 % 18446744073709551616) (b.toNat : Int) = ((a * 256 + b.toNat : Nat) : Int) := by
  have hb := b.toNat_lt
  have e0 : (a : Int) * 256 % 18446744073709551616 = ((a * 256 : Nat) : Int) := by omega
  rw [e0]
  show IntKind.u64.wrap ((BitVec.ofInt 64 ((a * 256 : Nat) : Int) ||| BitVec.ofInt 64 (b.toNat : Int)).toNat : Int) = _
  have e1 : (BitVec.ofInt 64 ((a * 256 : Nat) : Int)).toNat = a * 256 := by
    rw [BitVec.toNat_ofInt]
    show (((a * 256 : Nat) : Int) % 18446744073709551616).toNat = _
    omega
  have e2 : (BitVec.ofInt 64 (b.toNat : Int)).toNat = b.toNat := by
    rw [BitVec.toNat_ofInt]
    show ((b.toNat : Int) % 18446744073709551616).toNat = _
    omega
  have e3 : a * 256 ||| b.toNat = a * 256 + b.toNat := by
    rw [Nat.mul_comm a, show (256 : Nat) = 2 ^ 8 from rfl, ← Nat.two_pow_add_eq_or_of_lt (by omega : b.toNat < 2 ^ 8)]
  rw [BitVec.toNat_or, e1, e2, e3]
  show ((a * 256 + b.toNat : Nat) : Int) % 18446744073709551616 = _
  omega

theorem andNot63 (n : Nat) (h : n < 18446744073709551616) : bits .andNot .u64 (n : Int) 9223372036854775808 = ((n % 9223372036854775808 : Nat) : Int) := by
  have e := u64_andNot_nat n 9223372036854775808 h (by omega)
  have e2 : (18446744073709551615 - 9223372036854775808 : Nat) = 2 ^ 63 - 1 := by decide
  rw [e2, Nat.and_two_pow_sub_one_eq_mod] at e
  exact e

set_option maxHeartbeats 1000000 in
theorem number_any (s : ByteArray) (w : World) (hs : s.size ≤ 281474976710656) (htab : Tabs w) :
    Calls Tryz.prog 80 #[.string s] w (fun e w' => ∃ r : Nat, Hid (r = numN (sha (bs s))) ∧ r < 9223372036854775808 ∧ e = .returned (.int .i64 (r : Int)) ∧ Upd [] [] w w') := by
  obtain ⟨h, hh⟩ : ∃ h, h = sha (bs s) := ⟨_, rfl⟩
  have hl : h.length = 32 := by rw [hh, sha_length]
  have HHH := Lib.hid hh
  obtain ⟨cs, hcs⟩ : ∃ cs : Array Value, cs = (byteVals h).toArray := ⟨_, rfl⟩
  have hcz : cs.size = 32 := by rw [hcs]; simp [byteVals, hl]
  have hc1 : cs.all (·.oneCell') = true := by
    rw [Array.all_eq_true_iff_forall_mem]
    intro v hv
    rw [hcs] at hv
    exact byteVals_one _ v (by simpa using hv)
  have hi32 : (Tryz.prog.info? 98).map (·.size) = some cs.size := by rw [hcz]; kernel_rfl
  have HI := Lib.hid hi32
  have HC1 := Lib.hid hc1
  have HCS := Lib.hid hcs
  have HL := Lib.hid (And.intro hl hcz)
  clear hh hl hcs hcz hc1 hi32
  go_enter Tryz.func80, Tryz.ntmps80
  go_wp2_with fail
  refine (sum_any s w hs htab).mono ?_
  rintro e w1 ⟨rfl, hu1⟩
  rw [← HHH.out, ← HCS.out]
  have h0 : (w1.alloc (.cells (byteVals (List.replicate 32 0)).toArray 98)).heap[w1.heap.size]? = some (.cells (byteVals (List.replicate 32 0)).toArray 98 (0, 0)) := heap_alloc_new _ _
  have H0 := Lib.hid h0
  have hu2 := (hu1.alloc (.cells (byteVals (List.replicate 32 0)).toArray 98)).setRowNew (g := w1.heap.size) hu1.size cs
  have h3 := setRow_heap _ w1.heap.size _ cs _ _ h0
  have H3 := Lib.hid h3
  have HU2 := Lib.hid hu2
  clear h0 h3 hu2
  go_wp2_with (refine wpList_store_row rfl 98 _ _ rfl w1.heap.size cs rfl rfl _ _ H0.out HI.out (by rw [HL.out.2]; simp [byteVals]) HC1.out ?_)
  have hsz : w1.heap.size = w1.heap.size := rfl
  generalize hg : w1.heap.size = g at *
  go_loopw [4, 8] (fun n i wr => ∃ k : Nat, k ≤ 8 ∧ i = .int .i64 (k : Int) ∧ Hid (wr.heap[g]? = some (.cells cs 98 (0, 0))) ∧ Upd [] [] w wr ∧ ∃ z : Nat, n = .int .u64 (z : Int) ∧ z < 256 ^ k ∧ Hid (z = acc8 h k)) (fun _ i _ => 8 - (intOf i).toNat)
  case atStart => exact ⟨0, Nat.zero_le _, rfl, H3.out, HU2.out, 0, rfl, by decide, rfl⟩
  case round =>
    clear H0 H3 HU2 hu1 hsz hg
    obtain ⟨k, hk, rfl, HR, hu, z, rfl, hz, HZ⟩ := hrel
    by_cases hlt : k < 8
    · have hq : wr.cell? ⟨g, k, none⟩ = some (.int .u8 ((h.getD k 0).toNat : Int)) := by
        rw [cell_of_row wr g k _ _ _ HR.out, HCS.out]
        have := HL.out.1
        simp [byteVals, byteV, List.getD, show k < h.length by omega]
      have hz1 : z < 72057594037927936 := by
        have : 256 ^ k ≤ 256 ^ 7 := Nat.pow_le_pow_right (by omega) (by omega)
        have e : (256 : Nat) ^ 7 = 72057594037927936 := by decide
        omega
      have hor := or64 z (h.getD k 0) hz1
      have hacc := acc8_lt h (k + 1)
      have HA := Lib.hid hacc
      clear hacc
      obtain ⟨b, hb⟩ : ∃ b, b = h.getD k 0 := ⟨_, rfl⟩
      rw [← hb] at hq hor
      have hb8 := b.toNat_lt
      have HB := Lib.hid hb
      clear hb hz
      go_wp2_with fail
      refine ⟨⟨k + 1, by omega, by go_num, HR.out, hu, z * 256 + b.toNat, ?_, ?_, ?_⟩, by simp [intOf]; omega⟩
      · rw [show (z : Int) * 256 = (z : Int) * 256 % 18446744073709551616 by omega, hor]
      · have e := HA.out
        rw [acc8, ← HZ.out, ← HB.out] at e
        exact e
      · show _ = _
        rw [acc8, ← HZ.out, ← HB.out]
    · have hk8 : k = 8 := by omega
      have hki : (k : Int) = 8 := by omega
      rw [hk8] at hz HZ
      rw [hki]
      clear hlt hk hk8 hki
      have hz64 : z < 18446744073709551616 := by
        have e : (256 : Nat) ^ 8 = 18446744073709551616 := by decide
        omega
      clear hz
      have han := andNot63 z hz64
      have hzm : z % 9223372036854775808 < 9223372036854775808 := Nat.mod_lt _ (by omega)
      obtain ⟨y, hy⟩ : ∃ y : Nat, y = z % 9223372036854775808 := ⟨_, rfl⟩
      rw [← hy] at han hzm
      have HY := Lib.hid hy
      clear hy
      go_wp2_with fail
      go_ret
      refine ⟨y, ?_, hzm, ?_, hu⟩
      · show _ = _
        rw [HY.out, HZ.out, numN, HHH.out]
      · first | rfl | (rw [han]) | trace_state

/-- It returns a number below m that is v; only new blocks have come. -/
def MkN (m v : Nat) (w : World) (e : Ending) (w' : World) : Prop := ∃ r : Nat, Hid (r = v) ∧ r < m ∧ e = .returned (.int .i64 (r : Int)) ∧ Upd [] [] w w'

theorem gScalar_any (s : ByteArray) (w : World) (hs : s.size ≤ 281474976710000) (htab : Tabs w) :
    Calls Tryz.prog 69 #[.string s] w (MkN 1152921504606845789 (scalN (bs s)) w) := by
  go_enter Tryz.func69, Tryz.ntmps69
  go_wp2_with fail
  refine (number_any _ w (by have : (ByteArray.mk #[115, 47]).size = 2 := rfl; simp [ByteArray.size_append]; omega) htab).mono ?_
  rintro e w1 ⟨r, HR, hr, rfl, hu⟩
  go_wp2_with fail
  refine (residue_any _ _ _ (by omega) (by omega)).mono ?_
  rintro e w2 ⟨x, HX, x0, x1, rfl, rfl⟩
  go_wp2_with fail
  go_ret
  obtain ⟨n, hn⟩ : ∃ n : Nat, x = (n : Int) := ⟨x.toNat, by omega⟩
  subst hn
  refine ⟨n, ?_, by omega, rfl, hu⟩
  show _ = _
  have h1 := HX.out
  have h2 := HR.out
  rw [bs_append] at h2
  have h3 : bs ⟨#[115, 47]⟩ = [115, 47] := rfl
  rw [h3] at h2
  rw [scalN, ← h2]
  omega
end Go.Proofs.YtkhodajdionaaaaGreatDoor
