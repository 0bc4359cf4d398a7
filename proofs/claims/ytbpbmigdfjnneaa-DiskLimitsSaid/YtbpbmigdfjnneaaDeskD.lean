/- same; repeated. -/
import Derived.Test.YtbpbmigdfjnneaaDeskC
namespace Go.Proofs.Ytbpbmigdfjnneaa
open Go.RowKit
set_option maxRecDepth 100000

theorem DiskAt.drewN' {w : World} {b : Nat} {D : DiskM} {S : List Nat} (h : DiskAt w b D S) (n : Nat) : DiskAt (w.drewN n) b D S := h.same fun _ _ => rfl

set_option maxHeartbeats 1600000 in
theorem same_any (x : Nat) (D : DiskM) (M : RefM) (S : List Nat) (w : World) (h : DeskAt w x D M S) (hr : Rel D M) :
    Calls Try.prog 25 #[.pointer (some ⟨x, 0, none⟩)] w (DrawnTo (.bool true) w) := by
  obtain ⟨bd, bm, Sd, Sm, hd, hS⟩ := h
  clear hS
  obtain ⟨c0, c1⟩ := hd.cells
  have hn1 : D.now.length ≤ 1099511627776 := by have := hr.ok.now; omega
  have hn2 : M.now.length ≤ 1099511627776 := by rw [hr.now]; exact hn1
  obtain ⟨r, hrr⟩ : ∃ r : ByteArray, r = ⟨(readL D.now 0 33554432).toArray⟩ := ⟨_, rfl⟩
  have C1 : ∀ nq, Calls Try.prog 29 #[.pointer (some ⟨bd, 0, none⟩)] (w.drewN nq) (fun e w' => e = .returned (.int .i64 (D.now.length : Int)) ∧ w' = w.drewN nq) :=
    fun nq => (Size_any bd D Sd _ (hd.2.1.drewN nq)).mono fun _ _ ⟨a, b⟩ => ⟨a, b.symm⟩
  have C2 : ∀ nq, Calls Try.prog 34 #[.pointer (some ⟨bm, 0, none⟩)] (w.drewN nq) (fun e w' => e = .returned (.int .i64 (D.now.length : Int)) ∧ w' = w.drewN nq) :=
    fun nq => (RSize_any bm M Sm _ (hd.2.2.1.drewN nq)).mono fun _ _ ⟨a, b⟩ => ⟨by rw [a, hr.now], b.symm⟩
  have C3 : ∀ nq, Calls Try.prog 31 #[.pointer (some ⟨bd, 0, none⟩)] (w.drewN nq) (fun e w' => e = .returned (.int .i64 (D.calls : Int)) ∧ w' = w.drewN nq) :=
    fun nq => (Calls_any bd D Sd _ (hd.2.1.drewN nq)).mono fun _ _ ⟨a, b⟩ => ⟨a, b.symm⟩
  have C4 : ∀ nq, Calls Try.prog 51 #[.pointer (some ⟨bm, 0, none⟩)] (w.drewN nq) (fun e w' => e = .returned (.int .i64 (D.calls : Int)) ∧ w' = w.drewN nq) :=
    fun nq => (RCalls_any bm M Sm _ (hd.2.2.1.drewN nq)).mono fun _ _ ⟨a, b⟩ => ⟨by rw [a, hr.n], b.symm⟩
  have C5 : ∀ nq, Calls Try.prog 30 #[.pointer (some ⟨bd, 0, none⟩), .int .i64 0, .int .i64 33554432] (w.drewN nq) (fun e w' => e = .returned (.string r) ∧ w' = w.drewN nq) :=
    fun nq => (Read_any bd D Sd 0 33554432 _ (hd.2.1.drewN nq) hn1).mono fun _ _ ⟨a, b⟩ => ⟨by rw [a, hrr]; rfl, b.symm⟩
  have C6 : ∀ nq, Calls Try.prog 32 #[.pointer (some ⟨bm, 0, none⟩), .int .i64 0, .int .i64 33554432] (w.drewN nq) (fun e w' => e = .returned (.string r) ∧ ∃ m, w' = (w.drewN nq).drewN m) :=
    fun nq => (RRead_any bm M Sm 0 33554432 _ (hd.2.2.1.drewN nq) hn2).mono fun _ _ ⟨m, a, b⟩ => ⟨by rw [a, hrr, hr.now]; rfl, m, b⟩
  have H1 := Lib.hid C1
  have H2 := Lib.hid C2
  have H3 := Lib.hid C3
  have H4 := Lib.hid C4
  have H5 := Lib.hid C5
  have H6 := Lib.hid C6
  clear C1 C2 C3 C4 C5 C6 hrr hd hr hn1 hn2
  generalize D.now.length = nl at *
  generalize D.calls = nc at *
  go_enter Try.func25, Try.ntmps25
  go_wp2_with fail
  go_quiet ((first | (go_at_call 29; exact Calls.quiet_of_same (H1.out _)) | (go_at_call 34; exact Calls.quiet_of_same (H2.out _)) | (go_at_call 31; exact Calls.quiet_of_same (H3.out _)) | (go_at_call 51; exact Calls.quiet_of_same (H4.out _)) | (go_at_call 30; exact Calls.quiet_of_same (H5.out _)) | (go_at_call 32; exact Calls.quiet_of (H6.out _))))
  go_wp2_with fail
  go_ret
  exact ⟨_, rfl, rfl⟩
def Repeated (c : UInt8) (n : Nat) (w : World) (e : Ending) (w' : World) : Prop := ∃ r : ByteArray, Hid (bs r = List.replicate n c) ∧ e = .returned (.string r) ∧ Upd [] [] w w'

theorem rep_step (n k : Nat) (c : UInt8) (hk : k < n) : (byteVals (List.replicate k c ++ List.replicate (n - k) 0)).toArray.setIfInBounds k (byteV c) = (byteVals (List.replicate (k + 1) c ++ List.replicate (n - (k + 1)) 0)).toArray := by
  apply Array.ext'
  apply List.ext_getElem?
  intro j
  simp only [Array.toList_setIfInBounds, List.getElem?_set, byteVals, List.length_map, List.length_append, List.length_replicate]
  by_cases h : k = j
  · subst h
    rw [if_pos rfl, if_pos (by omega)]
    simp [List.getElem?_append]
  · rw [if_neg h]
    simp only [List.getElem?_map, List.getElem?_append, List.length_replicate, List.getElem?_replicate]
    by_cases h2 : j < k
    · have a1 : j < k + 1 := by omega
      simp only [h2, a1, if_true]
    · have a1 : ¬ j < k + 1 := by omega
      simp only [h2, a1, if_false]
      by_cases h3 : j < n
      · rw [if_pos (show j - k < n - k by omega), if_pos (show j - (k + 1) < n - (k + 1) by omega)]
      · rw [if_neg (show ¬ j - k < n - k by omega), if_neg (show ¬ j - (k + 1) < n - (k + 1) by omega)]

set_option maxHeartbeats 800000 in
theorem repeated_any (c : UInt8) (ci : Int) (hci : ci = (c.toNat : Int)) (n : Nat) (w : World) (hn : n ≤ 16777216) : Calls Try.prog 26 #[.int .u8 ci, .int .i64 (n : Int)] w (Repeated c n w) := by
  obtain ⟨i0, hi, hz0, hz1, hz2⟩ := info_parts info_u8
  have hmk : (Instr.makeSlice 52 (.int .i64 (n : Int)) (.int .i64 (n : Int))).run Try.prog w = .ok (.slice (some ⟨w.heap.size, 0, none⟩) n n) (w.alloc (.cells (byteVals (List.replicate n 0)).toArray 5)) := by
    have := run_make (P := Try.prog) w 52 5 i0 (.int .u8 0) Try.underlying52 hi hz0 .i64 .i64 n n (by omega) (by omega) (by rw [hz2]; omega) (by omega)
    rw [this, hz1]
    simp only [Int.toNat_natCast, Nat.mul_one, madeCells_zero]
  have HMK := Lib.hid hmk
  clear hmk hi hz0 hz1 hz2
  have hbv : Value.int .u8 ci = byteV c := by rw [hci]; rfl
  have HBV := Lib.hid hbv
  clear hbv hci
  have hw1 : (w.alloc (.cells (byteVals (List.replicate n 0)).toArray 5)).heap[w.heap.size]? = some (.cells (byteVals (List.replicate n 0)).toArray 5 (0, 0)) := heap_alloc_new _ _
  have hu1 : Upd [] [] w (w.alloc (.cells (byteVals (List.replicate n 0)).toArray 5)) := (Upd.refl _ _).alloc _
  have HW1 := Lib.hid hw1
  clear hw1
  generalize w.alloc (.cells (byteVals (List.replicate n 0)).toArray 5) = w1 at *
  obtain ⟨g, hg⟩ : ∃ g, g = w.heap.size := ⟨_, rfl⟩
  rw [← hg] at HMK HW1
  have hgw : w.heap.size ≤ g := by omega
  clear hg
  go_enter Try.func26, Try.ntmps26
  go_wp2_with fail
  rw [HMK.out]
  go_wp2_with fail
  go_loopw [6] (fun i wr => ∃ k : Nat, i = .int .i64 (k : Int) ∧ k ≤ n ∧ Hid (wr.heap[g]? = some (.cells (byteVals (List.replicate k c ++ List.replicate (n - k) 0)).toArray 5 (0, 0))) ∧ Upd [] [] w wr) (fun i _ => n - (intOf i).toNat)
  case atStart => exact ⟨0, rfl, Nat.zero_le _, by show _ = _; simpa using HW1.out, hu1⟩
  case round =>
    obtain ⟨k, rfl, hk, HR, hu⟩ := hrel
    by_cases hlt : k < n
    · have hs := rep_step n k c hlt
      have q1 : ∃ v0, wr.cell? ⟨g, k, none⟩ = some v0 := by
        rw [cell_of_row wr g k _ _ _ HR.out]
        exact ⟨_, Array.getElem?_eq_getElem (by simp [byteVals]; omega)⟩
      obtain ⟨v0, q1⟩ := q1
      have q2 : wr.frozen? ⟨g, k, none⟩ = false := frozen_of_row wr g k _ _ HR.out
      have h3 := heap_setCell_same wr g k _ _ (byteV c) HR.out
      rw [hs] at h3
      have H3 := Lib.hid h3
      have HU3 := Lib.hid (hu.setNew (p := ⟨g, k, none⟩) hgw (byteV c))
      clear hs h3
      go_wp2_with fail
      go_roundw
      case rel => exact ⟨k + 1, by go_num, by omega, by rw [HBV.out]; exact H3.out, by rw [HBV.out]; exact HU3.out⟩
      case measure => simp [intOf]; omega
    · obtain rfl : k = n := by omega
      have hR := HR.out
      simp only [Nat.sub_self, List.replicate_zero, List.append_nil] at hR
      have hcv := conv_bytes (P := Try.prog) wr 52 9 5 Try.underlying52 Try.underlying5 Try.underlying9 g _ _ _ hR (List.replicate k c) (by rw [List.take_of_length_le (by simp [byteVals])]) 0 k k (by simp)
      have HCV := Lib.hid hcv
      clear hcv hR
      go_wp2_with fail
      rw [HCV.out]
      go_wp2_with fail
      go_ret
      refine ⟨⟨(List.replicate k c).toArray⟩, rfl, ?_, hu⟩
      simp [strV]
end Go.Proofs.Ytbpbmigdfjnneaa
