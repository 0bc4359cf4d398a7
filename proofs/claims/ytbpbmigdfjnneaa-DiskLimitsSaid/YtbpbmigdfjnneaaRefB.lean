/- The contracts of package sortesref24 (2): Read, Put, Where, Long. -/
import Derived.Test.YtbpbmigdfjnneaaRefA
namespace Go.Proofs.Ytbpbmigdfjnneaa
open Go.RowKit
set_option maxRecDepth 100000

set_option maxHeartbeats 400000 in
theorem RRead_any (b : Nat) (M : RefM) (S : List Nat) (off n : Int) (w : World) (h : RefAt w b M S) (hl : M.now.length ≤ 1099511627776) :
    Calls Try.prog 32 #[.pointer (some ⟨b, 0, none⟩), .int .i64 off, .int .i64 n] w (DrawnTo (strV (readL M.now off n)) w) := by
  obtain ⟨vp, hb, hp, hSe, hn⟩ := h
  have h0 : w.cell? ⟨b, 0, none⟩ = some (.string ⟨M.now.toArray⟩) := cell_of_row w b 0 _ _ _ hb
  clear hb hp hn hSe
  obtain ⟨c, hc⟩ : ∃ c : ByteArray, c = ⟨M.now.toArray⟩ := ⟨_, rfl⟩
  have hc2 : M.now = bs c := by rw [hc]; rfl
  rw [← hc] at h0
  rw [hc2]
  have hcl : c.size ≤ 1099511627776 := by rw [hc]; exact hl
  clear hc hc2 hl
  by_cases hbad : off < 0 ∨ ((bs c).length : Int) ≤ off ∨ n < 1
  · have hz : readL (bs c) off n = [] := if_pos hbad
    rw [hz]
    clear hz
    rw [bs_length] at hbad
    by_cases h1 : off < 0
    · go_enter Try.func32, Try.ntmps32
      go_wp2
      go_ret
      exact ⟨0, rfl, rfl⟩
    · by_cases h2 : n < 1
      · go_enter Try.func32, Try.ntmps32
        go_wp2
        go_ret
        exact ⟨0, rfl, rfl⟩
      · have h3 : (c.size : Int) ≤ off := by omega
        clear hbad
        go_enter Try.func32, Try.ntmps32
        go_wp2
        go_ret
        exact ⟨0, rfl, rfl⟩
  · have hz : readL (bs c) off n = ((bs c).drop off.toNat).take n.toNat := if_neg hbad
    rw [hz]
    clear hz
    rw [bs_length] at hbad
    have hb1 : 0 ≤ off := by omega
    have hb2 : off < c.size := by omega
    have hb3 : 1 ≤ n := by omega
    clear hbad
    obtain ⟨o, rfl⟩ := Int.eq_ofNat_of_zero_le hb1
    obtain ⟨m, rfl⟩ := Int.eq_ofNat_of_zero_le (show 0 ≤ n by omega)
    simp only [Int.toNat_natCast]
    by_cases hmn : m ≤ c.size - o
    · have e1 : bs (c.extract o (o + m)) = ((bs c).drop o).take m := by rw [bs_extract]; congr 1; omega
      have E1 := Lib.hid e1
      clear e1
      go_enter Try.func32, Try.ntmps32
      go_wp2
      go_quiet (fail)
      go_wp2
      go_ret
      exact ⟨_, by rw [← E1.out]; rfl, rfl⟩
    · have e1 : bs (c.extract o (o + (c.size - o))) = ((bs c).drop o).take m := by rw [bs_extract, List.take_of_length_le (by rw [List.length_drop, bs_length]; omega), List.take_of_length_le (by rw [List.length_drop, bs_length]; omega)]
      have E1 := Lib.hid e1
      clear e1
      go_enter Try.func32, Try.ntmps32
      go_wp2
      go_quiet (fail)
      go_wp2
      go_ret
      exact ⟨_, by rw [← E1.out]; rfl, rfl⟩

theorem drop_nil_of (l : List UInt8) (k : Nat) (h : l.length ≤ k) : l.drop k = [] := List.drop_eq_nil_of_le h

theorem madeCells_zero (k : Nat) : madeCells (Value.int .u8 0).cells k = (byteVals (List.replicate k 0)).toArray := by
  apply Array.ext
  · simp [madeCells, byteVals]
  · intro i h1 h2
    simp [madeCells, byteVals, byteV, Value.cells, Nat.mod_one]

set_option maxHeartbeats 800000 in
theorem RPut_any (c s : ByteArray) (off : Nat) (w : World) (hc : c.size ≤ 1099511627776) (hb : off + s.size ≤ 1099511627776) :
    Calls Try.prog 50 #[.string c, .int .i64 (off : Int), .string s] w fun e w' => ∃ r : ByteArray, e = .returned (.string r) ∧ bs r = putL (bs c) off (bs s) ∧ Upd [] [] w w' := by
  obtain ⟨i0, hi, hz0, hz1, hz2⟩ := info_parts info_u8
  have hmk : ∀ (k : Nat) (wx : World), k ≤ 1099511627776 → (Instr.makeSlice 52 (.int .i64 (k : Int)) (.int .i64 (k : Int))).run Try.prog wx = .ok (.slice (some ⟨wx.heap.size, 0, none⟩) k k) (wx.alloc (.cells (byteVals (List.replicate k 0)).toArray 5)) := by
    intro k wx hk
    have := run_make (P := Try.prog) wx 52 5 i0 (.int .u8 0) Try.underlying52 hi hz0 .i64 .i64 k k (by omega) (by omega) (by rw [hz2]; omega) (by omega)
    rw [this, hz1]
    simp only [Int.toNat_natCast, Nat.mul_one, madeCells_zero]
  have HMK := Lib.hid hmk
  clear hmk hi hz0 hz1 hz2
  go_enter Try.func50, Try.ntmps50
  go_wp2_with fail
  go_loopw [0] (fun v wr => ∃ c' : ByteArray, v = .string c' ∧ c'.size ≤ 1099511627776 ∧ Hid (putL (bs c') off (bs s) = putL (bs c) off (bs s)) ∧ Upd [] [] w wr) (fun v _ => off - lenOf v)
  case atStart => exact ⟨c, rfl, hc, rfl, Upd.refl _ _⟩
  case round =>
    obtain ⟨c', rfl, hc', HP, hu⟩ := hrel
    by_cases hlt : c'.size < off
    · obtain ⟨k, hk⟩ : ∃ k : Nat, k = off - c'.size := ⟨_, rfl⟩
      have hk1 : k ≤ 1099511627776 := by omega
      have hk2 : c'.size + k = off := by omega
      have hk3 : 1 ≤ k := by omega
      have hkp := putL_pad (bs c') off (bs s) (by rw [bs_length]; omega)
      rw [bs_length, ← hk] at hkp
      have HKP := Lib.hid hkp
      have HK := Lib.hid hk
      have hcv := conv_bytes (P := Try.prog) (wr.alloc (.cells (byteVals (List.replicate k 0)).toArray 5)) 52 9 5 Try.underlying52 Try.underlying5 Try.underlying9 wr.heap.size _ _ _ (heap_alloc_new wr _) (List.replicate k 0)
        (by rw [List.take_of_length_le (by simp [byteVals])]) 0 k k (by simp)
      obtain ⟨z, hz⟩ : ∃ z : ByteArray, z = ⟨(List.replicate k 0).toArray⟩ := ⟨_, rfl⟩
      have hzs : z.size = k := by rw [hz]; show (List.replicate k (0 : UInt8)).length = k; simp
      have hcv2 : (convert 52 9 (.slice (some ⟨wr.heap.size, 0, none⟩) k k)).run Try.prog (wr.alloc (.cells (byteVals (List.replicate k 0)).toArray 5)) = .ok (.string z) (wr.alloc (.cells (byteVals (List.replicate k 0)).toArray 5)) := by
        rw [hcv, hz]; simp [strV]
      have HCV := Lib.hid hcv2
      have HZ := Lib.hid hz
      clear hcv hcv2 hz hkp hk
      have hzs1 : z.size ≤ k := by omega
      have HZS := Lib.hid hzs
      clear hzs
      generalize hob : (Obj.cells (byteVals (List.replicate k 0)).toArray 5) = ob at *
      have HOB := Lib.hid hob
      clear hob
      go_wp2_with fail
      rw [show (off : Int) - (c'.size : Int) = (k : Int) from by omega, HMK.out k wr hk1, HOB.out]
      go_wp2_with fail
      rw [HCV.out]
      go_wp2_with fail
      go_roundw
      case rel =>
        refine ⟨_, rfl, ?_, ?_, hu.alloc _⟩
        · rw [ByteArray.size_append]; omega
        · show _ = _
          rw [bs_append, HZ.out, bs_mk]
          exact HKP.out.trans HP.out
      case measure => simp [lenOf]; have := HZS.out; omega
    · have hput := putL_from (bs c') off (bs s) (by rw [bs_length]; omega)
      rw [bs_length, HP.out] at hput
      have HPUT := Lib.hid hput
      clear hput
      by_cases hend : c'.size ≤ off + s.size
      · go_wp2_with fail
        go_ret
        refine ⟨_, rfl, ?_, hu⟩
        rw [HPUT.out, bs_append, bs_extract, drop_nil_of (bs c') (off + s.size) (by rw [bs_length]; omega)]
        simp
      · go_wp2_with fail
        go_quiet (fail)
        go_wp2_with fail
        go_ret
        refine ⟨_, rfl, ?_, hu.drewN _⟩
        rw [HPUT.out, bs_append, bs_append, bs_extract, bs_extract, List.take_of_length_le (l := (bs c').drop (off + s.size)) (by rw [List.length_drop, bs_length]; exact Nat.le_refl _)]
        simp
end Go.Proofs.Ytbpbmigdfjnneaa
