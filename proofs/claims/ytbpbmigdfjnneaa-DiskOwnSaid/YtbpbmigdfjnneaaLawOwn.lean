/- DiskOwn returns true: the walk. -/
import Derived.Test.YtbpbmigdfjnneaaLawB
namespace Go.Proofs.Ytbpbmigdfjnneaa
open Go.RowKit
set_option maxRecDepth 100000

set_option maxHeartbeats 3200000 in
theorem walk_DiskOwn (s : ByteArray) (vq : Value) (zq : List Int) (t0 t1 : Int) (w : World) (hs : s.size ≤ maxLen) (hq : IntsAt w vq zq) (_ht1 : -9223372036854775808 ≤ t0) (_ht2 : t0 ≤ 9223372036854775807) (_ht3 : -9223372036854775808 ≤ t1) (_ht4 : t1 ≤ 9223372036854775807) :
    Calls Try.prog 6 #[.string s, vq, .agg #[.int .i64 t0, .int .i64 t1]] w (TrueB w) := by
  have hs2 : s.size ≤ 9223372036854775807 := hs
  clear hs
  obtain ⟨m0, hm0⟩ : ∃ m : Nat, (m : Int) = t0 % 100 := ⟨(t0 % 100).toNat, by omega⟩
  obtain ⟨m1, hm1⟩ : ∃ m : Nat, (m : Int) = t1 % 100 := ⟨(t1 % 100).toNat, by omega⟩
  have hm0b : m0 < 100 := by omega
  have hm1b : m1 < 100 := by omega
  have HM0 := Lib.hid hm0
  have HM1 := Lib.hid hm1
  clear hm0 hm1
  have hq1 := hq.alloc (.cells #[.int .i64 t0, .int .i64 t1] 40)
  have bx0 : (w.alloc (.cells #[.int .i64 t0, .int .i64 t1] 40)).cell? ⟨w.heap.size, 0, none⟩ = some (.int .i64 t0) := by simp
  have bx1 : (w.alloc (.cells #[.int .i64 t0, .int .i64 t1] 40)).cell? ⟨w.heap.size, 1, none⟩ = some (.int .i64 t1) := by simp
  have fin : ∀ w', Below (w.alloc (.cells #[.int .i64 t0, .int .i64 t1] 40)).heap.size (w.alloc (.cells #[.int .i64 t0, .int .i64 t1] 40)) w' → Below w.heap.size w w' := fun w' h => below_fore h
  have hX : w.heap.size < (w.alloc (.cells #[.int .i64 t0, .int .i64 t1] 40)).heap.size := by simp
  obtain ⟨W, hW⟩ : ∃ W, W = w.alloc (.cells #[.int .i64 t0, .int .i64 t1] 40) := ⟨_, rfl⟩
  have HW := Lib.hid hW
  rw [← hW] at hq1 bx0 bx1 fin hX
  clear hW hq
  have FIN := Lib.hid fin
  clear fin
  have BX0 := Lib.hid bx0
  have BX1 := Lib.hid bx1
  clear bx0 bx1
  obtain ⟨X, hXe⟩ : ∃ X, X = w.heap.size := ⟨_, rfl⟩
  go_enter Try.func6, Try.ntmps6
  go_wp2_with fail
  rw [← HW.out]
  go_wp2_with fail
  refine (sanity24 W).mono ?_
  rintro e w1 ⟨rfl, hb⟩
  go_wp2_with fail
  refine (New_to w1).mono ?_
  rintro e w2 ⟨bd, Sd, rfl, hd2, hu2⟩
  have d2 := DiskOk.start hb hb.size hd2 hu2
  clear hb hd2 hu2
  obtain ⟨a, ha⟩ : ∃ a : ByteArray, a = (if s.size ≤ 150 then s else s.extract 0 150) ++ ⟨#[101, 110, 100]⟩ := ⟨_, rfl⟩
  have hal : a.size ≤ 153 := by
    rw [ha, ByteArray.size_append]
    have e3 : (ByteArray.mk #[101, 110, 100]).size = 3 := rfl
    rw [e3]
    split
    · omega
    · rw [ByteArray.size_extract]; omega
  have HA := Lib.hid ha
  clear ha
  by_cases hsl : s.size ≤ 150
  all_goals
    go_wp2_with fail
    first
      | rw [show s ++ (ByteArray.mk #[101, 110, 100]) = a from by rw [HA.out, if_pos hsl]]
      | rw [show s.extract 0 150 ++ (ByteArray.mk #[101, 110, 100]) = a from by rw [HA.out, if_neg hsl]]
    clear hsl
    obtain ⟨D1, hD1⟩ : ∃ D1, D1 = (DiskM.empty).writeS 0 (bs a) := ⟨_, rfl⟩
    have f1 : D1.failing = false ∧ D1.calls ≤ 1 ∧ D1.ok := by
      rw [hD1]
      exact ⟨(writeS_calls _ _ _).2, (writeS_calls _ _ _).1, writeS_ok DiskM.ok_empty (by decide) _ _⟩
    refine (Write_to bd _ Sd 0 a w2 0 D1 d2.at_ DiskM.ok_empty (by decide) (by omega) (errR_no (by omega) (by rw [bs_length]; omega) rfl) hD1.symm).mono ?_
    rintro e w3 ⟨S3, rfl, hd3, hu3⟩
    have d3 := d2.step hd3 hu3
    clear d2 hd3 hu3 hD1
    go_wp2_with fail
    refine (Sync_to bd D1 S3 w3 0 d3.at_ f1.2.2 (by omega) (sync_no f1.1)).mono ?_
    rintro e w4 ⟨S4, rfl, hd4, hu4⟩
    have d4 := d3.step hd4 hu4
    clear d3 hd4 hu4
    obtain ⟨D2, hD2⟩ : ∃ D2, D2 = D1.syncS := ⟨_, rfl⟩
    have f2 : D2.failing = false ∧ D2.calls ≤ 2 ∧ D2.ok := by
      rw [hD2]
      exact ⟨(syncS_calls _).2.trans f1.1, Nat.le_trans (syncS_calls _).1 (by omega), syncS_ok f1.2.2 (by omega)⟩
    rw [← hD2] at d4
    clear hD2
    have bx0 := (d4.below.cell (p := ⟨w.heap.size, 0, none⟩) hX).trans BX0.out
    go_wp2_with fail
    refine (Mod_any t0 100 _ (by omega) (by omega)).mono ?_
    rintro e w' ⟨rfl, rfl⟩
    rw [← HM0.out]
    clear bx0
    go_wp2_with fail
    obtain ⟨D3, hD3⟩ : ∃ D3, D3 = D2.writeS (m0 : Int) [110, 101, 119] := ⟨_, rfl⟩
    have f3 : D3.failing = false ∧ D3.calls ≤ 3 ∧ D3.ok := by
      rw [hD3]
      exact ⟨(writeS_calls _ _ _).2.trans f2.1, Nat.le_trans (writeS_calls _ _ _).1 (by omega), writeS_ok f2.2.2 (by omega) _ _⟩
    refine (Write_to bd D2 S4 (m0 : Int) ⟨#[110, 101, 119]⟩ w4 0 D3 d4.at_ f2.2.2 (by omega) (by decide) (errR_no (by omega) (by show (m0 : Int) + 3 ≤ _; omega) f2.1) hD3.symm).mono ?_
    rintro e w5 ⟨S5, rfl, hd5, hu5⟩
    have d5 := d4.step hd5 hu5
    clear d4 hd5 hu5 hD3
    go_wp2_with fail
    refine (Crash_to bd D3 S5 vq zq w5 d5.at_ (hq1.below d5.below) f3.2.2).mono ?_
    rintro e w6 ⟨bc, Sc, rfl, hc6, hu6⟩
    have c6 := d5.born hc6 hu6
    have jc := d5.bornDisj hu6
    have d6 := d5.quiet hu6
    clear d5 hc6 hu6
    go_wp2_with fail
    refine (Read_str bd D3 S5 0 500 w6 d6.at_ (by have := f3.2.2.now; omega)).mono ?_
    rintro e w' ⟨r1, hr1, rfl, rfl⟩
    have bx1 := (d6.below.cell (p := ⟨w.heap.size, 1, none⟩) hX).trans BX1.out
    go_wp2_with fail
    refine (Mod_any t1 100 _ (by omega) (by omega)).mono ?_
    rintro e w' ⟨rfl, rfl⟩
    rw [← HM1.out]
    clear bx1
    go_wp2_with fail
    have okc := f3.2.2.crash zq
    obtain ⟨C2, hC2⟩ : ∃ C2, C2 = (D3.crash zq).writeS (m1 : Int) [99, 114, 97, 115, 104] := ⟨_, rfl⟩
    have g2 : C2.failing = false ∧ C2.calls = 1 ∧ C2.ok := by
      rw [hC2]
      refine ⟨(writeS_calls _ _ _).2, ?_, writeS_ok okc (by show 0 < 65536; decide) _ _⟩
      rw [writeS_good (by omega) (by show (m1 : Int) + 5 ≤ _; omega) rfl]; rfl
    refine (Write_to bc (D3.crash zq) Sc (m1 : Int) ⟨#[99, 114, 97, 115, 104]⟩ w6 0 C2 c6.at_ okc (by show 0 < 65536; decide) (by decide) (errR_no (by omega) (by show (m1 : Int) + 5 ≤ _; omega) rfl) hC2.symm).mono ?_
    rintro e w7 ⟨S7, rfl, hc7, hu7⟩
    have c7 := c6.step hc7 hu7
    have d7 := d6.other hu7 c6.above jc
    have jc7 := hu7.disj d6.at_.lt jc
    clear c6 d6 hc7 hu7 hC2 jc
    go_wp2_with fail
    refine (Read_str bc C2 S7 0 500 w7 c7.at_ (by have := g2.2.2.now; omega)).mono ?_
    rintro e w' ⟨r2, hr2, rfl, rfl⟩
    go_wp2_with fail
    refine (Read_str bd D3 S5 0 500 w7 d7.at_ (by have := f3.2.2.now; omega)).mono ?_
    rintro e w' ⟨r3, hr3, rfl, rfl⟩
    have hk := eq_toList hr3 hr1
    go_wp2_with fail
    obtain ⟨D4, hD4⟩ : ∃ D4, D4 = D3.writeS 0 [99, 104, 97, 110, 103, 101, 100, 32, 97, 103, 97, 105, 110] := ⟨_, rfl⟩
    refine (Write_to bd D3 S5 0 ⟨#[99, 104, 97, 110, 103, 101, 100, 32, 97, 103, 97, 105, 110]⟩ w7 0 D4 d7.at_ f3.2.2 (by omega) (by decide) (errR_no (by omega) (by decide) f3.1) hD4.symm).mono ?_
    rintro e w8 ⟨S8, rfl, hd8, hu8⟩
    have c8 := c7.other hu8 d7.above (fun k h1 h2 => jc7 k h2 h1)
    clear d7 hd8 hu8 hD4 jc7 c7
    go_wp2_with fail
    refine (Read_str bc C2 S7 0 500 w8 c8.at_ (by have := g2.2.2.now; omega)).mono ?_
    rintro e w' ⟨r4, hr4, rfl, rfl⟩
    have hk2 := eq_toList hr4 hr2
    go_wp2_with fail
    refine (Calls_to bc C2 S7 w8 1 c8.at_ (by rw [g2.2.1]; rfl)).mono ?_
    rintro e w' ⟨rfl, rfl⟩
    go_wp2_with fail
    go_ret
    exact ⟨rfl, FIN.out _ c8.below⟩
end Go.Proofs.Ytbpbmigdfjnneaa
