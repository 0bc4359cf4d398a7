/- DiskReads returns true: the walk. -/
import Derived.Test.YtbpbmigdfjnneaaLawB
namespace Go.Proofs.Ytbpbmigdfjnneaa
open Go.RowKit
set_option maxRecDepth 100000

def rd (c : List UInt8) (off n : Int) : ByteArray := ⟨(readL c off n).toArray⟩

set_option maxHeartbeats 3200000 in
theorem walk_DiskReads (s : ByteArray) (at_ : Int) (t0 t1 : Int) (w : World) (hs : s.size ≤ maxLen) (_ha1 : -9223372036854775808 ≤ at_) (_ha2 : at_ ≤ 9223372036854775807) (_ht1 : -9223372036854775808 ≤ t0) (_ht2 : t0 ≤ 9223372036854775807) (_ht3 : -9223372036854775808 ≤ t1) (_ht4 : t1 ≤ 9223372036854775807) :
    Calls Try.prog 8 #[.string s, .int .i64 at_, .agg #[.int .i64 t0, .int .i64 t1]] w (TrueB w) := by
  have hs2 : s.size ≤ 9223372036854775807 := hs
  clear hs
  obtain ⟨m0, hm0⟩ : ∃ m : Nat, (m : Int) = t0 % 230 := ⟨(t0 % 230).toNat, by omega⟩
  obtain ⟨m1, hm1⟩ : ∃ m : Nat, (m : Int) = t1 % 20 := ⟨(t1 % 20).toNat, by omega⟩
  obtain ⟨m8, hm8⟩ : ∃ m : Nat, (m : Int) = at_ % 8 := ⟨(at_ % 8).toNat, by omega⟩
  have hm8b : m8 < 8 := by omega
  have HM0 := Lib.hid hm0
  have HM1 := Lib.hid hm1
  have HM8 := Lib.hid hm8
  clear hm0 hm1 hm8
  have bx0 : (w.alloc (.cells #[.int .i64 t0, .int .i64 t1] 40)).cell? ⟨w.heap.size, 0, none⟩ = some (.int .i64 t0) := by simp
  have bx1 : (w.alloc (.cells #[.int .i64 t0, .int .i64 t1] 40)).cell? ⟨w.heap.size, 1, none⟩ = some (.int .i64 t1) := by simp
  have fin : ∀ w', Below (w.alloc (.cells #[.int .i64 t0, .int .i64 t1] 40)).heap.size (w.alloc (.cells #[.int .i64 t0, .int .i64 t1] 40)) w' → Below w.heap.size w w' := fun w' h => below_fore h
  have hX : w.heap.size < (w.alloc (.cells #[.int .i64 t0, .int .i64 t1] 40)).heap.size := by simp
  obtain ⟨W, hW⟩ : ∃ W, W = w.alloc (.cells #[.int .i64 t0, .int .i64 t1] 40) := ⟨_, rfl⟩
  have HW := Lib.hid hW
  rw [← hW] at bx0 bx1 fin hX
  clear hW
  have FIN := Lib.hid fin
  clear fin
  have BX0 := Lib.hid bx0
  have BX1 := Lib.hid bx1
  clear bx0 bx1
  go_enter Try.func8, Try.ntmps8
  go_wp2_with fail
  rw [← HW.out]
  go_wp2_with fail
  refine (sanity24 W).mono ?_
  rintro e w1 ⟨rfl, hb⟩
  go_wp2_with fail
  refine (New_to w1).mono ?_
  rintro e w2 ⟨bd, Sd, rfl, hd2, hu2⟩
  go_wp2_with fail
  refine (RNew_to w2).mono ?_
  rintro e w3 ⟨bm, Sm, rfl, hm3, hu3⟩
  have hx := start_desk hb hd2 hu2 hm3 hu3
  have c0 : (w3.alloc (.cells #[.pointer (some ⟨bd, 0, none⟩), .pointer (some ⟨bm, 0, none⟩)] 31)).cell? ⟨w3.heap.size, 0, none⟩ = some (.pointer (some ⟨bd, 0, none⟩)) := by simp
  clear hb hd2 hu2 hm3 hu3
  go_wp2_with fail
  refine (Mod_any at_ 8 _ (by omega) (by omega)).mono ?_
  rintro e w' ⟨rfl, rfl⟩
  rw [← HM8.out]
  generalize w3.alloc (.cells #[.pointer (some ⟨bd, 0, none⟩), .pointer (some ⟨bm, 0, none⟩)] 31) = w4 at *
  generalize w3.heap.size = x at *
  generalize x :: (Sd ++ Sm) = Sx at *
  clear c0
  go_wp2_with fail
  refine (do_any x .empty .empty Sx 0 (1 + (m8 : Int)) 0 s w4 hx.at_ hx.rel (by decide) (by omega) (by omega) (by omega) (by omega) hs2).mono ?_
  rintro e w5 ⟨D, M, S, rfl, hd5, hu5, hr5, hc5⟩
  have hx5 := hx.step hd5 hu5 hr5
  clear hx hd5 hu5 hc5
  obtain ⟨bd', bm', Sd', Sm', hdi, rfl⟩ := hx5.at_
  have hn1 : D.now.length ≤ 1099511627776 := by have := hr5.ok.now; omega
  have hn2 : M.now.length ≤ 1099511627776 := by rw [hr5.now]; exact hn1
  have a0 := hdi.cells.1
  have a1 := hdi.cells.2
  have a2 := (hx5.below.cell (p := ⟨w.heap.size, 0, none⟩) hX).trans BX0.out
  have a3 := (hx5.below.cell (p := ⟨w.heap.size, 1, none⟩) hX).trans BX1.out
  have C5 : ∀ off n nq, Calls Try.prog 30 #[.pointer (some ⟨bd', 0, none⟩), .int .i64 off, .int .i64 n] (w5.drewN nq) (fun e w' => e = .returned (.string (rd D.now off n)) ∧ w' = w5.drewN nq) :=
    fun off n nq => (Read_any bd' D Sd' off n _ (hdi.dat.drewN nq) hn1).mono fun _ _ ⟨a, b⟩ => ⟨a, b.symm⟩
  have C6 : ∀ off n nq, Calls Try.prog 32 #[.pointer (some ⟨bm', 0, none⟩), .int .i64 off, .int .i64 n] (w5.drewN nq) (fun e w' => e = .returned (.string (rd D.now off n)) ∧ ∃ m, w' = (w5.drewN nq).drewN m) :=
    fun off n nq => (RRead_any bm' M Sm' off n _ (hdi.rat.drewN nq) hn2).mono fun _ _ ⟨m, a, b⟩ => ⟨by rw [a, hr5.now]; rfl, m, b⟩
  have C7 : ∀ nq, Calls Try.prog 20 #[.int .i64 t1, .int .i64 20] (w5.drewN nq) (fun e w' => e = .returned (.int .i64 (m1 : Int)) ∧ w' = w5.drewN nq) :=
    fun nq => (Mod_any t1 20 _ (by omega) (by omega)).mono fun _ _ ⟨a, b⟩ => ⟨by rw [a, HM1.out], b.symm⟩
  have H5 := Lib.hid C5
  have H6 := Lib.hid C6
  have H7 := Lib.hid C7
  clear C5 C6 C7 hdi hr5 hn1 hn2
  go_wp2_with fail
  refine (Mod_any t0 230 _ (by omega) (by omega)).mono ?_
  rintro e w' ⟨rfl, rfl⟩
  rw [← HM0.out]
  go_wp2_with fail
  go_quiet ((first | (go_at_call 30; exact Calls.quiet_of_same (H5.out _ _ _)) | (go_at_call 32; exact Calls.quiet_of (H6.out _ _ _)) | (go_at_call 20; exact Calls.quiet_of_same (H7.out _))))
  go_wp2_with fail
  go_ret
  exact ⟨rfl, FIN.out _ (hx5.drewN _).below⟩
end Go.Proofs.Ytbpbmigdfjnneaa
