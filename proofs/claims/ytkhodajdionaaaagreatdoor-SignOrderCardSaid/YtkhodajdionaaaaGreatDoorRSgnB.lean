/- sortesref04.Member; sortesref05.SignWith, Sign, Verify. -/
import Derived.Test.YtkhodajdionaaaaGreatDoorRSgnA
namespace Go.Proofs.YtkhodajdionaaaaGreatDoor
open Go.RowKit
set_option maxRecDepth 100000

set_option maxHeartbeats 1000000 in
theorem signWith_any (x : Int) (t : ByteArray) (n : Nat) (w : World) (hx : -9223372036854775808 ≤ x ∧ x ≤ 9223372036854775807) (ht : t.size ≤ 140737488355000) (hn : n < 1152921504606845789) :
    Calls Tryz.prog 55 #[.int .i64 x, .string t, .int .i64 (n : Int)] w (MkSig (gP n) (sWith (expN x) n (bs t)) w) := by
  obtain ⟨X, hX⟩ : ∃ X, X = expN x := ⟨_, rfl⟩
  have hXl := expN_lt x
  rw [← hX] at hXl
  rw [← hX]
  have HX := Lib.hid hX
  clear hX
  have h0 := SigAt.start w 0 0
  go_enter Tryz.func55, Tryz.ntmps55
  go_wp2_with fail
  refine (exponent_any x _ hx).mono ?_
  rintro e w1 ⟨x1, HX1, hx1, rfl, rfl⟩
  obtain rfl : x1 = X := HX1.out.trans HX.out.symm
  go_wp2_with fail
  refine (rPow_n 4 n _ _ (by omega) (by omega) rfl).mono ?_
  rintro e w1 ⟨r, HR, hr, rfl, rfl⟩
  go_wp2_with fail
  refine (public_any x _ hx).mono ?_
  rintro e w1 ⟨y, HY, hy, rfl, rfl⟩
  go_wp2_with fail
  refine (rchallenge_any r y t _ (by omega) (by omega) ht).mono ?_
  rintro e w2 ⟨c2, HC2, hc2, rfl, hu2⟩
  have h2 := h0.upd hu2
  clear h0
  go_wp2_with fail
  refine (rMul_any _ _ _ _ (by omega) (by omega) (by omega)).mono ?_
  rintro e w10 ⟨m1, HM1, m10, m11, rfl, rfl⟩
  go_wp2_with fail
  refine (rAdd_any _ _ _ _ (by omega) (by omega) (by omega)).mono ?_
  rintro e w10 ⟨m2, HM2, m20, m21, rfl, rfl⟩
  obtain ⟨s, rfl⟩ : ∃ s : Nat, m2 = (s : Int) := ⟨m2.toNat, by omega⟩
  obtain ⟨k0, k1⟩ := h2.cells
  obtain ⟨f0, f1⟩ := h2.free
  go_wp2_with fail
  refine bodyPost_ret (v := .agg #[.int .i64 (r : Int), .int .i64 (s : Int)]) (by simp [results, Tryz.results55, go_sem, k0, k1]) rfl ⟨r, s, ?_, ?_, hr, by omega, rfl, ?_⟩
  · show _ = _
    rw [HR.out, gP]
  · show _ = _
    have h2 := HM2.out
    have hrg : r = gP n := by rw [HR.out, gP]
    rw [HM1.out, HC2.out, HY.out, hrg, ← HX.out, Int.add_emod_emod] at h2
    rw [sWith]
    have h3 : ((s : Nat) : Int) = (((n + x1 * chalN (gP n) (gP x1) (bs t)) % Qn : Nat) : Int) := by
      rw [h2]; simp [Qn]
    omega
  · exact (h2.up.setNew (p := ⟨_, _, none⟩) (Nat.le_refl _) _).setNew (p := ⟨_, _, none⟩) (Nat.le_refl _) _

set_option maxHeartbeats 1000000 in
theorem rsign_any (x : Int) (t : ByteArray) (w : World) (hx : -9223372036854775808 ≤ x ∧ x ≤ 9223372036854775807) (ht : t.size ≤ 140737488355000) :
    Calls Tryz.prog 22 #[.int .i64 x, .string t] w (MkSig (gP (nonceN (expN x) (bs t))) (sWith (expN x) (nonceN (expN x) (bs t)) (bs t)) w) := by
  have h0 := SigAt.start w 0 0
  have h110 : (ByteArray.mk #[110]).size = 1 := rfl
  go_enter Tryz.func22, Tryz.ntmps22
  go_wp2_with fail
  refine (exponent_any x _ hx).mono ?_
  rintro e w1 ⟨X, HX, hX, rfl, rfl⟩
  go_wp2_with fail
  refine (rBytes_any X _ (by omega)).mono ?_
  rintro e w2 ⟨b1, HB1, b1l, rfl, hu2⟩
  rw [len8_length] at b1l
  have h2 := h0.upd hu2
  clear h0
  go_wp2_with fail
  refine (rpositive_any _ w2 (by simp [ByteArray.size_append]; omega)).mono ?_
  rintro e w3 ⟨n, HN, hn0, hn, rfl, hu3⟩
  have hnn : n = nonceN (expN x) (bs t) := by
    rw [HN.out, bs_append, bs_append, HB1.out, HX.out, nonceN]
    rfl
  have HNN := Lib.hid hnn
  have h3 := h2.upd hu3
  clear hnn h2
  go_wp2_with fail
  refine (signWith_any x t n w3 hx ht hn).mono ?_
  rintro e w4 ⟨r, s, HR, HS, hr, hs, rfl, hu4⟩
  have h4 := h3.upd hu4
  obtain ⟨k0, k1⟩ := h4.cells
  obtain ⟨f0, f1⟩ := h4.free
  go_wp2_with fail
  refine bodyPost_ret (v := .agg #[.int .i64 (r : Int), .int .i64 (s : Int)]) (by simp [results, Tryz.results22, go_sem, k0, k1]) rfl ⟨r, s, ?_, ?_, hr, hs, rfl, ?_⟩
  · show _ = _
    rw [HR.out, HNN.out]
  · show _ = _
    rw [HS.out, HNN.out]
  · exact (h4.up.setNew (p := ⟨_, _, none⟩) (Nat.le_refl _) _).setNew (p := ⟨_, _, none⟩) (Nat.le_refl _) _
end Go.Proofs.YtkhodajdionaaaaGreatDoor
