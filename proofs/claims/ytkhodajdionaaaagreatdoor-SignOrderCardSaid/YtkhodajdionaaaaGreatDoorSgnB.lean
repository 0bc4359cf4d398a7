/- sign.Key, sign.Sign, sign.Verify. -/
import Derived.Test.YtkhodajdionaaaaGreatDoorSgnA
namespace Go.Proofs.YtkhodajdionaaaaGreatDoor
open Go.RowKit
set_option maxRecDepth 100000

/-- The exponent of a secret. -/
def expN (x : Int) : Nat := (x % 1152921504606845789).toNat
theorem expN_cast (x : Int) : (expN x : Int) = x % 1152921504606845789 := by unfold expN; omega
theorem expN_lt (x : Int) : expN x < 1152921504606845789 := by unfold expN; omega
theorem expN_of {n : Nat} (h : n < Qn) : expN (n : Int) = n := by
  have h' : n < 1152921504606845789 := h
  unfold expN; omega

/-- It returns the numbers r and s as two results; only new blocks have come. -/
def MkTwo (m k r s : Nat) (w : World) (e : Ending) (w' : World) : Prop := ∃ a b : Nat, Hid (a = r) ∧ Hid (b = s) ∧ a < m ∧ b < k ∧ e = .returned (.tuple #[.int .i64 (a : Int), .int .i64 (b : Int)]) ∧ Upd [] [] w w'
/-- It returns a signature. -/
def MkSig (r s : Nat) (w : World) (e : Ending) (w' : World) : Prop := ∃ a b : Nat, Hid (a = r) ∧ Hid (b = s) ∧ a < 2305843009213691579 ∧ b < 1152921504606845789 ∧ e = .returned (.agg #[.int .i64 (a : Int), .int .i64 (b : Int)]) ∧ Upd [] [] w w'

theorem positive_hid (n : Nat) (w : World) (hn : n < 1152921504606845789) : Calls Tryz.prog 62 #[.int .i64 (n : Int)] w (fun e w' => ∃ r : Nat, Hid (r = posN n) ∧ 0 < r ∧ r < 1152921504606845789 ∧ e = .returned (.int .i64 (r : Int)) ∧ w = w') := by
  refine (positive_any n w).mono ?_
  rintro e w' ⟨rfl, rfl⟩
  exact ⟨_, rfl, posN_pos n, posN_lt hn, rfl, rfl⟩

theorem key_any (s : ByteArray) (w : World) (hs : s.size ≤ 140737488355000) (htab : Tabs w) :
    Calls Tryz.prog 27 #[.string s] w (MkTwo 1152921504606845789 2305843009213691579 (keyN (bs s)) (gP (keyN (bs s))) w) := by
  go_enter Tryz.func27, Tryz.ntmps27
  go_wp2_with fail
  have hst := strs2 w ⟨#[107]⟩ s 9
  have hu0 : Upd [] [] w (w.alloc (.cells #[.string ⟨#[107]⟩, .string s] 9)) := (Upd.refl _ _).alloc _
  have HST := Lib.hid hst
  have HFL : Hid ((([⟨#[107]⟩, s] : List ByteArray).map bs).flatten = [107] ++ bs s) := by
    show _ = _
    simp
    rfl
  clear hst
  refine (sScalar_any [⟨#[107]⟩, s] w.heap.size _ _ HST.out (by simp) (by simp) (by rw [HFL.out]; simp [bs_length]; omega) (htab.upd hu0)).mono ?_
  rintro e w1 ⟨c, HC, hc, rfl, hu1⟩
  go_wp2_with fail
  refine (positive_hid c w1 hc).mono ?_
  rintro e w2 ⟨r, HR, hr0, hr, rfl, rfl⟩
  go_wp2_with fail
  refine (power_any r w1 (by omega)).mono ?_
  rintro e w3 ⟨y, HY, hy, rfl, hu3⟩
  go_wp2_with fail
  go_ret2
  have e1 : r = keyN (bs s) := by
    rw [HR.out, HC.out, HFL.out, keyN]
  exact ⟨r, y, e1, by show _ = _; rw [HY.out, e1], hr, hy, rfl, (hu0.trans hu1).trans hu3⟩

set_option maxHeartbeats 1000000 in
theorem sign_any (x : Int) (t : ByteArray) (w : World) (hx : -9223372036854775808 ≤ x ∧ x ≤ 9223372036854775807) (ht : t.size ≤ 140737488355000) (htab : Tabs w) :
    Calls Tryz.prog 48 #[.int .i64 x, .string t] w (MkSig (gP (nonceN (expN x) (bs t))) (sWith (expN x) (nonceN (expN x) (bs t)) (bs t)) w) := by
  obtain ⟨X, hX⟩ : ∃ X, X = expN x := ⟨_, rfl⟩
  have hXl := expN_lt x
  rw [← hX] at hXl
  rw [← hX]
  have HX := Lib.hid hX
  clear hX
  go_enter Tryz.func48, Tryz.ntmps48
  go_wp2_with fail
  have hu0 : Upd [] [] w (w.alloc (.cells #[.int .i64 0, .int .i64 0] 43)) := (Upd.refl _ _).alloc _
  refine (add_any x 0 1152921504606845789 _ hx (by omega) (by omega)).mono ?_
  rintro e w1 ⟨x1, HX1, x10, x11, rfl, rfl⟩
  have hx2 : x1 = (X : Int) := by rw [HX1.out, HX.out, expN_cast, Int.add_zero]
  subst hx2
  have hc0 : (w.alloc (.cells #[.int .i64 0, .int .i64 0] 43)).heap[w.heap.size]? = some (.cells #[.int .i64 0, .int .i64 0] 43 (0, 0)) := heap_alloc_new _ _
  have HC0 := Lib.hid hc0
  clear hc0 HX1
  have hg : w.heap.size < (w.alloc (.cells #[.int .i64 0, .int .i64 0] 43)).heap.size := by simp
  generalize w.alloc (.cells #[.int .i64 0, .int .i64 0] 43) = w1 at *
  go_wp2_with fail
  refine (bytes_any X w1 (by omega)).mono ?_
  rintro e w2 ⟨b1, HB1, b1l, rfl, hu2⟩
  go_wp2_with fail
  have hst := strs3 w2 ⟨#[110]⟩ b1 t 9
  have hu3 : Upd [] [] w2 (w2.alloc (.cells #[.string ⟨#[110]⟩, .string b1, .string t] 9)) := (Upd.refl _ _).alloc _
  have HST := Lib.hid hst
  have HFL : Hid ((([⟨#[110]⟩, b1, t] : List ByteArray).map bs).flatten = [110] ++ len8 X ++ bs t) := by
    show _ = _
    simp [HB1.out]
    rfl
  clear hst
  refine (sScalar_any [⟨#[110]⟩, b1, t] w2.heap.size _ _ HST.out (by simp) (by simp) (by rw [HFL.out]; simp [bs_length, len8_length]; omega) (htab.upd (hu0.trans (hu2.trans hu3)))).mono ?_
  rintro e w4 ⟨c, HC, hc, rfl, hu4⟩
  go_wp2_with fail
  refine (positive_hid c w4 hc).mono ?_
  rintro e w5 ⟨n, HN, hn0, hn, rfl, rfl⟩
  have hnn : n = nonceN X (bs t) := by rw [HN.out, HC.out, HFL.out, nonceN]
  have HNN := Lib.hid hnn
  clear hnn
  go_wp2_with fail
  refine (power_any n w4 (by omega)).mono ?_
  rintro e w6 ⟨r, HR, hr, rfl, hu6⟩
  go_wp2_with fail
  refine (power_any X w6 (by omega)).mono ?_
  rintro e w7 ⟨y, HY, hy, rfl, hu7⟩
  have hu8 := ((hu2.trans hu3).trans hu4).trans (hu6.trans hu7)
  go_wp2_with fail
  refine (challenge_any r y t w7 (by omega) (by omega) ht (htab.upd (hu0.trans hu8))).mono ?_
  rintro e w9 ⟨c2, HC2, hc2, rfl, hu9⟩
  have hu10 := hu8.trans hu9
  go_wp2_with fail
  refine (mul_any _ _ _ _ (by omega) (by omega) (by omega)).mono ?_
  rintro e w10 ⟨m1, HM1, m10, m11, rfl, rfl⟩
  go_wp2_with fail
  refine (add_any _ _ _ _ (by omega) (by omega) (by omega)).mono ?_
  rintro e w10 ⟨m2, HM2, m20, m21, rfl, rfl⟩
  obtain ⟨s, rfl⟩ : ∃ s : Nat, m2 = (s : Int) := ⟨m2.toNat, by omega⟩
  have hc9 : w9.heap[w.heap.size]? = some (.cells #[.int .i64 0, .int .i64 0] 43 (0, 0)) := by rw [hu10.block _ hg (by simp)]; exact HC0.out
  have k0 : w9.cell? ⟨w.heap.size, 0, none⟩ = some (.int .i64 0) := by rw [cell_of_row _ _ _ _ _ _ hc9]; rfl
  have k1 : w9.cell? ⟨w.heap.size, 1, none⟩ = some (.int .i64 0) := by rw [cell_of_row _ _ _ _ _ _ hc9]; rfl
  have f0 : w9.frozen? ⟨w.heap.size, 0, none⟩ = false := frozen_of_row _ _ _ _ _ hc9
  have f1 : w9.frozen? ⟨w.heap.size, 1, none⟩ = false := frozen_of_row _ _ _ _ _ hc9
  clear hc9
  go_wp2_with fail
  refine bodyPost_ret (v := .agg #[.int .i64 (r : Int), .int .i64 (s : Int)]) (by simp [results, Tryz.results48, go_sem, k0, k1]) rfl ⟨r, s, ?_, ?_, hr, by omega, rfl, ?_⟩
  · show _ = _
    rw [HR.out, HNN.out]
  · show _ = _
    have h2 := HM2.out
    rw [HM1.out, HC2.out, HR.out, HY.out, HNN.out] at h2
    rw [Int.add_emod_emod] at h2
    rw [sWith]
    have h3 : ((s : Nat) : Int) = (((nonceN X (bs t) + X * chalN (gP (nonceN X (bs t))) (gP X) (bs t)) % Qn : Nat) : Int) := by
      rw [h2]; simp [Qn]
    omega
  · exact ((hu0.trans hu10).setNew (p := ⟨_, _, none⟩) (Nat.le_refl _) _).setNew (p := ⟨_, _, none⟩) (Nat.le_refl _) _

/-- Member by its answer. -/
theorem member_is (a : Int) (b : Bool) (w : World) (ha : -9223372036854775808 ≤ a ∧ a ≤ 9223372036854775807) (h : memB a = b) :
    Calls Tryz.prog 33 #[.int .i64 a] w (fun e w' => e = .returned (.bool b) ∧ Upd [] [] w w') := by
  refine (member_any a w ha).mono ?_
  rintro e w' ⟨r, HR, rfl, hu⟩
  exact ⟨by rw [HR.out, h], hu⟩

/-- A signature in a new block. -/
structure SigAt (w wp : World) (r s : Int) : Prop where
  up : Upd [] [] w wp
  row : wp.heap[w.heap.size]? = some (.cells #[.int .i64 r, .int .i64 s] 43 (0, 0))
theorem SigAt.start (w : World) (r s : Int) : SigAt w (w.alloc (.cells #[.int .i64 r, .int .i64 s] 43)) r s := ⟨(Upd.refl _ _).alloc _, heap_alloc_new _ _⟩
theorem SigAt.upd {w wp wq : World} {r s : Int} (h : SigAt w wp r s) (u : Upd [] [] wp wq) : SigAt w wq r s :=
  ⟨h.up.trans u, by rw [u.block _ (Array.getElem?_eq_some_iff.1 h.row).1 (by simp)]; exact h.row⟩
theorem SigAt.cells {w wp : World} {r s : Int} (h : SigAt w wp r s) : wp.cell? ⟨w.heap.size, 0, none⟩ = some (.int .i64 r) ∧ wp.cell? ⟨w.heap.size, 1, none⟩ = some (.int .i64 s) :=
  ⟨by rw [cell_of_row _ _ _ _ _ _ h.row]; rfl, by rw [cell_of_row _ _ _ _ _ _ h.row]; rfl⟩

set_option maxHeartbeats 1000000 in
theorem verify_any (p : Int) (t : ByteArray) (r s : Int) (w : World) (hp : -9223372036854775808 ≤ p ∧ p ≤ 9223372036854775807) (hr : -9223372036854775808 ≤ r ∧ r ≤ 9223372036854775807) (hs : -9223372036854775808 ≤ s ∧ s ≤ 9223372036854775807) (ht : t.size ≤ 140737488355000) (htab : Tabs w) :
    Calls Tryz.prog 23 #[.int .i64 p, .string t, .agg #[.int .i64 r, .int .i64 s]] w (MkB (verB p (bs t) r s) w) := by
  have hu0 : Upd [] [] w (w.alloc (.cells #[.int .i64 r, .int .i64 s] 43)) := (Upd.refl _ _).alloc _
  have hc0 : (w.alloc (.cells #[.int .i64 r, .int .i64 s] 43)).heap[w.heap.size]? = some (.cells #[.int .i64 r, .int .i64 s] 43 (0, 0)) := heap_alloc_new _ _
  have HC0 := Lib.hid hc0
  clear hc0
  have hg : w.heap.size < (w.alloc (.cells #[.int .i64 r, .int .i64 s] 43)).heap.size := by simp
  cases hm1 : memB p with
  | false =>
    have HV : Hid (verB p (bs t) r s = false) := by show _ = _; simp [verB, hm1]
    have HM1 := Lib.hid hm1
    clear hm1
    go_enter Tryz.func23, Tryz.ntmps23
    go_wp2_with fail
    refine (member_is p false _ hp HM1.out).mono ?_
    rintro e w1 ⟨rfl, hu1⟩
    go_wp2_with fail
    go_ret
    exact ⟨_, HV.out.symm, rfl, hu0.trans hu1⟩
  | true =>
  have HM1 := Lib.hid hm1
  cases hm2 : memB r with
  | false =>
    have HV : Hid (verB p (bs t) r s = false) := by show _ = _; simp [verB, hm2]
    have HM2 := Lib.hid hm2
    clear hm1 hm2
    go_enter Tryz.func23, Tryz.ntmps23
    go_wp2_with fail
    refine (member_is p true _ hp HM1.out).mono ?_
    rintro e w1 ⟨rfl, hu1⟩
    have hc1 : w1.heap[w.heap.size]? = some (.cells #[.int .i64 r, .int .i64 s] 43 (0, 0)) := by rw [hu1.block _ hg (by simp)]; exact HC0.out
    have k0 : w1.cell? ⟨w.heap.size, 0, none⟩ = some (.int .i64 r) := by rw [cell_of_row _ _ _ _ _ _ hc1]; rfl
    clear hc1
    go_wp2_with fail
    refine (member_is r false _ hr HM2.out).mono ?_
    rintro e w2 ⟨rfl, hu2⟩
    go_wp2_with fail
    go_ret
    exact ⟨_, HV.out.symm, rfl, (hu0.trans hu1).trans hu2⟩
  | true =>
  obtain ⟨P, rfl, hP⟩ := memB_pos hm1
  obtain ⟨R, rfl, hR⟩ := memB_pos hm2
  have HM2 := Lib.hid hm2
  clear hm1 hm2
  have hP2 : P < 2305843009213691579 := hP.2.1
  have hR2 : R < 2305843009213691579 := hR.2.1
  have HPR := Lib.hid (And.intro hP hR)
  clear hP hR
  by_cases hs0 : s < 0
  · have HV : Hid (verB (P : Int) (bs t) (R : Int) s = false) := by
      show _ = _
      have : decide (0 ≤ s) = false := by rw [decide_eq_false_iff_not]; omega
      simp [verB, this]
    go_enter Tryz.func23, Tryz.ntmps23
    go_wp2_with fail
    refine (member_is P true _ hp HM1.out).mono ?_
    rintro e w1 ⟨rfl, hu1⟩
    have h1 := (SigAt.start w R s).upd hu1
    obtain ⟨k0, k1⟩ := h1.cells
    go_wp2_with fail
    refine (member_is R true _ hr HM2.out).mono ?_
    rintro e w2 ⟨rfl, hu2⟩
    have h2 := h1.upd hu2
    clear h1 k0 k1
    obtain ⟨k0, k1⟩ := h2.cells
    go_wp2_with fail
    go_ret
    exact ⟨_, HV.out.symm, rfl, h2.up⟩
  by_cases hs1 : 1152921504606845788 < s
  · have HV : Hid (verB (P : Int) (bs t) (R : Int) s = false) := by
      show _ = _
      have : decide (s < 1152921504606845789) = false := by rw [decide_eq_false_iff_not]; omega
      simp [verB, this]
    go_enter Tryz.func23, Tryz.ntmps23
    go_wp2_with fail
    refine (member_is P true _ hp HM1.out).mono ?_
    rintro e w1 ⟨rfl, hu1⟩
    have h1 := (SigAt.start w R s).upd hu1
    obtain ⟨k0, k1⟩ := h1.cells
    go_wp2_with fail
    refine (member_is R true _ hr HM2.out).mono ?_
    rintro e w2 ⟨rfl, hu2⟩
    have h2 := h1.upd hu2
    clear h1 k0 k1
    obtain ⟨k0, k1⟩ := h2.cells
    go_wp2_with fail
    go_ret
    exact ⟨_, HV.out.symm, rfl, h2.up⟩
  obtain ⟨T, rfl⟩ : ∃ T : Nat, s = (T : Int) := ⟨s.toNat, by omega⟩
  go_enter Tryz.func23, Tryz.ntmps23
  go_wp2_with fail
  refine (member_is P true _ hp HM1.out).mono ?_
  rintro e w1 ⟨rfl, hu1⟩
  have h1 := (SigAt.start w R T).upd hu1
  obtain ⟨k0, k1⟩ := h1.cells
  go_wp2_with fail
  refine (member_is R true _ hr HM2.out).mono ?_
  rintro e w2 ⟨rfl, hu2⟩
  have h2 := h1.upd hu2
  clear h1 k0 k1
  obtain ⟨k0, k1⟩ := h2.cells
  go_wp2_with fail
  refine (challenge_any R P t w2 (by omega) (by omega) ht (htab.upd h2.up)).mono ?_
  rintro e w3 ⟨c, HC, hc, rfl, hu3⟩
  have h3 := h2.upd hu3
  clear h2 k0 k1
  have h4 := h3.upd (Upd.refl _ _).drew
  have k4 := h4.cells
  go_wp2_with fail
  clear h3 HC0
  go_region_held3 (fun wp => wp.cell? ⟨w.heap.size, 0, none⟩ = some (.int .i64 (R : Int)) ∧ wp.cell? ⟨w.heap.size, 1, none⟩ = some (.int .i64 (T : Int))) (first | exact k4 | assumption)
    (first
      | (go_at_call 57; ((with_reducible refine (power_any T _ (by omega)).mono ?_); rintro e wq ⟨y1, HY1, hy1, rfl, hq⟩; have g1 := h4.upd hq; have kq := g1.cells; clear hq))
      | (go_at_call 16; ((with_reducible refine (pow_any P 2305843009213691579 c _ (by omega) (by omega) (by omega)).mono ?_); rintro e wq ⟨y2, HY2, y20, y21, rfl, hq⟩; have g2 := g1.upd hq; have kq := g2.cells; clear hq))
      | (go_at_call 17; ((with_reducible refine (mul_any R y2 2305843009213691579 _ (by omega) (by omega) (by omega)).mono ?_); rintro e wq ⟨y3, HY3, y30, y31, rfl, rfl⟩)))
  go_wp2_with fail
  go_ret
  refine ⟨_, ?_, rfl, g2.up⟩
  show _ = _
  have e1 := HY3.out
  rw [HY2.out, HC.out] at e1
  have e2 : powZ 4 T 2305843009213691579 = ((gP T : Nat) : Int) := powZ_cast 4 T
  have e3 : decide (0 ≤ (T : Int)) = true := by rw [decide_eq_true_iff]; omega
  have e4 : decide ((T : Int) < 1152921504606845789) = true := by rw [decide_eq_true_iff]; omega
  unfold verB
  rw [HM1.out, HM2.out, e3, e4, Int.toNat_natCast, Int.toNat_natCast, Int.toNat_natCast, e2, ← e1, ← HY1.out]
  rfl
end Go.Proofs.YtkhodajdionaaaaGreatDoor
