/- equal.Prove, equal.Verify. -/
import Derived.Test.YtkhodajdionaaaaGreatDoorEqA
namespace Go.Proofs.YtkhodajdionaaaaGreatDoor
open Go.RowKit
set_option maxRecDepth 100000

theorem row_upd {w w' : World} {g : Nat} {o : Obj} (h : w.heap[g]? = some o) (u : Upd [] [] w w') : w'.heap[g]? = some o := by
  rw [u.block _ (Array.getElem?_eq_some_iff.1 h).1 (by simp)]; exact h
theorem row_lt {w : World} {g : Nat} {o : Obj} (h : w.heap[g]? = some o) : g < w.heap.size := (Array.getElem?_eq_some_iff.1 h).1

theorem ipE {n : Nat} (h : n < 2305843009213691579) : i64in (n : Int) := ⟨by omega, by omega⟩
theorem iqE {n : Nat} (h : n < 1152921504606845789) : i64in (n : Int) := ⟨by omega, by omega⟩

theorem gPow_n (a n : Nat) (m : Int) (w : World) (ha : a ≤ 9223372036854775807) (hn : n ≤ 9223372036854775807) (hm : m = 2305843009213691579) :
    Calls Tryz.prog 16 #[.int .i64 (a : Int), .int .i64 (n : Int), .int .i64 m] w (MkN 2305843009213691579 (pP a n) w) := by
  subst hm
  refine (pow_any a 2305843009213691579 n w (by omega) hn (by omega)).mono ?_
  rintro e w1 ⟨r, HR, r0, r1, rfl, hu⟩
  obtain ⟨m, rfl⟩ : ∃ m : Nat, r = (m : Int) := ⟨r.toNat, by omega⟩
  refine ⟨m, ?_, by omega, rfl, hu⟩
  show _ = _
  have h := HR.out
  rw [powZ_cast] at h
  rw [pP]
  omega
theorem gMulP_n (a b : Nat) (w : World) (ha : a ≤ 9223372036854775807) (hb : b ≤ 9223372036854775807) :
    Calls Tryz.prog 17 #[.int .i64 (a : Int), .int .i64 (b : Int), .int .i64 2305843009213691579] w (fun e w' => ∃ r : Nat, Hid (r = a * b % Pn) ∧ r < 2305843009213691579 ∧ e = .returned (.int .i64 (r : Int)) ∧ w = w') := by
  refine (mul_any a b 2305843009213691579 w (by omega) (by omega) (by omega)).mono ?_
  rintro e w1 ⟨r, HR, r0, r1, rfl, rfl⟩
  obtain ⟨m, rfl⟩ : ∃ m : Nat, r = (m : Int) := ⟨r.toNat, by omega⟩
  refine ⟨m, ?_, by omega, rfl, rfl⟩
  show _ = _
  have h : ((m : Nat) : Int) = ((a * b % Pn : Nat) : Int) := by rw [HR.out]; simp [Pn]
  omega
theorem gMulQ_n (a b : Nat) (w : World) (ha : a ≤ 9223372036854775807) (hb : b ≤ 9223372036854775807) :
    Calls Tryz.prog 17 #[.int .i64 (a : Int), .int .i64 (b : Int), .int .i64 1152921504606845789] w (fun e w' => ∃ r : Nat, Hid (r = a * b % Qn) ∧ r < 1152921504606845789 ∧ e = .returned (.int .i64 (r : Int)) ∧ w = w') := by
  refine (mul_any a b 1152921504606845789 w (by omega) (by omega) (by omega)).mono ?_
  rintro e w1 ⟨r, HR, r0, r1, rfl, rfl⟩
  obtain ⟨m, rfl⟩ : ∃ m : Nat, r = (m : Int) := ⟨r.toNat, by omega⟩
  refine ⟨m, ?_, by omega, rfl, rfl⟩
  show _ = _
  have h : ((m : Nat) : Int) = ((a * b % Qn : Nat) : Int) := by rw [HR.out]; simp [Qn]
  omega
theorem gAddQ_n (a b : Nat) (w : World) (ha : a ≤ 9223372036854775807) (hb : b ≤ 9223372036854775807) :
    Calls Tryz.prog 34 #[.int .i64 (a : Int), .int .i64 (b : Int), .int .i64 1152921504606845789] w (fun e w' => ∃ r : Nat, Hid (r = (a + b) % Qn) ∧ r < 1152921504606845789 ∧ e = .returned (.int .i64 (r : Int)) ∧ w = w') := by
  refine (add_any a b 1152921504606845789 w (by omega) (by omega) (by omega)).mono ?_
  rintro e w1 ⟨r, HR, r0, r1, rfl, rfl⟩
  obtain ⟨m, rfl⟩ : ∃ m : Nat, r = (m : Int) := ⟨r.toNat, by omega⟩
  refine ⟨m, ?_, by omega, rfl, rfl⟩
  show _ = _
  have h : ((m : Nat) : Int) = (((a + b) % Qn : Nat) : Int) := by rw [HR.out]; simp [Qn]
  omega

/-- Two numbers in blocks of their own. -/
structure TwoAt (w : World) (gx gk : Nat) (x k : Nat) : Prop where
  hx : w.heap[gx]? = some (.cells #[.int .i64 (x : Int)] 3 (0, 0))
  hk : w.heap[gk]? = some (.cells #[.int .i64 (k : Int)] 3 (0, 0))
theorem TwoAt.upd {w w' : World} {gx gk x k : Nat} (h : TwoAt w gx gk x k) (u : Upd [] [] w w') : TwoAt w' gx gk x k := ⟨row_upd h.hx u, row_upd h.hk u⟩
theorem TwoAt.cells {w : World} {gx gk x k : Nat} (h : TwoAt w gx gk x k) : w.cell? ⟨gx, 0, none⟩ = some (.int .i64 (x : Int)) ∧ w.cell? ⟨gk, 0, none⟩ = some (.int .i64 (k : Int)) :=
  ⟨by rw [cell_of_row _ _ _ _ _ _ h.hx]; rfl, by rw [cell_of_row _ _ _ _ _ _ h.hk]; rfl⟩

set_option maxHeartbeats 1000000 in
theorem prove1_any (b gx gk x k : Nat) (w : World) (hb : b ≤ 9223372036854775807) (hx : x ≤ 9223372036854775807) (hk : k ≤ 9223372036854775807) (h : TwoAt w gx gk x k) :
    Calls Tryz.prog 36 #[.int .i64 (b : Int), .pointer (some ⟨gx, 0, none⟩), .pointer (some ⟨gk, 0, none⟩)] w (MkTwo 2305843009213691579 2305843009213691579 (pP b x) (pP b k) w) := by
  have hu0 : Upd [] [] w w.drew := (Upd.refl _ _).drew
  have h4 := h.upd hu0
  have k4 := h4.cells
  go_enter Tryz.func36, Tryz.ntmps36
  go_wp2_with fail
  go_region_held3 (fun wp => wp.cell? ⟨gx, 0, none⟩ = some (.int .i64 (x : Int)) ∧ wp.cell? ⟨gk, 0, none⟩ = some (.int .i64 (k : Int))) (first | exact k4 | assumption)
    (first
      | (go_at_call 16; ((with_reducible refine (gPow_n b x _ _ hb hx rfl).mono ?_); rintro e wq ⟨y1, HY1, hy1, rfl, hq⟩; have u1 := hu0.trans hq; have g1 := h.upd u1; have kq := g1.cells; clear hq))
      | (go_at_call 16; ((with_reducible refine (gPow_n b k _ _ hb hk rfl).mono ?_); rintro e wq ⟨y2, HY2, hy2, rfl, hq⟩; have u2 := u1.trans hq; have g2 := h.upd u2; have kq := g2.cells; clear hq)))
  go_wp2_with fail
  go_ret2
  exact ⟨y1, y2, HY1, HY2, hy1, hy2, rfl, u2⟩

theorem nat_sub_q (c : Nat) (hc : c < 1152921504606845789) : IntKind.i64.wrap (1152921504606845789 - (c : Int)) = ((Qn - c : Nat) : Int) := by
  have : Qn = 1152921504606845789 := rfl
  rw [wrap_in (by omega) (by omega)]; omega

/-- A proof in a new block. -/
structure ProofAt (w wp : World) (c z : Int) : Prop where
  up : Upd [] [] w wp
  row : wp.heap[w.heap.size]? = some (.cells #[.int .i64 c, .int .i64 z] 25 (0, 0))
theorem ProofAt.start (w : World) (r s : Int) : ProofAt w (w.alloc (.cells #[.int .i64 r, .int .i64 s] 25)) r s := ⟨(Upd.refl _ _).alloc _, heap_alloc_new _ _⟩
theorem ProofAt.upd {w wp wq : World} {r s : Int} (h : ProofAt w wp r s) (u : Upd [] [] wp wq) : ProofAt w wq r s := ⟨h.up.trans u, row_upd h.row u⟩
theorem ProofAt.cells {w wp : World} {r s : Int} (h : ProofAt w wp r s) : wp.cell? ⟨w.heap.size, 0, none⟩ = some (.int .i64 r) ∧ wp.cell? ⟨w.heap.size, 1, none⟩ = some (.int .i64 s) :=
  ⟨by rw [cell_of_row _ _ _ _ _ _ h.row]; rfl, by rw [cell_of_row _ _ _ _ _ _ h.row]; rfl⟩
theorem ProofAt.free {w wp : World} {r s : Int} (h : ProofAt w wp r s) : wp.frozen? ⟨w.heap.size, 0, none⟩ = false ∧ wp.frozen? ⟨w.heap.size, 1, none⟩ = false :=
  ⟨frozen_of_row _ _ _ _ _ h.row, frozen_of_row _ _ _ _ _ h.row⟩

set_option maxHeartbeats 1000000 in
theorem side_any (b a c z : Nat) (w0 w : World) (hb : b ≤ 9223372036854775807) (ha : a ≤ 9223372036854775807) (hc : c < 1152921504606845789) (hz : z < 1152921504606845789) (h : ProofAt w0 w (c : Int) (z : Int)) :
    Calls Tryz.prog 42 #[.int .i64 (b : Int), .int .i64 (a : Int), .pointer (some ⟨w0.heap.size, 0, none⟩)] w (MkN 2305843009213691579 (sideE b a c z) w) := by
  have hu0 : Upd [] [] w w.drew := (Upd.refl _ _).drew
  have h4 := h.upd hu0
  have k4 := h4.cells
  have hq1 := nat_sub_q c hc
  obtain ⟨m, hm⟩ : ∃ m, m = Qn - c := ⟨_, rfl⟩
  have hml : m ≤ 1152921504606845789 := by rw [hm]; exact Nat.sub_le _ _
  rw [← hm] at hq1
  have HM := Lib.hid hm
  clear hm
  go_enter Tryz.func42, Tryz.ntmps42
  go_wp2_with fail
  go_region_held3 (fun wp => wp.cell? ⟨w0.heap.size, 0, none⟩ = some (.int .i64 (c : Int)) ∧ wp.cell? ⟨w0.heap.size, 1, none⟩ = some (.int .i64 (z : Int))) (first | exact k4 | assumption)
    (first
      | (go_at_call 16; ((with_reducible refine (gPow_n b z _ _ hb (by omega) rfl).mono ?_); rintro e wq ⟨y1, HY1, hy1, rfl, hq⟩; have u1 := hu0.trans hq; have g1 := h.upd u1; have kq := g1.cells; clear hq))
      | (go_at_call 16; ((with_reducible refine (gPow_n a m _ _ ha (by omega) rfl).mono ?_); rintro e wq ⟨y2, HY2, hy2, rfl, hq⟩; have u2 := u1.trans hq; have g2 := h.upd u2; have kq := g2.cells; clear hq))
      | (go_at_call 17; ((with_reducible refine (gMulP_n y1 y2 _ (by omega) (by omega)).mono ?_); rintro e wq ⟨y3, HY3, hy3, rfl, rfl⟩)))
  go_wp2_with fail
  go_ret
  refine ⟨y3, ?_, hy3, rfl, u2⟩
  show _ = _
  rw [HY3.out, HY1.out, HY2.out, HM.out, sideE]
end Go.Proofs.YtkhodajdionaaaaGreatDoor
