/- The walks of EqualProves, EqualMany. -/
import Derived.Test.YtkhodajdionaaaaGreatDoorREqC
import Derived.Test.YtkhodajdionaaaaGreatDoorEqF
namespace Go.Proofs.YtkhodajdionaaaaGreatDoor
open Go.RowKit
set_option maxRecDepth 100000

theorem prove_both (x g h : Int) (hx : -9223372036854775808 ≤ x ∧ x ≤ 9223372036854775807) (hg : i64in g) (hh : i64in h) : ∃ c z : Nat,
    (∀ w, Tabs w → Calls Tryz.prog 11 #[.int .i64 x, .int .i64 g, .int .i64 h] w (fun e w' => e = .returned (.agg #[.int .i64 (c : Int), .int .i64 (z : Int)]) ∧ Upd [] [] w w')) ∧
    ∀ w, Calls Tryz.prog 12 #[.int .i64 x, .int .i64 g, .int .i64 h] w (fun e w' => e = .returned (.agg #[.int .i64 (c : Int), .int .i64 (z : Int)]) ∧ Upd [] [] w w') := by
  by_cases hm : memB g = true ∧ memB h = true
  · obtain ⟨G, rfl, hG⟩ := memB_pos hm.1
    obtain ⟨H, rfl, hH⟩ := memB_pos hm.2
    refine ⟨cWith (expN x) G H (nonceE (expN x) G H), zWith (expN x) G H (nonceE (expN x) G H), ?_, ?_⟩
    · intro w ht
      refine (prove_mem x G H w hx hG hH ht).mono ?_
      rintro e w' ⟨a, b, HA, HB, _, _, rfl, hu⟩
      exact ⟨by rw [HA.out, HB.out], hu⟩
    · intro w
      refine (rprove_mem x G H w hx hG hH).mono ?_
      rintro e w' ⟨a, b, HA, HB, _, _, rfl, hu⟩
      exact ⟨by rw [HA.out, HB.out], hu⟩
  · have hm2 : memB g = false ∨ memB h = false := by
      cases h1 : memB g <;> cases h2 : memB h <;> simp_all
    refine ⟨0, 0, ?_, ?_⟩
    · intro w ht
      refine (prove_no x g h w hg hh hm2).mono ?_
      rintro e w' ⟨a, b, HA, HB, _, _, rfl, hu⟩
      exact ⟨by rw [HA.out, HB.out], hu⟩
    · intro w
      refine (rprove_no x g h w hg hh hm2).mono ?_
      rintro e w' ⟨a, b, HA, HB, _, _, rfl, hu⟩
      exact ⟨by rw [HA.out, HB.out], hu⟩

set_option maxHeartbeats 1000000 in
theorem equalProves_walk (x g h : Int) (w : World) (hx : -9223372036854775808 ≤ x ∧ x ≤ 9223372036854775807) (hg : -9223372036854775808 ≤ g ∧ g ≤ 9223372036854775807) (hh : -9223372036854775808 ≤ h ∧ h ≤ 9223372036854775807) (htab : Tabs w) :
    Calls Tryz.prog 3 #[.int .i64 x, .int .i64 g, .int .i64 h] w (TrueMk w) := by
  go_enter Tryz.func3, Tryz.ntmps3
  go_wp2_with fail
  refine (sanityE_any w htab).mono ?_
  rintro e w1 ⟨rfl, hu1⟩
  go_wp2_with fail
  refine (element_any g w1 hg).mono ?_
  rintro e w2 ⟨G, HG, hG, rfl, rfl⟩
  go_wp2_with fail
  refine (element_any h w1 hh).mono ?_
  rintro e w2 ⟨H, HH, hH, rfl, rfl⟩
  obtain ⟨c1, z1, a1, b1⟩ := prove_both x G H hx (ipE hG) (ipE hH)
  obtain ⟨c2, z2, a2, b2⟩ := prove_both x g H hx hg (ipE hH)
  obtain ⟨c3, z3, a3, b3⟩ := prove_both x G h hx (ipE hG) hh
  have A1 := Lib.hid a1
  have B1 := Lib.hid b1
  have A2 := Lib.hid a2
  have B2 := Lib.hid b2
  have A3 := Lib.hid a3
  have B3 := Lib.hid b3
  clear a1 b1 a2 b2 a3 b3 HG HH
  go_wp2_with fail
  refine (A1.out w1 (htab.upd hu1)).mono ?_
  rintro e w2 ⟨rfl, hu2⟩
  go_wp2_with fail
  refine (B1.out w2).mono ?_
  rintro e w3 ⟨rfl, hu3⟩
  have u3 := hu1.trans (hu2.trans hu3)
  go_wp2_with fail
  refine (A2.out w3 (htab.upd u3)).mono ?_
  rintro e w4 ⟨rfl, hu4⟩
  go_wp2_with fail
  refine (B2.out w4).mono ?_
  rintro e w5 ⟨rfl, hu5⟩
  have u5 := u3.trans (hu4.trans hu5)
  go_wp2_with fail
  refine (A3.out w5 (htab.upd u5)).mono ?_
  rintro e w6 ⟨rfl, hu6⟩
  go_wp2_with fail
  refine (B3.out w6).mono ?_
  rintro e w7 ⟨rfl, hu7⟩
  go_wp2_with fail
  go_ret
  exact ⟨rfl, u5.trans (hu6.trans hu7)⟩

/-- Two numbers in a new block. -/
structure PairAt (w wp : World) (a b : Int) : Prop where
  up : Upd [] [] w wp
  row : wp.heap[w.heap.size]? = some (.cells #[.int .i64 a, .int .i64 b] 28 (0, 0))
theorem PairAt.start (w : World) (a b : Int) : PairAt w (w.alloc (.cells #[.int .i64 a, .int .i64 b] 28)) a b := ⟨(Upd.refl _ _).alloc _, heap_alloc_new _ _⟩
theorem PairAt.upd {w wp wq : World} {a b : Int} (h : PairAt w wp a b) (u : Upd [] [] wp wq) : PairAt w wq a b := ⟨h.up.trans u, row_upd h.row u⟩
theorem PairAt.cells {w wp : World} {a b : Int} (h : PairAt w wp a b) : wp.cell? ⟨w.heap.size, 0, none⟩ = some (.int .i64 a) ∧ wp.cell? ⟨w.heap.size, 1, none⟩ = some (.int .i64 b) :=
  ⟨by rw [cell_of_row _ _ _ _ _ _ h.row]; rfl, by rw [cell_of_row _ _ _ _ _ _ h.row]; rfl⟩

set_option maxHeartbeats 2000000 in
theorem equalMany_walk (x q0 q1 k : Int) (w : World) (hx : -9223372036854775808 ≤ x ∧ x ≤ 9223372036854775807)
    (h0 : -9223372036854775808 ≤ q0 ∧ q0 ≤ 9223372036854775807) (h1 : -9223372036854775808 ≤ q1 ∧ q1 ≤ 9223372036854775807) (hk : -9223372036854775808 ≤ k ∧ k ≤ 9223372036854775807) (htab : Tabs w) :
    Calls Tryz.prog 4 #[.int .i64 x, .agg #[.int .i64 q0, .int .i64 q1], .int .i64 k] w (TrueMk w) := by
  have s0 := PairAt.start w q0 q1
  go_enter Tryz.func4, Tryz.ntmps4
  go_wp2_with fail
  refine (sanityE_any _ (htab.upd s0.up)).mono ?_
  rintro e w1 ⟨rfl, hu1⟩
  have s1 := (s0.upd hu1).upd (Upd.refl _ _).drew
  clear s0
  have k1 := s1.cells
  go_wp2_with fail
  go_region_held3 (fun wp => wp.cell? ⟨w.heap.size, 0, none⟩ = some (.int .i64 q0) ∧ wp.cell? ⟨w.heap.size, 1, none⟩ = some (.int .i64 q1)) (first | exact k1 | assumption)
    (first
      | (go_at_call 10; ((with_reducible refine (element_any q0 _ h0).mono ?_); rintro e wq ⟨G, HG, hG, rfl, rfl⟩))
      | (go_at_call 10; ((with_reducible refine (element_any q1 _ h1).mono ?_); rintro e wq ⟨H, HH, hH, rfl, rfl⟩)))
  have u1 := s1.up
  clear s1 k1
  generalize w1.drew = w2 at *
  have mG : memN G := by rw [HG.out]; exact elemN_mem (expN_lt q0)
  have mH : memN H := by rw [HH.out]; exact elemN_mem (expN_lt q1)
  have HM := Lib.hid (And.intro mG mH)
  clear mG mH
  go_wp2_with fail
  refine (exponent6_any x w2 hx).mono ?_
  rintro e wq ⟨X, HX, hX, rfl, rfl⟩
  go_wp2_with fail
  refine (exponent6_any k w2 hk).mono ?_
  rintro e wq ⟨K, HK, hK, rfl, rfl⟩
  go_wp2_with fail
  refine (proveWith_any x G H K w2 hx hG hH hK).mono ?_
  rintro e w3 ⟨c, z, HC, HZ, hc, hz, rfl, hu3⟩
  have u3 := u1.trans hu3
  have p4 := (ProofAt.start w3 c z).upd (Upd.refl _ _).drew
  have k4 := p4.cells
  have u4 := u3.trans p4.up
  go_wp2_with fail
  go_region_held3 (fun wp => wp.cell? ⟨w3.heap.size, 0, none⟩ = some (.int .i64 (c : Int)) ∧ wp.cell? ⟨w3.heap.size, 1, none⟩ = some (.int .i64 (z : Int))) (first | exact k4 | assumption)
    (first
      | (go_at_call 16; ((with_reducible refine (gPow_n G X _ _ (by omega) (by omega) rfl).mono ?_); rintro e wq ⟨A, HA, hA, rfl, hq⟩; have p5 := p4.upd hq; have kq := p5.cells; clear hq))
      | (go_at_call 16; ((with_reducible refine (gPow_n H X _ _ (by omega) (by omega) rfl).mono ?_); rintro e wq ⟨B, HB, hB, rfl, hq⟩; have p6 := p5.upd hq; have kq := p6.cells; have HV : Hid (verE (G : Int) (A : Int) (H : Int) (B : Int) (c : Int) (z : Int) = true) := (by show _ = _; rw [HC.out, HZ.out, HA.out, HB.out, HX.out]; exact verE_with HM.out.1 HM.out.2 _ _); clear hq))
      | (go_at_call 15; ((with_reducible refine (everify_is (G : Int) (A : Int) (H : Int) (B : Int) (c : Int) (z : Int) true _ (ipE hG) (ipE hA) (ipE hH) (ipE hB) (iqE hc) (iqE hz) (htab.upd (u3.trans p6.up)) HV.out).mono ?_); rintro e wz ⟨rfl, hq⟩; have p7 := p6.upd hq; have kq := p7.cells; clear hq)))
  go_wp2_with fail
  go_ret
  exact ⟨rfl, u3.trans p7.up⟩
end Go.Proofs.YtkhodajdionaaaaGreatDoor
