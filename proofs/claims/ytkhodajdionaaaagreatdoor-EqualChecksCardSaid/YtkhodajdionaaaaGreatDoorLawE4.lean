/- The walk of EqualChecks. -/
import Derived.Test.YtkhodajdionaaaaGreatDoorREqC
import Derived.Test.YtkhodajdionaaaaGreatDoorEqF
import Derived.Test.YtkhodajdionaaaaGreatDoorDecB
namespace Go.Proofs.YtkhodajdionaaaaGreatDoor
open Go.RowKit
set_option maxRecDepth 100000

/-- A block of ints, written out. -/
theorem six_cells {w : World} {g : Nat} {t : TypeId} {a b c d e f : Int} (h : w.heap[g]? = some (.cells #[.int .i64 a, .int .i64 b, .int .i64 c, .int .i64 d, .int .i64 e, .int .i64 f] t (0, 0))) :
    w.cell? ⟨g, 0, none⟩ = some (.int .i64 a) ∧ w.cell? ⟨g, 1, none⟩ = some (.int .i64 b) ∧ w.cell? ⟨g, 2, none⟩ = some (.int .i64 c) ∧ w.cell? ⟨g, 3, none⟩ = some (.int .i64 d) ∧ w.cell? ⟨g, 4, none⟩ = some (.int .i64 e) ∧ w.cell? ⟨g, 5, none⟩ = some (.int .i64 f) :=
  ⟨by rw [cell_of_row _ _ _ _ _ _ h]; rfl, by rw [cell_of_row _ _ _ _ _ _ h]; rfl, by rw [cell_of_row _ _ _ _ _ _ h]; rfl, by rw [cell_of_row _ _ _ _ _ _ h]; rfl, by rw [cell_of_row _ _ _ _ _ _ h]; rfl, by rw [cell_of_row _ _ _ _ _ _ h]; rfl⟩
theorem three_cells {w : World} {g : Nat} {t : TypeId} {a b c : Int} (h : w.heap[g]? = some (.cells #[.int .i64 a, .int .i64 b, .int .i64 c] t (0, 0))) :
    w.cell? ⟨g, 0, none⟩ = some (.int .i64 a) ∧ w.cell? ⟨g, 1, none⟩ = some (.int .i64 b) ∧ w.cell? ⟨g, 2, none⟩ = some (.int .i64 c) :=
  ⟨by rw [cell_of_row _ _ _ _ _ _ h]; rfl, by rw [cell_of_row _ _ _ _ _ _ h]; rfl, by rw [cell_of_row _ _ _ _ _ _ h]; rfl⟩
theorem two_cells {w : World} {g : Nat} {t : TypeId} {a b : Int} (h : w.heap[g]? = some (.cells #[.int .i64 a, .int .i64 b] t (0, 0))) :
    w.cell? ⟨g, 0, none⟩ = some (.int .i64 a) ∧ w.cell? ⟨g, 1, none⟩ = some (.int .i64 b) :=
  ⟨by rw [cell_of_row _ _ _ _ _ _ h]; rfl, by rw [cell_of_row _ _ _ _ _ _ h]; rfl⟩
theorem two_set {W : World} {g M i : Nat} {v : Value} {c z : Int} (h : W.cell? ⟨M, 0, none⟩ = some (.int .i64 c) ∧ W.cell? ⟨M, 1, none⟩ = some (.int .i64 z)) (n : M ≠ g) :
    (W.setCell ⟨g, i, none⟩ v).cell? ⟨M, 0, none⟩ = some (.int .i64 c) ∧ (W.setCell ⟨g, i, none⟩ v).cell? ⟨M, 1, none⟩ = some (.int .i64 z) :=
  ⟨(World.cell?_setCell_other _ _ _ _ (fun e => n (Addr.mk.inj e).1.symm)).trans h.1, (World.cell?_setCell_other _ _ _ _ (fun e => n (Addr.mk.inj e).1.symm)).trans h.2⟩
theorem vcells {w : World} {X Y : Nat} {t t' : TypeId} {a b c d e f x y : Int} (h : w.heap[X]? = some (.cells #[.int .i64 a, .int .i64 b, .int .i64 c, .int .i64 d, .int .i64 e, .int .i64 f] t (0, 0))) (h' : w.heap[Y]? = some (.cells #[.int .i64 x, .int .i64 y] t' (0, 0))) :
    (w.cell? ⟨X, 0, none⟩ = some (.int .i64 a) ∧ w.cell? ⟨X, 1, none⟩ = some (.int .i64 b) ∧ w.cell? ⟨X, 2, none⟩ = some (.int .i64 c) ∧ w.cell? ⟨X, 3, none⟩ = some (.int .i64 d)) ∧ w.cell? ⟨Y, 0, none⟩ = some (.int .i64 x) ∧ w.cell? ⟨Y, 1, none⟩ = some (.int .i64 y) :=
  ⟨⟨(six_cells h).1, (six_cells h).2.1, (six_cells h).2.2.1, (six_cells h).2.2.2.1⟩, two_cells h'⟩
/-- One of six. -/
theorem six_get {w : World} {g n : Nat} {t : TypeId} {a b c d e f : Int} (h : w.heap[g]? = some (.cells #[.int .i64 a, .int .i64 b, .int .i64 c, .int .i64 d, .int .i64 e, .int .i64 f] t (0, 0))) (hn : n < 6)
    (ia : i64in a) (ib : i64in b) (ic : i64in c) (id : i64in d) (ie : i64in e) (if' : i64in f) : ∃ v, w.cell? ⟨g, n, none⟩ = some (.int .i64 v) ∧ i64in v := by
  obtain ⟨h0, h1, h2, h3, h4, h5⟩ := six_cells h
  match n, hn with
  | 0, _ => exact ⟨a, h0, ia⟩
  | 1, _ => exact ⟨b, h1, ib⟩
  | 2, _ => exact ⟨c, h2, ic⟩
  | 3, _ => exact ⟨d, h3, id⟩
  | 4, _ => exact ⟨e, h4, ie⟩
  | 5, _ => exact ⟨f, h5, if'⟩
/-- Six of which one was changed. -/
theorem six_put {w : World} {g n : Nat} {t : TypeId} {a b c d e f v : Int} (h : w.heap[g]? = some (.cells #[.int .i64 a, .int .i64 b, .int .i64 c, .int .i64 d, .int .i64 e, .int .i64 f] t (0, 0))) (hn : n < 6)
    (ia : i64in a) (ib : i64in b) (ic : i64in c) (id : i64in d) (ie : i64in e) (if' : i64in f) (iv : i64in v) : ∃ a b c d e f : Int, (w.setCell ⟨g, n, none⟩ (.int .i64 v)).heap[g]? = some (.cells #[.int .i64 a, .int .i64 b, .int .i64 c, .int .i64 d, .int .i64 e, .int .i64 f] t (0, 0)) ∧ i64in a ∧ i64in b ∧ i64in c ∧ i64in d ∧ i64in e ∧ i64in f := by
  have hs := heap_setCell_same w g n _ _ (.int .i64 v) h
  match n, hn with
  | 0, _ => exact ⟨v, b, c, d, e, f, hs, iv, ib, ic, id, ie, if'⟩
  | 1, _ => exact ⟨a, v, c, d, e, f, hs, ia, iv, ic, id, ie, if'⟩
  | 2, _ => exact ⟨a, b, v, d, e, f, hs, ia, ib, iv, id, ie, if'⟩
  | 3, _ => exact ⟨a, b, c, v, e, f, hs, ia, ib, ic, iv, ie, if'⟩
  | 4, _ => exact ⟨a, b, c, d, v, f, hs, ia, ib, ic, id, iv, if'⟩
  | 5, _ => exact ⟨a, b, c, d, e, v, hs, ia, ib, ic, id, ie, iv⟩

theorem row_updB {w w' : World} {g L : Nat} {o : Obj} (h : w.heap[g]? = some o) (u : Upd [L] [] w w') (n : g ≠ L) : w'.heap[g]? = some o := by
  rw [u.block _ (Array.getElem?_eq_some_iff.1 h).1 (by simpa using n)]; exact h
theorem element_still (x : Int) (r : Nat) (hr : r = elemN (expN x)) (w : World) (hx : -9223372036854775808 ≤ x ∧ x ≤ 9223372036854775807) : Calls Tryz.prog 10 #[.int .i64 x] w (fun e w' => e = .returned (.int .i64 (r : Int)) ∧ w' = w) := by
  refine (element_any x w hx).mono ?_
  rintro e w' ⟨y, HY, _, rfl, rfl⟩
  exact ⟨by rw [HY.out, hr], rfl⟩
theorem mul_still (a b m r : Int) (hr : r = a * b % m) (w : World) (ha : -9223372036854775808 ≤ a ∧ a ≤ 9223372036854775807) (hb : -9223372036854775808 ≤ b ∧ b ≤ 9223372036854775807) (hm : 1 ≤ m ∧ m ≤ 9223372036854775807) :
    Calls Tryz.prog 17 #[.int .i64 a, .int .i64 b, .int .i64 m] w (fun e w' => e = .returned (.int .i64 r) ∧ w' = w) := by
  refine (mul_any a b m w ha hb hm).mono ?_
  rintro e w' ⟨y, HY, _, _, rfl, rfl⟩
  exact ⟨by rw [HY.out, hr], rfl⟩
theorem ver_both (g a h b c z : Int) (ig : i64in g) (ia : i64in a) (ih : i64in h) (ib : i64in b) (ic : i64in c) (iz : i64in z) : ∃ v : Bool,
    (∀ w, Tabs w → Calls Tryz.prog 15 #[.int .i64 g, .int .i64 a, .int .i64 h, .int .i64 b, .agg #[.int .i64 c, .int .i64 z]] w (fun e w' => e = .returned (.bool v) ∧ Upd [] [] w w')) ∧
    ∀ w, Calls Tryz.prog 18 #[.int .i64 g, .int .i64 a, .int .i64 h, .int .i64 b, .agg #[.int .i64 c, .int .i64 z]] w (fun e w' => e = .returned (.bool v) ∧ Upd [] [] w w') :=
  ⟨_, fun w ht => everify_is g a h b c z _ w ig ia ih ib ic iz ht rfl, fun w => rverify_is g a h b c z _ w ig ia ih ib ic iz rfl⟩

set_option maxHeartbeats 8000000 in
theorem equalChecks_walk (s0 s1 s2 pc pz q0 q1 : Int) (w : World) (h0 : -9223372036854775808 ≤ s0 ∧ s0 ≤ 9223372036854775807) (h1 : -9223372036854775808 ≤ s1 ∧ s1 ≤ 9223372036854775807) (h2 : -9223372036854775808 ≤ s2 ∧ s2 ≤ 9223372036854775807)
    (hpc : -9223372036854775808 ≤ pc ∧ pc ≤ 9223372036854775807) (hpz : -9223372036854775808 ≤ pz ∧ pz ≤ 9223372036854775807) (_hq0 : -9223372036854775808 ≤ q0 ∧ q0 ≤ 9223372036854775807) (hq1 : -9223372036854775808 ≤ q1 ∧ q1 ≤ 9223372036854775807) (htab : Tabs w) :
    Calls Tryz.prog 5 #[.agg #[.int .i64 s0, .int .i64 s1, .int .i64 s2], .agg #[.int .i64 pc, .int .i64 pz], .agg #[.int .i64 q0, .int .i64 q1]] w (TrueMk w) := by
  obtain ⟨W0, hW0⟩ : ∃ W0, W0 = ((w.alloc (.cells #[.int .i64 s0, .int .i64 s1, .int .i64 s2] 33)).alloc (.cells #[.int .i64 pc, .int .i64 pz] 25)).alloc (.cells #[.int .i64 q0, .int .i64 q1] 28) := ⟨_, rfl⟩
  have ra : W0.heap[w.heap.size]? = some (.cells #[.int .i64 s0, .int .i64 s1, .int .i64 s2] 33 (0, 0)) := by
    rw [hW0]
    exact row_upd (heap_alloc_new w _) (((Upd.refl _ _).alloc _).alloc _)
  have rb : W0.heap[w.heap.size + 1]? = some (.cells #[.int .i64 pc, .int .i64 pz] 25 (0, 0)) := by
    have := heap_alloc_new (w.alloc (.cells #[.int .i64 s0, .int .i64 s1, .int .i64 s2] 33)) (.cells #[.int .i64 pc, .int .i64 pz] 25)
    rw [alloc_sizeW] at this
    rw [hW0]
    exact row_upd this ((Upd.refl _ _).alloc _)
  have rc : W0.heap[w.heap.size + 1 + 1]? = some (.cells #[.int .i64 q0, .int .i64 q1] 28 (0, 0)) := by
    have := heap_alloc_new ((w.alloc (.cells #[.int .i64 s0, .int .i64 s1, .int .i64 s2] 33)).alloc (.cells #[.int .i64 pc, .int .i64 pz] 25)) (.cells #[.int .i64 q0, .int .i64 q1] 28)
    rw [alloc_sizeW, alloc_sizeW] at this
    rw [hW0]
    exact this
  have uW : Upd [] [] w W0 := by
    rw [hW0]
    exact (((Upd.refl _ _).alloc _).alloc _).alloc _
  go_enter Tryz.func5, Tryz.ntmps5
  go_wp2_with fail
  rw [← hW0]
  clear hW0
  refine (sanityE_any _ (htab.upd uW)).mono ?_
  rintro e w1 ⟨rfl, hu1⟩
  have v1 := hu1.drew
  have u1 := uW.trans v1
  have ra1 := row_upd ra v1
  have rb1 := row_upd rb v1
  have rc1 := row_upd rc v1
  have k1 := three_cells ra1
  clear ra rb rc
  go_wp2_with fail
  go_region_held3 (fun wp => wp.cell? ⟨w.heap.size, 0, none⟩ = some (.int .i64 s0) ∧ wp.cell? ⟨w.heap.size, 1, none⟩ = some (.int .i64 s1) ∧ wp.cell? ⟨w.heap.size, 2, none⟩ = some (.int .i64 s2)) (first | exact k1 | assumption)
    (first
      | (go_at_call 10; ((with_reducible refine (element_any s1 _ h1).mono ?_); rintro e wq ⟨G, HG, hG, rfl, rfl⟩))
      | (go_at_call 10; ((with_reducible refine (element_any s2 _ h2).mono ?_); rintro e wq ⟨H, HH, hH, rfl, rfl⟩)))
  generalize w1.drew = w2 at *
  have mG : memN G := by rw [HG.out]; exact elemN_mem (expN_lt s1)
  have mH : memN H := by rw [HH.out]; exact elemN_mem (expN_lt s2)
  have HM := Lib.hid (And.intro mG mH)
  clear mG mH HG HH v1 hu1
  obtain ⟨a0, a1, a2⟩ := three_cells ra1
  go_wp2_with fail
  refine (exponent6_any s0 w2 h0).mono ?_
  rintro e wq ⟨X, HX, hX, rfl, rfl⟩
  go_wp2_with fail
  refine (gPow_n G X _ w2 (by omega) (by omega) rfl).mono ?_
  rintro e w3 ⟨A, HA, hA, rfl, hu3⟩
  go_wp2_with fail
  refine (gPow_n H X _ w3 (by omega) (by omega) rfl).mono ?_
  rintro e w4 ⟨B, HB, hB, rfl, hu4⟩
  have v4 := hu3.trans hu4
  have hl4 : w.heap.size + 1 + 1 < w4.heap.size := row_lt (row_upd rc1 v4)
  have rl4 := heap_alloc_new w4 (.cells #[.int .i64 (G : Int), .int .i64 (A : Int), .int .i64 (H : Int), .int .i64 (B : Int), .int .i64 0, .int .i64 0] 34)
  have v5 := v4.alloc (.cells #[.int .i64 (G : Int), .int .i64 (A : Int), .int .i64 (H : Int), .int .i64 (B : Int), .int .i64 0, .int .i64 0] 34)
  have ra5 := row_upd ra1 v5
  have rb5 := row_upd rb1 v5
  have rc5 := row_upd rc1 v5
  have u5 := u1.trans v5
  clear a0 a1 a2 ra1 rb1 rc1 hu3 hu4 v4 v5 k1
  obtain ⟨a0, a1, a2⟩ := three_cells ra5
  go_wp2_with fail
  generalize hw5 : w4.alloc (.cells #[.int .i64 (G : Int), .int .i64 (A : Int), .int .i64 (H : Int), .int .i64 (B : Int), .int .i64 0, .int .i64 0] 34) = w5 at *
  clear hw5
  refine (rprove_mem s0 G H w5 h0 HM.out.1 HM.out.2).mono ?_
  rintro e w6 ⟨c, z, HC, HZ, hc, hz, rfl, hu6⟩
  have rm7 := heap_alloc_new w6 (.cells #[.int .i64 (c : Int), .int .i64 (z : Int)] 25)
  have v7 := hu6.alloc (.cells #[.int .i64 (c : Int), .int .i64 (z : Int)] 25)
  have hl6 : w4.heap.size < w6.heap.size := row_lt (row_upd rl4 hu6)
  have rl7 := row_upd rl4 v7
  have ra7 := row_upd ra5 v7
  have rb7 := row_upd rb5 v7
  have rc7 := row_upd rc5 v7
  have u7 := u5.trans v7
  clear a0 a1 a2 ra5 rb5 rc5 rl4 hu6 v7 HC HZ HM HX HA HB
  go_wp2_with fail
  generalize hw7 : w6.alloc (.cells #[.int .i64 (c : Int), .int .i64 (z : Int)] 25) = w7 at *
  clear hw7
  have km : w7.drew.cell? ⟨w6.heap.size, 0, none⟩ = some (.int .i64 (c : Int)) ∧ w7.drew.cell? ⟨w6.heap.size, 1, none⟩ = some (.int .i64 (z : Int)) := two_cells (row_upd rm7 (Upd.refl _ _).drew)
  have hne : w6.heap.size ≠ w4.heap.size := by omega
  have f4 : w7.frozen? ⟨w4.heap.size, 4, none⟩ = false := frozen_of_row _ _ _ _ _ rl7
  have f5 : w7.frozen? ⟨w4.heap.size, 5, none⟩ = false := frozen_of_row _ _ _ _ _ rl7
  obtain ⟨l0, l1, l2, l3, l4, l5⟩ := six_cells rl7
  have km2 : (w7.setCell ⟨w4.heap.size, 4, none⟩ (.int .i64 (c : Int))).drew.cell? ⟨w6.heap.size, 0, none⟩ = some (.int .i64 (c : Int)) ∧ (w7.setCell ⟨w4.heap.size, 4, none⟩ (.int .i64 (c : Int))).drew.cell? ⟨w6.heap.size, 1, none⟩ = some (.int .i64 (z : Int)) := two_set (two_cells rm7) hne
  have km3 : ((w7.setCell ⟨w4.heap.size, 4, none⟩ (.int .i64 (c : Int))).setCell ⟨w4.heap.size, 5, none⟩ (.int .i64 (z : Int))).drew.cell? ⟨w6.heap.size, 0, none⟩ = some (.int .i64 (c : Int)) ∧ ((w7.setCell ⟨w4.heap.size, 4, none⟩ (.int .i64 (c : Int))).setCell ⟨w4.heap.size, 5, none⟩ (.int .i64 (z : Int))).drew.cell? ⟨w6.heap.size, 1, none⟩ = some (.int .i64 (z : Int)) := two_set (two_set (two_cells rm7) hne) hne
  have HK2 := Lib.hid km2
  have HK3 := Lib.hid km3
  clear km2 km3 l0 l1 l2 l3
  go_region_held3 (fun wp => wp.cell? ⟨w6.heap.size, 0, none⟩ = some (.int .i64 (c : Int)) ∧ wp.cell? ⟨w6.heap.size, 1, none⟩ = some (.int .i64 (z : Int))) (first | exact km | exact HK2.out | exact HK3.out | assumption) (fail)
  obtain ⟨w8, hw8⟩ : ∃ w8, w8 = ((w7.setCell ⟨w4.heap.size, 4, none⟩ (.int .i64 (c : Int))).setCell ⟨w4.heap.size, 5, none⟩ (.int .i64 (z : Int))).drew := ⟨_, rfl⟩
  have v8 : Upd [w4.heap.size] [] w7 w8 := by
    rw [hw8]
    exact (((Upd.refl _ _).setCell (p := ⟨w4.heap.size, 4, none⟩) (by simp) _).setCell (p := ⟨w4.heap.size, 5, none⟩) (by simp) _).drew.mono (fun _ h => h) (fun _ h => absurd h (by simp))
  have u8 : Upd [] [] w w8 := by
    rw [hw8]
    exact ((u7.setNew (p := ⟨w4.heap.size, 4, none⟩) (by show w.heap.size ≤ w4.heap.size; omega) _).setNew (p := ⟨w4.heap.size, 5, none⟩) (by show w.heap.size ≤ w4.heap.size; omega) _).drew
  have rl8 : w8.heap[w4.heap.size]? = some (.cells #[.int .i64 (G : Int), .int .i64 (A : Int), .int .i64 (H : Int), .int .i64 (B : Int), .int .i64 (c : Int), .int .i64 (z : Int)] 34 (0, 0)) := by
    rw [hw8]
    exact heap_setCell_same _ _ 5 _ _ _ (heap_setCell_same _ _ 4 _ _ _ rl7)
  have ra8 := row_updB ra7 v8 (by omega)
  have rb8 := row_updB rb7 v8 (by omega)
  have rc8 := row_updB rc7 v8 (by omega)
  have hl8 : w4.heap.size < w8.heap.size := row_lt rl8
  rw [← hw8]
  clear hw8 v8 ra7 rb7 rc7 rl7 rm7 km HK2 HK3 f4 f5 u7 hne l4 l5 hl6
  obtain ⟨l0, l1, l2, l3, l4, l5⟩ := six_cells rl8
  have v9 := (Upd.refl [] w8).alloc (.cells #[.int .i64 (G : Int), .int .i64 (A : Int), .int .i64 (H : Int), .int .i64 (B : Int), .int .i64 (c : Int), .int .i64 (z : Int)] 34)
  have rn9 := heap_alloc_new w8 (.cells #[.int .i64 (G : Int), .int .i64 (A : Int), .int .i64 (H : Int), .int .i64 (B : Int), .int .i64 (c : Int), .int .i64 (z : Int)] 34)
  have rl9 := row_upd rl8 v9
  have ra9 := row_upd ra8 v9
  have rb9 := row_upd rb8 v9
  have rc9 := row_upd rc8 v9
  have u9 := u8.trans v9
  obtain ⟨b0, b1⟩ := two_cells rc8
  have hlq : w.heap.size + 1 + 1 < w8.heap.size := by omega
  obtain ⟨n, hn, hn6⟩ : ∃ n : Nat, (q0.tmod 6 + 6) % 6 = (n : Int) ∧ n < 6 := ⟨((q0.tmod 6 + 6) % 6).toNat, by omega, by omega⟩
  have m1 := Int.lt_tmod_of_pos q0 (b := 6) (by omega)
  have m2 := Int.tmod_lt_of_pos q0 (b := 6) (by omega)
  go_wp2_with fail
  generalize hw9 : w8.alloc (.cells #[.int .i64 (G : Int), .int .i64 (A : Int), .int .i64 (H : Int), .int .i64 (B : Int), .int .i64 (c : Int), .int .i64 (z : Int)] 34) = w9 at *
  clear hw9 l0 l1 l2 l3 l4 l5 b0 b1 rl8 ra8 rb8 rc8 v9 m1 m2
  rw [hn]
  clear hn
  obtain ⟨x9, hx9, ix9⟩ := six_get rn9 hn6 (ipE hG) (ipE hA) (ipE hH) (ipE hB) (iqE hc) (iqE hz)
  have b1 := (two_cells rc9).2
  have fz : w9.frozen? ⟨w8.heap.size, n, none⟩ = false := frozen_of_row _ _ _ _ _ rn9
  have p0 : (0 : Int) ≤ (n : Int) := by omega
  have p1 : (n : Int) < 6 := by omega
  obtain ⟨y9, hy9⟩ : ∃ y9, IntKind.i64.wrap (x9 + q1) = y9 := ⟨_, rfl⟩
  have iy9 : i64in y9 := by
    have := wrap_bounds (x9 + q1)
    rw [← hy9]
    unfold i64in
    rw [IntKind.wrap_i64]
    omega
  obtain ⟨l0, l1, l2, l3, l4, l5⟩ := six_cells rl9
  go_still_tail 7, (by kernel_rfl)
  go_wp2_with fail
  clear l0 l1 l2 l3 l4 l5 b1 fz hx9
  obtain ⟨M0, M1, M2, M3, M4, M5, rn9', im0, im1, im2, im3, im4, im5⟩ := six_put rn9 hn6 (ipE hG) (ipE hA) (ipE hH) (ipE hB) (iqE hc) (iqE hz) iy9
  obtain ⟨w10, hw10⟩ : ∃ w10, w10 = ((w9.setCell ⟨w8.heap.size, n, none⟩ (.int .i64 y9)).alloc (.cells #[.int .i64 (G : Int), .int .i64 (A : Int), .int .i64 (H : Int), .int .i64 (B : Int), .int .i64 (c : Int), .int .i64 (z : Int)] 34)).drew := ⟨_, rfl⟩
  have v10a : Upd [] [] (w9.setCell ⟨w8.heap.size, n, none⟩ (.int .i64 y9)) w10 := by rw [hw10]; exact ((Upd.refl _ _).alloc _).drew
  have v10 : Upd [w8.heap.size] [] w9 w10 := by
    rw [hw10]
    exact ((((Upd.refl _ _).setCell (p := ⟨w8.heap.size, n, none⟩) (by simp) _).alloc _).drew).mono (fun _ h => h) (fun _ h => absurd h (by simp))
  have u10 : Upd [] [] w w10 := by
    rw [hw10]
    exact ((u9.setNew (p := ⟨w8.heap.size, n, none⟩) (by show w.heap.size ≤ w8.heap.size; omega) _).alloc _).drew
  have rr10 : w10.heap[w9.heap.size]? = some (.cells #[.int .i64 (G : Int), .int .i64 (A : Int), .int .i64 (H : Int), .int .i64 (B : Int), .int .i64 (c : Int), .int .i64 (z : Int)] 34 (0, 0)) := by
    have := heap_alloc_new (w9.setCell ⟨w8.heap.size, n, none⟩ (.int .i64 y9)) (.cells #[.int .i64 (G : Int), .int .i64 (A : Int), .int .i64 (H : Int), .int .i64 (B : Int), .int .i64 (c : Int), .int .i64 (z : Int)] 34)
    rw [World.size_setCell] at this
    rw [hw10]
    exact this
  have rn10 := row_upd rn9' v10a
  have rl10 := row_updB rl9 v10 (by omega)
  have ra10 := row_updB ra9 v10 (by omega)
  have rb10 := row_updB rb9 v10 (by omega)
  have rc10 := row_updB rc9 v10 (by omega)
  have hl9 : w8.heap.size < w9.heap.size := row_lt rn9
  rw [← hw10]
  clear hw10 v10 v10a rn9 rn9' rl9 ra9 rb9 rc9 u9 u8 hy9 iy9
  obtain ⟨x10, hx10, ix10⟩ := six_get rr10 hn6 (ipE hG) (ipE hA) (ipE hH) (ipE hB) (iqE hc) (iqE hz)
  have b1 := (two_cells rc10).2
  have fz : w10.frozen? ⟨w9.heap.size, n, none⟩ = false := frozen_of_row _ _ _ _ _ rr10
  obtain ⟨E, hE⟩ : ∃ E, E = elemN (expN q1) := ⟨_, rfl⟩
  have hEl : E < 2305843009213691579 := by rw [hE]; exact (elemN_mem (expN_lt q1)).2.1
  obtain ⟨Y, hY⟩ : ∃ Y : Int, Y = x10 * (E : Int) % 2305843009213691579 := ⟨_, rfl⟩
  have iY : i64in Y := by unfold i64in; rw [hY]; omega
  have HE := Lib.hid hE
  have HY := Lib.hid hY
  clear hE hY
  go_still_tail 9, (by kernel_rfl)
  still_call (element_still q1 E HE.out _ hq1)
  repeat still_step
  still_call (mul_still x10 (E : Int) 2305843009213691579 Y HY.out _ ix10 (by omega) (by omega))
  repeat still_step
  refine wpStill_nil ?_
  obtain ⟨R0, R1, R2, R3, R4, R5, rr10', ir0, ir1, ir2, ir3, ir4, ir5⟩ := six_put rr10 hn6 (ipE hG) (ipE hA) (ipE hH) (ipE hB) (iqE hc) (iqE hz) iY
  obtain ⟨w11, hw11⟩ : ∃ w11, (w10.setCell ⟨w9.heap.size, n, none⟩ (.int .i64 Y)).drew = w11 := ⟨_, rfl⟩
  have v11a : Upd [] [] (w10.setCell ⟨w9.heap.size, n, none⟩ (.int .i64 Y)) w11 := by rw [← hw11]; exact (Upd.refl _ _).drew
  have v11 : Upd [w9.heap.size] [] w10 w11 := by
    rw [← hw11]
    exact ((Upd.refl _ _).setCell (p := ⟨w9.heap.size, n, none⟩) (by simp) _).drew.mono (fun _ h => h) (fun _ h => absurd h (by simp))
  have u11 : Upd [] [] w w11 := by
    rw [← hw11]
    exact (u10.setNew (p := ⟨w9.heap.size, n, none⟩) (by show w.heap.size ≤ w9.heap.size; omega) _).drew
  have rr11 := row_upd rr10' v11a
  have rn11 := row_updB rn10 v11 (by omega)
  have rl11 := row_updB rl10 v11 (by omega)
  have ra11 := row_updB ra10 v11 (by omega)
  have rb11 := row_updB rb10 v11 (by omega)
  have rc11 := row_updB rc10 v11 (by omega)
  have hl11 : w9.heap.size < w11.heap.size := row_lt rr11
  clear v11a v11 rr10' rr10 rn10 rl10 ra10 rb10 rc10 u10 ix10 HY HE b1
  go_upto_region 12 with (fail)
  clear hw11 hx10 fz
  obtain ⟨l0, l1, l2, l3, l4, l5⟩ := six_cells rl11
  obtain ⟨n0, n1, n2, n3, n4, n5⟩ := six_cells rn11
  obtain ⟨r0, r1, r2, r3, r4, r5⟩ := six_cells rr11
  obtain ⟨a0, a1, a2⟩ := three_cells ra11
  obtain ⟨b0, b1⟩ := two_cells rb11
  obtain ⟨c0, c1⟩ := two_cells rc11
  obtain ⟨v0, hv0⟩ := ver_both (G : Int) (A : Int) (H : Int) (B : Int) (c : Int) (z : Int) (ipE hG) (ipE hA) (ipE hH) (ipE hB) (iqE hc) (iqE hz)
  have V0 := Lib.hid hv0
  clear hv0
  obtain ⟨v1, hv1⟩ := ver_both M0 M1 M2 M3 M4 M5 im0 im1 im2 im3 im4 im5
  have V1 := Lib.hid hv1
  clear hv1
  obtain ⟨v2, hv2⟩ := ver_both R0 R1 R2 R3 R4 R5 ir0 ir1 ir2 ir3 ir4 ir5
  have V2 := Lib.hid hv2
  clear hv2
  obtain ⟨v3, hv3⟩ := ver_both (G : Int) (A : Int) (H : Int) (B : Int) pc pz (ipE hG) (ipE hA) (ipE hH) (ipE hB) hpc hpz
  have V3 := Lib.hid hv3
  clear hv3
  obtain ⟨v4, hv4⟩ := ver_both s0 s1 s2 q1 pc pz h0 h1 h2 hq1 hpc hpz
  have V4 := Lib.hid hv4
  clear hv4
  have rz := heap_alloc_new w11 (.cells #[.int .i64 (G : Int), .int .i64 (A : Int), .int .i64 (H : Int), .int .i64 (B : Int), .int .i64 (c : Int), .int .i64 (z : Int), .int .i64 M0, .int .i64 M1, .int .i64 M2, .int .i64 M3, .int .i64 M4, .int .i64 M5, .int .i64 R0, .int .i64 R1, .int .i64 R2, .int .i64 R3, .int .i64 R4, .int .i64 R5, .int .i64 (G : Int), .int .i64 (A : Int), .int .i64 (H : Int), .int .i64 (B : Int), .int .i64 pc, .int .i64 pz, .int .i64 s0, .int .i64 s1, .int .i64 s2, .int .i64 q1, .int .i64 pc, .int .i64 pz] 34)
  have vz := (Upd.refl [] w11).alloc (.cells #[.int .i64 (G : Int), .int .i64 (A : Int), .int .i64 (H : Int), .int .i64 (B : Int), .int .i64 (c : Int), .int .i64 (z : Int), .int .i64 M0, .int .i64 M1, .int .i64 M2, .int .i64 M3, .int .i64 M4, .int .i64 M5, .int .i64 R0, .int .i64 R1, .int .i64 R2, .int .i64 R3, .int .i64 R4, .int .i64 R5, .int .i64 (G : Int), .int .i64 (A : Int), .int .i64 (H : Int), .int .i64 (B : Int), .int .i64 pc, .int .i64 pz, .int .i64 s0, .int .i64 s1, .int .i64 s2, .int .i64 q1, .int .i64 pc, .int .i64 pz] 34)
  have u12 := u11.trans vz
  clear vz u11 rl11 rn11 rr11 ra11 rb11 rc11 hlq hl8 hl9 hl4 hl11
  go_wp2_with fail
  obtain ⟨w12, hw12⟩ : ∃ w12, w11.alloc (.cells #[.int .i64 (G : Int), .int .i64 (A : Int), .int .i64 (H : Int), .int .i64 (B : Int), .int .i64 (c : Int), .int .i64 (z : Int), .int .i64 M0, .int .i64 M1, .int .i64 M2, .int .i64 M3, .int .i64 M4, .int .i64 M5, .int .i64 R0, .int .i64 R1, .int .i64 R2, .int .i64 R3, .int .i64 R4, .int .i64 R5, .int .i64 (G : Int), .int .i64 (A : Int), .int .i64 (H : Int), .int .i64 (B : Int), .int .i64 pc, .int .i64 pz, .int .i64 s0, .int .i64 s1, .int .i64 s2, .int .i64 q1, .int .i64 pc, .int .i64 pz] 34) = w12 := ⟨_, rfl⟩
  rw [hw12] at rz u12
  try rw [hw12]
  clear hw12 l0 l1 l2 l3 l4 l5 n0 n1 n2 n3 n4 n5 r0 r1 r2 r3 r4 r5 a0 a1 a2 b0 b1 c0 c1
  obtain ⟨g, hg⟩ : ∃ g, w11.heap.size = g := ⟨_, rfl⟩
  rw [hg] at rz
  try rw [hg]
  clear hg
  have RZ := Lib.hid rz
  clear rz im0 im1 im2 im3 im4 im5 ir0 ir1 ir2 ir3 ir4 ir5
  go_loopw [101] (fun i wr => ∃ k : Int, i = .int .i64 k ∧ (k = 0 ∨ k = 1 ∨ k = 2 ∨ k = 3 ∨ k = 4 ∨ k = 5) ∧ Hid (Upd [] [] w12 wr)) (fun i _ => (5 - intOf i).toNat)
  case atStart => exact ⟨0, rfl, .inl rfl, Upd.refl _ _⟩
  case round =>
    obtain ⟨k, rfl, hk, HUP⟩ := hrel
    rcases hk with rfl | rfl | rfl | rfl | rfl | rfl
    · have rr := row_upd RZ.out HUP.out
      have e0 : wr.cell? ⟨g, 0, none⟩ = some (.int .i64 (G : Int)) := by rw [cell_of_row _ _ _ _ _ _ rr]; rfl
      have e1 : wr.cell? ⟨g, 1, none⟩ = some (.int .i64 (A : Int)) := by rw [cell_of_row _ _ _ _ _ _ rr]; rfl
      have e2 : wr.cell? ⟨g, 2, none⟩ = some (.int .i64 (H : Int)) := by rw [cell_of_row _ _ _ _ _ _ rr]; rfl
      have e3 : wr.cell? ⟨g, 3, none⟩ = some (.int .i64 (B : Int)) := by rw [cell_of_row _ _ _ _ _ _ rr]; rfl
      have e4 : wr.cell? ⟨g, 4, none⟩ = some (.int .i64 (c : Int)) := by rw [cell_of_row _ _ _ _ _ _ rr]; rfl
      have e5 : wr.cell? ⟨g, 5, none⟩ = some (.int .i64 (z : Int)) := by rw [cell_of_row _ _ _ _ _ _ rr]; rfl
      have rx := row_upd (heap_alloc_new wr (.cells #[.int .i64 (G : Int), .int .i64 (A : Int), .int .i64 (H : Int), .int .i64 (B : Int), .int .i64 (c : Int), .int .i64 (z : Int)] 34)) (((Upd.refl _ _).alloc (.cells #[.int .i64 (c : Int), .int .i64 (z : Int)] 25)).drew)
      have ry := row_upd (heap_alloc_new (wr.alloc (.cells #[.int .i64 (G : Int), .int .i64 (A : Int), .int .i64 (H : Int), .int .i64 (B : Int), .int .i64 (c : Int), .int .i64 (z : Int)] 34)) (.cells #[.int .i64 (c : Int), .int .i64 (z : Int)] 25)) ((Upd.refl _ _).drew)
      rw [alloc_sizeW] at ry
      have ut := (((u12.trans HUP.out).alloc (.cells #[.int .i64 (G : Int), .int .i64 (A : Int), .int .i64 (H : Int), .int .i64 (B : Int), .int .i64 (c : Int), .int .i64 (z : Int)] 34)).alloc (.cells #[.int .i64 (c : Int), .int .i64 (z : Int)] 25)).drew
      have us := ((HUP.out.alloc (.cells #[.int .i64 (G : Int), .int .i64 (A : Int), .int .i64 (H : Int), .int .i64 (B : Int), .int .i64 (c : Int), .int .i64 (z : Int)] 34)).alloc (.cells #[.int .i64 (c : Int), .int .i64 (z : Int)] 25)).drew
      have HUS := Lib.hid us
      have HUT := Lib.hid ut
      clear us ut rr
      have kx := vcells rx ry
      go_wp2_with fail
      go_region_held3 (fun wp => (wp.cell? ⟨wr.heap.size, 0, none⟩ = some (.int .i64 (G : Int)) ∧ wp.cell? ⟨wr.heap.size, 1, none⟩ = some (.int .i64 (A : Int)) ∧ wp.cell? ⟨wr.heap.size, 2, none⟩ = some (.int .i64 (H : Int)) ∧ wp.cell? ⟨wr.heap.size, 3, none⟩ = some (.int .i64 (B : Int))) ∧ wp.cell? ⟨wr.heap.size + 1, 0, none⟩ = some (.int .i64 (c : Int)) ∧ wp.cell? ⟨wr.heap.size + 1, 1, none⟩ = some (.int .i64 (z : Int))) (first | exact kx | assumption)
        (first
          | (go_at_call 15; ((with_reducible refine (V0.out.1 _ (htab.upd HUT.out)).mono ?_); rintro e wq ⟨rfl, hq⟩; have rx1 := row_upd rx hq; have ry1 := row_upd ry hq; have us1 := HUS.out.trans hq; have kq := vcells rx1 ry1; clear hq))
          | (go_at_call 18; ((with_reducible refine (V0.out.2 _).mono ?_); rintro e wq ⟨rfl, hq⟩; have us2 := us1.trans hq; have rx2 := row_upd rx1 hq; have ry2 := row_upd ry1 hq; have kq := vcells rx2 ry2; clear hq)))
      cases v0
      all_goals
        go_wp2_with fail
        exact ⟨⟨1, rfl, by simp, us2⟩, by simp [intOf]⟩
    · have rr := row_upd RZ.out HUP.out
      have e0 : wr.cell? ⟨g, 6, none⟩ = some (.int .i64 M0) := by rw [cell_of_row _ _ _ _ _ _ rr]; rfl
      have e1 : wr.cell? ⟨g, 7, none⟩ = some (.int .i64 M1) := by rw [cell_of_row _ _ _ _ _ _ rr]; rfl
      have e2 : wr.cell? ⟨g, 8, none⟩ = some (.int .i64 M2) := by rw [cell_of_row _ _ _ _ _ _ rr]; rfl
      have e3 : wr.cell? ⟨g, 9, none⟩ = some (.int .i64 M3) := by rw [cell_of_row _ _ _ _ _ _ rr]; rfl
      have e4 : wr.cell? ⟨g, 10, none⟩ = some (.int .i64 M4) := by rw [cell_of_row _ _ _ _ _ _ rr]; rfl
      have e5 : wr.cell? ⟨g, 11, none⟩ = some (.int .i64 M5) := by rw [cell_of_row _ _ _ _ _ _ rr]; rfl
      have rx := row_upd (heap_alloc_new wr (.cells #[.int .i64 M0, .int .i64 M1, .int .i64 M2, .int .i64 M3, .int .i64 M4, .int .i64 M5] 34)) (((Upd.refl _ _).alloc (.cells #[.int .i64 M4, .int .i64 M5] 25)).drew)
      have ry := row_upd (heap_alloc_new (wr.alloc (.cells #[.int .i64 M0, .int .i64 M1, .int .i64 M2, .int .i64 M3, .int .i64 M4, .int .i64 M5] 34)) (.cells #[.int .i64 M4, .int .i64 M5] 25)) ((Upd.refl _ _).drew)
      rw [alloc_sizeW] at ry
      have ut := (((u12.trans HUP.out).alloc (.cells #[.int .i64 M0, .int .i64 M1, .int .i64 M2, .int .i64 M3, .int .i64 M4, .int .i64 M5] 34)).alloc (.cells #[.int .i64 M4, .int .i64 M5] 25)).drew
      have us := ((HUP.out.alloc (.cells #[.int .i64 M0, .int .i64 M1, .int .i64 M2, .int .i64 M3, .int .i64 M4, .int .i64 M5] 34)).alloc (.cells #[.int .i64 M4, .int .i64 M5] 25)).drew
      have HUS := Lib.hid us
      have HUT := Lib.hid ut
      clear us ut rr
      have kx := vcells rx ry
      go_wp2_with fail
      go_region_held3 (fun wp => (wp.cell? ⟨wr.heap.size, 0, none⟩ = some (.int .i64 M0) ∧ wp.cell? ⟨wr.heap.size, 1, none⟩ = some (.int .i64 M1) ∧ wp.cell? ⟨wr.heap.size, 2, none⟩ = some (.int .i64 M2) ∧ wp.cell? ⟨wr.heap.size, 3, none⟩ = some (.int .i64 M3)) ∧ wp.cell? ⟨wr.heap.size + 1, 0, none⟩ = some (.int .i64 M4) ∧ wp.cell? ⟨wr.heap.size + 1, 1, none⟩ = some (.int .i64 M5)) (first | exact kx | assumption)
        (first
          | (go_at_call 15; ((with_reducible refine (V1.out.1 _ (htab.upd HUT.out)).mono ?_); rintro e wq ⟨rfl, hq⟩; have rx1 := row_upd rx hq; have ry1 := row_upd ry hq; have us1 := HUS.out.trans hq; have kq := vcells rx1 ry1; clear hq))
          | (go_at_call 18; ((with_reducible refine (V1.out.2 _).mono ?_); rintro e wq ⟨rfl, hq⟩; have us2 := us1.trans hq; have rx2 := row_upd rx1 hq; have ry2 := row_upd ry1 hq; have kq := vcells rx2 ry2; clear hq)))
      cases v1
      all_goals
        go_wp2_with fail
        exact ⟨⟨2, rfl, by simp, us2⟩, by simp [intOf]⟩
    · have rr := row_upd RZ.out HUP.out
      have e0 : wr.cell? ⟨g, 12, none⟩ = some (.int .i64 R0) := by rw [cell_of_row _ _ _ _ _ _ rr]; rfl
      have e1 : wr.cell? ⟨g, 13, none⟩ = some (.int .i64 R1) := by rw [cell_of_row _ _ _ _ _ _ rr]; rfl
      have e2 : wr.cell? ⟨g, 14, none⟩ = some (.int .i64 R2) := by rw [cell_of_row _ _ _ _ _ _ rr]; rfl
      have e3 : wr.cell? ⟨g, 15, none⟩ = some (.int .i64 R3) := by rw [cell_of_row _ _ _ _ _ _ rr]; rfl
      have e4 : wr.cell? ⟨g, 16, none⟩ = some (.int .i64 R4) := by rw [cell_of_row _ _ _ _ _ _ rr]; rfl
      have e5 : wr.cell? ⟨g, 17, none⟩ = some (.int .i64 R5) := by rw [cell_of_row _ _ _ _ _ _ rr]; rfl
      have rx := row_upd (heap_alloc_new wr (.cells #[.int .i64 R0, .int .i64 R1, .int .i64 R2, .int .i64 R3, .int .i64 R4, .int .i64 R5] 34)) (((Upd.refl _ _).alloc (.cells #[.int .i64 R4, .int .i64 R5] 25)).drew)
      have ry := row_upd (heap_alloc_new (wr.alloc (.cells #[.int .i64 R0, .int .i64 R1, .int .i64 R2, .int .i64 R3, .int .i64 R4, .int .i64 R5] 34)) (.cells #[.int .i64 R4, .int .i64 R5] 25)) ((Upd.refl _ _).drew)
      rw [alloc_sizeW] at ry
      have ut := (((u12.trans HUP.out).alloc (.cells #[.int .i64 R0, .int .i64 R1, .int .i64 R2, .int .i64 R3, .int .i64 R4, .int .i64 R5] 34)).alloc (.cells #[.int .i64 R4, .int .i64 R5] 25)).drew
      have us := ((HUP.out.alloc (.cells #[.int .i64 R0, .int .i64 R1, .int .i64 R2, .int .i64 R3, .int .i64 R4, .int .i64 R5] 34)).alloc (.cells #[.int .i64 R4, .int .i64 R5] 25)).drew
      have HUS := Lib.hid us
      have HUT := Lib.hid ut
      clear us ut rr
      have kx := vcells rx ry
      go_wp2_with fail
      go_region_held3 (fun wp => (wp.cell? ⟨wr.heap.size, 0, none⟩ = some (.int .i64 R0) ∧ wp.cell? ⟨wr.heap.size, 1, none⟩ = some (.int .i64 R1) ∧ wp.cell? ⟨wr.heap.size, 2, none⟩ = some (.int .i64 R2) ∧ wp.cell? ⟨wr.heap.size, 3, none⟩ = some (.int .i64 R3)) ∧ wp.cell? ⟨wr.heap.size + 1, 0, none⟩ = some (.int .i64 R4) ∧ wp.cell? ⟨wr.heap.size + 1, 1, none⟩ = some (.int .i64 R5)) (first | exact kx | assumption)
        (first
          | (go_at_call 15; ((with_reducible refine (V2.out.1 _ (htab.upd HUT.out)).mono ?_); rintro e wq ⟨rfl, hq⟩; have rx1 := row_upd rx hq; have ry1 := row_upd ry hq; have us1 := HUS.out.trans hq; have kq := vcells rx1 ry1; clear hq))
          | (go_at_call 18; ((with_reducible refine (V2.out.2 _).mono ?_); rintro e wq ⟨rfl, hq⟩; have us2 := us1.trans hq; have rx2 := row_upd rx1 hq; have ry2 := row_upd ry1 hq; have kq := vcells rx2 ry2; clear hq)))
      cases v2
      all_goals
        go_wp2_with fail
        exact ⟨⟨3, rfl, by simp, us2⟩, by simp [intOf]⟩
    · have rr := row_upd RZ.out HUP.out
      have e0 : wr.cell? ⟨g, 18, none⟩ = some (.int .i64 (G : Int)) := by rw [cell_of_row _ _ _ _ _ _ rr]; rfl
      have e1 : wr.cell? ⟨g, 19, none⟩ = some (.int .i64 (A : Int)) := by rw [cell_of_row _ _ _ _ _ _ rr]; rfl
      have e2 : wr.cell? ⟨g, 20, none⟩ = some (.int .i64 (H : Int)) := by rw [cell_of_row _ _ _ _ _ _ rr]; rfl
      have e3 : wr.cell? ⟨g, 21, none⟩ = some (.int .i64 (B : Int)) := by rw [cell_of_row _ _ _ _ _ _ rr]; rfl
      have e4 : wr.cell? ⟨g, 22, none⟩ = some (.int .i64 pc) := by rw [cell_of_row _ _ _ _ _ _ rr]; rfl
      have e5 : wr.cell? ⟨g, 23, none⟩ = some (.int .i64 pz) := by rw [cell_of_row _ _ _ _ _ _ rr]; rfl
      have rx := row_upd (heap_alloc_new wr (.cells #[.int .i64 (G : Int), .int .i64 (A : Int), .int .i64 (H : Int), .int .i64 (B : Int), .int .i64 pc, .int .i64 pz] 34)) (((Upd.refl _ _).alloc (.cells #[.int .i64 pc, .int .i64 pz] 25)).drew)
      have ry := row_upd (heap_alloc_new (wr.alloc (.cells #[.int .i64 (G : Int), .int .i64 (A : Int), .int .i64 (H : Int), .int .i64 (B : Int), .int .i64 pc, .int .i64 pz] 34)) (.cells #[.int .i64 pc, .int .i64 pz] 25)) ((Upd.refl _ _).drew)
      rw [alloc_sizeW] at ry
      have ut := (((u12.trans HUP.out).alloc (.cells #[.int .i64 (G : Int), .int .i64 (A : Int), .int .i64 (H : Int), .int .i64 (B : Int), .int .i64 pc, .int .i64 pz] 34)).alloc (.cells #[.int .i64 pc, .int .i64 pz] 25)).drew
      have us := ((HUP.out.alloc (.cells #[.int .i64 (G : Int), .int .i64 (A : Int), .int .i64 (H : Int), .int .i64 (B : Int), .int .i64 pc, .int .i64 pz] 34)).alloc (.cells #[.int .i64 pc, .int .i64 pz] 25)).drew
      have HUS := Lib.hid us
      have HUT := Lib.hid ut
      clear us ut rr
      have kx := vcells rx ry
      go_wp2_with fail
      go_region_held3 (fun wp => (wp.cell? ⟨wr.heap.size, 0, none⟩ = some (.int .i64 (G : Int)) ∧ wp.cell? ⟨wr.heap.size, 1, none⟩ = some (.int .i64 (A : Int)) ∧ wp.cell? ⟨wr.heap.size, 2, none⟩ = some (.int .i64 (H : Int)) ∧ wp.cell? ⟨wr.heap.size, 3, none⟩ = some (.int .i64 (B : Int))) ∧ wp.cell? ⟨wr.heap.size + 1, 0, none⟩ = some (.int .i64 pc) ∧ wp.cell? ⟨wr.heap.size + 1, 1, none⟩ = some (.int .i64 pz)) (first | exact kx | assumption)
        (first
          | (go_at_call 15; ((with_reducible refine (V3.out.1 _ (htab.upd HUT.out)).mono ?_); rintro e wq ⟨rfl, hq⟩; have rx1 := row_upd rx hq; have ry1 := row_upd ry hq; have us1 := HUS.out.trans hq; have kq := vcells rx1 ry1; clear hq))
          | (go_at_call 18; ((with_reducible refine (V3.out.2 _).mono ?_); rintro e wq ⟨rfl, hq⟩; have us2 := us1.trans hq; have rx2 := row_upd rx1 hq; have ry2 := row_upd ry1 hq; have kq := vcells rx2 ry2; clear hq)))
      cases v3
      all_goals
        go_wp2_with fail
        exact ⟨⟨4, rfl, by simp, us2⟩, by simp [intOf]⟩
    · have rr := row_upd RZ.out HUP.out
      have e0 : wr.cell? ⟨g, 24, none⟩ = some (.int .i64 s0) := by rw [cell_of_row _ _ _ _ _ _ rr]; rfl
      have e1 : wr.cell? ⟨g, 25, none⟩ = some (.int .i64 s1) := by rw [cell_of_row _ _ _ _ _ _ rr]; rfl
      have e2 : wr.cell? ⟨g, 26, none⟩ = some (.int .i64 s2) := by rw [cell_of_row _ _ _ _ _ _ rr]; rfl
      have e3 : wr.cell? ⟨g, 27, none⟩ = some (.int .i64 q1) := by rw [cell_of_row _ _ _ _ _ _ rr]; rfl
      have e4 : wr.cell? ⟨g, 28, none⟩ = some (.int .i64 pc) := by rw [cell_of_row _ _ _ _ _ _ rr]; rfl
      have e5 : wr.cell? ⟨g, 29, none⟩ = some (.int .i64 pz) := by rw [cell_of_row _ _ _ _ _ _ rr]; rfl
      have rx := row_upd (heap_alloc_new wr (.cells #[.int .i64 s0, .int .i64 s1, .int .i64 s2, .int .i64 q1, .int .i64 pc, .int .i64 pz] 34)) (((Upd.refl _ _).alloc (.cells #[.int .i64 pc, .int .i64 pz] 25)).drew)
      have ry := row_upd (heap_alloc_new (wr.alloc (.cells #[.int .i64 s0, .int .i64 s1, .int .i64 s2, .int .i64 q1, .int .i64 pc, .int .i64 pz] 34)) (.cells #[.int .i64 pc, .int .i64 pz] 25)) ((Upd.refl _ _).drew)
      rw [alloc_sizeW] at ry
      have ut := (((u12.trans HUP.out).alloc (.cells #[.int .i64 s0, .int .i64 s1, .int .i64 s2, .int .i64 q1, .int .i64 pc, .int .i64 pz] 34)).alloc (.cells #[.int .i64 pc, .int .i64 pz] 25)).drew
      have us := ((HUP.out.alloc (.cells #[.int .i64 s0, .int .i64 s1, .int .i64 s2, .int .i64 q1, .int .i64 pc, .int .i64 pz] 34)).alloc (.cells #[.int .i64 pc, .int .i64 pz] 25)).drew
      have HUS := Lib.hid us
      have HUT := Lib.hid ut
      clear us ut rr
      have kx := vcells rx ry
      go_wp2_with fail
      go_region_held3 (fun wp => (wp.cell? ⟨wr.heap.size, 0, none⟩ = some (.int .i64 s0) ∧ wp.cell? ⟨wr.heap.size, 1, none⟩ = some (.int .i64 s1) ∧ wp.cell? ⟨wr.heap.size, 2, none⟩ = some (.int .i64 s2) ∧ wp.cell? ⟨wr.heap.size, 3, none⟩ = some (.int .i64 q1)) ∧ wp.cell? ⟨wr.heap.size + 1, 0, none⟩ = some (.int .i64 pc) ∧ wp.cell? ⟨wr.heap.size + 1, 1, none⟩ = some (.int .i64 pz)) (first | exact kx | assumption)
        (first
          | (go_at_call 15; ((with_reducible refine (V4.out.1 _ (htab.upd HUT.out)).mono ?_); rintro e wq ⟨rfl, hq⟩; have rx1 := row_upd rx hq; have ry1 := row_upd ry hq; have us1 := HUS.out.trans hq; have kq := vcells rx1 ry1; clear hq))
          | (go_at_call 18; ((with_reducible refine (V4.out.2 _).mono ?_); rintro e wq ⟨rfl, hq⟩; have us2 := us1.trans hq; have rx2 := row_upd rx1 hq; have ry2 := row_upd ry1 hq; have kq := vcells rx2 ry2; clear hq)))
      cases v4
      all_goals
        go_wp2_with fail
        exact ⟨⟨5, rfl, by simp, us2⟩, by simp [intOf]⟩
    · go_wp2_with fail
      go_ret
      exact ⟨rfl, u12.trans HUP.out⟩
end Go.Proofs.YtkhodajdionaaaaGreatDoor
