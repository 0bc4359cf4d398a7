/- What EntryKeeps asks: equal entrants, copies of receipts. -/
import Derived.Test.YtmnmhhbldbdpfaaGreatDoorXPsnA
import Derived.Test.YtmnmhhbldbdpfaaGreatDoorXBbS
namespace Go.Proofs.YtmnmhhbldbdpfaaGreatDoor
open Go.RowKit
set_option maxRecDepth 100000

set_option maxHeartbeats 1000000 in
theorem ints13_same (l : List Int) (aoa aob : Option Addr) (ca cb : Nat) (w : World) (hl : l.length ≤ 1000) (ha : IntsSl w aoa l) (hb : IntsSl w aob l) :
    Calls Tryz.prog 70 #[.slice aoa l.length ca, .slice aob l.length cb] w (fun e w' => e = .returned (.bool true) ∧ Upd [] [] w w') := by
  obtain ⟨n, hn⟩ : ∃ n, n = l.length := ⟨_, rfl⟩
  rw [← hn]
  have HN := Lib.hid hn
  have HA := Lib.hid ha
  have HB := Lib.hid hb
  have hn1 : n ≤ 1000 := by omega
  clear hn ha hb hl
  go_enter Tryz.func70, Tryz.ntmps70
  go_wp2_with fail
  go_loopw [5] (fun i wr => ∃ k : Nat, i = .int .i64 (k : Int) ∧ k ≤ n ∧ Hid (Upd [] [] w wr)) (fun i _ => n - (intOf i).toNat)
  case atStart => exact ⟨0, rfl, Nat.zero_le _, Upd.refl _ _⟩
  case round =>
    obtain ⟨k, rfl, hk, HU⟩ := hrel
    by_cases hlt : k < n
    · obtain ⟨x, hx⟩ : ∃ x, l[k]? = some x := ⟨_, List.getElem?_eq_getElem (by rw [← HN.out]; exact hlt)⟩
      obtain ⟨_, ga, oa, rfl, hga, hca⟩ := (HA.out.upd HU.out) k x hx
      obtain ⟨_, gb, ob, rfl, hgb, hcb⟩ := (HB.out.upd HU.out) k x hx
      have i0 : (0 : Int) ≤ (k : Int) := by omega
      have i1 : (k : Int) < (n : Int) := by omega
      have ka : wr.drew.cell? ⟨ga, oa + k, none⟩ = some (.int .i64 x) ∧ wr.drew.cell? ⟨gb, ob + k, none⟩ = some (.int .i64 x) := ⟨hca, hcb⟩
      have HU2 := Lib.hid (HU.out.drew)
      clear hx hga hgb
      go_upto_region 6 with (fail)
      refine @id ((?pj1 : Prop) → _) (fun hJ => ?mj1) ?jj1
      case mj1 =>
        refine wp_region_noPanic ?_
        refine wp_region_held_drew (S := fun wp => wp.cell? ⟨ga, oa + k, none⟩ = some (.int .i64 x) ∧ wp.cell? ⟨gb, ob + k, none⟩ = some (.int .i64 x)) (by kernel_rfl) ?_ (fun hHeld => ?_)
        · exact ka
        refine wpAnyH_take (i := 0) (v := ?v2) (by simp only [List.getElem?_toArray, List.getElem?_cons_zero] <;> rfl) (by kernel_rfl) (by kernel_rfl) (by kernel_rfl) (fun _ _ _ h => h) (Or.inl ⟨by rfl, ?y2⟩) hHeld ?r2
        case y2 => (intro w hSw; (try dsimp only at hSw); go_simp; first | done | with_reducible rfl | rfl)
        try simp only [Act.put, List.setIfInBounds_toArray, List.set_cons_zero, List.set_cons_succ]
        refine wpAnyH_take (i := 1) (v := ?v3) (by simp only [List.getElem?_toArray, List.getElem?_cons_succ, List.getElem?_cons_zero] <;> rfl) (by kernel_rfl) (by kernel_rfl) (by kernel_rfl) (fun _ _ _ h => h) (Or.inl ⟨by rfl, ?y3⟩) hHeld ?r3
        case y3 => (intro w hSw; (try dsimp only at hSw); go_simp; first | done | with_reducible rfl | rfl)
        try simp only [Act.put, List.setIfInBounds_toArray, List.set_cons_zero, List.set_cons_succ]
        refine wpAnyH_take (i := 2) (v := ?v4) (by simp only [List.getElem?_toArray, List.getElem?_cons_succ, List.getElem?_cons_zero] <;> rfl) (by kernel_rfl) (by kernel_rfl) (by kernel_rfl) (fun _ _ _ h => h) (Or.inl ⟨by rfl, ?y4⟩) hHeld ?r4
        case y4 => (intro w hSw; (try dsimp only at hSw); go_simp; first | done | with_reducible rfl | rfl)
        try simp only [Act.put, List.setIfInBounds_toArray, List.set_cons_zero, List.set_cons_succ]
        refine wpAnyH_take (i := 3) (v := ?v5) (by simp only [List.getElem?_toArray, List.getElem?_cons_succ, List.getElem?_cons_zero] <;> rfl) (by kernel_rfl) (by kernel_rfl) (by kernel_rfl) (fun _ _ _ h => h) (Or.inl ⟨by rfl, ?y5⟩) hHeld ?r5
        case y5 => (intro w hSw; (try dsimp only at hSw); go_simp; first | done | with_reducible rfl | rfl)
        try simp only [Act.put, List.setIfInBounds_toArray, List.set_cons_zero, List.set_cons_succ]
        refine wpAnyH_take (i := 4) (v := ?v6) (by simp only [List.getElem?_toArray, List.getElem?_cons_succ, List.getElem?_cons_zero] <;> rfl) (by kernel_rfl) (by kernel_rfl) (by kernel_rfl) (fun _ _ _ h => h) (Or.inl ⟨by rfl, ?y6⟩) hHeld ?r6
        case y6 => (intro w hSw; (try dsimp only at hSw); go_simp; first | done | with_reducible rfl | rfl)
        try simp only [Act.put, List.setIfInBounds_toArray, List.set_cons_zero, List.set_cons_succ]
        refine wpAnyH_take (i := 5) (v := ?v7) (by simp only [List.getElem?_toArray, List.getElem?_cons_succ, List.getElem?_cons_zero] <;> rfl) (by kernel_rfl) (by kernel_rfl) (by kernel_rfl) (fun _ _ _ h => h) (Or.inl ⟨by rfl, ?y7⟩) hHeld ?r7
        case y7 => (intro w hSw; (try dsimp only at hSw); go_simp; first | done | with_reducible rfl | rfl)
        try simp only [Act.put, List.setIfInBounds_toArray, List.set_cons_zero, List.set_cons_succ]
        refine wpAnyH_take (i := 6) (v := ?v8) (by simp only [List.getElem?_toArray, List.getElem?_cons_succ, List.getElem?_cons_zero] <;> rfl) (by kernel_rfl) (by kernel_rfl) (by kernel_rfl) (fun _ _ _ h => h) (Or.inl ⟨by rfl, ?y8⟩) hHeld ?r8
        case y8 => (intro w hSw; (try dsimp only at hSw); go_simp; first | done | with_reducible rfl | rfl)
        try simp only [Act.put, List.setIfInBounds_toArray, List.set_cons_zero, List.set_cons_succ]
        refine wpAnyH_take (i := 7) (v := ?v9) (by simp only [List.getElem?_toArray, List.getElem?_cons_succ, List.getElem?_cons_zero] <;> rfl) (by kernel_rfl) (by kernel_rfl) (by kernel_rfl) (fun _ _ _ h => h) (Or.inl ⟨by rfl, ?y9⟩) hHeld ?r9
        case y9 => (intro w hSw; (try dsimp only at hSw); go_simp; first | done | with_reducible rfl | rfl)
        try simp only [Act.put, List.setIfInBounds_toArray, List.set_cons_zero, List.set_cons_succ]
        refine wpAnyH_take (i := 8) (v := ?v10) (by simp only [List.getElem?_toArray, List.getElem?_cons_succ, List.getElem?_cons_zero] <;> rfl) (by kernel_rfl) (by kernel_rfl) (by kernel_rfl) (fun _ _ _ h => h) (Or.inl ⟨by rfl, ?y10⟩) hHeld ?r10
        case y10 => (intro w hSw; (try dsimp only at hSw); go_simp; first | done | with_reducible rfl | rfl)
        try simp only [Act.put, List.setIfInBounds_toArray, List.set_cons_zero, List.set_cons_succ]
        refine wpAnyH_done (by kernel_rfl) ?_ _
        refine NoPanic.normal ?_
        exact hJ
      clear ka
      go_wp2_with fail
      exact ⟨⟨k + 1, by go_num, by omega, HU2⟩, by simp [intOf]; omega⟩
    · obtain rfl : k = n := by omega
      clear hlt hk
      go_wp2_with fail
      go_ret
      exact ⟨rfl, HU.out⟩
theorem strings13_nil (w : World) : Calls Tryz.prog 71 #[.slice none 0 0, .slice none 0 0] w (fun e w' => e = .returned (.bool true) ∧ Upd [] [] w w') := by
  go_enter Tryz.func71, Tryz.ntmps71
  go_wp2_with fail
  refine wp_loop_rounds 1 ?_
  rw [rounds_succ]
  go_wp2_with fail
  go_ret
  exact ⟨rfl, Upd.refl _ _⟩

set_option maxHeartbeats 1000000 in
theorem sameEnt_any (a b c : Int) (l : List Int) (aoa aob : Option Addr) (ca cb : Nat) (w : World) (hl : l.length ≤ 1000) (ha : IntsSl w aoa l) (hb : IntsSl w aob l) :
    Calls Tryz.prog 38 #[.agg (entV a b c (.slice aoa l.length ca)), .agg (entV a b c (.slice aob l.length cb))] w (fun e w' => e = .returned (.bool true) ∧ Upd [] [] w w') := by
  have uu1 : Upd [] [] (w.alloc (.cells (entV a b c (.slice aoa l.length ca)) 71)) ((w.alloc (.cells (entV a b c (.slice aoa l.length ca)) 71)).alloc (.cells (entV a b c (.slice aob l.length cb)) 71)) := (Upd.refl _ _).alloc _
  have a0 : EntAt ((w.alloc (.cells (entV a b c (.slice aoa l.length ca)) 71)).alloc (.cells (entV a b c (.slice aob l.length cb)) 71)) w.heap.size a b c (.slice aoa l.length ca) := row_updH (heap_alloc_new w _) uu1
  have b0 := heap_alloc_new (w.alloc (.cells (entV a b c (.slice aoa l.length ca)) 71)) (.cells (entV a b c (.slice aob l.length cb)) 71)
  rw [World.size_alloc] at b0
  have u0 : Upd [] [] w ((w.alloc (.cells (entV a b c (.slice aoa l.length ca)) 71)).alloc (.cells (entV a b c (.slice aob l.length cb)) 71)) := ((Upd.refl _ _).alloc _).trans uu1
  obtain ⟨w0, hw0⟩ : ∃ w0, (w.alloc (.cells (entV a b c (.slice aoa l.length ca)) 71)).alloc (.cells (entV a b c (.slice aob l.length cb)) 71) = w0 := ⟨_, rfl⟩
  rw [hw0] at a0 b0 u0
  have A0 := Lib.hid a0
  have B0 : Hid (EntAt w0 (w.heap.size + 1) a b c (.slice aob l.length cb)) := b0
  have HW := Lib.hid hw0
  have HI := Lib.hid (ints13_same l aoa aob ca cb w0 hl (ha.upd u0) (hb.upd u0))
  clear hw0 a0 b0 uu1 ha hb
  go_enter Tryz.func38, Tryz.ntmps38
  go_upto_region 1 with (fail)
  rw [HW.out]
  clear HW
  obtain ⟨k0, k1, k2, k3, k4, k5⟩ := A0.out.cells
  obtain ⟨j0, j1, j2, j3, j4, j5⟩ := B0.out.cells
  go_wp2_with fail
  refine HI.out.mono ?_
  rintro e w1 ⟨rfl, hq⟩
  have A1 := Lib.hid (A0.out.upd hq)
  have B1 := Lib.hid (B0.out.upd hq)
  have u1 := u0.trans hq
  clear k0 k1 k2 k3 k4 k5 j0 j1 j2 j3 j4 j5 hq A0 B0 HI
  obtain ⟨k0, k1, k2, k3, k4, k5⟩ := A1.out.cells
  obtain ⟨j0, j1, j2, j3, j4, j5⟩ := B1.out.cells
  go_wp2_with fail
  refine (strings13_nil w1).mono ?_
  rintro e w2 ⟨rfl, hq⟩
  have A2 := Lib.hid (A1.out.upd hq)
  have B2 := Lib.hid (B1.out.upd hq)
  have u2 := u1.trans hq
  clear k0 k1 k2 k3 k4 k5 j0 j1 j2 j3 j4 j5 hq A1 B1
  obtain ⟨k0, k1, k2, k3, k4, k5⟩ := A2.out.cells
  obtain ⟨j0, j1, j2, j3, j4, j5⟩ := B2.out.cells
  go_wp2_with fail
  refine (strings13_nil w2).mono ?_
  rintro e w3 ⟨rfl, hq⟩
  have A3 := Lib.hid (A2.out.upd hq)
  have B3 := Lib.hid (B2.out.upd hq)
  have u3 := u2.trans hq
  clear k0 k1 k2 k3 k4 k5 j0 j1 j2 j3 j4 j5 hq A2 B2
  obtain ⟨k0, k1, k2, k3, k4, k5⟩ := A3.out.cells
  obtain ⟨j0, j1, j2, j3, j4, j5⟩ := B3.out.cells
  go_wp2_with fail
  go_ret
  exact ⟨rfl, u3⟩

theorem rcVals_len2 (l : List Rc) (h : ∀ x ∈ l, x.ok) : (rcVals l).length = l.length * 102 := by
  induction l with
  | nil => rfl
  | cons x r ih =>
    have h1 := rcV_len (h x (by simp))
    have h2 := ih (fun y hy => h y (by simp [hy]))
    unfold rcVals at h2 ⊢
    rw [List.flatMap_cons, List.length_append, h1, h2, List.length_cons]
    omega
theorem rcVals_get2 : ∀ (l : List Rc) (k : Nat) (x : Rc), (∀ y ∈ l, y.ok) → l[k]? = some x → ∀ j v, (rcV x)[j]? = some v → (rcVals l)[k * 102 + j]? = some v := by
  intro l
  induction l with
  | nil => intro k x _ h; simp at h
  | cons a r ih =>
    intro k x hok h j v hv
    have la := rcV_len (hok a (by simp))
    unfold rcVals at ih ⊢
    rw [List.flatMap_cons]
    cases k with
    | zero =>
      simp at h
      subst h
      rw [List.getElem?_append_left (by have := (List.getElem?_eq_some_iff.1 hv).1; omega)]
      simpa using hv
    | succ k =>
      rw [List.getElem?_append_right (by omega), la, show (k + 1) * 102 + j - 102 = k * 102 + j by omega]
      exact ih k x (fun y hy => hok y (List.mem_cons_of_mem _ hy)) (by simpa using h) j v hv
/-- append([]Receipt{}, l...) -/
theorem rcs_copy (w : World) (g : Nat) (l : List Rc) (ao : Option Addr) (cap : Nat) (hl : l.length ≤ 1000) (h : RcsIn w ao l) :
    ∃ (ao2 : Option Addr) (cap2 : Nat) (w' : World), Hid ((Builtin.append_ #[44, 44] 44 #[.slice (some ⟨g, 0, none⟩) 0 0, .slice ao l.length cap]).run Tryz.prog w = .ok (.slice ao2 l.length cap2) w') ∧ Hid (RcsIn w' ao2 l) ∧ l.length ≤ cap2 ∧ Upd [] [] w w' := by
  obtain ⟨i, hi, hz, hs, hb⟩ := rcI
  cases l with
  | nil =>
    refine ⟨some ⟨g, 0, none⟩, 0, w, ?_, fun k x h => by simp at h, Nat.le_refl _, Upd.refl _ _⟩
    refine run_append_nothing (P := Tryz.prog) w 44 44 44 33 i Tryz.underlying44 hi (some ⟨g, 0, none⟩) 0 0 (Nat.le_refl _) _ ⟨.inl ⟨_, Tryz.underlying44⟩, fun w' => rfl, ?_, ?_, by simp, by simp⟩
    · cases ao <;> simp [Builtin.firstCells, loadCells, loadCellsFrom]
    · cases ao <;> simp [Builtin.firstCells, loadCells, loadCellsFrom]
  | cons x r =>
    obtain ⟨_, _, g0, o, rfl, hg0, _⟩ := h 0 x rfl
    have hok : ∀ y ∈ (x :: r), y.ok := fun y hy => by
      obtain ⟨k, hk⟩ := List.mem_iff_getElem?.1 hy
      exact (h k y hk).1
    have hlen := rcVals_len2 (x :: r) hok
    have hnews : ∀ j v, (rcVals (x :: r))[j]? = some v → w.cell? ((⟨g0, o, none⟩ : Addr).add j) = some v := by
      intro j v hv
      have hj := (List.getElem?_eq_some_iff.1 hv).1
      have hk : j / 102 < (x :: r).length := by rw [hlen] at hj; omega
      obtain ⟨y, hy⟩ : ∃ y, (x :: r)[j / 102]? = some y := ⟨_, List.getElem?_eq_getElem hk⟩
      obtain ⟨hyo, _, g1, o1, e, _, hr⟩ := h _ y hy
      simp only [Option.some.injEq, Addr.mk.injEq, and_true] at e
      obtain ⟨rfl, rfl⟩ := e
      have hm : j % 102 < (rcV y).length := by rw [rcV_len hyo]; omega
      obtain ⟨u, hu⟩ : ∃ u, (rcV y)[j % 102]? = some u := ⟨_, List.getElem?_eq_getElem hm⟩
      have e1 := rcVals_get2 (x :: r) _ y hok hy _ u hu
      rw [show j / 102 * 102 + j % 102 = j by omega, hv] at e1
      injection e1 with e1
      subst e1
      have e2 : (⟨g0, o, none⟩ : Addr).add j = ⟨g0, o + j, none⟩ := by simp [Addr.add]
      rw [e2]
      have := hr (j % 102) v hu
      rw [show o + j / 102 * 102 + j % 102 = o + j by omega] at this
      exact this
    have hq := run_append_grow (P := Tryz.prog) w 44 44 33 i _ Tryz.underlying44 hi hz ⟨g, 0, none⟩ 0 0 [] (by simp) (by simp) ⟨g0, o, none⟩ (x :: r).length cap (rcVals (x :: r)) (by rw [hs]; exact hlen) hnews (by simp) (by omega) (by
      rw [hb]
      refine growslice_fits (need := 0 + (x :: r).length) (old := 0) (by simp) (by omega))
    rw [Nat.zero_add] at hq
    refine ⟨_, _, _, hq, ?_, ?_, (Upd.refl _ w).drew.alloc _⟩
    · intro k y hk
      have hkl : k < (x :: r).length := (List.getElem?_eq_some_iff.1 hk).1
      refine ⟨(h k y hk).1, (h k y hk).2.1, w.heap.size, 0, rfl, by simp, fun j v hv => ?_⟩
      have e1 := rcVals_get2 (x :: r) k y hok hk j v hv
      have hjl := (List.getElem?_eq_some_iff.1 e1).1
      rw [Nat.zero_add]
      refine (cell_of_row _ w.drew.heap.size (k * 102 + j) _ _ _ (heap_alloc_new w.drew _)).trans ?_
      rw [Array.getElem?_append_left (by simp; omega), Array.getElem?_append_right (by simp)]
      simp only [List.size_toArray, List.length_nil, Nat.sub_zero, List.getElem?_toArray]
      exact e1
    · exact grownCap_ge w (x :: r).length 0 33
theorem rcs_empty (W : World) : (Instr.buildSlice 44 0 #[]).run Tryz.prog W = .ok (.slice (some ⟨W.heap.size, 0, none⟩) 0 0) (W.alloc (.cells #[] 33)) := by
  obtain ⟨i, hi, hz, hs, hb⟩ := rcI
  simp [Instr.buildSlice, run_underlying Tryz.underlying44, sizeOf, typeInfo, hi, newRow, Instr.fill]
  rw [show (Array.range 0 : Array Nat) = #[] from by apply Array.ext'; simp]
  simp
/-- A row that the call owns can be written to, one receipt at a time. -/
theorem row_there {w : World} {v : Value} {l : List Rc} (h : w.ownsRow 0 33 102 v l.length (rcVals l)) : ∃ ao cap, v = .slice ao l.length cap ∧ ∀ k, k < l.length → ∃ g, ao = some ⟨g, 0, none⟩ ∧ g ∈ foot v ∧ g < w.heap.size ∧ w.there g 0 (l.length * 102) := by
  rcases h.2 with ⟨rfl, hn⟩ | ⟨g, cap, cur, rfl, _, hg, hc, _, hcs, ht⟩
  · exact ⟨none, 0, by rw [hn], fun k hk => by omega⟩
  · refine ⟨_, cap, rfl, fun k hk => ⟨g, rfl, by simp [foot, Value.ownBlock], (Array.getElem?_eq_some_iff.1 hg).1, fun j hj => ⟨?_, frozen_of_row _ _ _ _ _ hg⟩⟩⟩
    rw [cell_of_row _ _ _ _ _ _ hg, Array.getElem?_eq_getElem (by rw [hcs]; exact Nat.lt_of_lt_of_le (by omega) (Nat.mul_le_mul_right 102 hc))]
    rfl
theorem there_at {w : World} {g n k : Nat} (h : w.there g 0 (n * 102)) (hk : k < n) : w.there g (k * 102) 102 := by
  intro j hj
  have := h (k * 102 + j) (by
    have : (k + 1) * 102 ≤ n * 102 := Nat.mul_le_mul_right 102 hk
    omega)
  rw [Nat.zero_add] at this
  exact this
end Go.Proofs.YtmnmhhbldbdpfaaGreatDoor
