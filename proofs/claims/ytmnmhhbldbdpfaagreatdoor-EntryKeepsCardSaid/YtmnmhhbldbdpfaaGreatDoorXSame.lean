/- sortesref22.Same. -/
import Derived.Test.YtmnmhhbldbdpfaaGreatDoorXLawP1
import Derived.Test.YtmnmhhbldbdpfaaGreatDoorGG
namespace Go.Proofs.YtmnmhhbldbdpfaaGreatDoor
open Go.RowKit
set_option maxRecDepth 100000

theorem rc_eq_run3 {x y : Rc} (hx : x.ok) (hy : y.ok) (b : Bool) (hb : eqRc x y = b) (A B : Array Value) (hA : A = (rcV x).toArray) (hB : B = (rcV y).toArray) (W : World) : (Op.equalIn 10000 33 (.agg A) (.agg B)).run Tryz.prog W = .ok b W := by
  rw [hA, hB, show (10000 : Nat) = 9997 + 3 from rfl, eqRc_run 9997 _ _ hx hy W, hb]
theorem rcsIn_load {w : World} {g o : Nat} {l : List Rc} {k : Nat} {x : Rc} (h : RcsIn w (some ⟨g, o, none⟩) l) (hk : l[k]? = some x) (R : Array Value) (hR : R = (rcV x).toArray) : (Instr.loadAt 33 (.pointer (some ⟨g, o + k * 102, none⟩))).run Tryz.prog w = .ok (.agg R) w := by
  obtain ⟨hx, _, g', o', e, _, hr⟩ := h k x hk
  simp only [Option.some.injEq, Addr.mk.injEq, and_true] at e
  obtain ⟨rfl, rfl⟩ := e
  rw [hR]
  exact run_loadAt_mid w _ _ _ _ _ hr Tryz.underlying33 rfl (rcInfo hx)
theorem rcsIn_some {w : World} {ao : Option Addr} {l : List Rc} (h : RcsIn w ao l) (hn : 0 < l.length) : ∃ g o, ao = some ⟨g, o, none⟩ := by
  obtain ⟨_, _, g, o, e, _⟩ := h 0 _ (List.getElem?_eq_getElem hn)
  exact ⟨g, o, e⟩
theorem take_ext {a b : List Rc} {k : Nat} {x y : Rc} (ha : a[k]? = some x) (hb : b[k]? = some y) (h : a.take k = b.take k) (e : x = y) : a.take (k + 1) = b.take (k + 1) := by
  rw [List.take_add_one, List.take_add_one, ha, hb, h, e]

theorem two_boxS (w : World) (T : TypeId) (V : Array Value) : (w.alloc (.cells V T)).heap[w.heap.size]? = some (.cells V T (0, 0)) := heap_alloc_new _ _
set_option maxHeartbeats 2000000 in
theorem same_any (ka kb : Int) (la lb : List Rc) (aoa aob : Option Addr) (ca cb : Nat) (w : World) (hla : la.length ≤ 6000) (_hlb : lb.length ≤ 6000) (ha : RcsIn w aoa la) (hb : RcsIn w aob lb) (b : Bool) (hbb : b = true ↔ ka = kb ∧ la = lb) :
    Calls Tryz.prog 20 #[.agg #[.int .i64 ka, .slice aoa la.length ca], .agg #[.int .i64 kb, .slice aob lb.length cb]] w (fun e w' => e = .returned (.bool b) ∧ Upd [] [] w w') := by
  have b0 := row_updH (two_boxS w 46 #[.int .i64 ka, .slice aoa la.length ca]) ((Upd.refl [] _).alloc (.cells #[.int .i64 kb, .slice aob lb.length cb] 46))
  have b1 := two_boxS (w.alloc (.cells #[.int .i64 ka, .slice aoa la.length ca] 46)) 46 #[.int .i64 kb, .slice aob lb.length cb]
  rw [World.size_alloc] at b1
  have u0 : Upd [] [] w ((w.alloc (.cells #[.int .i64 ka, .slice aoa la.length ca] 46)).alloc (.cells #[.int .i64 kb, .slice aob lb.length cb] 46)) := ((Upd.refl _ _).alloc _).alloc _
  obtain ⟨w0, hw0⟩ : ∃ w0, ((w.alloc (.cells #[.int .i64 ka, .slice aoa la.length ca] 46)).alloc (.cells #[.int .i64 kb, .slice aob lb.length cb] 46)) = w0 := ⟨_, rfl⟩
  rw [hw0] at b0 b1 u0
  have HW0 := Lib.hid hw0
  have F0 : Hid (∀ W, Upd [] [] w0 W → W.cell? ⟨w.heap.size, 0, none⟩ = some (.int .i64 ka) ∧ W.cell? ⟨w.heap.size, 1, none⟩ = some (.slice aoa la.length ca) ∧ W.cell? ⟨w.heap.size + 1, 0, none⟩ = some (.int .i64 kb) ∧ W.cell? ⟨w.heap.size + 1, 1, none⟩ = some (.slice aob lb.length cb)) := by
    intro W u
    have c0 := row_updH b0 u
    have c1 := row_updH b1 u
    exact ⟨by rw [cell_of_row _ _ _ _ _ _ c0]; rfl, by rw [cell_of_row _ _ _ _ _ _ c0]; rfl, by rw [cell_of_row _ _ _ _ _ _ c1]; rfl, by rw [cell_of_row _ _ _ _ _ _ c1]; rfl⟩
  have HA := Lib.hid (ha.upd u0)
  have HB := Lib.hid (hb.upd u0)
  have HBB := Lib.hid hbb
  clear hw0 b0 b1 ha hb hbb
  obtain ⟨k0, k1, k2, k3⟩ := F0.out w0 (Upd.refl _ _)
  go_enter Tryz.func20, Tryz.ntmps20
  go_upto_region 1 with (fail)
  rw [HW0.out]
  by_cases hk : ka = kb
  case neg =>
    have hbf : b = false := by
      cases b
      · rfl
      · exact absurd (HBB.out.1 rfl).1 hk
    subst hbf
    go_wp2_with fail
    go_ret
    exact ⟨rfl, u0⟩
  subst hk
  by_cases hl : la.length = lb.length
  case neg =>
    have hbf : b = false := by
      cases b
      · rfl
      · exact absurd (by rw [(HBB.out.1 rfl).2]) hl
    subst hbf
    have hl' : ¬ (la.length : Int) = (lb.length : Int) := by omega
    have hne : ((la.length : Int) == (lb.length : Int)) = false := by rw [beq_eq_false_iff_ne]; exact hl'
    clear hl hl'
    go_wp2_with fail
    go_ret
    exact ⟨rfl, u0⟩
  obtain ⟨n, hn⟩ : ∃ n, n = la.length := ⟨_, rfl⟩
  have hnb : lb.length = n := by omega
  rw [hnb, ← hn] at F0
  rw [hnb] at k3
  rw [← hn] at k1
  have HNA := Lib.hid hn
  have HNB := Lib.hid hnb
  have hn6 : n ≤ 6000 := by omega
  clear hn hnb hl hla
  go_wp2_with fail
  go_loopw [5] (fun i wr => ∃ k : Nat, i = .int .i64 (k : Int) ∧ k ≤ n ∧ Hid (la.take k = lb.take k) ∧ Hid (Upd [] [] w0 wr)) (fun i _ => n - (intOf i).toNat)
  case atStart => exact ⟨0, rfl, Nat.zero_le _, rfl, Upd.refl _ _⟩
  case round =>
    obtain ⟨k, rfl, hk, HT, HU⟩ := hrel
    obtain ⟨j0, j1, j2, j3⟩ := F0.out wr HU.out
    by_cases hlt : k < n
    · obtain ⟨x, hx⟩ : ∃ x, la[k]? = some x := ⟨_, List.getElem?_eq_getElem (by rw [← HNA.out]; exact hlt)⟩
      obtain ⟨y, hy⟩ : ∃ y, lb[k]? = some y := ⟨_, List.getElem?_eq_getElem (by rw [HNB.out]; exact hlt)⟩
      obtain ⟨ga, oa, rfl⟩ := rcsIn_some HA.out (by rw [← HNA.out]; omega)
      obtain ⟨gb, ob, rfl⟩ := rcsIn_some HB.out (by rw [HNB.out]; omega)
      have hxo := (HA.out k x hx).1
      have hyo := (HB.out k y hy).1
      obtain ⟨X, hX⟩ : ∃ X, X = (rcV x).toArray := ⟨_, rfl⟩
      obtain ⟨Y, hY⟩ : ∃ Y, Y = (rcV y).toArray := ⟨_, rfl⟩
      obtain ⟨eb, heb⟩ : ∃ eb, eqRc x y = eb := ⟨_, rfl⟩
      have hEq := fun W => rc_eq_run3 hxo hyo eb heb X Y hX hY W
      have HK : Hid (∀ W, Upd [] [] wr W → W.cell? ⟨w.heap.size, 1, none⟩ = some (.slice (some ⟨ga, oa, none⟩) n ca) ∧ W.cell? ⟨w.heap.size + 1, 1, none⟩ = some (.slice (some ⟨gb, ob, none⟩) n cb) ∧ (Instr.loadAt 33 (.pointer (some ⟨ga, oa + k * 102, none⟩))).run Tryz.prog W = .ok (.agg X) W ∧ (Instr.loadAt 33 (.pointer (some ⟨gb, ob + k * 102, none⟩))).run Tryz.prog W = .ok (.agg Y) W) := by
        intro W u
        have u2 := HU.out.trans u
        exact ⟨(F0.out W u2).2.1, (F0.out W u2).2.2.2, rcsIn_load (HA.out.upd u2) hx X hX, rcsIn_load (HB.out.upd u2) hy Y hY⟩
      have HTN : Hid (eb = true → la.take (k + 1) = lb.take (k + 1)) := fun h => take_ext hx hy HT.out ((eqRc_iff x y).1 (heb.trans h))
      have HFN : Hid (eb = false → b = false) := by
        intro h
        cases hb : b
        · rfl
        · have h1 := (HBB.out.1 hb).2
          rw [h1, hy] at hx
          simp only [Option.some.injEq] at hx
          rw [← hx, eqRc_refl] at heb
          rw [← heb] at h
          cases h
      have i0 : (0 : Int) ≤ (k : Int) := by omega
      have i1 : (k : Int) < (n : Int) := by omega
      have ud0 : Upd [] [] wr wr.drew := (Upd.refl _ _).drew
      have HUd := Lib.hid (HU.out.trans ud0)
      clear hx hy hX hY heb
      go_upto_region 6 with (fail)
      refine @id ((?pj1 : Prop) → _) (fun hJ => ?mj1) ?jj1
      case mj1 =>
        refine wp_region_noPanic ?_
        refine wp_region_held_drew (S := fun wp => wp.cell? ⟨w.heap.size, 1, none⟩ = some (.slice (some ⟨ga, oa, none⟩) n ca) ∧ wp.cell? ⟨w.heap.size + 1, 1, none⟩ = some (.slice (some ⟨gb, ob, none⟩) n cb) ∧ (Instr.loadAt 33 (.pointer (some ⟨ga, oa + k * 102, none⟩))).run Tryz.prog wp = .ok (.agg X) wp ∧ (Instr.loadAt 33 (.pointer (some ⟨gb, ob + k * 102, none⟩))).run Tryz.prog wp = .ok (.agg Y) wp) (by kernel_rfl) ?_ (fun hHeld => ?_)
        · exact HK.out _ ud0
        refine wpAnyH_take (i := 0) (v := ?v2) (by simp only [List.getElem?_toArray, List.getElem?_cons_zero] <;> rfl) (by kernel_rfl) (by kernel_rfl) (by kernel_rfl) (fun _ _ _ h => h) (Or.inl ⟨by rfl, ?y2⟩) hHeld ?r2
        case y2 => (intro w hSw; (try dsimp only at hSw); go_simp; first | done | with_reducible rfl | rfl)
        try simp only [Act.put, List.setIfInBounds_toArray, List.set_cons_zero, List.set_cons_succ]
        refine wpAnyH_take (i := 1) (v := ?v3) (by simp only [List.getElem?_toArray, List.getElem?_cons_succ, List.getElem?_cons_zero] <;> rfl) (by kernel_rfl) (by kernel_rfl) (by kernel_rfl) (fun _ _ _ h => h) (Or.inl ⟨by rfl, ?y3⟩) hHeld ?r3
        case y3 => (intro w hSw; (try dsimp only at hSw); go_simp; first | done | with_reducible rfl | rfl)
        try simp only [Act.put, List.setIfInBounds_toArray, List.set_cons_zero, List.set_cons_succ]
        refine wpAnyH_take (i := 2) (v := ?v4) (by simp only [List.getElem?_toArray, List.getElem?_cons_succ, List.getElem?_cons_zero] <;> rfl) (by kernel_rfl) (by kernel_rfl) (by kernel_rfl) (fun _ _ _ h => h) (Or.inl ⟨by rfl, ?y4⟩) hHeld ?r4
        case y4 => (intro w hSw; (try dsimp only at hSw); go_simp; first | done | with_reducible rfl | rfl)
        try simp only [Act.put, List.setIfInBounds_toArray, List.set_cons_zero, List.set_cons_succ]
        refine wpAnyH_take (i := 3) (v := ?v5) (by simp only [List.getElem?_toArray, List.getElem?_cons_succ, List.getElem?_cons_zero] <;> rfl) (by kernel_rfl) (by kernel_rfl) (by kernel_rfl) (fun _ _ _ h => h) (Or.inl ⟨by rfl, ?y5⟩) hHeld ?r5
        case y5 => (intro w hSw; (try dsimp only at hSw); go_simp; first | done | with_reducible rfl | rfl)
        try simp only [Act.put, List.setIfInBounds_toArray, List.set_cons_zero, List.set_cons_succ]
        refine wpAnyH_take (i := 4) (v := .agg X) (by simp only [List.getElem?_toArray, List.getElem?_cons_succ, List.getElem?_cons_zero] <;> rfl) (by kernel_rfl) (by kernel_rfl) (by kernel_rfl) (fun _ _ _ h => h) (yieldsIf_loadW (by rfl) _ _ rfl _ rfl X (fun w hSw => hSw.2.2.1)) hHeld ?_
        try simp only [Act.put, List.setIfInBounds_toArray, List.set_cons_zero, List.set_cons_succ]
        refine wpAnyH_take (i := 5) (v := ?v6) (by simp only [List.getElem?_toArray, List.getElem?_cons_succ, List.getElem?_cons_zero] <;> rfl) (by kernel_rfl) (by kernel_rfl) (by kernel_rfl) (fun _ _ _ h => h) (Or.inl ⟨by rfl, ?y6⟩) hHeld ?r6
        case y6 => (intro w hSw; (try dsimp only at hSw); go_simp; first | done | with_reducible rfl | rfl)
        try simp only [Act.put, List.setIfInBounds_toArray, List.set_cons_zero, List.set_cons_succ]
        refine wpAnyH_take (i := 6) (v := ?v7) (by simp only [List.getElem?_toArray, List.getElem?_cons_succ, List.getElem?_cons_zero] <;> rfl) (by kernel_rfl) (by kernel_rfl) (by kernel_rfl) (fun _ _ _ h => h) (Or.inl ⟨by rfl, ?y7⟩) hHeld ?r7
        case y7 => (intro w hSw; (try dsimp only at hSw); go_simp; first | done | with_reducible rfl | rfl)
        try simp only [Act.put, List.setIfInBounds_toArray, List.set_cons_zero, List.set_cons_succ]
        refine wpAnyH_take (i := 7) (v := ?v8) (by simp only [List.getElem?_toArray, List.getElem?_cons_succ, List.getElem?_cons_zero] <;> rfl) (by kernel_rfl) (by kernel_rfl) (by kernel_rfl) (fun _ _ _ h => h) (Or.inl ⟨by rfl, ?y8⟩) hHeld ?r8
        case y8 => (intro w hSw; (try dsimp only at hSw); go_simp; first | done | with_reducible rfl | rfl)
        try simp only [Act.put, List.setIfInBounds_toArray, List.set_cons_zero, List.set_cons_succ]
        refine wpAnyH_take (i := 8) (v := ?v9) (by simp only [List.getElem?_toArray, List.getElem?_cons_succ, List.getElem?_cons_zero] <;> rfl) (by kernel_rfl) (by kernel_rfl) (by kernel_rfl) (fun _ _ _ h => h) (Or.inl ⟨by rfl, ?y9⟩) hHeld ?r9
        case y9 => (intro w hSw; (try dsimp only at hSw); go_simp; first | done | with_reducible rfl | rfl)
        try simp only [Act.put, List.setIfInBounds_toArray, List.set_cons_zero, List.set_cons_succ]
        refine wpAnyH_take (i := 9) (v := .agg Y) (by simp only [List.getElem?_toArray, List.getElem?_cons_succ, List.getElem?_cons_zero] <;> rfl) (by kernel_rfl) (by kernel_rfl) (by kernel_rfl) (fun _ _ _ h => h) (yieldsIf_loadW (by rfl) _ _ rfl _ rfl Y (fun w hSw => hSw.2.2.2)) hHeld ?_
        try simp only [Act.put, List.setIfInBounds_toArray, List.set_cons_zero, List.set_cons_succ]
        refine wpAnyH_take (i := 10) (v := ?v10) (by simp only [List.getElem?_toArray, List.getElem?_cons_succ, List.getElem?_cons_zero] <;> rfl) (by kernel_rfl) (by kernel_rfl) (by kernel_rfl) (fun _ _ _ h => h) (Or.inl ⟨by rfl, ?y10⟩) hHeld ?r10
        case y10 => (intro w hSw; (try dsimp only at hSw); go_simp; first | done | with_reducible rfl | rfl)
        try simp only [Act.put, List.setIfInBounds_toArray, List.set_cons_zero, List.set_cons_succ]
        refine wpAnyH_done (by kernel_rfl) ?_ _
        refine NoPanic.normal ?_
        exact hJ
      cases eb
      · have hbf := HFN.out rfl
        subst hbf
        go_wp2_with fail
        go_ret
        exact ⟨rfl, u0.trans HUd.out⟩
      · have HTT := Lib.hid (HTN.out rfl)
        go_wp2_with fail
        exact ⟨⟨k + 1, by go_num, by omega, HTT, HUd⟩, by simp [intOf]; omega⟩
    · have hkn : k = n := by omega
      have hbt : b = true := HBB.out.2 ⟨by first | rfl | trivial, by
        have := HT.out
        rw [hkn, List.take_of_length_le (by rw [← HNA.out]; exact Nat.le_refl _), List.take_of_length_le (by rw [HNB.out]; exact Nat.le_refl _)] at this
        exact this⟩
      subst hbt
      subst hkn
      clear hlt hk
      go_wp2_with fail
      go_ret
      exact ⟨rfl, u0.trans HU.out⟩
end Go.Proofs.YtmnmhhbldbdpfaaGreatDoor
