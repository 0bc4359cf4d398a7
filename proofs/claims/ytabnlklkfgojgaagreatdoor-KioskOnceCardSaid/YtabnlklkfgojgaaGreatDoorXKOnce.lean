/- The walk of KioskOnce. -/
import Derived.Test.YtabnlklkfgojgaaGreatDoorXKOnceL
namespace Go.Proofs.YtabnlklkfgojgaaGreatDoor
open Go.RowKit
set_option maxRecDepth 100000

set_option maxHeartbeats 40000000 in
theorem kioskOnce_walk (n0 : Int) (l : List Act27) (ao : Option Addr) (cap : Nat) (w : World) (hn : 0 ≤ n0 ∧ n0 ≤ 255) (hp : AcsIn w ao l) (_hlc : l.length ≤ cap) (_hcm : cap ≤ 9223372036854775807) (htab : Tabs w) :
    Calls Tryz.prog 7 #[.int .u8 n0, .slice ao l.length cap] w (TrueMk w) := by
  have HP := Lib.hid hp
  have hmm := @run_makeMap Tryz.prog
  clear hp
  go_enter Tryz.func7, Tryz.ntmps7
  go_wp2_with fail
  refine (sanity27_any _ htab).mono ?_
  rintro e w1 ⟨rfl, hu1⟩
  have HU1 := Lib.hid hu1
  clear hu1
  obtain ⟨p0, hp0⟩ : ∃ p : Nat, (p : Int) = n0 % 20 := ⟨(n0 % 20).toNat, by omega⟩
  have hp6 : p0 < 20 := by omega
  go_wp2_with fail
  rw [hp0.symm]
  refine (newM_any 7 99 p0 (by unfold i64in; omega) (by unfold i64in; omega) (by omega) HU1.out htab).mono ?_
  rintro e w2 ⟨xb, mb, kb, K2, rfl, hM2⟩
  have HM2 := Lib.hid hM2
  clear hM2 hp0 HU1
  go_wp2_with fail
  obtain ⟨gm, hgm⟩ : ∃ gm, gm = w2.heap.size := ⟨_, rfl⟩
  obtain ⟨w3, hw3, I3⟩ : ∃ w3, w2.alloc (.map #[] 0) = w3 ∧ Hid (OnceM w xb mb gm 0 0 (KM.new 7 99 p0) 0 kb K2 0 0 w3) := by
    have u : Upd [] [] w2 (w2.alloc (.map #[] 0)) := (Upd.refl _ _).alloc _
    obtain ⟨_, _, _, _, _, _, _, _, _, _, hx, _⟩ := HM2.out.ex
    obtain ⟨M, m0, _⟩ := hx.m
    have h1 := blk_lt hx.x
    have h2 := blk_lt m0
    refine ⟨_, rfl, HM2.out.quiet u, Nat.le_refl _, ?_, Nat.le_refl _, Nat.zero_le _, Nat.le_refl _, fun hm => ?_, by omega, by omega, by rw [hgm]; exact HM2.out.up.size⟩
    · rw [hgm]
      have := MapN.made w2
      rw [← fK_nil] at this
      exact this
    · have := HM2.out.lt _ hm; omega
  rw [hw3, ← hgm]
  clear hw3 hgm HM2 hmm
  go_loopw [8] (fun i wr => ∃ (k : Nat), i = .int .i64 (k : Int) ∧ k ≤ 25 ∧ k ≤ l.length ∧ Hid (∃ m n kb K nm, OnceM w xb mb gm k (100 * k) m n kb K nm m.rs.length wr)) (fun i _ => 25 - (intOf i).toNat)
  case atStart => exact ⟨0, rfl, by omega, by omega, _, _, _, _, _, I3.out⟩
  case round =>
    clear I3
    obtain ⟨k, rfl, hk, hkl, HI⟩ := hrel
    by_cases hlt : k < l.length
    · by_cases h25 : k < 25
      · obtain ⟨a, ha⟩ : ∃ a, l[k]? = some a := ⟨_, List.getElem?_eq_getElem hlt⟩
        obtain ⟨m, n, kb, K, nm, HO⟩ := HI.out
        obtain ⟨haok, g, o, hao, hg, _⟩ := HP.out k a ha
        have HAC : Hid (∀ W, Upd [] [] w W → W.cell? ⟨g, o + k * 3, none⟩ = some (.int .i64 a.what) ∧ W.cell? ⟨g, o + k * 3 + 1, none⟩ = some (.int .i64 a.n) ∧ (Instr.loadAt 66 (.pointer (some ⟨g, o + k * 3, none⟩))).run Tryz.prog W = .ok (.agg a.cs) W) := by
          intro W u
          obtain ⟨_, g', o', hao', _, hr⟩ := (HP.out.upd u) k a ha
          rw [hao] at hao'
          cases hao'
          exact act_cells hr
        subst hao
        have HO1 := Lib.hid HO
        obtain ⟨c1, c2, _⟩ := HAC.out wr HO.mach.up
        have i0 : (0 : Int) ≤ (k : Int) := by omega
        have i1 : (k : Int) < (l.length : Int) := by omega
        have i2 : (k : Int) < 25 := by omega
        obtain ⟨z, hz, hz1, hz2⟩ := mod_add a.what 12 (by decide)
        obtain ⟨W, hW⟩ : ∃ W, W = a.what % 12 := ⟨_, rfl⟩
        rw [← hW] at hz2
        have HW := Lib.hid hW
        have HAOK := Lib.hid haok
        clear ha HO HI haok hW hg
        by_cases h8 : W = 8 ∨ W = 9
        · obtain ⟨b, HXB, HFa⟩ := Fail_m HO1.out.mach
          obtain ⟨oo, HXB⟩ := HXB
          have HX0 := Lib.hid HXB
          obtain ⟨z8, hz8, hz8a, hz8b⟩ := mod_add a.n 8 (by decide)
          obtain ⟨c8, hc8⟩ : ∃ c, c = a.n % 8 := ⟨_, rfl⟩
          rw [← hc8] at hz8b
          have HFL := Lib.hid (fun W u => HFa c8 W (by omega) u)
          have HSS : Hid (∀ W : World, Upd [] [] w W → (∃ o, W.heap[xb]? = some (.cells #[.pointer (some ⟨b, 0, none⟩), .pointer (some ⟨kb, 0, none⟩), .pointer (some ⟨mb, 0, none⟩), o] 69 (0, 0))) → W.cell? ⟨xb, 0, none⟩ = some (.pointer (some ⟨b, 0, none⟩)) ∧ W.cell? ⟨g, o + k * 3 + 1, none⟩ = some (.int .i64 a.n)) := by
            rintro W u ⟨oo, h1⟩
            exact ⟨by rw [cell_of_row _ _ _ _ _ _ h1]; rfl, (HAC.out W u).2.1⟩
          have ud0 : Upd [] [] wr wr.drew := (Upd.refl _ _).drew
          clear HXB HFa hc8
          rcases h8 with h8 | h8
          · skip
            subst h8
            go_upto_region 19 with (fail)
            refine wp_region_noPanic ?_
            refine wp_region_held_drew (S := fun wp => wp.cell? ⟨xb, 0, none⟩ = some (.pointer (some ⟨b, 0, none⟩)) ∧ wp.cell? ⟨g, o + k * 3 + 1, none⟩ = some (.int .i64 a.n)) (by kernel_rfl) ?_ (fun hHeld => ?_)
            · exact HSS.out _ (HO1.out.mach.up.trans ud0) ⟨oo, row_updH HX0.out ud0⟩
            refine wpAnyH_take (i := 0) (v := ?v1) (by simp only [List.getElem?_toArray, List.getElem?_cons_zero] <;> rfl) (by kernel_rfl) (by kernel_rfl) (by kernel_rfl) (fun _ _ _ h => h) (Or.inl ⟨by rfl, ?y1⟩) hHeld ?r1
            case y1 => (intro w hSw; (try dsimp only at hSw); go_simp; first | done | with_reducible rfl | rfl)
            try simp only [Act.put, List.setIfInBounds_toArray, List.set_cons_zero, List.set_cons_succ]
            refine wpAnyH_take (i := 1) (v := ?v2) (by simp only [List.getElem?_toArray, List.getElem?_cons_succ, List.getElem?_cons_zero] <;> rfl) (by kernel_rfl) (by kernel_rfl) (by kernel_rfl) (fun _ _ _ h => h) (Or.inl ⟨by rfl, ?y2⟩) hHeld ?r2
            case y2 => (intro w hSw; (try dsimp only at hSw); go_simp; first | done | with_reducible rfl | rfl)
            try simp only [Act.put, List.setIfInBounds_toArray, List.set_cons_zero, List.set_cons_succ]
            refine wpAnyH_take (i := 2) (v := ?v3) (by simp only [List.getElem?_toArray, List.getElem?_cons_succ, List.getElem?_cons_zero] <;> rfl) (by kernel_rfl) (by kernel_rfl) (by kernel_rfl) (fun _ _ _ h => h) (Or.inl ⟨by rfl, ?y3⟩) hHeld ?r3
            case y3 => (intro w hSw; (try dsimp only at hSw); go_simp; first | done | with_reducible rfl | rfl)
            try simp only [Act.put, List.setIfInBounds_toArray, List.set_cons_zero, List.set_cons_succ]
            refine wpAnyH_take (i := 3) (v := ?v4) (by simp only [List.getElem?_toArray, List.getElem?_cons_succ, List.getElem?_cons_zero] <;> rfl) (by kernel_rfl) (by kernel_rfl) (by kernel_rfl) (fun _ _ _ h => h) (Or.inl ⟨by rfl, ?y4⟩) hHeld ?r4
            case y4 => (intro w hSw; (try dsimp only at hSw); go_simp; first | done | with_reducible rfl | rfl)
            try simp only [Act.put, List.setIfInBounds_toArray, List.set_cons_zero, List.set_cons_succ]
            refine wpAnyH_take (i := 4) (v := ?v5) (by simp only [List.getElem?_toArray, List.getElem?_cons_succ, List.getElem?_cons_zero] <;> rfl) (by kernel_rfl) (by kernel_rfl) (by kernel_rfl) (fun _ _ _ h => h) (Or.inl ⟨by rfl, ?y5⟩) hHeld ?r5
            case y5 => (intro w hSw; (try dsimp only at hSw); go_simp; first | done | with_reducible rfl | rfl)
            try simp only [Act.put, List.setIfInBounds_toArray, List.set_cons_zero, List.set_cons_succ]
            refine wpAnyH_take (i := 5) (v := ?v6) (by simp only [List.getElem?_toArray, List.getElem?_cons_succ, List.getElem?_cons_zero] <;> rfl) (by kernel_rfl) (by kernel_rfl) (by kernel_rfl) (fun _ _ _ h => h) (Or.inl ⟨by rfl, ?y6⟩) hHeld ?r6
            case y6 => (intro w hSw; (try dsimp only at hSw); go_simp; first | done | with_reducible rfl | rfl)
            try simp only [Act.put, List.setIfInBounds_toArray, List.set_cons_zero, List.set_cons_succ]
            refine wpAnyH_take (i := 6) (v := ?v7) (by simp only [List.getElem?_toArray, List.getElem?_cons_succ, List.getElem?_cons_zero] <;> rfl) (by kernel_rfl) (by kernel_rfl) (by kernel_rfl) (fun _ _ _ h => h) (Or.inl ⟨by rfl, ?y7⟩) hHeld ?r7
            case y7 => (intro w hSw; (try dsimp only at hSw); go_simp; first | done | with_reducible rfl | rfl)
            try simp only [Act.put, List.setIfInBounds_toArray, List.set_cons_zero, List.set_cons_succ]
            refine wpAnyH_take (i := 7) (v := ?v8) (by simp only [List.getElem?_toArray, List.getElem?_cons_succ, List.getElem?_cons_zero] <;> rfl) (by kernel_rfl) (by kernel_rfl) (by kernel_rfl) (fun _ _ _ h => h) (Or.inl ⟨by rfl, ?y8⟩) hHeld ?r8
            case y8 => (intro w hSw; (try dsimp only at hSw); go_simp; first | done | with_reducible rfl | rfl)
            try simp only [Act.put, List.setIfInBounds_toArray, List.set_cons_zero, List.set_cons_succ]
            refine wpAnyH_take (i := 8) (v := ?v9) (by simp only [List.getElem?_toArray, List.getElem?_cons_succ, List.getElem?_cons_zero] <;> rfl) (by kernel_rfl) (by kernel_rfl) (by kernel_rfl) (fun _ _ _ h => h) (Or.inl ⟨by rfl, ?y9⟩) hHeld ?r9
            case y9 => (intro w hSw; (try dsimp only at hSw); go_simp; first | done | with_reducible rfl | rfl)
            try simp only [Act.put, List.setIfInBounds_toArray, List.set_cons_zero, List.set_cons_succ]
            refine wpAnyH_take (i := 9) (v := ?v10) (by simp only [List.getElem?_toArray, List.getElem?_cons_succ, List.getElem?_cons_zero] <;> rfl) (by kernel_rfl) (by kernel_rfl) (by kernel_rfl) (fun _ _ _ h => h) (Or.inl ⟨by rfl, ?y10⟩) hHeld ?r10
            case y10 => (intro w hSw; (try dsimp only at hSw); go_simp; first | done | with_reducible rfl | rfl)
            try simp only [Act.put, List.setIfInBounds_toArray, List.set_cons_zero, List.set_cons_succ]
            refine wpAnyH_take (i := 10) (v := ?v11) (by simp only [List.getElem?_toArray, List.getElem?_cons_succ, List.getElem?_cons_zero] <;> rfl) (by kernel_rfl) (by kernel_rfl) (by kernel_rfl) (fun _ _ _ h => h) (Or.inl ⟨by rfl, ?y11⟩) hHeld ?r11
            case y11 => (intro w hSw; (try dsimp only at hSw); go_simp; first | done | with_reducible rfl | rfl)
            try simp only [Act.put, List.setIfInBounds_toArray, List.set_cons_zero, List.set_cons_succ]
            refine wpAnyH_take (i := 11) (v := ?v12) (by simp only [List.getElem?_toArray, List.getElem?_cons_succ, List.getElem?_cons_zero] <;> rfl) (by kernel_rfl) (by kernel_rfl) (by kernel_rfl) (fun _ _ _ h => h) (Or.inl ⟨by rfl, ?y12⟩) hHeld ?r12
            case y12 => (intro w hSw; (try dsimp only at hSw); go_simp; first | done | with_reducible rfl | rfl)
            try simp only [Act.put, List.setIfInBounds_toArray, List.set_cons_zero, List.set_cons_succ]
            refine wpAnyH_ready (rs := [12]) (by kernel_rfl) (by simp) ?_
            refine AllReadyH.cons (by simp only [List.getElem?_toArray, List.getElem?_cons_succ, List.getElem?_cons_zero] <;> rfl) (fun K hK => ?_) ?_
            · go_simp; refine (HFL.out _ ud0).mono ?_; rintro e w4 ⟨rfl, hm4, hu4⟩; have FX4 : Hid (∃ o, w4.heap[xb]? = some (.cells #[.pointer (some ⟨b, 0, none⟩), .pointer (some ⟨kb, 0, none⟩), .pointer (some ⟨mb, 0, none⟩), o] 69 (0, 0))) := (by have q := row_updH HX0.out ud0; exact ⟨oo, by rw [← q]; exact hu4.block xb (blk_lt q) (by obtain ⟨_, _, _, _, _, _, _, _, _, _, hx, _⟩ := HO1.out.mach.ex; exact hx.xK)⟩); have IN : Hid (∃ m n kb K nm, OnceM w xb mb gm (k + 1) (100 * (k + 1)) m n kb K nm m.rs.length w4) := (by have q := HO1.out; exact ⟨_, _, _, _, _, hm4, by have := q.n; omega, (q.know.upd ud0 (by simp)).upd hu4 q.gK, by have := q.nm; omega, Nat.le_refl _, by have := q.len; omega, q.gK, q.gx, q.gmb, q.gw⟩); have UP4 := Lib.hid hm4.up; clear hm4 hu4; go_wp2_with fail
              refine hK.out _ _ ?_ (fun hHeld => ?_)
              · exact HSS.out _ UP4.out FX4.out
              clear hK K
              try simp only [Act.put, List.setIfInBounds_toArray, List.set_cons_zero, List.set_cons_succ]
              refine wpAnyH_done (by kernel_rfl) ?_ _
              refine NoPanic.normal ?_
              go_wp2_with fail
              exact ⟨⟨k + 1, by go_num, by omega, by omega, IN⟩, by simp [intOf]; omega⟩
            exact AllReadyH.nil
          · skip
            subst h8
            go_upto_region 19 with (fail)
            refine wp_region_noPanic ?_
            refine wp_region_held_drew (S := fun wp => wp.cell? ⟨xb, 0, none⟩ = some (.pointer (some ⟨b, 0, none⟩)) ∧ wp.cell? ⟨g, o + k * 3 + 1, none⟩ = some (.int .i64 a.n)) (by kernel_rfl) ?_ (fun hHeld => ?_)
            · exact HSS.out _ (HO1.out.mach.up.trans ud0) ⟨oo, row_updH HX0.out ud0⟩
            refine wpAnyH_take (i := 0) (v := ?v13) (by simp only [List.getElem?_toArray, List.getElem?_cons_zero] <;> rfl) (by kernel_rfl) (by kernel_rfl) (by kernel_rfl) (fun _ _ _ h => h) (Or.inl ⟨by rfl, ?y13⟩) hHeld ?r13
            case y13 => (intro w hSw; (try dsimp only at hSw); go_simp; first | done | with_reducible rfl | rfl)
            try simp only [Act.put, List.setIfInBounds_toArray, List.set_cons_zero, List.set_cons_succ]
            refine wpAnyH_take (i := 1) (v := ?v14) (by simp only [List.getElem?_toArray, List.getElem?_cons_succ, List.getElem?_cons_zero] <;> rfl) (by kernel_rfl) (by kernel_rfl) (by kernel_rfl) (fun _ _ _ h => h) (Or.inl ⟨by rfl, ?y14⟩) hHeld ?r14
            case y14 => (intro w hSw; (try dsimp only at hSw); go_simp; first | done | with_reducible rfl | rfl)
            try simp only [Act.put, List.setIfInBounds_toArray, List.set_cons_zero, List.set_cons_succ]
            refine wpAnyH_take (i := 2) (v := ?v15) (by simp only [List.getElem?_toArray, List.getElem?_cons_succ, List.getElem?_cons_zero] <;> rfl) (by kernel_rfl) (by kernel_rfl) (by kernel_rfl) (fun _ _ _ h => h) (Or.inl ⟨by rfl, ?y15⟩) hHeld ?r15
            case y15 => (intro w hSw; (try dsimp only at hSw); go_simp; first | done | with_reducible rfl | rfl)
            try simp only [Act.put, List.setIfInBounds_toArray, List.set_cons_zero, List.set_cons_succ]
            refine wpAnyH_take (i := 3) (v := ?v16) (by simp only [List.getElem?_toArray, List.getElem?_cons_succ, List.getElem?_cons_zero] <;> rfl) (by kernel_rfl) (by kernel_rfl) (by kernel_rfl) (fun _ _ _ h => h) (Or.inl ⟨by rfl, ?y16⟩) hHeld ?r16
            case y16 => (intro w hSw; (try dsimp only at hSw); go_simp; first | done | with_reducible rfl | rfl)
            try simp only [Act.put, List.setIfInBounds_toArray, List.set_cons_zero, List.set_cons_succ]
            refine wpAnyH_take (i := 4) (v := ?v17) (by simp only [List.getElem?_toArray, List.getElem?_cons_succ, List.getElem?_cons_zero] <;> rfl) (by kernel_rfl) (by kernel_rfl) (by kernel_rfl) (fun _ _ _ h => h) (Or.inl ⟨by rfl, ?y17⟩) hHeld ?r17
            case y17 => (intro w hSw; (try dsimp only at hSw); go_simp; first | done | with_reducible rfl | rfl)
            try simp only [Act.put, List.setIfInBounds_toArray, List.set_cons_zero, List.set_cons_succ]
            refine wpAnyH_take (i := 5) (v := ?v18) (by simp only [List.getElem?_toArray, List.getElem?_cons_succ, List.getElem?_cons_zero] <;> rfl) (by kernel_rfl) (by kernel_rfl) (by kernel_rfl) (fun _ _ _ h => h) (Or.inl ⟨by rfl, ?y18⟩) hHeld ?r18
            case y18 => (intro w hSw; (try dsimp only at hSw); go_simp; first | done | with_reducible rfl | rfl)
            try simp only [Act.put, List.setIfInBounds_toArray, List.set_cons_zero, List.set_cons_succ]
            refine wpAnyH_take (i := 6) (v := ?v19) (by simp only [List.getElem?_toArray, List.getElem?_cons_succ, List.getElem?_cons_zero] <;> rfl) (by kernel_rfl) (by kernel_rfl) (by kernel_rfl) (fun _ _ _ h => h) (Or.inl ⟨by rfl, ?y19⟩) hHeld ?r19
            case y19 => (intro w hSw; (try dsimp only at hSw); go_simp; first | done | with_reducible rfl | rfl)
            try simp only [Act.put, List.setIfInBounds_toArray, List.set_cons_zero, List.set_cons_succ]
            refine wpAnyH_take (i := 7) (v := ?v20) (by simp only [List.getElem?_toArray, List.getElem?_cons_succ, List.getElem?_cons_zero] <;> rfl) (by kernel_rfl) (by kernel_rfl) (by kernel_rfl) (fun _ _ _ h => h) (Or.inl ⟨by rfl, ?y20⟩) hHeld ?r20
            case y20 => (intro w hSw; (try dsimp only at hSw); go_simp; first | done | with_reducible rfl | rfl)
            try simp only [Act.put, List.setIfInBounds_toArray, List.set_cons_zero, List.set_cons_succ]
            refine wpAnyH_take (i := 8) (v := ?v21) (by simp only [List.getElem?_toArray, List.getElem?_cons_succ, List.getElem?_cons_zero] <;> rfl) (by kernel_rfl) (by kernel_rfl) (by kernel_rfl) (fun _ _ _ h => h) (Or.inl ⟨by rfl, ?y21⟩) hHeld ?r21
            case y21 => (intro w hSw; (try dsimp only at hSw); go_simp; first | done | with_reducible rfl | rfl)
            try simp only [Act.put, List.setIfInBounds_toArray, List.set_cons_zero, List.set_cons_succ]
            refine wpAnyH_take (i := 9) (v := ?v22) (by simp only [List.getElem?_toArray, List.getElem?_cons_succ, List.getElem?_cons_zero] <;> rfl) (by kernel_rfl) (by kernel_rfl) (by kernel_rfl) (fun _ _ _ h => h) (Or.inl ⟨by rfl, ?y22⟩) hHeld ?r22
            case y22 => (intro w hSw; (try dsimp only at hSw); go_simp; first | done | with_reducible rfl | rfl)
            try simp only [Act.put, List.setIfInBounds_toArray, List.set_cons_zero, List.set_cons_succ]
            refine wpAnyH_take (i := 10) (v := ?v23) (by simp only [List.getElem?_toArray, List.getElem?_cons_succ, List.getElem?_cons_zero] <;> rfl) (by kernel_rfl) (by kernel_rfl) (by kernel_rfl) (fun _ _ _ h => h) (Or.inl ⟨by rfl, ?y23⟩) hHeld ?r23
            case y23 => (intro w hSw; (try dsimp only at hSw); go_simp; first | done | with_reducible rfl | rfl)
            try simp only [Act.put, List.setIfInBounds_toArray, List.set_cons_zero, List.set_cons_succ]
            refine wpAnyH_take (i := 11) (v := ?v24) (by simp only [List.getElem?_toArray, List.getElem?_cons_succ, List.getElem?_cons_zero] <;> rfl) (by kernel_rfl) (by kernel_rfl) (by kernel_rfl) (fun _ _ _ h => h) (Or.inl ⟨by rfl, ?y24⟩) hHeld ?r24
            case y24 => (intro w hSw; (try dsimp only at hSw); go_simp; first | done | with_reducible rfl | rfl)
            try simp only [Act.put, List.setIfInBounds_toArray, List.set_cons_zero, List.set_cons_succ]
            refine wpAnyH_ready (rs := [12]) (by kernel_rfl) (by simp) ?_
            refine AllReadyH.cons (by simp only [List.getElem?_toArray, List.getElem?_cons_succ, List.getElem?_cons_zero] <;> rfl) (fun K hK => ?_) ?_
            · go_simp; refine (HFL.out _ ud0).mono ?_; rintro e w4 ⟨rfl, hm4, hu4⟩; have FX4 : Hid (∃ o, w4.heap[xb]? = some (.cells #[.pointer (some ⟨b, 0, none⟩), .pointer (some ⟨kb, 0, none⟩), .pointer (some ⟨mb, 0, none⟩), o] 69 (0, 0))) := (by have q := row_updH HX0.out ud0; exact ⟨oo, by rw [← q]; exact hu4.block xb (blk_lt q) (by obtain ⟨_, _, _, _, _, _, _, _, _, _, hx, _⟩ := HO1.out.mach.ex; exact hx.xK)⟩); have IN : Hid (∃ m n kb K nm, OnceM w xb mb gm (k + 1) (100 * (k + 1)) m n kb K nm m.rs.length w4) := (by have q := HO1.out; exact ⟨_, _, _, _, _, hm4, by have := q.n; omega, (q.know.upd ud0 (by simp)).upd hu4 q.gK, by have := q.nm; omega, Nat.le_refl _, by have := q.len; omega, q.gK, q.gx, q.gmb, q.gw⟩); have UP4 := Lib.hid hm4.up; clear hm4 hu4; go_wp2_with fail
              refine hK.out _ _ ?_ (fun hHeld => ?_)
              · exact HSS.out _ UP4.out FX4.out
              clear hK K
              try simp only [Act.put, List.setIfInBounds_toArray, List.set_cons_zero, List.set_cons_succ]
              refine wpAnyH_done (by kernel_rfl) ?_ _
              refine NoPanic.normal ?_
              go_wp2_with fail
              exact ⟨⟨k + 1, by go_num, by omega, by omega, IN⟩, by simp [intOf]; omega⟩
            exact AllReadyH.nil
        · have h8a : ¬ W = 8 := fun h => h8 (.inl h)
          have h8b : ¬ W = 9 := fun h => h8 (.inr h)
          clear h8
          go_upto_block 2 with (fail)
          go_cut [] (fun wx => Hid (∃ m n kb K nm q, OnceM w xb mb gm (k + 1) (100 * k + 1) m n kb K nm q wx))
          case first =>
            have hb8 : (W == 8) = false := by simp [h8a]
            have hb9 : (W == 9) = false := by simp [h8b]
            by_cases h9 : 9 < W
            · have uA : Upd [] [] wr (wr.alloc (.cells #[.int .i64 a.n, .int .i64 1] 3)) := (Upd.refl _ _).alloc _
              have HAG := Lib.hid (again_any (HO1.out.mach.quiet uA).crashC (.slice (some ⟨wr.heap.size, 0, none⟩) 2 2) [a.n, 1] (ints_new wr _ _ rfl) htab)
              have HUA := Lib.hid uA
              clear uA c1
              go_wp2_with fail
              refine HAG.out.mono ?_
              rintro e w5 ⟨m3, kb3, K3, rfl, rfl, hm3, hu5, hfr⟩
              have IN : Hid (∃ m n kb K nm q, OnceM w xb mb gm (k + 1) (100 * k + 1) m n kb K nm q w5) := by
                have q := HO1.out
                exact ⟨_, _, _, _, _, _, hm3, by have := q.n; omega, (q.know.upd HUA.out (by simp)).upd hu5 (by simp; exact q.gx), by have := q.nm; omega, Nat.le_refl _, by have := q.len; omega, fun hm => by have := hfr _ hm; have := q.know.lt; have := HUA.out.size; omega, q.gx, q.gmb, q.gw⟩
              clear hm3 hu5 hfr HAG HUA
              go_wp2_with fail
              go_meet
              exact IN
            · have hW8 : W < 8 := by have := HW.out; omega
              have hW0 : 0 ≤ W := by have := HW.out; omega
              obtain ⟨AC, hAC⟩ : ∃ AC, AC = a.cs := ⟨_, rfl⟩
              have HLA : Hid ((Instr.loadAt 66 (.pointer (some ⟨g, o + k * 3, none⟩))).run Tryz.prog wr = .ok (.agg AC) wr) := by rw [hAC]; exact (HAC.out wr HO1.out.mach.up).2.2
              have HCL := Lib.hid (call_any HO1.out.mach a HAOK.out (by have := HO1.out.n; omega) htab)
              rw [← hAC] at HCL
              clear hAC c1 hz hz1 hz2
              go_upto_region 10 with (fail)
              go_wp2_with (first | (refine wpList_load_atW (by rfl) 66 _ rfl g (o + k * 3) rfl AC HLA.out ?_))
              refine HCL.out.mono ?_
              rintro e w5 ⟨x, K', y, rfl, hup, HX, HY⟩
              have hyo : y.ok := by
                rw [HY.out]
                split
                · exact Rc.zero_ok
                · unfold doR
                  split
                  · exact Rc.zero_ok
                  · split
                    · exact Rc.zero_ok
                    · exact selR_ok HO1.out.mach.ok (hashN_len _)
              obtain ⟨R, hR⟩ : ∃ R, R = (rcV y).toArray := ⟨_, rfl⟩
              obtain ⟨RI, RO, RZ⟩ := rcLet hyo R hR
              rw [← hR]
              obtain ⟨w6, Z6, W6, R6, hq6⟩ := blk_new w5 37 Tryz.zeroCells37 R
              obtain ⟨gr, hgr⟩ : ∃ g, g = w5.heap.size := ⟨_, rfl⟩
              have HGR := Lib.hid hgr
              have R6' : Hid (w6.heap[gr]? = some (.cells R 37 (0, 0))) := by show _ = _; rw [hgr]; exact R6.out
              have KN6 : Hid (MapN w6 gm nm (fK (m.rs.take m.rs.length)) m.rs.length ∧ gm < w5.heap.size ∧ gm ∉ K') := by
                have q := HO1.out
                have k1 := q.know.upd hup q.gK
                exact ⟨k1.upd hq6 (by simp), k1.lt, off_upd q.gK q.know.lt hup⟩
              have HYO := Lib.hid hyo
              have HR := Lib.hid hR
              have HQ6 := Lib.hid hq6
              clear HCL HLA hup hyo hR hgr R6 hq6
              go_upto_region 11 with (first | (refine wpList_store_rowAs rfl 37 _ _ rfl w5.heap.size R rfl rfl _ _ Z6.out RI.out RZ.out RO.out w6 W6.out ?_))
              rw [← HGR.out]
              clear Z6 W6 HGR
              rcases HX.out with ⟨hx, hM⟩ | ⟨hx0, hx70, hMC, _⟩
              · have hne : ¬ x = 70 := by rw [hx]; exact doE_ne m a
                have hb70 : (x == 70) = false := by simp [hne]
                have HM6 : Hid (Mach w xb mb 7 99 (doM m a) (n + 1) kb K' w6) := hM.quiet HQ6.out
                have HXE := Lib.hid hx
                clear hM hx HX HQ6
                by_cases hs : x = 0 ∧ W < 5
                · obtain ⟨hx0, hw5⟩ := hs
                  subst hx0
                  obtain ⟨d1, d2⟩ := do_sold m a (by rw [← HW.out]; exact ⟨hW0, hw5⟩) HXE.out.symm
                  have hyd : y = doR m a := by rw [HY.out, if_neg hne]
                  rw [← hyd] at d1 d2
                  have HD := Lib.hid (And.intro d1 d2)
                  obtain ⟨ser, hser⟩ : ∃ ser : Int, ser = (m.rs.length : Int) + 1 := ⟨_, rfl⟩
                  have hsl : m.rs.length ≤ 25 := by have := HO1.out.len; omega
                  have cS : w6.cell? ⟨gr, 1, none⟩ = some (.int .i64 ser) := by rw [cell_of_row _ _ _ _ _ _ R6'.out, HR.out, (rc_parts HYO.out).2.2.2.2.2.1, d2, hser]
                  obtain ⟨Z, hZ⟩ : ∃ Z, Z = (rcV Rc.zero).toArray := ⟨_, rfl⟩
                  obtain ⟨ZI, ZO, ZZ⟩ := rcLet Rc.zero_ok Z hZ
                  have hff : fK (m.rs.take m.rs.length) ser = none := by rw [hser, fK_get, List.take_length, List.getElem?_eq_none (Nat.le_refl _)]; rfl
                  have hlk : (Instr.lookup 64 (.map (some gm)) (.int .i64 ser) true).run Tryz.prog w6 = .ok (.tuple #[.agg Z, .bool false]) w6 := by
                    have q := KN6.out.1.look (x := ser) (by omega)
                    rw [hff, ← hZ] at q
                    exact q
                  obtain ⟨w7, Z7, W7, R7, hq7⟩ := blk_new w6 37 Tryz.zeroCells37 Z
                  have R7' : Hid (w7.heap[gr]? = some (.cells R 37 (0, 0))) := row_updH R6'.out hq7
                  have cS7 : w7.cell? ⟨gr, 1, none⟩ = some (.int .i64 ser) := by rw [cell_of_row _ _ _ _ _ _ R7'.out, HR.out, (rc_parts HYO.out).2.2.2.2.2.1, d2, hser]
                  have HLR : Hid ((Instr.loadAt 37 (.pointer (some ⟨gr, 0, none⟩))).run Tryz.prog w7 = .ok (.agg R) w7) := by
                    have r1 := run_loadAt_mid w7 _ _ _ _ _ (row_range HR.out R7'.out) Tryz.underlying37 rfl (rcInfo HYO.out)
                    rw [← HR.out] at r1
                    exact r1
                  have KN7 := Lib.hid (KN6.out.1.upd hq7 (by simp))
                  have HM7 := Lib.hid (HM6.out.quiet hq7)
                  have HSER := Lib.hid hser
                  have hsb : -9223372036854775808 ≤ ser ∧ ser ≤ 9223372036854775807 := by omega
                  have HSB := Lib.hid hsb
                  have HFF := Lib.hid hff
                  have HNM : Hid (nm < maxLen) := by show _ < _; have := HO1.out.nm; unfold maxLen; omega
                  clear hZ hq7 hser hsb hff d1 d2 hyd hsl HM6 HXE
                  go_upto_region 15 with (first | ((with_reducible show wpList _ _ _ (Oper.mk _ (Op.store _ _ _) _ _ _ _ :: _) _ _); refine wpList_store_rowAs rfl 37 _ _ rfl w6.heap.size Z rfl rfl _ _ Z7.out ZI.out ZZ.out ZO.out w7 W7.out ?_))
                  clear Z7 W7
                  go_wp2_with fail
                  refine wp_load_at 37 (.tmp 10) rfl gr rfl R HLR.out ?_
                  obtain ⟨w8, hrun, hN, hU⟩ := KN7.out.put (v := .agg R) und64 HNM.out HSB.out
                  go_wp2_with fail
                  have IN : Hid (∃ m n kb K nm q, OnceM w xb mb gm (k + 1) (100 * k + 1) m n kb K nm q w8) := by
                    have q := HO1.out
                    have e1 : (doM m a).rs = m.rs ++ [y] := HD.out.1
                    have hN' : MapN w8 gm (nm + 1) (fK ((doM m a).rs.take (m.rs.length + 1))) (m.rs.length + 1) := by
                      rw [e1, List.take_of_length_le (by simp)]
                      rw [HFF.out, HR.out, HSER.out, List.take_length, fK_new] at hN
                      exact hN
                    exact ⟨_, _, _, _, _, _, HM7.out.other hU q.gw KN6.out.2.2 q.gx q.gmb, by have := q.n; omega, hN', by have := q.nm; omega, by rw [e1]; simp, by rw [e1]; have := q.len; simp; omega, KN6.out.2.2, q.gx, q.gmb, q.gw⟩
                  go_meet
                  exact IN
                · have hnot : ¬ (a.what % 12 < 5 ∧ doE m a = 0) := fun h => hs ⟨HXE.out.trans h.2, by rw [HW.out]; exact h.1⟩
                  have hrs := do_not m a hnot (by rw [← HW.out]; exact ⟨hW0, hW8⟩)
                  have IN : Hid (∃ m n kb K nm q, OnceM w xb mb gm (k + 1) (100 * k + 1) m n kb K nm q w6) := by
                    have q := HO1.out
                    have hN' : MapN w6 gm nm (fK ((doM m a).rs.take m.rs.length)) m.rs.length := by rw [hrs]; exact KN6.out.1
                    exact ⟨_, _, _, _, _, _, HM6.out, by have := q.n; omega, hN', by have := q.nm; omega, by rw [hrs]; exact Nat.le_refl _, by rw [hrs]; have := q.len; omega, KN6.out.2.2, q.gx, q.gmb, q.gw⟩
                  clear hnot hrs
                  by_cases hx0 : x = 0
                  · have hw5 : ¬ W < 5 := fun h => hs ⟨hx0, h⟩
                    subst hx0
                    clear hs
                    go_wp2_with fail
                    go_meet
                    exact IN
                  · have hb0 : (x == 0) = false := by simp [hx0]
                    clear hs
                    go_wp2_with fail
                    go_meet
                    exact IN
              · subst hx70
                have HMC := Lib.hid (hMC.quiet HQ6.out)
                have cN : w6.cell? ⟨g, o + k * 3 + 1, none⟩ = some (.int .i64 a.n) := (HAC.out w6 HMC.out.up).2.1
                have uA : Upd [] [] w6 (w6.alloc (.cells #[.int .i64 a.n, .int .i64 1, .int .i64 0] 3)) := (Upd.refl _ _).alloc _
                have HAG := Lib.hid (again_any (HMC.out.quiet uA) (.slice (some ⟨w6.heap.size, 0, none⟩) 3 3) [a.n, 1, 0] (ints_new w6 _ _ rfl) htab)
                have HUA := Lib.hid uA
                clear uA hMC HX hx0
                go_wp2_with fail
                refine HAG.out.mono ?_
                rintro e w7 ⟨m3, kb3, K3, hA3, rfl, hm3, hu7, hfr⟩
                have hrs : m3.rs.take m.rs.length = m.rs ∧ m.rs.length ≤ m3.rs.length ∧ m3.rs.length ≤ m.rs.length + 1 := by
                  rcases hA3 with h | h
                  · rw [h]
                    exact ⟨List.take_length, Nat.le_refl _, Nat.le_succ _⟩
                  · rcases do_any m a with h2 | ⟨z, h2⟩
                    · rw [h, h2]
                      exact ⟨List.take_length, Nat.le_refl _, Nat.le_succ _⟩
                    · rw [h, h2]
                      exact ⟨by simp, by simp, by simp⟩
                have IN : Hid (∃ m n kb K nm q, OnceM w xb mb gm (k + 1) (100 * k + 1) m n kb K nm q w7) := by
                  have q := HO1.out
                  have k7 := (KN6.out.1.upd HUA.out (by simp)).upd hu7 (by simp; exact q.gx)
                  rw [List.take_length, ← hrs.1] at k7
                  have hlt := KN6.out.2.1
                  have hs6 := HUA.out.size
                  have hs5 := HQ6.out.size
                  exact ⟨_, _, _, _, _, _, hm3, by have := q.n; omega, by rw [hrs.1] at k7 ⊢; exact k7, by have := q.nm; omega, hrs.2.1, by have := q.len; have := hrs.2.2; omega, fun hm => by have := hfr _ hm; omega, q.gx, q.gmb, q.gw⟩
                clear hm3 hu7 hfr hrs hA3 HAG HUA
                go_wp2_with fail
                go_meet
                exact IN
          case rest =>
            obtain ⟨m1, n1, kb1, K1, nm1, q1, hP⟩ := hcut.out
            have HP1 := Lib.hid hP
            have cK : wc.cell? ⟨xb, 1, none⟩ = some (.pointer (some ⟨kb1, 0, none⟩)) := hP.mach.ck
            have HB := Lib.hid (Batch_m hP.mach)
            have hfld : ∀ (i : Int) (a : Option Addr) (n c : Nat) (W : World), (Instr.field 50 (.agg #[.int .i64 i, .slice a n c]) 1).run Tryz.prog W = .ok (.slice a n c) W := field_bat
            clear hP hcut HO1 HAC c1 c2 hz hz1 hz2 HW HAOK h8a h8b i1 i2
            go_wp2_with fail
            refine HB.out.mono ?_
            rintro e w5 ⟨ab, cb, HRS, hcb, rfl, hq⟩
            obtain ⟨L, hL⟩ : ∃ L, L = m1.rs.length := ⟨_, rfl⟩
            have hL26 : L ≤ 26 := by have := HP1.out.len; omega
            rw [← hL] at hcb ⊢
            have HL := Lib.hid hL
            have I5 : Hid (∃ nm q, OnceJ w xb mb gm (k + 1) (100 * k + 1 + 0) m1 n1 kb1 K1 ab 0 nm q w5) := ⟨_, _, HP1.out.quiet hq, HRS.out, Nat.zero_le _⟩
            clear HP1 HB HRS hq hL cK
            go_wp2_with fail
            go_loopw [15] (fun j wr => ∃ (jn : Nat), j = .int .i64 (jn : Int) ∧ jn ≤ L ∧ Hid (∃ nm q, OnceJ w xb mb gm (k + 1) (100 * k + 1 + jn) m1 n1 kb1 K1 ab jn nm q wr)) (fun j _ => L - (intOf j).toNat)
            case atStart => exact ⟨0, rfl, Nat.zero_le _, I5⟩
            case round =>
              clear I5 hfld
              obtain ⟨j, rfl, hj, HI⟩ := hrel
              by_cases hjl : j < L
              · obtain ⟨x, hx⟩ : ∃ x, m1.rs[j]? = some x := ⟨_, List.getElem?_eq_getElem (by rw [← HL.out]; exact hjl)⟩
                obtain ⟨nm, q, hI⟩ := HI.out
                have HJ := Lib.hid hI
                obtain ⟨hxo, hser, g, o, hab, hW⟩ := hI.at_ hx
                have HAT := Lib.hid hW
                subst hab
                obtain ⟨c1, _⟩ := hW wr hI.r
                obtain ⟨R, hR⟩ : ∃ R, R = (rcV x).toArray := ⟨_, rfl⟩
                obtain ⟨RI, RO, RZ⟩ := rcLet hxo R hR
                obtain ⟨Z, hZZ⟩ : ∃ Z, Z = (rcV Rc.zero).toArray := ⟨_, rfl⟩
                have HR := Lib.hid hR
                have HX := Lib.hid hx
                have HXO := Lib.hid (And.intro hxo hser)
                have hlk := hI.look hx (by omega)
                rw [← hR] at hlk
                have hqr : ∀ W : World, (Op.equalIn 10000 37 (.agg R) (.agg R)).run Tryz.prog W = .ok true W := fun W => eqR_self hR hxo W
                have j0 : (0 : Int) ≤ (j : Int) := by omega
                have j1 : (j : Int) < (L : Int) := by omega
                have j2 : (j : Int) < 26 := by omega
                have jw : IntKind.i64.wrap ((j : Int) + 1) = (j : Int) + 1 := wrap_in (by omega) (by omega)
                have HNM : Hid (nm < maxLen) := by show _ < _; have := hI.o.nm; unfold maxLen; omega
                have HSB : Hid (-9223372036854775808 ≤ (j : Int) + 1 ∧ (j : Int) + 1 ≤ 9223372036854775807) := by show _ ∧ _; omega
                have HS : Hid (∀ W : World, Upd [] [] wr W → W.cell? ⟨g, o + j * 102 + 1, none⟩ = some (.int .i64 ((j : Int) + 1)) ∧ (Instr.loadAt 37 (.pointer (some ⟨g, o + j * 102, none⟩))).run Tryz.prog W = .ok (.agg R) W) := by
                  intro W u
                  have := HAT.out W (HJ.out.r.upd u)
                  rw [← HR.out] at this
                  exact this
                clear hI hW hx hR hxo hser HI hjl
                have HZE := Lib.hid hZZ
                obtain ⟨ZI, ZO, ZZ⟩ := rcLet Rc.zero_ok Z hZZ
                clear hZZ
                by_cases hjq : j < q
                · rw [if_pos hjq, decide_eq_true hjq] at hlk
                  obtain ⟨w6, Z6, W6, R6, hq6⟩ := blk_new wr 37 Tryz.zeroCells37 R
                  obtain ⟨gr, hgr⟩ : ∃ g, g = wr.heap.size := ⟨_, rfl⟩
                  have HGR := Lib.hid hgr
                  have HLR : Hid (∀ W : World, Upd [] [] w6 W → (Instr.loadAt 37 (.pointer (some ⟨gr, 0, none⟩))).run Tryz.prog W = .ok (.agg R) W) := by
                    intro W u
                    rw [hgr]
                    have r1 := run_loadAt_mid W _ _ _ _ _ (row_range HR.out (row_updH R6.out u)) Tryz.underlying37 rfl (rcInfo HXO.out.1)
                    rw [← HR.out] at r1
                    exact r1
                  have HQ6 := Lib.hid hq6
                  clear hgr hq6 R6
                  go_upto_region 28 with (first | (refine wpList_store_rowAs rfl 37 _ _ rfl wr.heap.size R rfl rfl _ _ Z6.out RI.out RZ.out RO.out w6 W6.out ?_))
                  rw [← HGR.out]
                  clear Z6 W6 HGR hlk c1
                  have ud6 : Upd [] [] w6 w6.drew := (Upd.refl _ _).drew
                  refine wp_region_noPanic ?_
                  refine wp_region_held_drew (S := fun wp => (wp.cell? ⟨g, o + j * 102 + 1, none⟩ = some (.int .i64 ((j : Int) + 1)) ∧ (Instr.loadAt 37 (.pointer (some ⟨g, o + j * 102, none⟩))).run Tryz.prog wp = .ok (.agg R) wp) ∧ (Instr.loadAt 37 (.pointer (some ⟨gr, 0, none⟩))).run Tryz.prog wp = .ok (.agg R) wp) (by kernel_rfl) ?_ (fun hHeld => ?_)
                  · exact ⟨HS.out _ (HQ6.out.trans ud6), HLR.out _ ud6⟩
                  refine wpAnyH_take (i := 0) (v := ?v25) (by simp only [List.getElem?_toArray, List.getElem?_cons_zero] <;> rfl) (by kernel_rfl) (by kernel_rfl) (by kernel_rfl) (fun _ _ _ h => h) (Or.inl ⟨by rfl, ?y25⟩) hHeld ?r25
                  case y25 => (intro w hSw; (try dsimp only at hSw); go_simp; first | done | with_reducible rfl | rfl)
                  try simp only [Act.put, List.setIfInBounds_toArray, List.set_cons_zero, List.set_cons_succ]
                  refine wpAnyH_take (i := 1) (v := ?v26) (by simp only [List.getElem?_toArray, List.getElem?_cons_succ, List.getElem?_cons_zero] <;> rfl) (by kernel_rfl) (by kernel_rfl) (by kernel_rfl) (fun _ _ _ h => h) (Or.inl ⟨by rfl, ?y26⟩) hHeld ?r26
                  case y26 => (intro w hSw; (try dsimp only at hSw); go_simp; first | done | with_reducible rfl | rfl)
                  try simp only [Act.put, List.setIfInBounds_toArray, List.set_cons_zero, List.set_cons_succ]
                  refine wpAnyH_take (i := 2) (v := .agg R) (by simp only [List.getElem?_toArray, List.getElem?_cons_succ, List.getElem?_cons_zero] <;> rfl) (by kernel_rfl) (by kernel_rfl) (by kernel_rfl) (fun _ _ _ h => h) (yieldsIf_loadW (by rfl) _ _ rfl _ rfl R (fun w hSw => hSw.2)) hHeld ?_
                  try simp only [Act.put, List.setIfInBounds_toArray, List.set_cons_zero, List.set_cons_succ]
                  refine wpAnyH_take (i := 3) (v := ?v27) (by simp only [List.getElem?_toArray, List.getElem?_cons_succ, List.getElem?_cons_zero] <;> rfl) (by kernel_rfl) (by kernel_rfl) (by kernel_rfl) (fun _ _ _ h => h) (Or.inl ⟨by rfl, ?y27⟩) hHeld ?r27
                  case y27 => (intro w hSw; (try dsimp only at hSw); go_simp; first | done | with_reducible rfl | rfl)
                  try simp only [Act.put, List.setIfInBounds_toArray, List.set_cons_zero, List.set_cons_succ]
                  refine wpAnyH_take (i := 4) (v := ?v28) (by simp only [List.getElem?_toArray, List.getElem?_cons_succ, List.getElem?_cons_zero] <;> rfl) (by kernel_rfl) (by kernel_rfl) (by kernel_rfl) (fun _ _ _ h => h) (Or.inl ⟨by rfl, ?y28⟩) hHeld ?r28
                  case y28 => (intro w hSw; (try dsimp only at hSw); go_simp; first | done | with_reducible rfl | rfl)
                  try simp only [Act.put, List.setIfInBounds_toArray, List.set_cons_zero, List.set_cons_succ]
                  refine wpAnyH_take (i := 5) (v := ?v29) (by simp only [List.getElem?_toArray, List.getElem?_cons_succ, List.getElem?_cons_zero] <;> rfl) (by kernel_rfl) (by kernel_rfl) (by kernel_rfl) (fun _ _ _ h => h) (Or.inl ⟨by rfl, ?y29⟩) hHeld ?r29
                  case y29 => (intro w hSw; (try dsimp only at hSw); go_simp; first | done | with_reducible rfl | rfl)
                  try simp only [Act.put, List.setIfInBounds_toArray, List.set_cons_zero, List.set_cons_succ]
                  refine wpAnyH_take (i := 6) (v := .agg R) (by simp only [List.getElem?_toArray, List.getElem?_cons_succ, List.getElem?_cons_zero] <;> rfl) (by kernel_rfl) (by kernel_rfl) (by kernel_rfl) (fun _ _ _ h => h) (yieldsIf_loadW (by rfl) _ _ rfl _ rfl R (fun w hSw => hSw.1.2)) hHeld ?_
                  try simp only [Act.put, List.setIfInBounds_toArray, List.set_cons_zero, List.set_cons_succ]
                  refine wpAnyH_take (i := 7) (v := ?v30) (by simp only [List.getElem?_toArray, List.getElem?_cons_succ, List.getElem?_cons_zero] <;> rfl) (by kernel_rfl) (by kernel_rfl) (by kernel_rfl) (fun _ _ _ h => h) (Or.inl ⟨by rfl, ?y30⟩) hHeld ?r30
                  case y30 => (intro w hSw; (try dsimp only at hSw); go_simp; first | done | with_reducible rfl | rfl)
                  try simp only [Act.put, List.setIfInBounds_toArray, List.set_cons_zero, List.set_cons_succ]
                  refine wpAnyH_take (i := 8) (v := ?v31) (by simp only [List.getElem?_toArray, List.getElem?_cons_succ, List.getElem?_cons_zero] <;> rfl) (by kernel_rfl) (by kernel_rfl) (by kernel_rfl) (fun _ _ _ h => h) (Or.inl ⟨by rfl, ?y31⟩) hHeld ?r31
                  case y31 => (intro w hSw; (try dsimp only at hSw); go_simp; first | done | with_reducible rfl | rfl)
                  try simp only [Act.put, List.setIfInBounds_toArray, List.set_cons_zero, List.set_cons_succ]
                  refine wpAnyH_take (i := 9) (v := ?v32) (by simp only [List.getElem?_toArray, List.getElem?_cons_succ, List.getElem?_cons_zero] <;> rfl) (by kernel_rfl) (by kernel_rfl) (by kernel_rfl) (fun _ _ _ h => h) (Or.inl ⟨by rfl, ?y32⟩) hHeld ?r32
                  case y32 => (intro w hSw; (try dsimp only at hSw); go_simp; first | done | with_reducible rfl | rfl)
                  try simp only [Act.put, List.setIfInBounds_toArray, List.set_cons_zero, List.set_cons_succ]
                  refine wpAnyH_take (i := 10) (v := ?v33) (by simp only [List.getElem?_toArray, List.getElem?_cons_succ, List.getElem?_cons_zero] <;> rfl) (by kernel_rfl) (by kernel_rfl) (by kernel_rfl) (fun _ _ _ h => h) (Or.inl ⟨by rfl, ?y33⟩) hHeld ?r33
                  case y33 => (intro w hSw; (try dsimp only at hSw); go_simp; first | done | with_reducible rfl | rfl)
                  try simp only [Act.put, List.setIfInBounds_toArray, List.set_cons_zero, List.set_cons_succ]
                  refine wpAnyH_take (i := 11) (v := ?v34) (by simp only [List.getElem?_toArray, List.getElem?_cons_succ, List.getElem?_cons_zero] <;> rfl) (by kernel_rfl) (by kernel_rfl) (by kernel_rfl) (fun _ _ _ h => h) (Or.inl ⟨by rfl, ?y34⟩) hHeld ?r34
                  case y34 => (intro w hSw; (try dsimp only at hSw); go_simp; first | done | with_reducible rfl | rfl)
                  try simp only [Act.put, List.setIfInBounds_toArray, List.set_cons_zero, List.set_cons_succ]
                  refine wpAnyH_take (i := 12) (v := ?v35) (by simp only [List.getElem?_toArray, List.getElem?_cons_succ, List.getElem?_cons_zero] <;> rfl) (by kernel_rfl) (by kernel_rfl) (by kernel_rfl) (fun _ _ _ h => h) (Or.inl ⟨by rfl, ?y35⟩) hHeld ?r35
                  case y35 => (intro w hSw; (try dsimp only at hSw); go_simp; first | done | with_reducible rfl | rfl)
                  try simp only [Act.put, List.setIfInBounds_toArray, List.set_cons_zero, List.set_cons_succ]
                  refine wpAnyH_take (i := 13) (v := ?v36) (by simp only [List.getElem?_toArray, List.getElem?_cons_succ, List.getElem?_cons_zero] <;> rfl) (by kernel_rfl) (by kernel_rfl) (by kernel_rfl) (fun _ _ _ h => h) (Or.inl ⟨by rfl, ?y36⟩) hHeld ?r36
                  case y36 => (intro w hSw; (try dsimp only at hSw); go_simp; first | done | with_reducible rfl | rfl)
                  try simp only [Act.put, List.setIfInBounds_toArray, List.set_cons_zero, List.set_cons_succ]
                  refine wpAnyH_take (i := 14) (v := ?v37) (by simp only [List.getElem?_toArray, List.getElem?_cons_succ, List.getElem?_cons_zero] <;> rfl) (by kernel_rfl) (by kernel_rfl) (by kernel_rfl) (fun _ _ _ h => h) (Or.inl ⟨by rfl, ?y37⟩) hHeld ?r37
                  case y37 => (intro w hSw; (try dsimp only at hSw); go_simp; first | done | with_reducible rfl | rfl)
                  try simp only [Act.put, List.setIfInBounds_toArray, List.set_cons_zero, List.set_cons_succ]
                  refine wpAnyH_take (i := 15) (v := ?v38) (by simp only [List.getElem?_toArray, List.getElem?_cons_succ, List.getElem?_cons_zero] <;> rfl) (by kernel_rfl) (by kernel_rfl) (by kernel_rfl) (fun _ _ _ h => h) (Or.inl ⟨by rfl, ?y38⟩) hHeld ?r38
                  case y38 => (intro w hSw; (try dsimp only at hSw); go_simp; first | done | with_reducible rfl | rfl)
                  try simp only [Act.put, List.setIfInBounds_toArray, List.set_cons_zero, List.set_cons_succ]
                  refine wpAnyH_take (i := 16) (v := ?v39) (by simp only [List.getElem?_toArray, List.getElem?_cons_succ, List.getElem?_cons_zero] <;> rfl) (by kernel_rfl) (by kernel_rfl) (by kernel_rfl) (fun _ _ _ h => h) (Or.inl ⟨by rfl, ?y39⟩) hHeld ?r39
                  case y39 => (intro w hSw; (try dsimp only at hSw); go_simp; first | done | with_reducible rfl | rfl)
                  try simp only [Act.put, List.setIfInBounds_toArray, List.set_cons_zero, List.set_cons_succ]
                  refine wpAnyH_take (i := 17) (v := ?v40) (by simp only [List.getElem?_toArray, List.getElem?_cons_succ, List.getElem?_cons_zero] <;> rfl) (by kernel_rfl) (by kernel_rfl) (by kernel_rfl) (fun _ _ _ h => h) (Or.inl ⟨by rfl, ?y40⟩) hHeld ?r40
                  case y40 => (intro w hSw; (try dsimp only at hSw); go_simp; first | done | with_reducible rfl | rfl)
                  try simp only [Act.put, List.setIfInBounds_toArray, List.set_cons_zero, List.set_cons_succ]
                  refine wpAnyH_take (i := 18) (v := ?v41) (by simp only [List.getElem?_toArray, List.getElem?_cons_succ, List.getElem?_cons_zero] <;> rfl) (by kernel_rfl) (by kernel_rfl) (by kernel_rfl) (fun _ _ _ h => h) (Or.inl ⟨by rfl, ?y41⟩) hHeld ?r41
                  case y41 => (intro w hSw; (try dsimp only at hSw); go_simp; first | done | with_reducible rfl | rfl)
                  try simp only [Act.put, List.setIfInBounds_toArray, List.set_cons_zero, List.set_cons_succ]
                  refine wpAnyH_done (by kernel_rfl) ?_ _
                  refine NoPanic.normal ?_
                  have ud7 : Upd [] [] w6 w6.drew.drew := ud6.drew
                  have KN := Lib.hid (HJ.out.quiet (HQ6.out.trans ud7))
                  clear ud6 HLR
                  go_upto_region 30 with (fail)
                  refine wp_region_noPanic ?_
                  refine wp_region_held_drew (S := fun wp => wp.cell? ⟨g, o + j * 102 + 1, none⟩ = some (.int .i64 ((j : Int) + 1)) ∧ (Instr.loadAt 37 (.pointer (some ⟨g, o + j * 102, none⟩))).run Tryz.prog wp = .ok (.agg R) wp) (by kernel_rfl) ?_ (fun hHeld => ?_)
                  · exact HS.out _ (HQ6.out.trans ud7)
                  refine wpAnyH_take (i := 0) (v := ?v42) (by simp only [List.getElem?_toArray, List.getElem?_cons_zero] <;> rfl) (by kernel_rfl) (by kernel_rfl) (by kernel_rfl) (fun _ _ _ h => h) (Or.inl ⟨by rfl, ?y42⟩) hHeld ?r42
                  case y42 => (intro w hSw; (try dsimp only at hSw); go_simp; first | done | with_reducible rfl | rfl)
                  try simp only [Act.put, List.setIfInBounds_toArray, List.set_cons_zero, List.set_cons_succ]
                  refine wpAnyH_take (i := 1) (v := ?v43) (by simp only [List.getElem?_toArray, List.getElem?_cons_succ, List.getElem?_cons_zero] <;> rfl) (by kernel_rfl) (by kernel_rfl) (by kernel_rfl) (fun _ _ _ h => h) (Or.inl ⟨by rfl, ?y43⟩) hHeld ?r43
                  case y43 => (intro w hSw; (try dsimp only at hSw); go_simp; first | done | with_reducible rfl | rfl)
                  try simp only [Act.put, List.setIfInBounds_toArray, List.set_cons_zero, List.set_cons_succ]
                  refine wpAnyH_take (i := 2) (v := ?v44) (by simp only [List.getElem?_toArray, List.getElem?_cons_succ, List.getElem?_cons_zero] <;> rfl) (by kernel_rfl) (by kernel_rfl) (by kernel_rfl) (fun _ _ _ h => h) (Or.inl ⟨by rfl, ?y44⟩) hHeld ?r44
                  case y44 => (intro w hSw; (try dsimp only at hSw); go_simp; first | done | with_reducible rfl | rfl)
                  try simp only [Act.put, List.setIfInBounds_toArray, List.set_cons_zero, List.set_cons_succ]
                  refine wpAnyH_take (i := 3) (v := ?v45) (by simp only [List.getElem?_toArray, List.getElem?_cons_succ, List.getElem?_cons_zero] <;> rfl) (by kernel_rfl) (by kernel_rfl) (by kernel_rfl) (fun _ _ _ h => h) (Or.inl ⟨by rfl, ?y45⟩) hHeld ?r45
                  case y45 => (intro w hSw; (try dsimp only at hSw); go_simp; first | done | with_reducible rfl | rfl)
                  try simp only [Act.put, List.setIfInBounds_toArray, List.set_cons_zero, List.set_cons_succ]
                  refine wpAnyH_take (i := 4) (v := ?v46) (by simp only [List.getElem?_toArray, List.getElem?_cons_succ, List.getElem?_cons_zero] <;> rfl) (by kernel_rfl) (by kernel_rfl) (by kernel_rfl) (fun _ _ _ h => h) (Or.inl ⟨by rfl, ?y46⟩) hHeld ?r46
                  case y46 => (intro w hSw; (try dsimp only at hSw); go_simp; first | done | with_reducible rfl | rfl)
                  try simp only [Act.put, List.setIfInBounds_toArray, List.set_cons_zero, List.set_cons_succ]
                  refine wpAnyH_take (i := 5) (v := ?v47) (by simp only [List.getElem?_toArray, List.getElem?_cons_succ, List.getElem?_cons_zero] <;> rfl) (by kernel_rfl) (by kernel_rfl) (by kernel_rfl) (fun _ _ _ h => h) (Or.inl ⟨by rfl, ?y47⟩) hHeld ?r47
                  case y47 => (intro w hSw; (try dsimp only at hSw); go_simp; first | done | with_reducible rfl | rfl)
                  try simp only [Act.put, List.setIfInBounds_toArray, List.set_cons_zero, List.set_cons_succ]
                  refine wpAnyH_take (i := 6) (v := ?v48) (by simp only [List.getElem?_toArray, List.getElem?_cons_succ, List.getElem?_cons_zero] <;> rfl) (by kernel_rfl) (by kernel_rfl) (by kernel_rfl) (fun _ _ _ h => h) (Or.inl ⟨by rfl, ?y48⟩) hHeld ?r48
                  case y48 => (intro w hSw; (try dsimp only at hSw); go_simp; first | done | with_reducible rfl | rfl)
                  try simp only [Act.put, List.setIfInBounds_toArray, List.set_cons_zero, List.set_cons_succ]
                  refine wpAnyH_take (i := 7) (v := ?v49) (by simp only [List.getElem?_toArray, List.getElem?_cons_succ, List.getElem?_cons_zero] <;> rfl) (by kernel_rfl) (by kernel_rfl) (by kernel_rfl) (fun _ _ _ h => h) (Or.inl ⟨by rfl, ?y49⟩) hHeld ?r49
                  case y49 => (intro w hSw; (try dsimp only at hSw); go_simp; first | done | with_reducible rfl | rfl)
                  try simp only [Act.put, List.setIfInBounds_toArray, List.set_cons_zero, List.set_cons_succ]
                  refine wpAnyH_take (i := 8) (v := ?v50) (by simp only [List.getElem?_toArray, List.getElem?_cons_succ, List.getElem?_cons_zero] <;> rfl) (by kernel_rfl) (by kernel_rfl) (by kernel_rfl) (fun _ _ _ h => h) (Or.inl ⟨by rfl, ?y50⟩) hHeld ?r50
                  case y50 => (intro w hSw; (try dsimp only at hSw); go_simp; first | done | with_reducible rfl | rfl)
                  try simp only [Act.put, List.setIfInBounds_toArray, List.set_cons_zero, List.set_cons_succ]
                  refine wpAnyH_take (i := 9) (v := .agg R) (by simp only [List.getElem?_toArray, List.getElem?_cons_succ, List.getElem?_cons_zero] <;> rfl) (by kernel_rfl) (by kernel_rfl) (by kernel_rfl) (fun _ _ _ h => h) (yieldsIf_loadW (by rfl) _ _ rfl _ rfl R (fun w hSw => hSw.2)) hHeld ?_
                  try simp only [Act.put, List.setIfInBounds_toArray, List.set_cons_zero, List.set_cons_succ]
                  refine wpAnyH_ready (rs := [10]) (by kernel_rfl) (by simp) ?_
                  refine AllReadyH.cons (by simp only [List.getElem?_toArray, List.getElem?_cons_succ, List.getElem?_cons_zero] <;> rfl) (fun K hK => ?_) ?_
                  · refine wp_put_N _ (.tmp 162) (.tmp 167) (.tmp 171) 64 rfl _ und64 gm nm q _ rfl KN.out.o.know HNM.out ((j : Int) + 1) (.agg R) rfl rfl HSB.out ?_; intro w8 hN hU; have IN : Hid (∃ q', OnceJ w xb mb gm (k + 1) (100 * k + 1 + j + 1) m1 n1 kb1 K1 (some ⟨g, o, none⟩) (j + 1) (nm + 1) q' w8) := (by rw [HR.out] at hN; exact KN.out.put HX.out hN hU); clear hN hU; go_wp2_with fail
                    refine hK.out _ _ ?_ (fun hHeld => ?_)
                    · have := IN.out; obtain ⟨q', hi⟩ := this; have hw := HAT.out _ hi.r; rw [← HR.out] at hw; exact hw
                    clear hK K
                    try simp only [Act.put]
                    refine wpAnyH_done (by kernel_rfl) ?_ _
                    refine NoPanic.normal ?_
                    go_wp2_with fail
                    exact ⟨⟨j + 1, by go_num, by omega, nm + 1, IN.out⟩, by simp [intOf]; omega⟩
                  exact AllReadyH.nil
                · rw [if_neg hjq, decide_eq_false hjq, ← HZE.out] at hlk
                  obtain ⟨w6, Z6, W6, R6, hq6⟩ := blk_new wr 37 Tryz.zeroCells37 Z
                  obtain ⟨gr, hgr⟩ : ∃ g, g = wr.heap.size := ⟨_, rfl⟩
                  have HGR := Lib.hid hgr
                  have HLR : Hid (∀ W : World, Upd [] [] w6 W → (Instr.loadAt 37 (.pointer (some ⟨gr, 0, none⟩))).run Tryz.prog W = .ok (.agg Z) W) := by
                    intro W u
                    rw [hgr]
                    have r1 := run_loadAt_mid W _ _ _ _ _ (row_range HZE.out (row_updH R6.out u)) Tryz.underlying37 rfl (rcInfo Rc.zero_ok)
                    rw [← HZE.out] at r1
                    exact r1
                  have HQ6 := Lib.hid hq6
                  clear hgr hq6 R6
                  go_upto_region 28 with (first | (refine wpList_store_rowAs rfl 37 _ _ rfl wr.heap.size Z rfl rfl _ _ Z6.out ZI.out ZZ.out ZO.out w6 W6.out ?_))
                  rw [← HGR.out]
                  clear Z6 W6 HGR hlk c1
                  have ud6 : Upd [] [] w6 w6.drew := (Upd.refl _ _).drew
                  refine wp_region_noPanic ?_
                  refine wp_region_held_drew (S := fun wp => (wp.cell? ⟨g, o + j * 102 + 1, none⟩ = some (.int .i64 ((j : Int) + 1)) ∧ (Instr.loadAt 37 (.pointer (some ⟨g, o + j * 102, none⟩))).run Tryz.prog wp = .ok (.agg R) wp) ∧ (Instr.loadAt 37 (.pointer (some ⟨gr, 0, none⟩))).run Tryz.prog wp = .ok (.agg Z) wp) (by kernel_rfl) ?_ (fun hHeld => ?_)
                  · exact ⟨HS.out _ (HQ6.out.trans ud6), HLR.out _ ud6⟩
                  refine wpAnyH_take (i := 0) (v := ?v51) (by simp only [List.getElem?_toArray, List.getElem?_cons_zero] <;> rfl) (by kernel_rfl) (by kernel_rfl) (by kernel_rfl) (fun _ _ _ h => h) (Or.inl ⟨by rfl, ?y51⟩) hHeld ?r51
                  case y51 => (intro w hSw; (try dsimp only at hSw); go_simp; first | done | with_reducible rfl | rfl)
                  try simp only [Act.put, List.setIfInBounds_toArray, List.set_cons_zero, List.set_cons_succ]
                  refine wpAnyH_take (i := 1) (v := ?v52) (by simp only [List.getElem?_toArray, List.getElem?_cons_succ, List.getElem?_cons_zero] <;> rfl) (by kernel_rfl) (by kernel_rfl) (by kernel_rfl) (fun _ _ _ h => h) (Or.inl ⟨by rfl, ?y52⟩) hHeld ?r52
                  case y52 => (intro w hSw; (try dsimp only at hSw); go_simp; first | done | with_reducible rfl | rfl)
                  try simp only [Act.put, List.setIfInBounds_toArray, List.set_cons_zero, List.set_cons_succ]
                  refine wpAnyH_take (i := 2) (v := undef) (by simp only [List.getElem?_toArray, List.getElem?_cons_succ, List.getElem?_cons_zero] <;> rfl) (by kernel_rfl) (by kernel_rfl) (by kernel_rfl) (fun _ _ _ h => h) (Or.inr ⟨by rfl, rfl⟩) hHeld ?_
                  try simp only [Act.put, List.setIfInBounds_toArray, List.set_cons_zero, List.set_cons_succ]
                  refine wpAnyH_take (i := 3) (v := undef) (by simp only [List.getElem?_toArray, List.getElem?_cons_succ, List.getElem?_cons_zero] <;> rfl) (by kernel_rfl) (by kernel_rfl) (by kernel_rfl) (fun _ _ _ h => h) (Or.inr ⟨by rfl, rfl⟩) hHeld ?_
                  try simp only [Act.put, List.setIfInBounds_toArray, List.set_cons_zero, List.set_cons_succ]
                  refine wpAnyH_take (i := 4) (v := undef) (by simp only [List.getElem?_toArray, List.getElem?_cons_succ, List.getElem?_cons_zero] <;> rfl) (by kernel_rfl) (by kernel_rfl) (by kernel_rfl) (fun _ _ _ h => h) (Or.inr ⟨by rfl, rfl⟩) hHeld ?_
                  try simp only [Act.put, List.setIfInBounds_toArray, List.set_cons_zero, List.set_cons_succ]
                  refine wpAnyH_take (i := 5) (v := undef) (by simp only [List.getElem?_toArray, List.getElem?_cons_succ, List.getElem?_cons_zero] <;> rfl) (by kernel_rfl) (by kernel_rfl) (by kernel_rfl) (fun _ _ _ h => h) (Or.inr ⟨by rfl, rfl⟩) hHeld ?_
                  try simp only [Act.put, List.setIfInBounds_toArray, List.set_cons_zero, List.set_cons_succ]
                  refine wpAnyH_take (i := 6) (v := undef) (by simp only [List.getElem?_toArray, List.getElem?_cons_succ, List.getElem?_cons_zero] <;> rfl) (by kernel_rfl) (by kernel_rfl) (by kernel_rfl) (fun _ _ _ h => h) (Or.inr ⟨by rfl, rfl⟩) hHeld ?_
                  try simp only [Act.put, List.setIfInBounds_toArray, List.set_cons_zero, List.set_cons_succ]
                  refine wpAnyH_take (i := 7) (v := undef) (by simp only [List.getElem?_toArray, List.getElem?_cons_succ, List.getElem?_cons_zero] <;> rfl) (by kernel_rfl) (by kernel_rfl) (by kernel_rfl) (fun _ _ _ h => h) (Or.inr ⟨by rfl, rfl⟩) hHeld ?_
                  try simp only [Act.put, List.setIfInBounds_toArray, List.set_cons_zero, List.set_cons_succ]
                  refine wpAnyH_take (i := 8) (v := ?v53) (by simp only [List.getElem?_toArray, List.getElem?_cons_succ, List.getElem?_cons_zero] <;> rfl) (by kernel_rfl) (by kernel_rfl) (by kernel_rfl) (fun _ _ _ h => h) (Or.inl ⟨by rfl, ?y53⟩) hHeld ?r53
                  case y53 => (intro w hSw; (try dsimp only at hSw); go_simp; first | done | with_reducible rfl | rfl)
                  try simp only [Act.put, List.setIfInBounds_toArray, List.set_cons_zero, List.set_cons_succ]
                  refine wpAnyH_take (i := 9) (v := ?v54) (by simp only [List.getElem?_toArray, List.getElem?_cons_succ, List.getElem?_cons_zero] <;> rfl) (by kernel_rfl) (by kernel_rfl) (by kernel_rfl) (fun _ _ _ h => h) (Or.inl ⟨by rfl, ?y54⟩) hHeld ?r54
                  case y54 => (intro w hSw; (try dsimp only at hSw); go_simp; first | done | with_reducible rfl | rfl)
                  try simp only [Act.put, List.setIfInBounds_toArray, List.set_cons_zero, List.set_cons_succ]
                  refine wpAnyH_take (i := 10) (v := ?v55) (by simp only [List.getElem?_toArray, List.getElem?_cons_succ, List.getElem?_cons_zero] <;> rfl) (by kernel_rfl) (by kernel_rfl) (by kernel_rfl) (fun _ _ _ h => h) (Or.inl ⟨by rfl, ?y55⟩) hHeld ?r55
                  case y55 => (intro w hSw; (try dsimp only at hSw); go_simp; first | done | with_reducible rfl | rfl)
                  try simp only [Act.put, List.setIfInBounds_toArray, List.set_cons_zero, List.set_cons_succ]
                  refine wpAnyH_take (i := 11) (v := ?v56) (by simp only [List.getElem?_toArray, List.getElem?_cons_succ, List.getElem?_cons_zero] <;> rfl) (by kernel_rfl) (by kernel_rfl) (by kernel_rfl) (fun _ _ _ h => h) (Or.inl ⟨by rfl, ?y56⟩) hHeld ?r56
                  case y56 => (intro w hSw; (try dsimp only at hSw); go_simp; first | done | with_reducible rfl | rfl)
                  try simp only [Act.put, List.setIfInBounds_toArray, List.set_cons_zero, List.set_cons_succ]
                  refine wpAnyH_take (i := 12) (v := ?v57) (by simp only [List.getElem?_toArray, List.getElem?_cons_succ, List.getElem?_cons_zero] <;> rfl) (by kernel_rfl) (by kernel_rfl) (by kernel_rfl) (fun _ _ _ h => h) (Or.inl ⟨by rfl, ?y57⟩) hHeld ?r57
                  case y57 => (intro w hSw; (try dsimp only at hSw); go_simp; first | done | with_reducible rfl | rfl)
                  try simp only [Act.put, List.setIfInBounds_toArray, List.set_cons_zero, List.set_cons_succ]
                  refine wpAnyH_take (i := 13) (v := ?v58) (by simp only [List.getElem?_toArray, List.getElem?_cons_succ, List.getElem?_cons_zero] <;> rfl) (by kernel_rfl) (by kernel_rfl) (by kernel_rfl) (fun _ _ _ h => h) (Or.inl ⟨by rfl, ?y58⟩) hHeld ?r58
                  case y58 => (intro w hSw; (try dsimp only at hSw); go_simp; first | done | with_reducible rfl | rfl)
                  try simp only [Act.put, List.setIfInBounds_toArray, List.set_cons_zero, List.set_cons_succ]
                  refine wpAnyH_take (i := 14) (v := ?v59) (by simp only [List.getElem?_toArray, List.getElem?_cons_succ, List.getElem?_cons_zero] <;> rfl) (by kernel_rfl) (by kernel_rfl) (by kernel_rfl) (fun _ _ _ h => h) (Or.inl ⟨by rfl, ?y59⟩) hHeld ?r59
                  case y59 => (intro w hSw; (try dsimp only at hSw); go_simp; first | done | with_reducible rfl | rfl)
                  try simp only [Act.put, List.setIfInBounds_toArray, List.set_cons_zero, List.set_cons_succ]
                  refine wpAnyH_take (i := 15) (v := ?v60) (by simp only [List.getElem?_toArray, List.getElem?_cons_succ, List.getElem?_cons_zero] <;> rfl) (by kernel_rfl) (by kernel_rfl) (by kernel_rfl) (fun _ _ _ h => h) (Or.inl ⟨by rfl, ?y60⟩) hHeld ?r60
                  case y60 => (intro w hSw; (try dsimp only at hSw); go_simp; first | done | with_reducible rfl | rfl)
                  try simp only [Act.put, List.setIfInBounds_toArray, List.set_cons_zero, List.set_cons_succ]
                  refine wpAnyH_take (i := 16) (v := ?v61) (by simp only [List.getElem?_toArray, List.getElem?_cons_succ, List.getElem?_cons_zero] <;> rfl) (by kernel_rfl) (by kernel_rfl) (by kernel_rfl) (fun _ _ _ h => h) (Or.inl ⟨by rfl, ?y61⟩) hHeld ?r61
                  case y61 => (intro w hSw; (try dsimp only at hSw); go_simp; first | done | with_reducible rfl | rfl)
                  try simp only [Act.put, List.setIfInBounds_toArray, List.set_cons_zero, List.set_cons_succ]
                  refine wpAnyH_take (i := 17) (v := ?v62) (by simp only [List.getElem?_toArray, List.getElem?_cons_succ, List.getElem?_cons_zero] <;> rfl) (by kernel_rfl) (by kernel_rfl) (by kernel_rfl) (fun _ _ _ h => h) (Or.inl ⟨by rfl, ?y62⟩) hHeld ?r62
                  case y62 => (intro w hSw; (try dsimp only at hSw); go_simp; first | done | with_reducible rfl | rfl)
                  try simp only [Act.put, List.setIfInBounds_toArray, List.set_cons_zero, List.set_cons_succ]
                  refine wpAnyH_take (i := 18) (v := ?v63) (by simp only [List.getElem?_toArray, List.getElem?_cons_succ, List.getElem?_cons_zero] <;> rfl) (by kernel_rfl) (by kernel_rfl) (by kernel_rfl) (fun _ _ _ h => h) (Or.inl ⟨by rfl, ?y63⟩) hHeld ?r63
                  case y63 => (intro w hSw; (try dsimp only at hSw); go_simp; first | done | with_reducible rfl | rfl)
                  try simp only [Act.put, List.setIfInBounds_toArray, List.set_cons_zero, List.set_cons_succ]
                  refine wpAnyH_done (by kernel_rfl) ?_ _
                  refine NoPanic.normal ?_
                  have ud7 : Upd [] [] w6 w6.drew.drew := ud6.drew
                  have KN := Lib.hid (HJ.out.quiet (HQ6.out.trans ud7))
                  clear ud6 HLR
                  go_upto_region 30 with (fail)
                  refine wp_region_noPanic ?_
                  refine wp_region_held_drew (S := fun wp => wp.cell? ⟨g, o + j * 102 + 1, none⟩ = some (.int .i64 ((j : Int) + 1)) ∧ (Instr.loadAt 37 (.pointer (some ⟨g, o + j * 102, none⟩))).run Tryz.prog wp = .ok (.agg R) wp) (by kernel_rfl) ?_ (fun hHeld => ?_)
                  · exact HS.out _ (HQ6.out.trans ud7)
                  refine wpAnyH_take (i := 0) (v := ?v64) (by simp only [List.getElem?_toArray, List.getElem?_cons_zero] <;> rfl) (by kernel_rfl) (by kernel_rfl) (by kernel_rfl) (fun _ _ _ h => h) (Or.inl ⟨by rfl, ?y64⟩) hHeld ?r64
                  case y64 => (intro w hSw; (try dsimp only at hSw); go_simp; first | done | with_reducible rfl | rfl)
                  try simp only [Act.put, List.setIfInBounds_toArray, List.set_cons_zero, List.set_cons_succ]
                  refine wpAnyH_take (i := 1) (v := ?v65) (by simp only [List.getElem?_toArray, List.getElem?_cons_succ, List.getElem?_cons_zero] <;> rfl) (by kernel_rfl) (by kernel_rfl) (by kernel_rfl) (fun _ _ _ h => h) (Or.inl ⟨by rfl, ?y65⟩) hHeld ?r65
                  case y65 => (intro w hSw; (try dsimp only at hSw); go_simp; first | done | with_reducible rfl | rfl)
                  try simp only [Act.put, List.setIfInBounds_toArray, List.set_cons_zero, List.set_cons_succ]
                  refine wpAnyH_take (i := 2) (v := ?v66) (by simp only [List.getElem?_toArray, List.getElem?_cons_succ, List.getElem?_cons_zero] <;> rfl) (by kernel_rfl) (by kernel_rfl) (by kernel_rfl) (fun _ _ _ h => h) (Or.inl ⟨by rfl, ?y66⟩) hHeld ?r66
                  case y66 => (intro w hSw; (try dsimp only at hSw); go_simp; first | done | with_reducible rfl | rfl)
                  try simp only [Act.put, List.setIfInBounds_toArray, List.set_cons_zero, List.set_cons_succ]
                  refine wpAnyH_take (i := 3) (v := ?v67) (by simp only [List.getElem?_toArray, List.getElem?_cons_succ, List.getElem?_cons_zero] <;> rfl) (by kernel_rfl) (by kernel_rfl) (by kernel_rfl) (fun _ _ _ h => h) (Or.inl ⟨by rfl, ?y67⟩) hHeld ?r67
                  case y67 => (intro w hSw; (try dsimp only at hSw); go_simp; first | done | with_reducible rfl | rfl)
                  try simp only [Act.put, List.setIfInBounds_toArray, List.set_cons_zero, List.set_cons_succ]
                  refine wpAnyH_take (i := 4) (v := ?v68) (by simp only [List.getElem?_toArray, List.getElem?_cons_succ, List.getElem?_cons_zero] <;> rfl) (by kernel_rfl) (by kernel_rfl) (by kernel_rfl) (fun _ _ _ h => h) (Or.inl ⟨by rfl, ?y68⟩) hHeld ?r68
                  case y68 => (intro w hSw; (try dsimp only at hSw); go_simp; first | done | with_reducible rfl | rfl)
                  try simp only [Act.put, List.setIfInBounds_toArray, List.set_cons_zero, List.set_cons_succ]
                  refine wpAnyH_take (i := 5) (v := ?v69) (by simp only [List.getElem?_toArray, List.getElem?_cons_succ, List.getElem?_cons_zero] <;> rfl) (by kernel_rfl) (by kernel_rfl) (by kernel_rfl) (fun _ _ _ h => h) (Or.inl ⟨by rfl, ?y69⟩) hHeld ?r69
                  case y69 => (intro w hSw; (try dsimp only at hSw); go_simp; first | done | with_reducible rfl | rfl)
                  try simp only [Act.put, List.setIfInBounds_toArray, List.set_cons_zero, List.set_cons_succ]
                  refine wpAnyH_take (i := 6) (v := ?v70) (by simp only [List.getElem?_toArray, List.getElem?_cons_succ, List.getElem?_cons_zero] <;> rfl) (by kernel_rfl) (by kernel_rfl) (by kernel_rfl) (fun _ _ _ h => h) (Or.inl ⟨by rfl, ?y70⟩) hHeld ?r70
                  case y70 => (intro w hSw; (try dsimp only at hSw); go_simp; first | done | with_reducible rfl | rfl)
                  try simp only [Act.put, List.setIfInBounds_toArray, List.set_cons_zero, List.set_cons_succ]
                  refine wpAnyH_take (i := 7) (v := ?v71) (by simp only [List.getElem?_toArray, List.getElem?_cons_succ, List.getElem?_cons_zero] <;> rfl) (by kernel_rfl) (by kernel_rfl) (by kernel_rfl) (fun _ _ _ h => h) (Or.inl ⟨by rfl, ?y71⟩) hHeld ?r71
                  case y71 => (intro w hSw; (try dsimp only at hSw); go_simp; first | done | with_reducible rfl | rfl)
                  try simp only [Act.put, List.setIfInBounds_toArray, List.set_cons_zero, List.set_cons_succ]
                  refine wpAnyH_take (i := 8) (v := ?v72) (by simp only [List.getElem?_toArray, List.getElem?_cons_succ, List.getElem?_cons_zero] <;> rfl) (by kernel_rfl) (by kernel_rfl) (by kernel_rfl) (fun _ _ _ h => h) (Or.inl ⟨by rfl, ?y72⟩) hHeld ?r72
                  case y72 => (intro w hSw; (try dsimp only at hSw); go_simp; first | done | with_reducible rfl | rfl)
                  try simp only [Act.put, List.setIfInBounds_toArray, List.set_cons_zero, List.set_cons_succ]
                  refine wpAnyH_take (i := 9) (v := .agg R) (by simp only [List.getElem?_toArray, List.getElem?_cons_succ, List.getElem?_cons_zero] <;> rfl) (by kernel_rfl) (by kernel_rfl) (by kernel_rfl) (fun _ _ _ h => h) (yieldsIf_loadW (by rfl) _ _ rfl _ rfl R (fun w hSw => hSw.2)) hHeld ?_
                  try simp only [Act.put, List.setIfInBounds_toArray, List.set_cons_zero, List.set_cons_succ]
                  refine wpAnyH_ready (rs := [10]) (by kernel_rfl) (by simp) ?_
                  refine AllReadyH.cons (by simp only [List.getElem?_toArray, List.getElem?_cons_succ, List.getElem?_cons_zero] <;> rfl) (fun K hK => ?_) ?_
                  · refine wp_put_N _ (.tmp 162) (.tmp 167) (.tmp 171) 64 rfl _ und64 gm nm q _ rfl KN.out.o.know HNM.out ((j : Int) + 1) (.agg R) rfl rfl HSB.out ?_; intro w8 hN hU; have IN : Hid (∃ q', OnceJ w xb mb gm (k + 1) (100 * k + 1 + j + 1) m1 n1 kb1 K1 (some ⟨g, o, none⟩) (j + 1) (nm + 1) q' w8) := (by rw [HR.out] at hN; exact KN.out.put HX.out hN hU); clear hN hU; go_wp2_with fail
                    refine hK.out _ _ ?_ (fun hHeld => ?_)
                    · have := IN.out; obtain ⟨q', hi⟩ := this; have hw := HAT.out _ hi.r; rw [← HR.out] at hw; exact hw
                    clear hK K
                    try simp only [Act.put]
                    refine wpAnyH_done (by kernel_rfl) ?_ _
                    refine NoPanic.normal ?_
                    go_wp2_with fail
                    exact ⟨⟨j + 1, by go_num, by omega, nm + 1, IN.out⟩, by simp [intOf]; omega⟩
                  exact AllReadyH.nil
              · obtain rfl : j = L := by omega
                obtain ⟨nm, q, hI⟩ := HI.out
                have hqL : q = j := by have := hI.jq; have := hI.o.q; have := HL.out; omega
                have hlen := hI.o.know.len_run
                rw [hqL] at hlen
                have IN : Hid (∃ m n kb K nm, OnceM w xb mb gm (k + 1) (100 * (k + 1)) m n kb K nm m.rs.length wr) := by
                  have q0 := hI.o
                  exact ⟨m1, n1, kb1, K1, nm, q0.mach, q0.n, by rw [← HL.out, ← hqL]; exact q0.know, by have := q0.nm; omega, Nat.le_refl _, q0.len, q0.gK, q0.gx, q0.gmb, q0.gw⟩
                clear hI HI hqL hjl
                go_wp2_with fail
                exact ⟨⟨k + 1, by go_num, by omega, by omega, IN⟩, by simp [intOf]; omega⟩
      · obtain rfl : k = 25 := by omega
        have h25' := Lib.hid h25
        clear h25
        have HUP : Hid (Upd [] [] w wr) := by obtain ⟨_, _, _, _, _, hI⟩ := HI.out; exact hI.mach.up
        clear HI hk hkl
        go_wp2_with fail
        go_ret
        exact ⟨rfl, HUP.out⟩
    · obtain rfl : k = l.length := by omega
      clear hlt
      have HUP : Hid (Upd [] [] w wr) := by obtain ⟨_, _, _, _, _, hI⟩ := HI.out; exact hI.mach.up
      clear HI hk hkl
      go_wp2_with fail
      go_ret
      exact ⟨rfl, HUP.out⟩
end Go.Proofs.YtabnlklkfgojgaaGreatDoor
