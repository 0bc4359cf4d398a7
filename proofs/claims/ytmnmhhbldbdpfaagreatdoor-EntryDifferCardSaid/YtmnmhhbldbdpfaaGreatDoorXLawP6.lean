/- The walk of EntryDiffer. -/
import Derived.Test.YtmnmhhbldbdpfaaGreatDoorXPrA
namespace Go.Proofs.YtmnmhhbldbdpfaaGreatDoor
open Go.RowKit
set_option maxRecDepth 100000

set_option maxHeartbeats 4000000 in
theorem entryDiffer_walk (f h : Fm) (a b : Int) (w : World) (hf : f.ok) (hh : h.ok) (ha : -9223372036854775808 ≤ a ∧ a ≤ 9223372036854775807) (hb : -9223372036854775808 ≤ b ∧ b ≤ 9223372036854775807) (htab : Tabs w) :
    Calls Tryz.prog 5 #[.agg (fmV f).toArray, .agg (fmV h).toArray, .agg #[.int .i64 a, .int .i64 b]] w (TrueMk w) := by
  obtain ⟨V, hV⟩ : ∃ V, V = (fmV f).toArray := ⟨_, rfl⟩
  obtain ⟨U, hU⟩ : ∃ U, U = (fmV h).toArray := ⟨_, rfl⟩
  have uu1 : Upd [] [] (w.alloc (.cells V 27)) (((w.alloc (.cells V 27)).alloc (.cells U 27)).alloc (.cells #[.int .i64 a, .int .i64 b] 52)) := ((Upd.refl _ _).alloc _).alloc _
  have fm0 := Lib.hid ((fm_box w f V hV).upd uu1)
  have fh0' := (fm_box (w.alloc (.cells V 27)) h U hU).upd ((Upd.refl [] _).alloc (.cells #[.int .i64 a, .int .i64 b] 52))
  rw [World.size_alloc] at fh0'
  have fh0 := Lib.hid fh0'
  have q0 := two_box ((w.alloc (.cells V 27)).alloc (.cells U 27)) 52 #[.int .i64 a, .int .i64 b]
  rw [World.size_alloc, World.size_alloc] at q0
  have Q0 := Lib.hid q0
  have u0 : Upd [] [] w (((w.alloc (.cells V 27)).alloc (.cells U 27)).alloc (.cells #[.int .i64 a, .int .i64 b] 52)) := ((Upd.refl _ _).alloc _).trans uu1
  have HVE := Lib.hid hV
  have HUE := Lib.hid hU
  have HRA := Lib.hid (fun W hW => receipt_any f hf W hW)
  have HRB := Lib.hid (fun W hW => receipt_any h hh W hW)
  rw [← hV] at HRA ⊢
  rw [← hU] at HRB ⊢
  obtain ⟨x, hx⟩ : ∃ x, x = fmR f := ⟨_, rfl⟩
  obtain ⟨y, hy⟩ : ∃ y, y = fmR h := ⟨_, rfl⟩
  have HXO : Hid x.ok := by rw [hx]; exact fmR_ok hf
  have HYO : Hid y.ok := by rw [hy]; exact fmR_ok hh
  have hxd : x.draw.size ≤ 100 := by rw [hx]; exact fmR_draw f
  have hyd : y.draw.size ≤ 100 := by rw [hy]; exact fmR_draw h
  rw [← hx] at HRA
  rw [← hy] at HRB
  obtain ⟨X, hX⟩ : ∃ X, X = (rcV x).toArray := ⟨_, rfl⟩
  obtain ⟨Y, hY⟩ : ∃ Y, Y = (rcV y).toArray := ⟨_, rfl⟩
  obtain ⟨z, hz⟩ : ∃ z, z = bentR x a b := ⟨_, rfl⟩
  have HZO : Hid z.ok := by rw [hz]; exact bentC_ok HXO.out (a % 9) b
  have hzd : z.draw.size ≤ 101 := by rw [hz]; exact Nat.le_trans (bentC_draw x (a % 9) b) (by omega)
  have HB := Lib.hid (fun W => bent_any x a b HXO.out (by omega) ha hb W)
  rw [← hz] at HB
  obtain ⟨Z, hZ⟩ : ∃ Z, Z = (rcV z).toArray := ⟨_, rfl⟩
  rw [← hX] at HRA HB
  rw [← hY] at HRB
  rw [← hZ] at HB
  have HXE := Lib.hid hX
  have HYE := Lib.hid hY
  have HZE := Lib.hid hZ
  obtain ⟨XI, XO, XZ⟩ := rcLet HXO.out X hX
  obtain ⟨YI, YO, YZ⟩ := rcLet HYO.out Y hY
  obtain ⟨ZI, ZO, ZZ⟩ := rcLet HZO.out Z hZ
  clear hV hU fh0' q0 uu1 hx hy hz hX hY hZ
  go_enter Tryz.func5, Tryz.ntmps5
  go_wp2_with fail
  refine (sanity22_any _ (htab.upd u0)).mono ?_
  rintro e w1 ⟨rfl, hq⟩
  have u1 := u0.trans hq
  have fm1 := Lib.hid (fm0.out.upd hq)
  have fh1 := Lib.hid (fh0.out.upd hq)
  have Q1 := Lib.hid (row_updH Q0.out hq)
  have p1 := Lib.hid (fm1.out.load hf V HVE.out)
  clear hq fm0 fh0 Q0
  go_wp2_with (first | (refine wpList_load_atW (by rfl) 27 _ rfl w.heap.size 0 rfl V p1.out ?_))
  refine (HRA.out _ (htab.upd u1)).mono ?_
  rintro e w2 ⟨rfl, hq⟩
  obtain ⟨w3, w4, HZ2, HW3, HZ3, HW4, RA4, RB4, hq'⟩ := rows_two w2 33 Tryz.zeroCells33 X X
  have u4 := u1.trans (hq.trans hq')
  have Q4 := Lib.hid (row_updH Q1.out (hq.trans hq'))
  have fh4 := Lib.hid (fh1.out.upd (hq.trans hq'))
  have p4 := Lib.hid (fh4.out.load hh U HUE.out)
  clear hq hq' fm1 fh1 p1 Q1 RB4 HRA
  go_upto_region 3 with (first | (refine wpList_store_rowAs rfl 33 _ _ rfl w2.heap.size X rfl rfl _ _ HZ2.out XI.out XZ.out XO.out w3 HW3.out ?_) | (refine wpList_store_rowAs rfl 33 _ _ rfl (w2.heap.size + 1) X rfl rfl _ _ HZ3.out XI.out XZ.out XO.out w4 HW4.out ?_))
  clear HW3 HZ2 HZ3 HW4
  obtain ⟨G, hG⟩ : ∃ G, G = w2.heap.size := ⟨_, rfl⟩
  rw [← hG] at RA4 ⊢
  clear hG
  go_wp2_with (first | (refine wpList_load_atW (by rfl) 27 _ rfl (w.heap.size + 1) 0 rfl U p4.out ?_))
  refine (HRB.out _ (htab.upd u4)).mono ?_
  rintro e w5 ⟨rfl, hq⟩
  obtain ⟨w6, w7, HZ5, HW6, HZ6, HW7, RA7, RB7, hq'⟩ := rows_two w5 33 Tryz.zeroCells33 Y Y
  have u7 := u4.trans (hq.trans hq')
  have Q7 := Lib.hid (row_updH Q4.out (hq.trans hq'))
  have A7 := Lib.hid (row_updH RA4.out (hq.trans hq'))
  clear hq hq' fh4 p4 Q4 RB7 HRB RA4
  go_upto_region 4 with (first | (refine wpList_store_rowAs rfl 33 _ _ rfl w5.heap.size Y rfl rfl _ _ HZ5.out YI.out YZ.out YO.out w6 HW6.out ?_) | (refine wpList_store_rowAs rfl 33 _ _ rfl (w5.heap.size + 1) Y rfl rfl _ _ HZ6.out YI.out YZ.out YO.out w7 HW7.out ?_))
  clear HW6 HZ5 HZ6 HW7
  obtain ⟨GY, hGY⟩ : ∃ GY, GY = w5.heap.size := ⟨_, rfl⟩
  rw [← hGY] at RA7 ⊢
  clear hGY
  have k0 : w7.cell? ⟨w.heap.size + 1 + 1, 0, none⟩ = some (.int .i64 a) := by rw [cell_of_row _ _ _ _ _ _ Q7.out]; rfl
  have k1 : w7.cell? ⟨w.heap.size + 1 + 1, 1, none⟩ = some (.int .i64 b) := by rw [cell_of_row _ _ _ _ _ _ Q7.out]; rfl
  go_wp2_with (first | (refine wpList_load_row rfl 33 _ rfl G rfl _ X _ _ A7.out Tryz.underlying33 rfl XI.out ?_))
  refine (HB.out _).mono ?_
  rintro e w8 ⟨rfl, hq⟩
  obtain ⟨w9, HZ8, HW9, HR9, hq'⟩ := blk_new w8 33 Tryz.zeroCells33 Z
  have u9 := u7.trans (hq.trans hq')
  have A9 := Lib.hid (row_updH A7.out (hq.trans hq'))
  have B9 := Lib.hid (row_updH RA7.out (hq.trans hq'))
  clear hq hq' k0 k1 Q7 A7 RA7 HB
  go_upto_region 5 with (first | (refine wpList_store_rowAs rfl 33 _ _ rfl w8.heap.size Z rfl rfl _ _ HZ8.out ZI.out ZZ.out ZO.out w9 HW9.out ?_))
  obtain ⟨GZ, hGZ⟩ : ∃ GZ, GZ = w8.heap.size := ⟨_, rfl⟩
  rw [← hGZ] at HR9 ⊢
  clear hGZ HZ8 HW9
  obtain ⟨P1, hP1⟩ : ∃ P, P = (pairV x y).toArray := ⟨_, rfl⟩
  obtain ⟨P2, hP2⟩ : ∃ P, P = (pairV x z).toArray := ⟨_, rfl⟩
  obtain ⟨P3, hP3⟩ : ∃ P, P = (pairV y z).toArray := ⟨_, rfl⟩
  obtain ⟨P4, hP4⟩ : ∃ P, P = (pairV x x).toArray := ⟨_, rfl⟩
  have D1 := Lib.hid (built_pair HXO.out HYO.out X Y P1 HXE.out HYE.out hP1)
  have D2 := Lib.hid (built_pair HXO.out HZO.out X Z P2 HXE.out HZE.out hP2)
  have D3 := Lib.hid (built_pair HYO.out HZO.out Y Z P3 HYE.out HZE.out hP3)
  have D4 := Lib.hid (built_pair HXO.out HXO.out X X P4 HXE.out HXE.out hP4)
  obtain ⟨ps, hps⟩ : ∃ ps : List (Rc × Rc), ps = [(x, y), (x, z), (y, z), (x, x)] := ⟨_, rfl⟩
  have hpo : ∀ p ∈ ps, (p.1.ok ∧ p.2.ok) ∧ (p.1.draw.size ≤ 101 ∧ p.2.draw.size ≤ 101) := by
    intro p hp
    rw [hps] at hp
    simp only [List.mem_cons, List.not_mem_nil, or_false] at hp
    rcases hp with rfl | rfl | rfl | rfl
    · exact ⟨⟨HXO.out, HYO.out⟩, Nat.le_trans hxd (by omega), Nat.le_trans hyd (by omega)⟩
    · exact ⟨⟨HXO.out, HZO.out⟩, Nat.le_trans hxd (by omega), hzd⟩
    · exact ⟨⟨HYO.out, HZO.out⟩, Nat.le_trans hyd (by omega), hzd⟩
    · exact ⟨⟨HXO.out, HXO.out⟩, Nat.le_trans hxd (by omega), Nat.le_trans hxd (by omega)⟩
  have HBS := Lib.hid (pr_build ps (fun p hp => (hpo p hp).1) (x, y) (x, z) (y, z) (x, x) hps P1 P2 P3 P4 hP1 hP2 hP3 hP4 w9)
  have HPL : Hid (ps.length = 4) := by show _ = _; rw [hps]; rfl
  have HPO := Lib.hid hpo
  have I10 : Hid (PsAt (w9.alloc (.cells (psV ps).toArray 54)) w9.heap.size ps ∧ Upd [] [] w (w9.alloc (.cells (psV ps).toArray 54))) := ⟨heap_alloc_new _ _, u9.alloc _⟩
  obtain ⟨PV, hPV⟩ : ∃ PV, PV = (psV ps).toArray := ⟨_, rfl⟩
  rw [← hPV] at HBS I10
  clear hP1 hP2 hP3 hP4 hps hpo hPV
  have tk1 : True := trivial
  have tk2 : True := trivial
  have tk3 : True := trivial
  have tk4 : True := trivial
  go_wp2_with (first | (refine wpList_load_row rfl 33 _ rfl G rfl _ X _ _ A9.out Tryz.underlying33 rfl XI.out ?_; (try simp only [Act.put, List.setIfInBounds_toArray, List.set_cons_zero, List.set_cons_succ])) | (refine wpList_load_row rfl 33 _ rfl GY rfl _ Y _ _ B9.out Tryz.underlying33 rfl YI.out ?_; (try simp only [Act.put, List.setIfInBounds_toArray, List.set_cons_zero, List.set_cons_succ])) | (refine wpList_load_row rfl 33 _ rfl GZ rfl _ Z _ _ HR9.out Tryz.underlying33 rfl ZI.out ?_; (try simp only [Act.put, List.setIfInBounds_toArray, List.set_cons_zero, List.set_cons_succ])) | (have _t := tk1; refine wpList_buildTo rfl 54 _ rfl (some 36) rfl P1 (Eq.trans (congrArg (fun q => Tryz.prog.built 54 q) (by kernel_rfl)) D1.out) ?_; (try simp only [Act.put, List.setIfInBounds_toArray, List.set_cons_zero, List.set_cons_succ]); clear tk1) | (have _t := tk2; refine wpList_buildTo rfl 54 _ rfl (some 39) rfl P2 (Eq.trans (congrArg (fun q => Tryz.prog.built 54 q) (by kernel_rfl)) D2.out) ?_; (try simp only [Act.put, List.setIfInBounds_toArray, List.set_cons_zero, List.set_cons_succ]); clear tk2) | (have _t := tk3; refine wpList_buildTo rfl 54 _ rfl (some 42) rfl P3 (Eq.trans (congrArg (fun q => Tryz.prog.built 54 q) (by kernel_rfl)) D3.out) ?_; (try simp only [Act.put, List.setIfInBounds_toArray, List.set_cons_zero, List.set_cons_succ]); clear tk3) | (have _t := tk4; refine wpList_buildTo rfl 54 _ rfl (some 45) rfl P4 (Eq.trans (congrArg (fun q => Tryz.prog.built 54 q) (by kernel_rfl)) D4.out) ?_; (try simp only [Act.put, List.setIfInBounds_toArray, List.set_cons_zero, List.set_cons_succ]); clear tk4) | (refine wpList_buildRun rfl 55 4 _ rfl _ _ (Eq.trans (congrArg (fun q => (Instr.buildSlice 55 4 q).run Tryz.prog w9) (by kernel_rfl)) HBS.out) ?_; (try simp only [Act.put, List.setIfInBounds_toArray, List.set_cons_zero, List.set_cons_succ])))
  obtain ⟨w10, hw10⟩ : ∃ w10, w9.alloc (.cells PV 54) = w10 := ⟨_, rfl⟩
  obtain ⟨PB, hPB⟩ : ∃ PB, PB = w9.heap.size := ⟨_, rfl⟩
  rw [hw10, ← hPB] at I10
  rw [hw10, ← hPB]
  clear hw10 hPB HBS D1 D2 D3 D4 A9 B9 HR9 u9 HXO HYO HZO XI XO XZ YI YO YZ ZI ZO ZZ HXE HYE HZE HVE HUE u0 u1 u4 u7 hh hf hxd hyd hzd
  go_loopw [14, 15, 16, 17, 18, 19, 48] (fun _ _ _ _ _ _ i wr => ∃ j : Nat, i = .int .i64 (j : Int) ∧ j ≤ 4 ∧ Hid (PsAt wr PB ps ∧ Upd [] [] w wr)) (fun _ _ _ _ _ _ i _ => 4 - (intOf i).toNat)
  case atStart => exact ⟨0, rfl, Nat.zero_le _, I10⟩
  case round =>
    obtain ⟨j, rfl, hj, HI⟩ := hrel
    by_cases hlt : j < 4
    · obtain ⟨p, hp⟩ : ∃ p, ps[j]? = some p := ⟨_, List.getElem?_eq_getElem (by rw [HPL.out]; exact hlt)⟩
      obtain ⟨⟨ox, oy⟩, dx, dy⟩ := HPO.out p (List.mem_of_getElem? hp)
      obtain ⟨x0, hx0⟩ : ∃ x0, x0 = p.1 := ⟨_, rfl⟩
      obtain ⟨y0, hy0⟩ : ∃ y0, y0 = p.2 := ⟨_, rfl⟩
      rw [← hx0] at ox dx
      rw [← hy0] at oy dy
      have p0 : (0 : Int) ≤ (j : Int) := by omega
      have p1 : (j : Int) < 4 := by omega
      obtain ⟨P, hP⟩ : ∃ P, P = (pairV x0 y0).toArray := ⟨_, rfl⟩
      have HLD := Lib.hid (HI.out.1.load (fun q hq => (HPO.out q hq).1) hp P (by rw [hP, hx0, hy0]))
      obtain ⟨wA, HZA, HWA, HRA, hqA⟩ := blk_new wr 54 Tryz.zeroCells54 P
      have IA : Hid (PsAt wA PB ps ∧ Upd [] [] w wA) := ⟨HI.out.1.upd hqA, HI.out.2.trans hqA⟩
      have hPs : P.size = 204 := by rw [hP, List.size_toArray, pairV_len ox oy]
      have PI : Hid ((Tryz.prog.info? 54).map (·.size) = some P.size) := by show _ = _; rw [hPs]; kernel_rfl
      have PO : Hid (P.all (·.oneCell') = true) := by show _ = _; rw [hP]; exact pairV_one _ _
      have PZ : Hid ((Tryz.zeroCells54).size = P.size) := by show _ = _; rw [hPs]; kernel_rfl
      obtain ⟨GX, hGX⟩ : ∃ GX, GX = wr.heap.size := ⟨_, rfl⟩
      have HPR : Hid (PrAt wA GX x0 y0) := by have h := HRA.out; rw [← hGX, hP] at h; exact h
      obtain ⟨X, hX⟩ : ∃ X, X = (rcV x0).toArray := ⟨_, rfl⟩
      obtain ⟨Y, hY⟩ : ∃ Y, Y = (rcV y0).toArray := ⟨_, rfl⟩
      have HXE := Lib.hid hX
      have HYE := Lib.hid hY
      obtain ⟨eb, heb⟩ : ∃ eb, eqRc x0 y0 = eb := ⟨_, rfl⟩
      have HEB := Lib.hid heb
      have hEq := fun W => rc_eq_run2 ox oy eb heb X Y hX hY W
      have HPD : Hid (∀ W, Upd [] [] wA W → (Instr.loadAt 33 (.pointer (some ⟨GX, 0, none⟩))).run Tryz.prog W = .ok (.agg X) W ∧ (Instr.loadAt 33 (.pointer (some ⟨GX, 102, none⟩))).run Tryz.prog W = .ok (.agg Y) W) := by
        intro W u
        exact ⟨(HPR.out.upd u).load0 ox X hX, (HPR.out.upd u).load1 ox oy Y hY⟩
      obtain ⟨hl0, hl1⟩ := HPD.out wA (Upd.refl _ _)
      have HL0 := Lib.hid hl0
      have HL1 := Lib.hid hl1
      clear hp hx0 hy0 hP hPs hX hY heb HRA hqA HI hl0 hl1
      go_upto_region 8 with (first | (refine wpList_load_atW (by rfl) 54 _ rfl PB (j * 204) rfl P HLD.out ?_) | (refine wpList_store_rowAs rfl 54 _ _ rfl wr.heap.size P rfl rfl _ _ HZA.out PI.out PZ.out PO.out wA HWA.out ?_))
      rw [← hGX]
      clear HWA HZA hGX HLD PI PO PZ
      go_upto_region 9 with (first | (refine wpList_load_atW (by rfl) 33 _ rfl GX 0 rfl X HL0.out ?_) | (refine wpList_load_atW (by rfl) 33 _ rfl GX 102 rfl Y HL1.out ?_))
      clear hEq HL0 HL1
      have HB1 := Lib.hid (fun W => rc_build x0 ox W)
      have HB2 := Lib.hid (fun W => rc_build y0 oy W)
      have HB3 := Lib.hid (fun W => rc_build2 y0 x0 oy ox W)
      rw [← HXE.out] at HB1
      rw [← HYE.out] at HB2
      rw [← HXE.out, ← HYE.out] at HB3
      have ud0 : Upd [] [] wA wA.drew := (Upd.refl _ _).drew
      have BI : ∀ v : Value, Hid ((Tryz.prog.info? 46).map (·.size) = some (#[.int .i64 1, v] : Array Value).size) := fun v => by show _ = _; kernel_rfl
      have BO : ∀ (g : Nat) (k n : Nat), Hid ((#[.int .i64 1, .slice (some ⟨g, 0, none⟩) k n] : Array Value).all (·.oneCell') = true) := fun g k n => by show _ = _; kernel_rfl
      have BZ : ∀ v : Value, Hid ((#[.int .i64 0, .slice none 0 0] : Array Value).size = (#[.int .i64 1, v] : Array Value).size) := fun v => rfl
      have BIH := Lib.hid BI
      have BOH := Lib.hid BO
      have BZH := Lib.hid BZ
      clear BI BO BZ
      refine @id ((∀ (gA gB gM gN : Nat) (W : World), Hid (W.heap[gA]? = some (.cells X 33 (0, 0))) → Hid (W.heap[gB]? = some (.cells Y 33 (0, 0))) → Hid (W.heap[gM]? = some (.cells #[.int .i64 1, .slice (some ⟨gA, 0, none⟩) 1 1] 46 (0, 0))) → Hid (W.heap[gN]? = some (.cells #[.int .i64 1, .slice (some ⟨gB, 0, none⟩) 1 1] 46 (0, 0))) → Upd [] [] wA W → (?pj1 : Nat → Nat → Nat → Nat → World → Prop) gA gB gM gN W) → _) (fun hJ => ?mj1) ?jj1
      case mj1 =>
        refine wp_region_noPanic ?_
        refine wp_region_held_drew (S := fun wp => (Instr.loadAt 33 (.pointer (some ⟨GX, 0, none⟩))).run Tryz.prog wp = .ok (.agg X) wp ∧ (Instr.loadAt 33 (.pointer (some ⟨GX, 102, none⟩))).run Tryz.prog wp = .ok (.agg Y) wp) (by kernel_rfl) ?_ (fun hHeld => ?_)
        · exact HPD.out _ ud0
        refine wpAnyH_take (i := 0) (v := ?v2) (by simp only [List.getElem?_toArray, List.getElem?_cons_zero] <;> rfl) (by kernel_rfl) (by kernel_rfl) (by kernel_rfl) (fun _ _ _ h => h) (Or.inl ⟨by rfl, ?y2⟩) hHeld ?r2
        case y2 => (intro w hSw; (try dsimp only at hSw); go_simp; first | done | with_reducible rfl | rfl)
        try simp only [Act.put, List.setIfInBounds_toArray, List.set_cons_zero, List.set_cons_succ]
        refine wpAnyH_take (i := 1) (v := .agg X) (by simp only [List.getElem?_toArray, List.getElem?_cons_succ, List.getElem?_cons_zero] <;> rfl) (by kernel_rfl) (by kernel_rfl) (by kernel_rfl) (fun _ _ _ h => h) (yieldsIf_loadW (by rfl) _ _ rfl _ rfl X (fun w hSw => hSw.1)) hHeld ?_
        try simp only [Act.put, List.setIfInBounds_toArray, List.set_cons_zero, List.set_cons_succ]
        refine wpAnyH_take (i := 4) (v := ?v3) (by simp only [List.getElem?_toArray, List.getElem?_cons_succ, List.getElem?_cons_zero] <;> rfl) (by kernel_rfl) (by kernel_rfl) (by kernel_rfl) (fun _ _ _ h => h) (Or.inl ⟨by rfl, ?y3⟩) hHeld ?r3
        case y3 => (intro w hSw; (try dsimp only at hSw); go_simp; first | done | with_reducible rfl | rfl)
        try simp only [Act.put, List.setIfInBounds_toArray, List.set_cons_zero, List.set_cons_succ]
        refine wpAnyH_take (i := 5) (v := .agg Y) (by simp only [List.getElem?_toArray, List.getElem?_cons_succ, List.getElem?_cons_zero] <;> rfl) (by kernel_rfl) (by kernel_rfl) (by kernel_rfl) (fun _ _ _ h => h) (yieldsIf_loadW (by rfl) _ _ rfl _ rfl Y (fun w hSw => hSw.2)) hHeld ?_
        try simp only [Act.put, List.setIfInBounds_toArray, List.set_cons_zero, List.set_cons_succ]
        refine wpAnyH_ready (rs := [2, 6, 8, 9]) (by kernel_rfl) (by simp) ?_
        refine AllReadyH.cons (by simp only [List.getElem?_toArray, List.getElem?_cons_succ, List.getElem?_cons_zero] <;> rfl) (fun K hK => ?_) ?_
        · rw [if_pos (by rfl)]; refine wp_buildRun 44 1 _ rfl _ _ (Eq.trans (congrArg (fun z => (Instr.buildSlice 44 1 z).run Tryz.prog wA.drew) (by kernel_rfl)) (HB1.out wA.drew)) ?_; obtain ⟨gA, wv1, hgx, hwx, fA_1, hq⟩ := alloc_let (wA.drew) (.cells X 33); rw [← hgx, ← hwx]; have bA : wA.heap.size ≤ gA := (by have := ud0.size; omega); have ud1 := ud0.trans hq; clear hgx hwx hq
          refine hK.out _ _ ?_ (fun hHeld => ?_)
          · exact HPD.out _ ud1
          clear hK K
          try simp only [Act.put, List.setIfInBounds_toArray, List.set_cons_zero, List.set_cons_succ]
          refine wpAnyH_take (i := 3) (v := ?v4) (by simp only [List.getElem?_toArray, List.getElem?_cons_succ, List.getElem?_cons_zero] <;> rfl) (by kernel_rfl) (by kernel_rfl) (by kernel_rfl) (fun _ _ _ h => h) (Or.inl ⟨by rfl, ?y4⟩) hHeld ?r4
          case y4 => (intro w hSw; (try dsimp only at hSw); go_simp; first | done | with_reducible rfl | rfl)
          try simp only [Act.put, List.setIfInBounds_toArray, List.set_cons_zero, List.set_cons_succ]
          refine wpAnyH_ready (rs := [6, 8, 9]) (by kernel_rfl) (by simp) ?_
          refine AllReadyH.cons (by simp only [List.getElem?_toArray, List.getElem?_cons_succ, List.getElem?_cons_zero] <;> rfl) (fun K hK => ?_) ?_
          · rw [if_pos (by rfl)]; refine wp_buildRun 44 1 _ rfl _ _ (Eq.trans (congrArg (fun z => (Instr.buildSlice 44 1 z).run Tryz.prog wv1) (by kernel_rfl)) (HB2.out wv1)) ?_; obtain ⟨gB, wv2, hgx, hwx, fB_2, hq⟩ := alloc_let (wv1) (.cells Y 33); rw [← hgx, ← hwx]; have bB : wA.heap.size ≤ gB := (by have := ud1.size; omega); have ud2 := ud1.trans hq; have fA_2 := Lib.hid (row_updH fA_1.out hq); have ne_A_B : gA ≠ gB := (by have := (Array.getElem?_eq_some_iff.1 fA_1.out).1; omega); clear hgx hwx hq
            refine hK.out _ _ ?_ (fun hHeld => ?_)
            · exact HPD.out _ ud2
            clear hK K
            try simp only [Act.put, List.setIfInBounds_toArray, List.set_cons_zero, List.set_cons_succ]
            refine wpAnyH_take (i := 7) (v := ?v5) (by simp only [List.getElem?_toArray, List.getElem?_cons_succ, List.getElem?_cons_zero] <;> rfl) (by kernel_rfl) (by kernel_rfl) (by kernel_rfl) (fun _ _ _ h => h) (Or.inl ⟨by rfl, ?y5⟩) hHeld ?r5
            case y5 => (intro w hSw; (try dsimp only at hSw); go_simp; first | done | with_reducible rfl | rfl)
            try simp only [Act.put, List.setIfInBounds_toArray, List.set_cons_zero, List.set_cons_succ]
            refine wpAnyH_ready (rs := [8, 9]) (by kernel_rfl) (by simp) ?_
            refine AllReadyH.cons (by simp only [List.getElem?_toArray, List.getElem?_cons_succ, List.getElem?_cons_zero] <;> rfl) (fun K hK => ?_) ?_
            · go_simp; obtain ⟨gM, wv3, hgx, hwx, fM_3, hq⟩ := alloc_let (wv2) (.cells #[.int .i64 0, .slice none 0 0] 46); rw [← hgx, ← hwx]; have bM : wA.heap.size ≤ gM := (by have := ud2.size; omega); have ud3 := ud2.trans hq; have fA_3 := Lib.hid (row_updH fA_2.out hq); have ne_A_M : gA ≠ gM := (by have := (Array.getElem?_eq_some_iff.1 fA_2.out).1; omega); have fB_3 := Lib.hid (row_updH fB_2.out hq); have ne_B_M : gB ≠ gM := (by have := (Array.getElem?_eq_some_iff.1 fB_2.out).1; omega); clear hgx hwx hq
              refine hK.out _ _ ?_ (fun hHeld => ?_)
              · exact HPD.out _ ud3
              clear hK K
              try simp only [Act.put, List.setIfInBounds_toArray, List.set_cons_zero, List.set_cons_succ]
              refine wpAnyH_ready (rs := [9]) (by kernel_rfl) (by simp) ?_
              refine AllReadyH.cons (by simp only [List.getElem?_toArray, List.getElem?_cons_succ, List.getElem?_cons_zero] <;> rfl) (fun K hK => ?_) ?_
              · go_simp; obtain ⟨gN, wv4, hgx, hwx, fN_4, hq⟩ := alloc_let (wv3) (.cells #[.int .i64 0, .slice none 0 0] 46); rw [← hgx, ← hwx]; have bN : wA.heap.size ≤ gN := (by have := ud3.size; omega); have ud4 := ud3.trans hq; have fA_4 := Lib.hid (row_updH fA_3.out hq); have ne_A_N : gA ≠ gN := (by have := (Array.getElem?_eq_some_iff.1 fA_3.out).1; omega); have fB_4 := Lib.hid (row_updH fB_3.out hq); have ne_B_N : gB ≠ gN := (by have := (Array.getElem?_eq_some_iff.1 fB_3.out).1; omega); have fM_4 := Lib.hid (row_updH fM_3.out hq); have ne_M_N : gM ≠ gN := (by have := (Array.getElem?_eq_some_iff.1 fM_3.out).1; omega); clear hgx hwx hq
                refine hK.out _ _ ?_ (fun hHeld => ?_)
                · exact HPD.out _ ud4
                clear hK K
                try simp only [Act.put, List.setIfInBounds_toArray, List.set_cons_zero, List.set_cons_succ]
                refine wpAnyH_ready (rs := [10]) (by kernel_rfl) (by simp) ?_
                refine AllReadyH.cons (by simp only [List.getElem?_toArray, List.getElem?_cons_succ, List.getElem?_cons_zero] <;> rfl) (fun K hK => ?_) ?_
                · rw [if_pos (by rfl)]; refine wp_store_row 46 _ _ rfl gM #[.int .i64 1, .slice (some ⟨gA, 0, none⟩) 1 1] rfl rfl _ _ fM_4.out (BIH.out _).out (BZH.out _).out (BOH.out _ _ _).out ?_; obtain ⟨wv5, hwx⟩ : ∃ W' : World, W' = wv4.setRow gM #[.int .i64 1, .slice (some ⟨gA, 0, none⟩) 1 1] := ⟨_, rfl⟩; have fM_5 : Hid (wv5.heap[gM]? = some (.cells #[.int .i64 1, .slice (some ⟨gA, 0, none⟩) 1 1] 46 (0, 0))) := (by show _ = _; rw [hwx]; exact setRow_heap _ _ _ _ _ _ fM_4.out); have fA_5 := Lib.hid (row_setRowO fA_4.out ne_A_M #[.int .i64 1, .slice (some ⟨gA, 0, none⟩) 1 1]); rw [← hwx] at fA_5; have fB_5 := Lib.hid (row_setRowO fB_4.out ne_B_M #[.int .i64 1, .slice (some ⟨gA, 0, none⟩) 1 1]); rw [← hwx] at fB_5; have fN_5 := Lib.hid (row_setRowO fN_4.out ne_M_N.symm #[.int .i64 1, .slice (some ⟨gA, 0, none⟩) 1 1]); rw [← hwx] at fN_5; have ud5 := ud4.setRowNew bM #[.int .i64 1, .slice (some ⟨gA, 0, none⟩) 1 1]; rw [← hwx] at ud5 ⊢; clear hwx
                  refine hK.out _ _ ?_ (fun hHeld => ?_)
                  · exact HPD.out _ ud5
                  clear hK K
                  try simp only [Act.put]
                  refine wpAnyH_ready (rs := [11]) (by kernel_rfl) (by simp) ?_
                  refine AllReadyH.cons (by simp only [List.getElem?_toArray, List.getElem?_cons_succ, List.getElem?_cons_zero] <;> rfl) (fun K hK => ?_) ?_
                  · rw [if_pos (by rfl)]; refine wp_store_row 46 _ _ rfl gN #[.int .i64 1, .slice (some ⟨gB, 0, none⟩) 1 1] rfl rfl _ _ fN_5.out (BIH.out _).out (BZH.out _).out (BOH.out _ _ _).out ?_; obtain ⟨wv6, hwx⟩ : ∃ W' : World, W' = wv5.setRow gN #[.int .i64 1, .slice (some ⟨gB, 0, none⟩) 1 1] := ⟨_, rfl⟩; have fN_6 : Hid (wv6.heap[gN]? = some (.cells #[.int .i64 1, .slice (some ⟨gB, 0, none⟩) 1 1] 46 (0, 0))) := (by show _ = _; rw [hwx]; exact setRow_heap _ _ _ _ _ _ fN_5.out); have fA_6 := Lib.hid (row_setRowO fA_5.out ne_A_N #[.int .i64 1, .slice (some ⟨gB, 0, none⟩) 1 1]); rw [← hwx] at fA_6; have fB_6 := Lib.hid (row_setRowO fB_5.out ne_B_N #[.int .i64 1, .slice (some ⟨gB, 0, none⟩) 1 1]); rw [← hwx] at fB_6; have fM_6 := Lib.hid (row_setRowO fM_5.out ne_M_N #[.int .i64 1, .slice (some ⟨gB, 0, none⟩) 1 1]); rw [← hwx] at fM_6; have ud6 := ud5.setRowNew bN #[.int .i64 1, .slice (some ⟨gB, 0, none⟩) 1 1]; rw [← hwx] at ud6 ⊢; clear hwx
                    refine hK.out _ _ ?_ (fun hHeld => ?_)
                    · exact HPD.out _ ud6
                    clear hK K
                    try simp only [Act.put]
                    refine wpAnyH_done (by kernel_rfl) ?_ _
                    refine NoPanic.normal ?_
                    exact hJ gA gB gM gN wv6 fA_6 fB_6 fM_6 fN_6 ud6
                  exact AllReadyH.nil
                exact AllReadyH.nil
              exact AllReadyH.nil
            refine AllReadyH.cons (by simp only [List.getElem?_toArray, List.getElem?_cons_succ, List.getElem?_cons_zero] <;> rfl) (fun K hK => ?_) ?_
            · go_simp; obtain ⟨gN, wv3, hgx, hwx, fN_3, hq⟩ := alloc_let (wv2) (.cells #[.int .i64 0, .slice none 0 0] 46); rw [← hgx, ← hwx]; have bN : wA.heap.size ≤ gN := (by have := ud2.size; omega); have ud3 := ud2.trans hq; have fA_3 := Lib.hid (row_updH fA_2.out hq); have ne_A_N : gA ≠ gN := (by have := (Array.getElem?_eq_some_iff.1 fA_2.out).1; omega); have fB_3 := Lib.hid (row_updH fB_2.out hq); have ne_B_N : gB ≠ gN := (by have := (Array.getElem?_eq_some_iff.1 fB_2.out).1; omega); clear hgx hwx hq
              refine hK.out _ _ ?_ (fun hHeld => ?_)
              · exact HPD.out _ ud3
              clear hK K
              try simp only [Act.put, List.setIfInBounds_toArray, List.set_cons_zero, List.set_cons_succ]
              refine wpAnyH_ready (rs := [8]) (by kernel_rfl) (by simp) ?_
              refine AllReadyH.cons (by simp only [List.getElem?_toArray, List.getElem?_cons_succ, List.getElem?_cons_zero] <;> rfl) (fun K hK => ?_) ?_
              · go_simp; obtain ⟨gM, wv4, hgx, hwx, fM_4, hq⟩ := alloc_let (wv3) (.cells #[.int .i64 0, .slice none 0 0] 46); rw [← hgx, ← hwx]; have bM : wA.heap.size ≤ gM := (by have := ud3.size; omega); have ud4 := ud3.trans hq; have fA_4 := Lib.hid (row_updH fA_3.out hq); have ne_A_M : gA ≠ gM := (by have := (Array.getElem?_eq_some_iff.1 fA_3.out).1; omega); have fB_4 := Lib.hid (row_updH fB_3.out hq); have ne_B_M : gB ≠ gM := (by have := (Array.getElem?_eq_some_iff.1 fB_3.out).1; omega); have fN_4 := Lib.hid (row_updH fN_3.out hq); have ne_N_M : gN ≠ gM := (by have := (Array.getElem?_eq_some_iff.1 fN_3.out).1; omega); clear hgx hwx hq
                refine hK.out _ _ ?_ (fun hHeld => ?_)
                · exact HPD.out _ ud4
                clear hK K
                try simp only [Act.put, List.setIfInBounds_toArray, List.set_cons_zero, List.set_cons_succ]
                refine wpAnyH_ready (rs := [10]) (by kernel_rfl) (by simp) ?_
                refine AllReadyH.cons (by simp only [List.getElem?_toArray, List.getElem?_cons_succ, List.getElem?_cons_zero] <;> rfl) (fun K hK => ?_) ?_
                · rw [if_pos (by rfl)]; refine wp_store_row 46 _ _ rfl gM #[.int .i64 1, .slice (some ⟨gA, 0, none⟩) 1 1] rfl rfl _ _ fM_4.out (BIH.out _).out (BZH.out _).out (BOH.out _ _ _).out ?_; obtain ⟨wv5, hwx⟩ : ∃ W' : World, W' = wv4.setRow gM #[.int .i64 1, .slice (some ⟨gA, 0, none⟩) 1 1] := ⟨_, rfl⟩; have fM_5 : Hid (wv5.heap[gM]? = some (.cells #[.int .i64 1, .slice (some ⟨gA, 0, none⟩) 1 1] 46 (0, 0))) := (by show _ = _; rw [hwx]; exact setRow_heap _ _ _ _ _ _ fM_4.out); have fA_5 := Lib.hid (row_setRowO fA_4.out ne_A_M #[.int .i64 1, .slice (some ⟨gA, 0, none⟩) 1 1]); rw [← hwx] at fA_5; have fB_5 := Lib.hid (row_setRowO fB_4.out ne_B_M #[.int .i64 1, .slice (some ⟨gA, 0, none⟩) 1 1]); rw [← hwx] at fB_5; have fN_5 := Lib.hid (row_setRowO fN_4.out ne_N_M #[.int .i64 1, .slice (some ⟨gA, 0, none⟩) 1 1]); rw [← hwx] at fN_5; have ud5 := ud4.setRowNew bM #[.int .i64 1, .slice (some ⟨gA, 0, none⟩) 1 1]; rw [← hwx] at ud5 ⊢; clear hwx
                  refine hK.out _ _ ?_ (fun hHeld => ?_)
                  · exact HPD.out _ ud5
                  clear hK K
                  try simp only [Act.put]
                  refine wpAnyH_ready (rs := [11]) (by kernel_rfl) (by simp) ?_
                  refine AllReadyH.cons (by simp only [List.getElem?_toArray, List.getElem?_cons_succ, List.getElem?_cons_zero] <;> rfl) (fun K hK => ?_) ?_
                  · rw [if_pos (by rfl)]; refine wp_store_row 46 _ _ rfl gN #[.int .i64 1, .slice (some ⟨gB, 0, none⟩) 1 1] rfl rfl _ _ fN_5.out (BIH.out _).out (BZH.out _).out (BOH.out _ _ _).out ?_; obtain ⟨wv6, hwx⟩ : ∃ W' : World, W' = wv5.setRow gN #[.int .i64 1, .slice (some ⟨gB, 0, none⟩) 1 1] := ⟨_, rfl⟩; have fN_6 : Hid (wv6.heap[gN]? = some (.cells #[.int .i64 1, .slice (some ⟨gB, 0, none⟩) 1 1] 46 (0, 0))) := (by show _ = _; rw [hwx]; exact setRow_heap _ _ _ _ _ _ fN_5.out); have fA_6 := Lib.hid (row_setRowO fA_5.out ne_A_N #[.int .i64 1, .slice (some ⟨gB, 0, none⟩) 1 1]); rw [← hwx] at fA_6; have fB_6 := Lib.hid (row_setRowO fB_5.out ne_B_N #[.int .i64 1, .slice (some ⟨gB, 0, none⟩) 1 1]); rw [← hwx] at fB_6; have fM_6 := Lib.hid (row_setRowO fM_5.out ne_N_M.symm #[.int .i64 1, .slice (some ⟨gB, 0, none⟩) 1 1]); rw [← hwx] at fM_6; have ud6 := ud5.setRowNew bN #[.int .i64 1, .slice (some ⟨gB, 0, none⟩) 1 1]; rw [← hwx] at ud6 ⊢; clear hwx
                    refine hK.out _ _ ?_ (fun hHeld => ?_)
                    · exact HPD.out _ ud6
                    clear hK K
                    try simp only [Act.put]
                    refine wpAnyH_done (by kernel_rfl) ?_ _
                    refine NoPanic.normal ?_
                    exact hJ gA gB gM gN wv6 fA_6 fB_6 fM_6 fN_6 ud6
                  exact AllReadyH.nil
                exact AllReadyH.nil
              exact AllReadyH.nil
            exact AllReadyH.nil
          refine AllReadyH.cons (by simp only [List.getElem?_toArray, List.getElem?_cons_succ, List.getElem?_cons_zero] <;> rfl) (fun K hK => ?_) ?_
          · go_simp; obtain ⟨gM, wv2, hgx, hwx, fM_2, hq⟩ := alloc_let (wv1) (.cells #[.int .i64 0, .slice none 0 0] 46); rw [← hgx, ← hwx]; have bM : wA.heap.size ≤ gM := (by have := ud1.size; omega); have ud2 := ud1.trans hq; have fA_2 := Lib.hid (row_updH fA_1.out hq); have ne_A_M : gA ≠ gM := (by have := (Array.getElem?_eq_some_iff.1 fA_1.out).1; omega); clear hgx hwx hq
            refine hK.out _ _ ?_ (fun hHeld => ?_)
            · exact HPD.out _ ud2
            clear hK K
            try simp only [Act.put, List.setIfInBounds_toArray, List.set_cons_zero, List.set_cons_succ]
            refine wpAnyH_ready (rs := [6, 9]) (by kernel_rfl) (by simp) ?_
            refine AllReadyH.cons (by simp only [List.getElem?_toArray, List.getElem?_cons_succ, List.getElem?_cons_zero] <;> rfl) (fun K hK => ?_) ?_
            · rw [if_pos (by rfl)]; refine wp_buildRun 44 1 _ rfl _ _ (Eq.trans (congrArg (fun z => (Instr.buildSlice 44 1 z).run Tryz.prog wv2) (by kernel_rfl)) (HB2.out wv2)) ?_; obtain ⟨gB, wv3, hgx, hwx, fB_3, hq⟩ := alloc_let (wv2) (.cells Y 33); rw [← hgx, ← hwx]; have bB : wA.heap.size ≤ gB := (by have := ud2.size; omega); have ud3 := ud2.trans hq; have fA_3 := Lib.hid (row_updH fA_2.out hq); have ne_A_B : gA ≠ gB := (by have := (Array.getElem?_eq_some_iff.1 fA_2.out).1; omega); have fM_3 := Lib.hid (row_updH fM_2.out hq); have ne_M_B : gM ≠ gB := (by have := (Array.getElem?_eq_some_iff.1 fM_2.out).1; omega); clear hgx hwx hq
              refine hK.out _ _ ?_ (fun hHeld => ?_)
              · exact HPD.out _ ud3
              clear hK K
              try simp only [Act.put, List.setIfInBounds_toArray, List.set_cons_zero, List.set_cons_succ]
              refine wpAnyH_take (i := 7) (v := ?v6) (by simp only [List.getElem?_toArray, List.getElem?_cons_succ, List.getElem?_cons_zero] <;> rfl) (by kernel_rfl) (by kernel_rfl) (by kernel_rfl) (fun _ _ _ h => h) (Or.inl ⟨by rfl, ?y6⟩) hHeld ?r6
              case y6 => (intro w hSw; (try dsimp only at hSw); go_simp; first | done | with_reducible rfl | rfl)
              try simp only [Act.put, List.setIfInBounds_toArray, List.set_cons_zero, List.set_cons_succ]
              refine wpAnyH_ready (rs := [9]) (by kernel_rfl) (by simp) ?_
              refine AllReadyH.cons (by simp only [List.getElem?_toArray, List.getElem?_cons_succ, List.getElem?_cons_zero] <;> rfl) (fun K hK => ?_) ?_
              · go_simp; obtain ⟨gN, wv4, hgx, hwx, fN_4, hq⟩ := alloc_let (wv3) (.cells #[.int .i64 0, .slice none 0 0] 46); rw [← hgx, ← hwx]; have bN : wA.heap.size ≤ gN := (by have := ud3.size; omega); have ud4 := ud3.trans hq; have fA_4 := Lib.hid (row_updH fA_3.out hq); have ne_A_N : gA ≠ gN := (by have := (Array.getElem?_eq_some_iff.1 fA_3.out).1; omega); have fM_4 := Lib.hid (row_updH fM_3.out hq); have ne_M_N : gM ≠ gN := (by have := (Array.getElem?_eq_some_iff.1 fM_3.out).1; omega); have fB_4 := Lib.hid (row_updH fB_3.out hq); have ne_B_N : gB ≠ gN := (by have := (Array.getElem?_eq_some_iff.1 fB_3.out).1; omega); clear hgx hwx hq
                refine hK.out _ _ ?_ (fun hHeld => ?_)
                · exact HPD.out _ ud4
                clear hK K
                try simp only [Act.put, List.setIfInBounds_toArray, List.set_cons_zero, List.set_cons_succ]
                refine wpAnyH_ready (rs := [10]) (by kernel_rfl) (by simp) ?_
                refine AllReadyH.cons (by simp only [List.getElem?_toArray, List.getElem?_cons_succ, List.getElem?_cons_zero] <;> rfl) (fun K hK => ?_) ?_
                · rw [if_pos (by rfl)]; refine wp_store_row 46 _ _ rfl gM #[.int .i64 1, .slice (some ⟨gA, 0, none⟩) 1 1] rfl rfl _ _ fM_4.out (BIH.out _).out (BZH.out _).out (BOH.out _ _ _).out ?_; obtain ⟨wv5, hwx⟩ : ∃ W' : World, W' = wv4.setRow gM #[.int .i64 1, .slice (some ⟨gA, 0, none⟩) 1 1] := ⟨_, rfl⟩; have fM_5 : Hid (wv5.heap[gM]? = some (.cells #[.int .i64 1, .slice (some ⟨gA, 0, none⟩) 1 1] 46 (0, 0))) := (by show _ = _; rw [hwx]; exact setRow_heap _ _ _ _ _ _ fM_4.out); have fA_5 := Lib.hid (row_setRowO fA_4.out ne_A_M #[.int .i64 1, .slice (some ⟨gA, 0, none⟩) 1 1]); rw [← hwx] at fA_5; have fB_5 := Lib.hid (row_setRowO fB_4.out ne_M_B.symm #[.int .i64 1, .slice (some ⟨gA, 0, none⟩) 1 1]); rw [← hwx] at fB_5; have fN_5 := Lib.hid (row_setRowO fN_4.out ne_M_N.symm #[.int .i64 1, .slice (some ⟨gA, 0, none⟩) 1 1]); rw [← hwx] at fN_5; have ud5 := ud4.setRowNew bM #[.int .i64 1, .slice (some ⟨gA, 0, none⟩) 1 1]; rw [← hwx] at ud5 ⊢; clear hwx
                  refine hK.out _ _ ?_ (fun hHeld => ?_)
                  · exact HPD.out _ ud5
                  clear hK K
                  try simp only [Act.put]
                  refine wpAnyH_ready (rs := [11]) (by kernel_rfl) (by simp) ?_
                  refine AllReadyH.cons (by simp only [List.getElem?_toArray, List.getElem?_cons_succ, List.getElem?_cons_zero] <;> rfl) (fun K hK => ?_) ?_
                  · rw [if_pos (by rfl)]; refine wp_store_row 46 _ _ rfl gN #[.int .i64 1, .slice (some ⟨gB, 0, none⟩) 1 1] rfl rfl _ _ fN_5.out (BIH.out _).out (BZH.out _).out (BOH.out _ _ _).out ?_; obtain ⟨wv6, hwx⟩ : ∃ W' : World, W' = wv5.setRow gN #[.int .i64 1, .slice (some ⟨gB, 0, none⟩) 1 1] := ⟨_, rfl⟩; have fN_6 : Hid (wv6.heap[gN]? = some (.cells #[.int .i64 1, .slice (some ⟨gB, 0, none⟩) 1 1] 46 (0, 0))) := (by show _ = _; rw [hwx]; exact setRow_heap _ _ _ _ _ _ fN_5.out); have fA_6 := Lib.hid (row_setRowO fA_5.out ne_A_N #[.int .i64 1, .slice (some ⟨gB, 0, none⟩) 1 1]); rw [← hwx] at fA_6; have fM_6 := Lib.hid (row_setRowO fM_5.out ne_M_N #[.int .i64 1, .slice (some ⟨gB, 0, none⟩) 1 1]); rw [← hwx] at fM_6; have fB_6 := Lib.hid (row_setRowO fB_5.out ne_B_N #[.int .i64 1, .slice (some ⟨gB, 0, none⟩) 1 1]); rw [← hwx] at fB_6; have ud6 := ud5.setRowNew bN #[.int .i64 1, .slice (some ⟨gB, 0, none⟩) 1 1]; rw [← hwx] at ud6 ⊢; clear hwx
                    refine hK.out _ _ ?_ (fun hHeld => ?_)
                    · exact HPD.out _ ud6
                    clear hK K
                    try simp only [Act.put]
                    refine wpAnyH_done (by kernel_rfl) ?_ _
                    refine NoPanic.normal ?_
                    exact hJ gA gB gM gN wv6 fA_6 fB_6 fM_6 fN_6 ud6
                  exact AllReadyH.nil
                exact AllReadyH.nil
              exact AllReadyH.nil
            refine AllReadyH.cons (by simp only [List.getElem?_toArray, List.getElem?_cons_succ, List.getElem?_cons_zero] <;> rfl) (fun K hK => ?_) ?_
            · go_simp; obtain ⟨gN, wv3, hgx, hwx, fN_3, hq⟩ := alloc_let (wv2) (.cells #[.int .i64 0, .slice none 0 0] 46); rw [← hgx, ← hwx]; have bN : wA.heap.size ≤ gN := (by have := ud2.size; omega); have ud3 := ud2.trans hq; have fA_3 := Lib.hid (row_updH fA_2.out hq); have ne_A_N : gA ≠ gN := (by have := (Array.getElem?_eq_some_iff.1 fA_2.out).1; omega); have fM_3 := Lib.hid (row_updH fM_2.out hq); have ne_M_N : gM ≠ gN := (by have := (Array.getElem?_eq_some_iff.1 fM_2.out).1; omega); clear hgx hwx hq
              refine hK.out _ _ ?_ (fun hHeld => ?_)
              · exact HPD.out _ ud3
              clear hK K
              try simp only [Act.put, List.setIfInBounds_toArray, List.set_cons_zero, List.set_cons_succ]
              refine wpAnyH_ready (rs := [6, 10]) (by kernel_rfl) (by simp) ?_
              refine AllReadyH.cons (by simp only [List.getElem?_toArray, List.getElem?_cons_succ, List.getElem?_cons_zero] <;> rfl) (fun K hK => ?_) ?_
              · rw [if_pos (by rfl)]; refine wp_buildRun 44 1 _ rfl _ _ (Eq.trans (congrArg (fun z => (Instr.buildSlice 44 1 z).run Tryz.prog wv3) (by kernel_rfl)) (HB2.out wv3)) ?_; obtain ⟨gB, wv4, hgx, hwx, fB_4, hq⟩ := alloc_let (wv3) (.cells Y 33); rw [← hgx, ← hwx]; have bB : wA.heap.size ≤ gB := (by have := ud3.size; omega); have ud4 := ud3.trans hq; have fA_4 := Lib.hid (row_updH fA_3.out hq); have ne_A_B : gA ≠ gB := (by have := (Array.getElem?_eq_some_iff.1 fA_3.out).1; omega); have fM_4 := Lib.hid (row_updH fM_3.out hq); have ne_M_B : gM ≠ gB := (by have := (Array.getElem?_eq_some_iff.1 fM_3.out).1; omega); have fN_4 := Lib.hid (row_updH fN_3.out hq); have ne_N_B : gN ≠ gB := (by have := (Array.getElem?_eq_some_iff.1 fN_3.out).1; omega); clear hgx hwx hq
                refine hK.out _ _ ?_ (fun hHeld => ?_)
                · exact HPD.out _ ud4
                clear hK K
                try simp only [Act.put, List.setIfInBounds_toArray, List.set_cons_zero, List.set_cons_succ]
                refine wpAnyH_take (i := 7) (v := ?v7) (by simp only [List.getElem?_toArray, List.getElem?_cons_succ, List.getElem?_cons_zero] <;> rfl) (by kernel_rfl) (by kernel_rfl) (by kernel_rfl) (fun _ _ _ h => h) (Or.inl ⟨by rfl, ?y7⟩) hHeld ?r7
                case y7 => (intro w hSw; (try dsimp only at hSw); go_simp; first | done | with_reducible rfl | rfl)
                try simp only [Act.put, List.setIfInBounds_toArray, List.set_cons_zero, List.set_cons_succ]
                refine wpAnyH_ready (rs := [10]) (by kernel_rfl) (by simp) ?_
                refine AllReadyH.cons (by simp only [List.getElem?_toArray, List.getElem?_cons_succ, List.getElem?_cons_zero] <;> rfl) (fun K hK => ?_) ?_
                · rw [if_pos (by rfl)]; refine wp_store_row 46 _ _ rfl gM #[.int .i64 1, .slice (some ⟨gA, 0, none⟩) 1 1] rfl rfl _ _ fM_4.out (BIH.out _).out (BZH.out _).out (BOH.out _ _ _).out ?_; obtain ⟨wv5, hwx⟩ : ∃ W' : World, W' = wv4.setRow gM #[.int .i64 1, .slice (some ⟨gA, 0, none⟩) 1 1] := ⟨_, rfl⟩; have fM_5 : Hid (wv5.heap[gM]? = some (.cells #[.int .i64 1, .slice (some ⟨gA, 0, none⟩) 1 1] 46 (0, 0))) := (by show _ = _; rw [hwx]; exact setRow_heap _ _ _ _ _ _ fM_4.out); have fA_5 := Lib.hid (row_setRowO fA_4.out ne_A_M #[.int .i64 1, .slice (some ⟨gA, 0, none⟩) 1 1]); rw [← hwx] at fA_5; have fN_5 := Lib.hid (row_setRowO fN_4.out ne_M_N.symm #[.int .i64 1, .slice (some ⟨gA, 0, none⟩) 1 1]); rw [← hwx] at fN_5; have fB_5 := Lib.hid (row_setRowO fB_4.out ne_M_B.symm #[.int .i64 1, .slice (some ⟨gA, 0, none⟩) 1 1]); rw [← hwx] at fB_5; have ud5 := ud4.setRowNew bM #[.int .i64 1, .slice (some ⟨gA, 0, none⟩) 1 1]; rw [← hwx] at ud5 ⊢; clear hwx
                  refine hK.out _ _ ?_ (fun hHeld => ?_)
                  · exact HPD.out _ ud5
                  clear hK K
                  try simp only [Act.put]
                  refine wpAnyH_ready (rs := [11]) (by kernel_rfl) (by simp) ?_
                  refine AllReadyH.cons (by simp only [List.getElem?_toArray, List.getElem?_cons_succ, List.getElem?_cons_zero] <;> rfl) (fun K hK => ?_) ?_
                  · rw [if_pos (by rfl)]; refine wp_store_row 46 _ _ rfl gN #[.int .i64 1, .slice (some ⟨gB, 0, none⟩) 1 1] rfl rfl _ _ fN_5.out (BIH.out _).out (BZH.out _).out (BOH.out _ _ _).out ?_; obtain ⟨wv6, hwx⟩ : ∃ W' : World, W' = wv5.setRow gN #[.int .i64 1, .slice (some ⟨gB, 0, none⟩) 1 1] := ⟨_, rfl⟩; have fN_6 : Hid (wv6.heap[gN]? = some (.cells #[.int .i64 1, .slice (some ⟨gB, 0, none⟩) 1 1] 46 (0, 0))) := (by show _ = _; rw [hwx]; exact setRow_heap _ _ _ _ _ _ fN_5.out); have fA_6 := Lib.hid (row_setRowO fA_5.out ne_A_N #[.int .i64 1, .slice (some ⟨gB, 0, none⟩) 1 1]); rw [← hwx] at fA_6; have fM_6 := Lib.hid (row_setRowO fM_5.out ne_M_N #[.int .i64 1, .slice (some ⟨gB, 0, none⟩) 1 1]); rw [← hwx] at fM_6; have fB_6 := Lib.hid (row_setRowO fB_5.out ne_N_B.symm #[.int .i64 1, .slice (some ⟨gB, 0, none⟩) 1 1]); rw [← hwx] at fB_6; have ud6 := ud5.setRowNew bN #[.int .i64 1, .slice (some ⟨gB, 0, none⟩) 1 1]; rw [← hwx] at ud6 ⊢; clear hwx
                    refine hK.out _ _ ?_ (fun hHeld => ?_)
                    · exact HPD.out _ ud6
                    clear hK K
                    try simp only [Act.put]
                    refine wpAnyH_done (by kernel_rfl) ?_ _
                    refine NoPanic.normal ?_
                    exact hJ gA gB gM gN wv6 fA_6 fB_6 fM_6 fN_6 ud6
                  exact AllReadyH.nil
                exact AllReadyH.nil
              refine AllReadyH.cons (by simp only [List.getElem?_toArray, List.getElem?_cons_succ, List.getElem?_cons_zero] <;> rfl) (fun K hK => ?_) ?_
              · rw [if_pos (by rfl)]; refine wp_store_row 46 _ _ rfl gM #[.int .i64 1, .slice (some ⟨gA, 0, none⟩) 1 1] rfl rfl _ _ fM_3.out (BIH.out _).out (BZH.out _).out (BOH.out _ _ _).out ?_; obtain ⟨wv4, hwx⟩ : ∃ W' : World, W' = wv3.setRow gM #[.int .i64 1, .slice (some ⟨gA, 0, none⟩) 1 1] := ⟨_, rfl⟩; have fM_4 : Hid (wv4.heap[gM]? = some (.cells #[.int .i64 1, .slice (some ⟨gA, 0, none⟩) 1 1] 46 (0, 0))) := (by show _ = _; rw [hwx]; exact setRow_heap _ _ _ _ _ _ fM_3.out); have fA_4 := Lib.hid (row_setRowO fA_3.out ne_A_M #[.int .i64 1, .slice (some ⟨gA, 0, none⟩) 1 1]); rw [← hwx] at fA_4; have fN_4 := Lib.hid (row_setRowO fN_3.out ne_M_N.symm #[.int .i64 1, .slice (some ⟨gA, 0, none⟩) 1 1]); rw [← hwx] at fN_4; have ud4 := ud3.setRowNew bM #[.int .i64 1, .slice (some ⟨gA, 0, none⟩) 1 1]; rw [← hwx] at ud4 ⊢; clear hwx
                refine hK.out _ _ ?_ (fun hHeld => ?_)
                · exact HPD.out _ ud4
                clear hK K
                try simp only [Act.put]
                refine wpAnyH_ready (rs := [6]) (by kernel_rfl) (by simp) ?_
                refine AllReadyH.cons (by simp only [List.getElem?_toArray, List.getElem?_cons_succ, List.getElem?_cons_zero] <;> rfl) (fun K hK => ?_) ?_
                · rw [if_pos (by rfl)]; refine wp_buildRun 44 1 _ rfl _ _ (Eq.trans (congrArg (fun z => (Instr.buildSlice 44 1 z).run Tryz.prog wv4) (by kernel_rfl)) (HB2.out wv4)) ?_; obtain ⟨gB, wv5, hgx, hwx, fB_5, hq⟩ := alloc_let (wv4) (.cells Y 33); rw [← hgx, ← hwx]; have bB : wA.heap.size ≤ gB := (by have := ud4.size; omega); have ud5 := ud4.trans hq; have fA_5 := Lib.hid (row_updH fA_4.out hq); have ne_A_B : gA ≠ gB := (by have := (Array.getElem?_eq_some_iff.1 fA_4.out).1; omega); have fM_5 := Lib.hid (row_updH fM_4.out hq); have ne_M_B : gM ≠ gB := (by have := (Array.getElem?_eq_some_iff.1 fM_4.out).1; omega); have fN_5 := Lib.hid (row_updH fN_4.out hq); have ne_N_B : gN ≠ gB := (by have := (Array.getElem?_eq_some_iff.1 fN_4.out).1; omega); clear hgx hwx hq
                  refine hK.out _ _ ?_ (fun hHeld => ?_)
                  · exact HPD.out _ ud5
                  clear hK K
                  try simp only [Act.put, List.setIfInBounds_toArray, List.set_cons_zero, List.set_cons_succ]
                  refine wpAnyH_take (i := 7) (v := ?v8) (by simp only [List.getElem?_toArray, List.getElem?_cons_succ, List.getElem?_cons_zero] <;> rfl) (by kernel_rfl) (by kernel_rfl) (by kernel_rfl) (fun _ _ _ h => h) (Or.inl ⟨by rfl, ?y8⟩) hHeld ?r8
                  case y8 => (intro w hSw; (try dsimp only at hSw); go_simp; first | done | with_reducible rfl | rfl)
                  try simp only [Act.put, List.setIfInBounds_toArray, List.set_cons_zero, List.set_cons_succ]
                  refine wpAnyH_ready (rs := [11]) (by kernel_rfl) (by simp) ?_
                  refine AllReadyH.cons (by simp only [List.getElem?_toArray, List.getElem?_cons_succ, List.getElem?_cons_zero] <;> rfl) (fun K hK => ?_) ?_
                  · rw [if_pos (by rfl)]; refine wp_store_row 46 _ _ rfl gN #[.int .i64 1, .slice (some ⟨gB, 0, none⟩) 1 1] rfl rfl _ _ fN_5.out (BIH.out _).out (BZH.out _).out (BOH.out _ _ _).out ?_; obtain ⟨wv6, hwx⟩ : ∃ W' : World, W' = wv5.setRow gN #[.int .i64 1, .slice (some ⟨gB, 0, none⟩) 1 1] := ⟨_, rfl⟩; have fN_6 : Hid (wv6.heap[gN]? = some (.cells #[.int .i64 1, .slice (some ⟨gB, 0, none⟩) 1 1] 46 (0, 0))) := (by show _ = _; rw [hwx]; exact setRow_heap _ _ _ _ _ _ fN_5.out); have fA_6 := Lib.hid (row_setRowO fA_5.out ne_A_N #[.int .i64 1, .slice (some ⟨gB, 0, none⟩) 1 1]); rw [← hwx] at fA_6; have fM_6 := Lib.hid (row_setRowO fM_5.out ne_M_N #[.int .i64 1, .slice (some ⟨gB, 0, none⟩) 1 1]); rw [← hwx] at fM_6; have fB_6 := Lib.hid (row_setRowO fB_5.out ne_N_B.symm #[.int .i64 1, .slice (some ⟨gB, 0, none⟩) 1 1]); rw [← hwx] at fB_6; have ud6 := ud5.setRowNew bN #[.int .i64 1, .slice (some ⟨gB, 0, none⟩) 1 1]; rw [← hwx] at ud6 ⊢; clear hwx
                    refine hK.out _ _ ?_ (fun hHeld => ?_)
                    · exact HPD.out _ ud6
                    clear hK K
                    try simp only [Act.put]
                    refine wpAnyH_done (by kernel_rfl) ?_ _
                    refine NoPanic.normal ?_
                    exact hJ gA gB gM gN wv6 fA_6 fB_6 fM_6 fN_6 ud6
                  exact AllReadyH.nil
                exact AllReadyH.nil
              exact AllReadyH.nil
            exact AllReadyH.nil
          refine AllReadyH.cons (by simp only [List.getElem?_toArray, List.getElem?_cons_succ, List.getElem?_cons_zero] <;> rfl) (fun K hK => ?_) ?_
          · go_simp; obtain ⟨gN, wv2, hgx, hwx, fN_2, hq⟩ := alloc_let (wv1) (.cells #[.int .i64 0, .slice none 0 0] 46); rw [← hgx, ← hwx]; have bN : wA.heap.size ≤ gN := (by have := ud1.size; omega); have ud2 := ud1.trans hq; have fA_2 := Lib.hid (row_updH fA_1.out hq); have ne_A_N : gA ≠ gN := (by have := (Array.getElem?_eq_some_iff.1 fA_1.out).1; omega); clear hgx hwx hq
            refine hK.out _ _ ?_ (fun hHeld => ?_)
            · exact HPD.out _ ud2
            clear hK K
            try simp only [Act.put, List.setIfInBounds_toArray, List.set_cons_zero, List.set_cons_succ]
            refine wpAnyH_ready (rs := [6, 8]) (by kernel_rfl) (by simp) ?_
            refine AllReadyH.cons (by simp only [List.getElem?_toArray, List.getElem?_cons_succ, List.getElem?_cons_zero] <;> rfl) (fun K hK => ?_) ?_
            · rw [if_pos (by rfl)]; refine wp_buildRun 44 1 _ rfl _ _ (Eq.trans (congrArg (fun z => (Instr.buildSlice 44 1 z).run Tryz.prog wv2) (by kernel_rfl)) (HB2.out wv2)) ?_; obtain ⟨gB, wv3, hgx, hwx, fB_3, hq⟩ := alloc_let (wv2) (.cells Y 33); rw [← hgx, ← hwx]; have bB : wA.heap.size ≤ gB := (by have := ud2.size; omega); have ud3 := ud2.trans hq; have fA_3 := Lib.hid (row_updH fA_2.out hq); have ne_A_B : gA ≠ gB := (by have := (Array.getElem?_eq_some_iff.1 fA_2.out).1; omega); have fN_3 := Lib.hid (row_updH fN_2.out hq); have ne_N_B : gN ≠ gB := (by have := (Array.getElem?_eq_some_iff.1 fN_2.out).1; omega); clear hgx hwx hq
              refine hK.out _ _ ?_ (fun hHeld => ?_)
              · exact HPD.out _ ud3
              clear hK K
              try simp only [Act.put, List.setIfInBounds_toArray, List.set_cons_zero, List.set_cons_succ]
              refine wpAnyH_take (i := 7) (v := ?v9) (by simp only [List.getElem?_toArray, List.getElem?_cons_succ, List.getElem?_cons_zero] <;> rfl) (by kernel_rfl) (by kernel_rfl) (by kernel_rfl) (fun _ _ _ h => h) (Or.inl ⟨by rfl, ?y9⟩) hHeld ?r9
              case y9 => (intro w hSw; (try dsimp only at hSw); go_simp; first | done | with_reducible rfl | rfl)
              try simp only [Act.put, List.setIfInBounds_toArray, List.set_cons_zero, List.set_cons_succ]
              refine wpAnyH_ready (rs := [8]) (by kernel_rfl) (by simp) ?_
              refine AllReadyH.cons (by simp only [List.getElem?_toArray, List.getElem?_cons_succ, List.getElem?_cons_zero] <;> rfl) (fun K hK => ?_) ?_
              · go_simp; obtain ⟨gM, wv4, hgx, hwx, fM_4, hq⟩ := alloc_let (wv3) (.cells #[.int .i64 0, .slice none 0 0] 46); rw [← hgx, ← hwx]; have bM : wA.heap.size ≤ gM := (by have := ud3.size; omega); have ud4 := ud3.trans hq; have fA_4 := Lib.hid (row_updH fA_3.out hq); have ne_A_M : gA ≠ gM := (by have := (Array.getElem?_eq_some_iff.1 fA_3.out).1; omega); have fN_4 := Lib.hid (row_updH fN_3.out hq); have ne_N_M : gN ≠ gM := (by have := (Array.getElem?_eq_some_iff.1 fN_3.out).1; omega); have fB_4 := Lib.hid (row_updH fB_3.out hq); have ne_B_M : gB ≠ gM := (by have := (Array.getElem?_eq_some_iff.1 fB_3.out).1; omega); clear hgx hwx hq
                refine hK.out _ _ ?_ (fun hHeld => ?_)
                · exact HPD.out _ ud4
                clear hK K
                try simp only [Act.put, List.setIfInBounds_toArray, List.set_cons_zero, List.set_cons_succ]
                refine wpAnyH_ready (rs := [10]) (by kernel_rfl) (by simp) ?_
                refine AllReadyH.cons (by simp only [List.getElem?_toArray, List.getElem?_cons_succ, List.getElem?_cons_zero] <;> rfl) (fun K hK => ?_) ?_
                · rw [if_pos (by rfl)]; refine wp_store_row 46 _ _ rfl gM #[.int .i64 1, .slice (some ⟨gA, 0, none⟩) 1 1] rfl rfl _ _ fM_4.out (BIH.out _).out (BZH.out _).out (BOH.out _ _ _).out ?_; obtain ⟨wv5, hwx⟩ : ∃ W' : World, W' = wv4.setRow gM #[.int .i64 1, .slice (some ⟨gA, 0, none⟩) 1 1] := ⟨_, rfl⟩; have fM_5 : Hid (wv5.heap[gM]? = some (.cells #[.int .i64 1, .slice (some ⟨gA, 0, none⟩) 1 1] 46 (0, 0))) := (by show _ = _; rw [hwx]; exact setRow_heap _ _ _ _ _ _ fM_4.out); have fA_5 := Lib.hid (row_setRowO fA_4.out ne_A_M #[.int .i64 1, .slice (some ⟨gA, 0, none⟩) 1 1]); rw [← hwx] at fA_5; have fN_5 := Lib.hid (row_setRowO fN_4.out ne_N_M #[.int .i64 1, .slice (some ⟨gA, 0, none⟩) 1 1]); rw [← hwx] at fN_5; have fB_5 := Lib.hid (row_setRowO fB_4.out ne_B_M #[.int .i64 1, .slice (some ⟨gA, 0, none⟩) 1 1]); rw [← hwx] at fB_5; have ud5 := ud4.setRowNew bM #[.int .i64 1, .slice (some ⟨gA, 0, none⟩) 1 1]; rw [← hwx] at ud5 ⊢; clear hwx
                  refine hK.out _ _ ?_ (fun hHeld => ?_)
                  · exact HPD.out _ ud5
                  clear hK K
                  try simp only [Act.put]
                  refine wpAnyH_ready (rs := [11]) (by kernel_rfl) (by simp) ?_
                  refine AllReadyH.cons (by simp only [List.getElem?_toArray, List.getElem?_cons_succ, List.getElem?_cons_zero] <;> rfl) (fun K hK => ?_) ?_
                  · rw [if_pos (by rfl)]; refine wp_store_row 46 _ _ rfl gN #[.int .i64 1, .slice (some ⟨gB, 0, none⟩) 1 1] rfl rfl _ _ fN_5.out (BIH.out _).out (BZH.out _).out (BOH.out _ _ _).out ?_; obtain ⟨wv6, hwx⟩ : ∃ W' : World, W' = wv5.setRow gN #[.int .i64 1, .slice (some ⟨gB, 0, none⟩) 1 1] := ⟨_, rfl⟩; have fN_6 : Hid (wv6.heap[gN]? = some (.cells #[.int .i64 1, .slice (some ⟨gB, 0, none⟩) 1 1] 46 (0, 0))) := (by show _ = _; rw [hwx]; exact setRow_heap _ _ _ _ _ _ fN_5.out); have fA_6 := Lib.hid (row_setRowO fA_5.out ne_A_N #[.int .i64 1, .slice (some ⟨gB, 0, none⟩) 1 1]); rw [← hwx] at fA_6; have fB_6 := Lib.hid (row_setRowO fB_5.out ne_N_B.symm #[.int .i64 1, .slice (some ⟨gB, 0, none⟩) 1 1]); rw [← hwx] at fB_6; have fM_6 := Lib.hid (row_setRowO fM_5.out ne_N_M.symm #[.int .i64 1, .slice (some ⟨gB, 0, none⟩) 1 1]); rw [← hwx] at fM_6; have ud6 := ud5.setRowNew bN #[.int .i64 1, .slice (some ⟨gB, 0, none⟩) 1 1]; rw [← hwx] at ud6 ⊢; clear hwx
                    refine hK.out _ _ ?_ (fun hHeld => ?_)
                    · exact HPD.out _ ud6
                    clear hK K
                    try simp only [Act.put]
                    refine wpAnyH_done (by kernel_rfl) ?_ _
                    refine NoPanic.normal ?_
                    exact hJ gA gB gM gN wv6 fA_6 fB_6 fM_6 fN_6 ud6
                  exact AllReadyH.nil
                exact AllReadyH.nil
              exact AllReadyH.nil
            refine AllReadyH.cons (by simp only [List.getElem?_toArray, List.getElem?_cons_succ, List.getElem?_cons_zero] <;> rfl) (fun K hK => ?_) ?_
            · go_simp; obtain ⟨gM, wv3, hgx, hwx, fM_3, hq⟩ := alloc_let (wv2) (.cells #[.int .i64 0, .slice none 0 0] 46); rw [← hgx, ← hwx]; have bM : wA.heap.size ≤ gM := (by have := ud2.size; omega); have ud3 := ud2.trans hq; have fA_3 := Lib.hid (row_updH fA_2.out hq); have ne_A_M : gA ≠ gM := (by have := (Array.getElem?_eq_some_iff.1 fA_2.out).1; omega); have fN_3 := Lib.hid (row_updH fN_2.out hq); have ne_N_M : gN ≠ gM := (by have := (Array.getElem?_eq_some_iff.1 fN_2.out).1; omega); clear hgx hwx hq
              refine hK.out _ _ ?_ (fun hHeld => ?_)
              · exact HPD.out _ ud3
              clear hK K
              try simp only [Act.put, List.setIfInBounds_toArray, List.set_cons_zero, List.set_cons_succ]
              refine wpAnyH_ready (rs := [6, 10]) (by kernel_rfl) (by simp) ?_
              refine AllReadyH.cons (by simp only [List.getElem?_toArray, List.getElem?_cons_succ, List.getElem?_cons_zero] <;> rfl) (fun K hK => ?_) ?_
              · rw [if_pos (by rfl)]; refine wp_buildRun 44 1 _ rfl _ _ (Eq.trans (congrArg (fun z => (Instr.buildSlice 44 1 z).run Tryz.prog wv3) (by kernel_rfl)) (HB2.out wv3)) ?_; obtain ⟨gB, wv4, hgx, hwx, fB_4, hq⟩ := alloc_let (wv3) (.cells Y 33); rw [← hgx, ← hwx]; have bB : wA.heap.size ≤ gB := (by have := ud3.size; omega); have ud4 := ud3.trans hq; have fA_4 := Lib.hid (row_updH fA_3.out hq); have ne_A_B : gA ≠ gB := (by have := (Array.getElem?_eq_some_iff.1 fA_3.out).1; omega); have fN_4 := Lib.hid (row_updH fN_3.out hq); have ne_N_B : gN ≠ gB := (by have := (Array.getElem?_eq_some_iff.1 fN_3.out).1; omega); have fM_4 := Lib.hid (row_updH fM_3.out hq); have ne_M_B : gM ≠ gB := (by have := (Array.getElem?_eq_some_iff.1 fM_3.out).1; omega); clear hgx hwx hq
                refine hK.out _ _ ?_ (fun hHeld => ?_)
                · exact HPD.out _ ud4
                clear hK K
                try simp only [Act.put, List.setIfInBounds_toArray, List.set_cons_zero, List.set_cons_succ]
                refine wpAnyH_take (i := 7) (v := ?v10) (by simp only [List.getElem?_toArray, List.getElem?_cons_succ, List.getElem?_cons_zero] <;> rfl) (by kernel_rfl) (by kernel_rfl) (by kernel_rfl) (fun _ _ _ h => h) (Or.inl ⟨by rfl, ?y10⟩) hHeld ?r10
                case y10 => (intro w hSw; (try dsimp only at hSw); go_simp; first | done | with_reducible rfl | rfl)
                try simp only [Act.put, List.setIfInBounds_toArray, List.set_cons_zero, List.set_cons_succ]
                refine wpAnyH_ready (rs := [10]) (by kernel_rfl) (by simp) ?_
                refine AllReadyH.cons (by simp only [List.getElem?_toArray, List.getElem?_cons_succ, List.getElem?_cons_zero] <;> rfl) (fun K hK => ?_) ?_
                · rw [if_pos (by rfl)]; refine wp_store_row 46 _ _ rfl gM #[.int .i64 1, .slice (some ⟨gA, 0, none⟩) 1 1] rfl rfl _ _ fM_4.out (BIH.out _).out (BZH.out _).out (BOH.out _ _ _).out ?_; obtain ⟨wv5, hwx⟩ : ∃ W' : World, W' = wv4.setRow gM #[.int .i64 1, .slice (some ⟨gA, 0, none⟩) 1 1] := ⟨_, rfl⟩; have fM_5 : Hid (wv5.heap[gM]? = some (.cells #[.int .i64 1, .slice (some ⟨gA, 0, none⟩) 1 1] 46 (0, 0))) := (by show _ = _; rw [hwx]; exact setRow_heap _ _ _ _ _ _ fM_4.out); have fA_5 := Lib.hid (row_setRowO fA_4.out ne_A_M #[.int .i64 1, .slice (some ⟨gA, 0, none⟩) 1 1]); rw [← hwx] at fA_5; have fN_5 := Lib.hid (row_setRowO fN_4.out ne_N_M #[.int .i64 1, .slice (some ⟨gA, 0, none⟩) 1 1]); rw [← hwx] at fN_5; have fB_5 := Lib.hid (row_setRowO fB_4.out ne_M_B.symm #[.int .i64 1, .slice (some ⟨gA, 0, none⟩) 1 1]); rw [← hwx] at fB_5; have ud5 := ud4.setRowNew bM #[.int .i64 1, .slice (some ⟨gA, 0, none⟩) 1 1]; rw [← hwx] at ud5 ⊢; clear hwx
                  refine hK.out _ _ ?_ (fun hHeld => ?_)
                  · exact HPD.out _ ud5
                  clear hK K
                  try simp only [Act.put]
                  refine wpAnyH_ready (rs := [11]) (by kernel_rfl) (by simp) ?_
                  refine AllReadyH.cons (by simp only [List.getElem?_toArray, List.getElem?_cons_succ, List.getElem?_cons_zero] <;> rfl) (fun K hK => ?_) ?_
                  · rw [if_pos (by rfl)]; refine wp_store_row 46 _ _ rfl gN #[.int .i64 1, .slice (some ⟨gB, 0, none⟩) 1 1] rfl rfl _ _ fN_5.out (BIH.out _).out (BZH.out _).out (BOH.out _ _ _).out ?_; obtain ⟨wv6, hwx⟩ : ∃ W' : World, W' = wv5.setRow gN #[.int .i64 1, .slice (some ⟨gB, 0, none⟩) 1 1] := ⟨_, rfl⟩; have fN_6 : Hid (wv6.heap[gN]? = some (.cells #[.int .i64 1, .slice (some ⟨gB, 0, none⟩) 1 1] 46 (0, 0))) := (by show _ = _; rw [hwx]; exact setRow_heap _ _ _ _ _ _ fN_5.out); have fA_6 := Lib.hid (row_setRowO fA_5.out ne_A_N #[.int .i64 1, .slice (some ⟨gB, 0, none⟩) 1 1]); rw [← hwx] at fA_6; have fM_6 := Lib.hid (row_setRowO fM_5.out ne_N_M.symm #[.int .i64 1, .slice (some ⟨gB, 0, none⟩) 1 1]); rw [← hwx] at fM_6; have fB_6 := Lib.hid (row_setRowO fB_5.out ne_N_B.symm #[.int .i64 1, .slice (some ⟨gB, 0, none⟩) 1 1]); rw [← hwx] at fB_6; have ud6 := ud5.setRowNew bN #[.int .i64 1, .slice (some ⟨gB, 0, none⟩) 1 1]; rw [← hwx] at ud6 ⊢; clear hwx
                    refine hK.out _ _ ?_ (fun hHeld => ?_)
                    · exact HPD.out _ ud6
                    clear hK K
                    try simp only [Act.put]
                    refine wpAnyH_done (by kernel_rfl) ?_ _
                    refine NoPanic.normal ?_
                    exact hJ gA gB gM gN wv6 fA_6 fB_6 fM_6 fN_6 ud6
                  exact AllReadyH.nil
                exact AllReadyH.nil
              refine AllReadyH.cons (by simp only [List.getElem?_toArray, List.getElem?_cons_succ, List.getElem?_cons_zero] <;> rfl) (fun K hK => ?_) ?_
              · rw [if_pos (by rfl)]; refine wp_store_row 46 _ _ rfl gM #[.int .i64 1, .slice (some ⟨gA, 0, none⟩) 1 1] rfl rfl _ _ fM_3.out (BIH.out _).out (BZH.out _).out (BOH.out _ _ _).out ?_; obtain ⟨wv4, hwx⟩ : ∃ W' : World, W' = wv3.setRow gM #[.int .i64 1, .slice (some ⟨gA, 0, none⟩) 1 1] := ⟨_, rfl⟩; have fM_4 : Hid (wv4.heap[gM]? = some (.cells #[.int .i64 1, .slice (some ⟨gA, 0, none⟩) 1 1] 46 (0, 0))) := (by show _ = _; rw [hwx]; exact setRow_heap _ _ _ _ _ _ fM_3.out); have fA_4 := Lib.hid (row_setRowO fA_3.out ne_A_M #[.int .i64 1, .slice (some ⟨gA, 0, none⟩) 1 1]); rw [← hwx] at fA_4; have fN_4 := Lib.hid (row_setRowO fN_3.out ne_N_M #[.int .i64 1, .slice (some ⟨gA, 0, none⟩) 1 1]); rw [← hwx] at fN_4; have ud4 := ud3.setRowNew bM #[.int .i64 1, .slice (some ⟨gA, 0, none⟩) 1 1]; rw [← hwx] at ud4 ⊢; clear hwx
                refine hK.out _ _ ?_ (fun hHeld => ?_)
                · exact HPD.out _ ud4
                clear hK K
                try simp only [Act.put]
                refine wpAnyH_ready (rs := [6]) (by kernel_rfl) (by simp) ?_
                refine AllReadyH.cons (by simp only [List.getElem?_toArray, List.getElem?_cons_succ, List.getElem?_cons_zero] <;> rfl) (fun K hK => ?_) ?_
                · rw [if_pos (by rfl)]; refine wp_buildRun 44 1 _ rfl _ _ (Eq.trans (congrArg (fun z => (Instr.buildSlice 44 1 z).run Tryz.prog wv4) (by kernel_rfl)) (HB2.out wv4)) ?_; obtain ⟨gB, wv5, hgx, hwx, fB_5, hq⟩ := alloc_let (wv4) (.cells Y 33); rw [← hgx, ← hwx]; have bB : wA.heap.size ≤ gB := (by have := ud4.size; omega); have ud5 := ud4.trans hq; have fA_5 := Lib.hid (row_updH fA_4.out hq); have ne_A_B : gA ≠ gB := (by have := (Array.getElem?_eq_some_iff.1 fA_4.out).1; omega); have fN_5 := Lib.hid (row_updH fN_4.out hq); have ne_N_B : gN ≠ gB := (by have := (Array.getElem?_eq_some_iff.1 fN_4.out).1; omega); have fM_5 := Lib.hid (row_updH fM_4.out hq); have ne_M_B : gM ≠ gB := (by have := (Array.getElem?_eq_some_iff.1 fM_4.out).1; omega); clear hgx hwx hq
                  refine hK.out _ _ ?_ (fun hHeld => ?_)
                  · exact HPD.out _ ud5
                  clear hK K
                  try simp only [Act.put, List.setIfInBounds_toArray, List.set_cons_zero, List.set_cons_succ]
                  refine wpAnyH_take (i := 7) (v := ?v11) (by simp only [List.getElem?_toArray, List.getElem?_cons_succ, List.getElem?_cons_zero] <;> rfl) (by kernel_rfl) (by kernel_rfl) (by kernel_rfl) (fun _ _ _ h => h) (Or.inl ⟨by rfl, ?y11⟩) hHeld ?r11
                  case y11 => (intro w hSw; (try dsimp only at hSw); go_simp; first | done | with_reducible rfl | rfl)
                  try simp only [Act.put, List.setIfInBounds_toArray, List.set_cons_zero, List.set_cons_succ]
                  refine wpAnyH_ready (rs := [11]) (by kernel_rfl) (by simp) ?_
                  refine AllReadyH.cons (by simp only [List.getElem?_toArray, List.getElem?_cons_succ, List.getElem?_cons_zero] <;> rfl) (fun K hK => ?_) ?_
                  · rw [if_pos (by rfl)]; refine wp_store_row 46 _ _ rfl gN #[.int .i64 1, .slice (some ⟨gB, 0, none⟩) 1 1] rfl rfl _ _ fN_5.out (BIH.out _).out (BZH.out _).out (BOH.out _ _ _).out ?_; obtain ⟨wv6, hwx⟩ : ∃ W' : World, W' = wv5.setRow gN #[.int .i64 1, .slice (some ⟨gB, 0, none⟩) 1 1] := ⟨_, rfl⟩; have fN_6 : Hid (wv6.heap[gN]? = some (.cells #[.int .i64 1, .slice (some ⟨gB, 0, none⟩) 1 1] 46 (0, 0))) := (by show _ = _; rw [hwx]; exact setRow_heap _ _ _ _ _ _ fN_5.out); have fA_6 := Lib.hid (row_setRowO fA_5.out ne_A_N #[.int .i64 1, .slice (some ⟨gB, 0, none⟩) 1 1]); rw [← hwx] at fA_6; have fM_6 := Lib.hid (row_setRowO fM_5.out ne_N_M.symm #[.int .i64 1, .slice (some ⟨gB, 0, none⟩) 1 1]); rw [← hwx] at fM_6; have fB_6 := Lib.hid (row_setRowO fB_5.out ne_N_B.symm #[.int .i64 1, .slice (some ⟨gB, 0, none⟩) 1 1]); rw [← hwx] at fB_6; have ud6 := ud5.setRowNew bN #[.int .i64 1, .slice (some ⟨gB, 0, none⟩) 1 1]; rw [← hwx] at ud6 ⊢; clear hwx
                    refine hK.out _ _ ?_ (fun hHeld => ?_)
                    · exact HPD.out _ ud6
                    clear hK K
                    try simp only [Act.put]
                    refine wpAnyH_done (by kernel_rfl) ?_ _
                    refine NoPanic.normal ?_
                    exact hJ gA gB gM gN wv6 fA_6 fB_6 fM_6 fN_6 ud6
                  exact AllReadyH.nil
                exact AllReadyH.nil
              exact AllReadyH.nil
            exact AllReadyH.nil
          exact AllReadyH.nil
        refine AllReadyH.cons (by simp only [List.getElem?_toArray, List.getElem?_cons_succ, List.getElem?_cons_zero] <;> rfl) (fun K hK => ?_) ?_
        · rw [if_pos (by rfl)]; refine wp_buildRun 44 1 _ rfl _ _ (Eq.trans (congrArg (fun z => (Instr.buildSlice 44 1 z).run Tryz.prog wA.drew) (by kernel_rfl)) (HB2.out wA.drew)) ?_; obtain ⟨gB, wv1, hgx, hwx, fB_1, hq⟩ := alloc_let (wA.drew) (.cells Y 33); rw [← hgx, ← hwx]; have bB : wA.heap.size ≤ gB := (by have := ud0.size; omega); have ud1 := ud0.trans hq; clear hgx hwx hq
          refine hK.out _ _ ?_ (fun hHeld => ?_)
          · exact HPD.out _ ud1
          clear hK K
          try simp only [Act.put, List.setIfInBounds_toArray, List.set_cons_zero, List.set_cons_succ]
          refine wpAnyH_take (i := 7) (v := ?v12) (by simp only [List.getElem?_toArray, List.getElem?_cons_succ, List.getElem?_cons_zero] <;> rfl) (by kernel_rfl) (by kernel_rfl) (by kernel_rfl) (fun _ _ _ h => h) (Or.inl ⟨by rfl, ?y12⟩) hHeld ?r12
          case y12 => (intro w hSw; (try dsimp only at hSw); go_simp; first | done | with_reducible rfl | rfl)
          try simp only [Act.put, List.setIfInBounds_toArray, List.set_cons_zero, List.set_cons_succ]
          refine wpAnyH_ready (rs := [2, 8, 9]) (by kernel_rfl) (by simp) ?_
          refine AllReadyH.cons (by simp only [List.getElem?_toArray, List.getElem?_cons_succ, List.getElem?_cons_zero] <;> rfl) (fun K hK => ?_) ?_
          · rw [if_pos (by rfl)]; refine wp_buildRun 44 1 _ rfl _ _ (Eq.trans (congrArg (fun z => (Instr.buildSlice 44 1 z).run Tryz.prog wv1) (by kernel_rfl)) (HB1.out wv1)) ?_; obtain ⟨gA, wv2, hgx, hwx, fA_2, hq⟩ := alloc_let (wv1) (.cells X 33); rw [← hgx, ← hwx]; have bA : wA.heap.size ≤ gA := (by have := ud1.size; omega); have ud2 := ud1.trans hq; have fB_2 := Lib.hid (row_updH fB_1.out hq); have ne_B_A : gB ≠ gA := (by have := (Array.getElem?_eq_some_iff.1 fB_1.out).1; omega); clear hgx hwx hq
            refine hK.out _ _ ?_ (fun hHeld => ?_)
            · exact HPD.out _ ud2
            clear hK K
            try simp only [Act.put, List.setIfInBounds_toArray, List.set_cons_zero, List.set_cons_succ]
            refine wpAnyH_take (i := 3) (v := ?v13) (by simp only [List.getElem?_toArray, List.getElem?_cons_succ, List.getElem?_cons_zero] <;> rfl) (by kernel_rfl) (by kernel_rfl) (by kernel_rfl) (fun _ _ _ h => h) (Or.inl ⟨by rfl, ?y13⟩) hHeld ?r13
            case y13 => (intro w hSw; (try dsimp only at hSw); go_simp; first | done | with_reducible rfl | rfl)
            try simp only [Act.put, List.setIfInBounds_toArray, List.set_cons_zero, List.set_cons_succ]
            refine wpAnyH_ready (rs := [8, 9]) (by kernel_rfl) (by simp) ?_
            refine AllReadyH.cons (by simp only [List.getElem?_toArray, List.getElem?_cons_succ, List.getElem?_cons_zero] <;> rfl) (fun K hK => ?_) ?_
            · go_simp; obtain ⟨gM, wv3, hgx, hwx, fM_3, hq⟩ := alloc_let (wv2) (.cells #[.int .i64 0, .slice none 0 0] 46); rw [← hgx, ← hwx]; have bM : wA.heap.size ≤ gM := (by have := ud2.size; omega); have ud3 := ud2.trans hq; have fB_3 := Lib.hid (row_updH fB_2.out hq); have ne_B_M : gB ≠ gM := (by have := (Array.getElem?_eq_some_iff.1 fB_2.out).1; omega); have fA_3 := Lib.hid (row_updH fA_2.out hq); have ne_A_M : gA ≠ gM := (by have := (Array.getElem?_eq_some_iff.1 fA_2.out).1; omega); clear hgx hwx hq
              refine hK.out _ _ ?_ (fun hHeld => ?_)
              · exact HPD.out _ ud3
              clear hK K
              try simp only [Act.put, List.setIfInBounds_toArray, List.set_cons_zero, List.set_cons_succ]
              refine wpAnyH_ready (rs := [9]) (by kernel_rfl) (by simp) ?_
              refine AllReadyH.cons (by simp only [List.getElem?_toArray, List.getElem?_cons_succ, List.getElem?_cons_zero] <;> rfl) (fun K hK => ?_) ?_
              · go_simp; obtain ⟨gN, wv4, hgx, hwx, fN_4, hq⟩ := alloc_let (wv3) (.cells #[.int .i64 0, .slice none 0 0] 46); rw [← hgx, ← hwx]; have bN : wA.heap.size ≤ gN := (by have := ud3.size; omega); have ud4 := ud3.trans hq; have fB_4 := Lib.hid (row_updH fB_3.out hq); have ne_B_N : gB ≠ gN := (by have := (Array.getElem?_eq_some_iff.1 fB_3.out).1; omega); have fA_4 := Lib.hid (row_updH fA_3.out hq); have ne_A_N : gA ≠ gN := (by have := (Array.getElem?_eq_some_iff.1 fA_3.out).1; omega); have fM_4 := Lib.hid (row_updH fM_3.out hq); have ne_M_N : gM ≠ gN := (by have := (Array.getElem?_eq_some_iff.1 fM_3.out).1; omega); clear hgx hwx hq
                refine hK.out _ _ ?_ (fun hHeld => ?_)
                · exact HPD.out _ ud4
                clear hK K
                try simp only [Act.put, List.setIfInBounds_toArray, List.set_cons_zero, List.set_cons_succ]
                refine wpAnyH_ready (rs := [10]) (by kernel_rfl) (by simp) ?_
                refine AllReadyH.cons (by simp only [List.getElem?_toArray, List.getElem?_cons_succ, List.getElem?_cons_zero] <;> rfl) (fun K hK => ?_) ?_
                · rw [if_pos (by rfl)]; refine wp_store_row 46 _ _ rfl gM #[.int .i64 1, .slice (some ⟨gA, 0, none⟩) 1 1] rfl rfl _ _ fM_4.out (BIH.out _).out (BZH.out _).out (BOH.out _ _ _).out ?_; obtain ⟨wv5, hwx⟩ : ∃ W' : World, W' = wv4.setRow gM #[.int .i64 1, .slice (some ⟨gA, 0, none⟩) 1 1] := ⟨_, rfl⟩; have fM_5 : Hid (wv5.heap[gM]? = some (.cells #[.int .i64 1, .slice (some ⟨gA, 0, none⟩) 1 1] 46 (0, 0))) := (by show _ = _; rw [hwx]; exact setRow_heap _ _ _ _ _ _ fM_4.out); have fB_5 := Lib.hid (row_setRowO fB_4.out ne_B_M #[.int .i64 1, .slice (some ⟨gA, 0, none⟩) 1 1]); rw [← hwx] at fB_5; have fA_5 := Lib.hid (row_setRowO fA_4.out ne_A_M #[.int .i64 1, .slice (some ⟨gA, 0, none⟩) 1 1]); rw [← hwx] at fA_5; have fN_5 := Lib.hid (row_setRowO fN_4.out ne_M_N.symm #[.int .i64 1, .slice (some ⟨gA, 0, none⟩) 1 1]); rw [← hwx] at fN_5; have ud5 := ud4.setRowNew bM #[.int .i64 1, .slice (some ⟨gA, 0, none⟩) 1 1]; rw [← hwx] at ud5 ⊢; clear hwx
                  refine hK.out _ _ ?_ (fun hHeld => ?_)
                  · exact HPD.out _ ud5
                  clear hK K
                  try simp only [Act.put]
                  refine wpAnyH_ready (rs := [11]) (by kernel_rfl) (by simp) ?_
                  refine AllReadyH.cons (by simp only [List.getElem?_toArray, List.getElem?_cons_succ, List.getElem?_cons_zero] <;> rfl) (fun K hK => ?_) ?_
                  · rw [if_pos (by rfl)]; refine wp_store_row 46 _ _ rfl gN #[.int .i64 1, .slice (some ⟨gB, 0, none⟩) 1 1] rfl rfl _ _ fN_5.out (BIH.out _).out (BZH.out _).out (BOH.out _ _ _).out ?_; obtain ⟨wv6, hwx⟩ : ∃ W' : World, W' = wv5.setRow gN #[.int .i64 1, .slice (some ⟨gB, 0, none⟩) 1 1] := ⟨_, rfl⟩; have fN_6 : Hid (wv6.heap[gN]? = some (.cells #[.int .i64 1, .slice (some ⟨gB, 0, none⟩) 1 1] 46 (0, 0))) := (by show _ = _; rw [hwx]; exact setRow_heap _ _ _ _ _ _ fN_5.out); have fB_6 := Lib.hid (row_setRowO fB_5.out ne_B_N #[.int .i64 1, .slice (some ⟨gB, 0, none⟩) 1 1]); rw [← hwx] at fB_6; have fA_6 := Lib.hid (row_setRowO fA_5.out ne_A_N #[.int .i64 1, .slice (some ⟨gB, 0, none⟩) 1 1]); rw [← hwx] at fA_6; have fM_6 := Lib.hid (row_setRowO fM_5.out ne_M_N #[.int .i64 1, .slice (some ⟨gB, 0, none⟩) 1 1]); rw [← hwx] at fM_6; have ud6 := ud5.setRowNew bN #[.int .i64 1, .slice (some ⟨gB, 0, none⟩) 1 1]; rw [← hwx] at ud6 ⊢; clear hwx
                    refine hK.out _ _ ?_ (fun hHeld => ?_)
                    · exact HPD.out _ ud6
                    clear hK K
                    try simp only [Act.put]
                    refine wpAnyH_done (by kernel_rfl) ?_ _
                    refine NoPanic.normal ?_
                    exact hJ gA gB gM gN wv6 fA_6 fB_6 fM_6 fN_6 ud6
                  exact AllReadyH.nil
                exact AllReadyH.nil
              exact AllReadyH.nil
            refine AllReadyH.cons (by simp only [List.getElem?_toArray, List.getElem?_cons_succ, List.getElem?_cons_zero] <;> rfl) (fun K hK => ?_) ?_
            · go_simp; obtain ⟨gN, wv3, hgx, hwx, fN_3, hq⟩ := alloc_let (wv2) (.cells #[.int .i64 0, .slice none 0 0] 46); rw [← hgx, ← hwx]; have bN : wA.heap.size ≤ gN := (by have := ud2.size; omega); have ud3 := ud2.trans hq; have fB_3 := Lib.hid (row_updH fB_2.out hq); have ne_B_N : gB ≠ gN := (by have := (Array.getElem?_eq_some_iff.1 fB_2.out).1; omega); have fA_3 := Lib.hid (row_updH fA_2.out hq); have ne_A_N : gA ≠ gN := (by have := (Array.getElem?_eq_some_iff.1 fA_2.out).1; omega); clear hgx hwx hq
              refine hK.out _ _ ?_ (fun hHeld => ?_)
              · exact HPD.out _ ud3
              clear hK K
              try simp only [Act.put, List.setIfInBounds_toArray, List.set_cons_zero, List.set_cons_succ]
              refine wpAnyH_ready (rs := [8]) (by kernel_rfl) (by simp) ?_
              refine AllReadyH.cons (by simp only [List.getElem?_toArray, List.getElem?_cons_succ, List.getElem?_cons_zero] <;> rfl) (fun K hK => ?_) ?_
              · go_simp; obtain ⟨gM, wv4, hgx, hwx, fM_4, hq⟩ := alloc_let (wv3) (.cells #[.int .i64 0, .slice none 0 0] 46); rw [← hgx, ← hwx]; have bM : wA.heap.size ≤ gM := (by have := ud3.size; omega); have ud4 := ud3.trans hq; have fB_4 := Lib.hid (row_updH fB_3.out hq); have ne_B_M : gB ≠ gM := (by have := (Array.getElem?_eq_some_iff.1 fB_3.out).1; omega); have fA_4 := Lib.hid (row_updH fA_3.out hq); have ne_A_M : gA ≠ gM := (by have := (Array.getElem?_eq_some_iff.1 fA_3.out).1; omega); have fN_4 := Lib.hid (row_updH fN_3.out hq); have ne_N_M : gN ≠ gM := (by have := (Array.getElem?_eq_some_iff.1 fN_3.out).1; omega); clear hgx hwx hq
                refine hK.out _ _ ?_ (fun hHeld => ?_)
                · exact HPD.out _ ud4
                clear hK K
                try simp only [Act.put, List.setIfInBounds_toArray, List.set_cons_zero, List.set_cons_succ]
                refine wpAnyH_ready (rs := [10]) (by kernel_rfl) (by simp) ?_
                refine AllReadyH.cons (by simp only [List.getElem?_toArray, List.getElem?_cons_succ, List.getElem?_cons_zero] <;> rfl) (fun K hK => ?_) ?_
                · rw [if_pos (by rfl)]; refine wp_store_row 46 _ _ rfl gM #[.int .i64 1, .slice (some ⟨gA, 0, none⟩) 1 1] rfl rfl _ _ fM_4.out (BIH.out _).out (BZH.out _).out (BOH.out _ _ _).out ?_; obtain ⟨wv5, hwx⟩ : ∃ W' : World, W' = wv4.setRow gM #[.int .i64 1, .slice (some ⟨gA, 0, none⟩) 1 1] := ⟨_, rfl⟩; have fM_5 : Hid (wv5.heap[gM]? = some (.cells #[.int .i64 1, .slice (some ⟨gA, 0, none⟩) 1 1] 46 (0, 0))) := (by show _ = _; rw [hwx]; exact setRow_heap _ _ _ _ _ _ fM_4.out); have fB_5 := Lib.hid (row_setRowO fB_4.out ne_B_M #[.int .i64 1, .slice (some ⟨gA, 0, none⟩) 1 1]); rw [← hwx] at fB_5; have fA_5 := Lib.hid (row_setRowO fA_4.out ne_A_M #[.int .i64 1, .slice (some ⟨gA, 0, none⟩) 1 1]); rw [← hwx] at fA_5; have fN_5 := Lib.hid (row_setRowO fN_4.out ne_N_M #[.int .i64 1, .slice (some ⟨gA, 0, none⟩) 1 1]); rw [← hwx] at fN_5; have ud5 := ud4.setRowNew bM #[.int .i64 1, .slice (some ⟨gA, 0, none⟩) 1 1]; rw [← hwx] at ud5 ⊢; clear hwx
                  refine hK.out _ _ ?_ (fun hHeld => ?_)
                  · exact HPD.out _ ud5
                  clear hK K
                  try simp only [Act.put]
                  refine wpAnyH_ready (rs := [11]) (by kernel_rfl) (by simp) ?_
                  refine AllReadyH.cons (by simp only [List.getElem?_toArray, List.getElem?_cons_succ, List.getElem?_cons_zero] <;> rfl) (fun K hK => ?_) ?_
                  · rw [if_pos (by rfl)]; refine wp_store_row 46 _ _ rfl gN #[.int .i64 1, .slice (some ⟨gB, 0, none⟩) 1 1] rfl rfl _ _ fN_5.out (BIH.out _).out (BZH.out _).out (BOH.out _ _ _).out ?_; obtain ⟨wv6, hwx⟩ : ∃ W' : World, W' = wv5.setRow gN #[.int .i64 1, .slice (some ⟨gB, 0, none⟩) 1 1] := ⟨_, rfl⟩; have fN_6 : Hid (wv6.heap[gN]? = some (.cells #[.int .i64 1, .slice (some ⟨gB, 0, none⟩) 1 1] 46 (0, 0))) := (by show _ = _; rw [hwx]; exact setRow_heap _ _ _ _ _ _ fN_5.out); have fB_6 := Lib.hid (row_setRowO fB_5.out ne_B_N #[.int .i64 1, .slice (some ⟨gB, 0, none⟩) 1 1]); rw [← hwx] at fB_6; have fA_6 := Lib.hid (row_setRowO fA_5.out ne_A_N #[.int .i64 1, .slice (some ⟨gB, 0, none⟩) 1 1]); rw [← hwx] at fA_6; have fM_6 := Lib.hid (row_setRowO fM_5.out ne_N_M.symm #[.int .i64 1, .slice (some ⟨gB, 0, none⟩) 1 1]); rw [← hwx] at fM_6; have ud6 := ud5.setRowNew bN #[.int .i64 1, .slice (some ⟨gB, 0, none⟩) 1 1]; rw [← hwx] at ud6 ⊢; clear hwx
                    refine hK.out _ _ ?_ (fun hHeld => ?_)
                    · exact HPD.out _ ud6
                    clear hK K
                    try simp only [Act.put]
                    refine wpAnyH_done (by kernel_rfl) ?_ _
                    refine NoPanic.normal ?_
                    exact hJ gA gB gM gN wv6 fA_6 fB_6 fM_6 fN_6 ud6
                  exact AllReadyH.nil
                exact AllReadyH.nil
              exact AllReadyH.nil
            exact AllReadyH.nil
          refine AllReadyH.cons (by simp only [List.getElem?_toArray, List.getElem?_cons_succ, List.getElem?_cons_zero] <;> rfl) (fun K hK => ?_) ?_
          · go_simp; obtain ⟨gM, wv2, hgx, hwx, fM_2, hq⟩ := alloc_let (wv1) (.cells #[.int .i64 0, .slice none 0 0] 46); rw [← hgx, ← hwx]; have bM : wA.heap.size ≤ gM := (by have := ud1.size; omega); have ud2 := ud1.trans hq; have fB_2 := Lib.hid (row_updH fB_1.out hq); have ne_B_M : gB ≠ gM := (by have := (Array.getElem?_eq_some_iff.1 fB_1.out).1; omega); clear hgx hwx hq
            refine hK.out _ _ ?_ (fun hHeld => ?_)
            · exact HPD.out _ ud2
            clear hK K
            try simp only [Act.put, List.setIfInBounds_toArray, List.set_cons_zero, List.set_cons_succ]
            refine wpAnyH_ready (rs := [2, 9]) (by kernel_rfl) (by simp) ?_
            refine AllReadyH.cons (by simp only [List.getElem?_toArray, List.getElem?_cons_succ, List.getElem?_cons_zero] <;> rfl) (fun K hK => ?_) ?_
            · rw [if_pos (by rfl)]; refine wp_buildRun 44 1 _ rfl _ _ (Eq.trans (congrArg (fun z => (Instr.buildSlice 44 1 z).run Tryz.prog wv2) (by kernel_rfl)) (HB1.out wv2)) ?_; obtain ⟨gA, wv3, hgx, hwx, fA_3, hq⟩ := alloc_let (wv2) (.cells X 33); rw [← hgx, ← hwx]; have bA : wA.heap.size ≤ gA := (by have := ud2.size; omega); have ud3 := ud2.trans hq; have fB_3 := Lib.hid (row_updH fB_2.out hq); have ne_B_A : gB ≠ gA := (by have := (Array.getElem?_eq_some_iff.1 fB_2.out).1; omega); have fM_3 := Lib.hid (row_updH fM_2.out hq); have ne_M_A : gM ≠ gA := (by have := (Array.getElem?_eq_some_iff.1 fM_2.out).1; omega); clear hgx hwx hq
              refine hK.out _ _ ?_ (fun hHeld => ?_)
              · exact HPD.out _ ud3
              clear hK K
              try simp only [Act.put, List.setIfInBounds_toArray, List.set_cons_zero, List.set_cons_succ]
              refine wpAnyH_take (i := 3) (v := ?v14) (by simp only [List.getElem?_toArray, List.getElem?_cons_succ, List.getElem?_cons_zero] <;> rfl) (by kernel_rfl) (by kernel_rfl) (by kernel_rfl) (fun _ _ _ h => h) (Or.inl ⟨by rfl, ?y14⟩) hHeld ?r14
              case y14 => (intro w hSw; (try dsimp only at hSw); go_simp; first | done | with_reducible rfl | rfl)
              try simp only [Act.put, List.setIfInBounds_toArray, List.set_cons_zero, List.set_cons_succ]
              refine wpAnyH_ready (rs := [9]) (by kernel_rfl) (by simp) ?_
              refine AllReadyH.cons (by simp only [List.getElem?_toArray, List.getElem?_cons_succ, List.getElem?_cons_zero] <;> rfl) (fun K hK => ?_) ?_
              · go_simp; obtain ⟨gN, wv4, hgx, hwx, fN_4, hq⟩ := alloc_let (wv3) (.cells #[.int .i64 0, .slice none 0 0] 46); rw [← hgx, ← hwx]; have bN : wA.heap.size ≤ gN := (by have := ud3.size; omega); have ud4 := ud3.trans hq; have fB_4 := Lib.hid (row_updH fB_3.out hq); have ne_B_N : gB ≠ gN := (by have := (Array.getElem?_eq_some_iff.1 fB_3.out).1; omega); have fM_4 := Lib.hid (row_updH fM_3.out hq); have ne_M_N : gM ≠ gN := (by have := (Array.getElem?_eq_some_iff.1 fM_3.out).1; omega); have fA_4 := Lib.hid (row_updH fA_3.out hq); have ne_A_N : gA ≠ gN := (by have := (Array.getElem?_eq_some_iff.1 fA_3.out).1; omega); clear hgx hwx hq
                refine hK.out _ _ ?_ (fun hHeld => ?_)
                · exact HPD.out _ ud4
                clear hK K
                try simp only [Act.put, List.setIfInBounds_toArray, List.set_cons_zero, List.set_cons_succ]
                refine wpAnyH_ready (rs := [10]) (by kernel_rfl) (by simp) ?_
                refine AllReadyH.cons (by simp only [List.getElem?_toArray, List.getElem?_cons_succ, List.getElem?_cons_zero] <;> rfl) (fun K hK => ?_) ?_
                · rw [if_pos (by rfl)]; refine wp_store_row 46 _ _ rfl gM #[.int .i64 1, .slice (some ⟨gA, 0, none⟩) 1 1] rfl rfl _ _ fM_4.out (BIH.out _).out (BZH.out _).out (BOH.out _ _ _).out ?_; obtain ⟨wv5, hwx⟩ : ∃ W' : World, W' = wv4.setRow gM #[.int .i64 1, .slice (some ⟨gA, 0, none⟩) 1 1] := ⟨_, rfl⟩; have fM_5 : Hid (wv5.heap[gM]? = some (.cells #[.int .i64 1, .slice (some ⟨gA, 0, none⟩) 1 1] 46 (0, 0))) := (by show _ = _; rw [hwx]; exact setRow_heap _ _ _ _ _ _ fM_4.out); have fB_5 := Lib.hid (row_setRowO fB_4.out ne_B_M #[.int .i64 1, .slice (some ⟨gA, 0, none⟩) 1 1]); rw [← hwx] at fB_5; have fA_5 := Lib.hid (row_setRowO fA_4.out ne_M_A.symm #[.int .i64 1, .slice (some ⟨gA, 0, none⟩) 1 1]); rw [← hwx] at fA_5; have fN_5 := Lib.hid (row_setRowO fN_4.out ne_M_N.symm #[.int .i64 1, .slice (some ⟨gA, 0, none⟩) 1 1]); rw [← hwx] at fN_5; have ud5 := ud4.setRowNew bM #[.int .i64 1, .slice (some ⟨gA, 0, none⟩) 1 1]; rw [← hwx] at ud5 ⊢; clear hwx
                  refine hK.out _ _ ?_ (fun hHeld => ?_)
                  · exact HPD.out _ ud5
                  clear hK K
                  try simp only [Act.put]
                  refine wpAnyH_ready (rs := [11]) (by kernel_rfl) (by simp) ?_
                  refine AllReadyH.cons (by simp only [List.getElem?_toArray, List.getElem?_cons_succ, List.getElem?_cons_zero] <;> rfl) (fun K hK => ?_) ?_
                  · rw [if_pos (by rfl)]; refine wp_store_row 46 _ _ rfl gN #[.int .i64 1, .slice (some ⟨gB, 0, none⟩) 1 1] rfl rfl _ _ fN_5.out (BIH.out _).out (BZH.out _).out (BOH.out _ _ _).out ?_; obtain ⟨wv6, hwx⟩ : ∃ W' : World, W' = wv5.setRow gN #[.int .i64 1, .slice (some ⟨gB, 0, none⟩) 1 1] := ⟨_, rfl⟩; have fN_6 : Hid (wv6.heap[gN]? = some (.cells #[.int .i64 1, .slice (some ⟨gB, 0, none⟩) 1 1] 46 (0, 0))) := (by show _ = _; rw [hwx]; exact setRow_heap _ _ _ _ _ _ fN_5.out); have fB_6 := Lib.hid (row_setRowO fB_5.out ne_B_N #[.int .i64 1, .slice (some ⟨gB, 0, none⟩) 1 1]); rw [← hwx] at fB_6; have fM_6 := Lib.hid (row_setRowO fM_5.out ne_M_N #[.int .i64 1, .slice (some ⟨gB, 0, none⟩) 1 1]); rw [← hwx] at fM_6; have fA_6 := Lib.hid (row_setRowO fA_5.out ne_A_N #[.int .i64 1, .slice (some ⟨gB, 0, none⟩) 1 1]); rw [← hwx] at fA_6; have ud6 := ud5.setRowNew bN #[.int .i64 1, .slice (some ⟨gB, 0, none⟩) 1 1]; rw [← hwx] at ud6 ⊢; clear hwx
                    refine hK.out _ _ ?_ (fun hHeld => ?_)
                    · exact HPD.out _ ud6
                    clear hK K
                    try simp only [Act.put]
                    refine wpAnyH_done (by kernel_rfl) ?_ _
                    refine NoPanic.normal ?_
                    exact hJ gA gB gM gN wv6 fA_6 fB_6 fM_6 fN_6 ud6
                  exact AllReadyH.nil
                exact AllReadyH.nil
              exact AllReadyH.nil
            refine AllReadyH.cons (by simp only [List.getElem?_toArray, List.getElem?_cons_succ, List.getElem?_cons_zero] <;> rfl) (fun K hK => ?_) ?_
            · go_simp; obtain ⟨gN, wv3, hgx, hwx, fN_3, hq⟩ := alloc_let (wv2) (.cells #[.int .i64 0, .slice none 0 0] 46); rw [← hgx, ← hwx]; have bN : wA.heap.size ≤ gN := (by have := ud2.size; omega); have ud3 := ud2.trans hq; have fB_3 := Lib.hid (row_updH fB_2.out hq); have ne_B_N : gB ≠ gN := (by have := (Array.getElem?_eq_some_iff.1 fB_2.out).1; omega); have fM_3 := Lib.hid (row_updH fM_2.out hq); have ne_M_N : gM ≠ gN := (by have := (Array.getElem?_eq_some_iff.1 fM_2.out).1; omega); clear hgx hwx hq
              refine hK.out _ _ ?_ (fun hHeld => ?_)
              · exact HPD.out _ ud3
              clear hK K
              try simp only [Act.put, List.setIfInBounds_toArray, List.set_cons_zero, List.set_cons_succ]
              refine wpAnyH_ready (rs := [2]) (by kernel_rfl) (by simp) ?_
              refine AllReadyH.cons (by simp only [List.getElem?_toArray, List.getElem?_cons_succ, List.getElem?_cons_zero] <;> rfl) (fun K hK => ?_) ?_
              · rw [if_pos (by rfl)]; refine wp_buildRun 44 1 _ rfl _ _ (Eq.trans (congrArg (fun z => (Instr.buildSlice 44 1 z).run Tryz.prog wv3) (by kernel_rfl)) (HB1.out wv3)) ?_; obtain ⟨gA, wv4, hgx, hwx, fA_4, hq⟩ := alloc_let (wv3) (.cells X 33); rw [← hgx, ← hwx]; have bA : wA.heap.size ≤ gA := (by have := ud3.size; omega); have ud4 := ud3.trans hq; have fB_4 := Lib.hid (row_updH fB_3.out hq); have ne_B_A : gB ≠ gA := (by have := (Array.getElem?_eq_some_iff.1 fB_3.out).1; omega); have fM_4 := Lib.hid (row_updH fM_3.out hq); have ne_M_A : gM ≠ gA := (by have := (Array.getElem?_eq_some_iff.1 fM_3.out).1; omega); have fN_4 := Lib.hid (row_updH fN_3.out hq); have ne_N_A : gN ≠ gA := (by have := (Array.getElem?_eq_some_iff.1 fN_3.out).1; omega); clear hgx hwx hq
                refine hK.out _ _ ?_ (fun hHeld => ?_)
                · exact HPD.out _ ud4
                clear hK K
                try simp only [Act.put, List.setIfInBounds_toArray, List.set_cons_zero, List.set_cons_succ]
                refine wpAnyH_take (i := 3) (v := ?v15) (by simp only [List.getElem?_toArray, List.getElem?_cons_succ, List.getElem?_cons_zero] <;> rfl) (by kernel_rfl) (by kernel_rfl) (by kernel_rfl) (fun _ _ _ h => h) (Or.inl ⟨by rfl, ?y15⟩) hHeld ?r15
                case y15 => (intro w hSw; (try dsimp only at hSw); go_simp; first | done | with_reducible rfl | rfl)
                try simp only [Act.put, List.setIfInBounds_toArray, List.set_cons_zero, List.set_cons_succ]
                refine wpAnyH_ready (rs := [10]) (by kernel_rfl) (by simp) ?_
                refine AllReadyH.cons (by simp only [List.getElem?_toArray, List.getElem?_cons_succ, List.getElem?_cons_zero] <;> rfl) (fun K hK => ?_) ?_
                · rw [if_pos (by rfl)]; refine wp_store_row 46 _ _ rfl gM #[.int .i64 1, .slice (some ⟨gA, 0, none⟩) 1 1] rfl rfl _ _ fM_4.out (BIH.out _).out (BZH.out _).out (BOH.out _ _ _).out ?_; obtain ⟨wv5, hwx⟩ : ∃ W' : World, W' = wv4.setRow gM #[.int .i64 1, .slice (some ⟨gA, 0, none⟩) 1 1] := ⟨_, rfl⟩; have fM_5 : Hid (wv5.heap[gM]? = some (.cells #[.int .i64 1, .slice (some ⟨gA, 0, none⟩) 1 1] 46 (0, 0))) := (by show _ = _; rw [hwx]; exact setRow_heap _ _ _ _ _ _ fM_4.out); have fB_5 := Lib.hid (row_setRowO fB_4.out ne_B_M #[.int .i64 1, .slice (some ⟨gA, 0, none⟩) 1 1]); rw [← hwx] at fB_5; have fN_5 := Lib.hid (row_setRowO fN_4.out ne_M_N.symm #[.int .i64 1, .slice (some ⟨gA, 0, none⟩) 1 1]); rw [← hwx] at fN_5; have fA_5 := Lib.hid (row_setRowO fA_4.out ne_M_A.symm #[.int .i64 1, .slice (some ⟨gA, 0, none⟩) 1 1]); rw [← hwx] at fA_5; have ud5 := ud4.setRowNew bM #[.int .i64 1, .slice (some ⟨gA, 0, none⟩) 1 1]; rw [← hwx] at ud5 ⊢; clear hwx
                  refine hK.out _ _ ?_ (fun hHeld => ?_)
                  · exact HPD.out _ ud5
                  clear hK K
                  try simp only [Act.put]
                  refine wpAnyH_ready (rs := [11]) (by kernel_rfl) (by simp) ?_
                  refine AllReadyH.cons (by simp only [List.getElem?_toArray, List.getElem?_cons_succ, List.getElem?_cons_zero] <;> rfl) (fun K hK => ?_) ?_
                  · rw [if_pos (by rfl)]; refine wp_store_row 46 _ _ rfl gN #[.int .i64 1, .slice (some ⟨gB, 0, none⟩) 1 1] rfl rfl _ _ fN_5.out (BIH.out _).out (BZH.out _).out (BOH.out _ _ _).out ?_; obtain ⟨wv6, hwx⟩ : ∃ W' : World, W' = wv5.setRow gN #[.int .i64 1, .slice (some ⟨gB, 0, none⟩) 1 1] := ⟨_, rfl⟩; have fN_6 : Hid (wv6.heap[gN]? = some (.cells #[.int .i64 1, .slice (some ⟨gB, 0, none⟩) 1 1] 46 (0, 0))) := (by show _ = _; rw [hwx]; exact setRow_heap _ _ _ _ _ _ fN_5.out); have fB_6 := Lib.hid (row_setRowO fB_5.out ne_B_N #[.int .i64 1, .slice (some ⟨gB, 0, none⟩) 1 1]); rw [← hwx] at fB_6; have fM_6 := Lib.hid (row_setRowO fM_5.out ne_M_N #[.int .i64 1, .slice (some ⟨gB, 0, none⟩) 1 1]); rw [← hwx] at fM_6; have fA_6 := Lib.hid (row_setRowO fA_5.out ne_N_A.symm #[.int .i64 1, .slice (some ⟨gB, 0, none⟩) 1 1]); rw [← hwx] at fA_6; have ud6 := ud5.setRowNew bN #[.int .i64 1, .slice (some ⟨gB, 0, none⟩) 1 1]; rw [← hwx] at ud6 ⊢; clear hwx
                    refine hK.out _ _ ?_ (fun hHeld => ?_)
                    · exact HPD.out _ ud6
                    clear hK K
                    try simp only [Act.put]
                    refine wpAnyH_done (by kernel_rfl) ?_ _
                    refine NoPanic.normal ?_
                    exact hJ gA gB gM gN wv6 fA_6 fB_6 fM_6 fN_6 ud6
                  exact AllReadyH.nil
                exact AllReadyH.nil
              exact AllReadyH.nil
            exact AllReadyH.nil
          refine AllReadyH.cons (by simp only [List.getElem?_toArray, List.getElem?_cons_succ, List.getElem?_cons_zero] <;> rfl) (fun K hK => ?_) ?_
          · go_simp; obtain ⟨gN, wv2, hgx, hwx, fN_2, hq⟩ := alloc_let (wv1) (.cells #[.int .i64 0, .slice none 0 0] 46); rw [← hgx, ← hwx]; have bN : wA.heap.size ≤ gN := (by have := ud1.size; omega); have ud2 := ud1.trans hq; have fB_2 := Lib.hid (row_updH fB_1.out hq); have ne_B_N : gB ≠ gN := (by have := (Array.getElem?_eq_some_iff.1 fB_1.out).1; omega); clear hgx hwx hq
            refine hK.out _ _ ?_ (fun hHeld => ?_)
            · exact HPD.out _ ud2
            clear hK K
            try simp only [Act.put, List.setIfInBounds_toArray, List.set_cons_zero, List.set_cons_succ]
            refine wpAnyH_ready (rs := [2, 8]) (by kernel_rfl) (by simp) ?_
            refine AllReadyH.cons (by simp only [List.getElem?_toArray, List.getElem?_cons_succ, List.getElem?_cons_zero] <;> rfl) (fun K hK => ?_) ?_
            · rw [if_pos (by rfl)]; refine wp_buildRun 44 1 _ rfl _ _ (Eq.trans (congrArg (fun z => (Instr.buildSlice 44 1 z).run Tryz.prog wv2) (by kernel_rfl)) (HB1.out wv2)) ?_; obtain ⟨gA, wv3, hgx, hwx, fA_3, hq⟩ := alloc_let (wv2) (.cells X 33); rw [← hgx, ← hwx]; have bA : wA.heap.size ≤ gA := (by have := ud2.size; omega); have ud3 := ud2.trans hq; have fB_3 := Lib.hid (row_updH fB_2.out hq); have ne_B_A : gB ≠ gA := (by have := (Array.getElem?_eq_some_iff.1 fB_2.out).1; omega); have fN_3 := Lib.hid (row_updH fN_2.out hq); have ne_N_A : gN ≠ gA := (by have := (Array.getElem?_eq_some_iff.1 fN_2.out).1; omega); clear hgx hwx hq
              refine hK.out _ _ ?_ (fun hHeld => ?_)
              · exact HPD.out _ ud3
              clear hK K
              try simp only [Act.put, List.setIfInBounds_toArray, List.set_cons_zero, List.set_cons_succ]
              refine wpAnyH_take (i := 3) (v := ?v16) (by simp only [List.getElem?_toArray, List.getElem?_cons_succ, List.getElem?_cons_zero] <;> rfl) (by kernel_rfl) (by kernel_rfl) (by kernel_rfl) (fun _ _ _ h => h) (Or.inl ⟨by rfl, ?y16⟩) hHeld ?r16
              case y16 => (intro w hSw; (try dsimp only at hSw); go_simp; first | done | with_reducible rfl | rfl)
              try simp only [Act.put, List.setIfInBounds_toArray, List.set_cons_zero, List.set_cons_succ]
              refine wpAnyH_ready (rs := [8]) (by kernel_rfl) (by simp) ?_
              refine AllReadyH.cons (by simp only [List.getElem?_toArray, List.getElem?_cons_succ, List.getElem?_cons_zero] <;> rfl) (fun K hK => ?_) ?_
              · go_simp; obtain ⟨gM, wv4, hgx, hwx, fM_4, hq⟩ := alloc_let (wv3) (.cells #[.int .i64 0, .slice none 0 0] 46); rw [← hgx, ← hwx]; have bM : wA.heap.size ≤ gM := (by have := ud3.size; omega); have ud4 := ud3.trans hq; have fB_4 := Lib.hid (row_updH fB_3.out hq); have ne_B_M : gB ≠ gM := (by have := (Array.getElem?_eq_some_iff.1 fB_3.out).1; omega); have fN_4 := Lib.hid (row_updH fN_3.out hq); have ne_N_M : gN ≠ gM := (by have := (Array.getElem?_eq_some_iff.1 fN_3.out).1; omega); have fA_4 := Lib.hid (row_updH fA_3.out hq); have ne_A_M : gA ≠ gM := (by have := (Array.getElem?_eq_some_iff.1 fA_3.out).1; omega); clear hgx hwx hq
                refine hK.out _ _ ?_ (fun hHeld => ?_)
                · exact HPD.out _ ud4
                clear hK K
                try simp only [Act.put, List.setIfInBounds_toArray, List.set_cons_zero, List.set_cons_succ]
                refine wpAnyH_ready (rs := [10]) (by kernel_rfl) (by simp) ?_
                refine AllReadyH.cons (by simp only [List.getElem?_toArray, List.getElem?_cons_succ, List.getElem?_cons_zero] <;> rfl) (fun K hK => ?_) ?_
                · rw [if_pos (by rfl)]; refine wp_store_row 46 _ _ rfl gM #[.int .i64 1, .slice (some ⟨gA, 0, none⟩) 1 1] rfl rfl _ _ fM_4.out (BIH.out _).out (BZH.out _).out (BOH.out _ _ _).out ?_; obtain ⟨wv5, hwx⟩ : ∃ W' : World, W' = wv4.setRow gM #[.int .i64 1, .slice (some ⟨gA, 0, none⟩) 1 1] := ⟨_, rfl⟩; have fM_5 : Hid (wv5.heap[gM]? = some (.cells #[.int .i64 1, .slice (some ⟨gA, 0, none⟩) 1 1] 46 (0, 0))) := (by show _ = _; rw [hwx]; exact setRow_heap _ _ _ _ _ _ fM_4.out); have fB_5 := Lib.hid (row_setRowO fB_4.out ne_B_M #[.int .i64 1, .slice (some ⟨gA, 0, none⟩) 1 1]); rw [← hwx] at fB_5; have fN_5 := Lib.hid (row_setRowO fN_4.out ne_N_M #[.int .i64 1, .slice (some ⟨gA, 0, none⟩) 1 1]); rw [← hwx] at fN_5; have fA_5 := Lib.hid (row_setRowO fA_4.out ne_A_M #[.int .i64 1, .slice (some ⟨gA, 0, none⟩) 1 1]); rw [← hwx] at fA_5; have ud5 := ud4.setRowNew bM #[.int .i64 1, .slice (some ⟨gA, 0, none⟩) 1 1]; rw [← hwx] at ud5 ⊢; clear hwx
                  refine hK.out _ _ ?_ (fun hHeld => ?_)
                  · exact HPD.out _ ud5
                  clear hK K
                  try simp only [Act.put]
                  refine wpAnyH_ready (rs := [11]) (by kernel_rfl) (by simp) ?_
                  refine AllReadyH.cons (by simp only [List.getElem?_toArray, List.getElem?_cons_succ, List.getElem?_cons_zero] <;> rfl) (fun K hK => ?_) ?_
                  · rw [if_pos (by rfl)]; refine wp_store_row 46 _ _ rfl gN #[.int .i64 1, .slice (some ⟨gB, 0, none⟩) 1 1] rfl rfl _ _ fN_5.out (BIH.out _).out (BZH.out _).out (BOH.out _ _ _).out ?_; obtain ⟨wv6, hwx⟩ : ∃ W' : World, W' = wv5.setRow gN #[.int .i64 1, .slice (some ⟨gB, 0, none⟩) 1 1] := ⟨_, rfl⟩; have fN_6 : Hid (wv6.heap[gN]? = some (.cells #[.int .i64 1, .slice (some ⟨gB, 0, none⟩) 1 1] 46 (0, 0))) := (by show _ = _; rw [hwx]; exact setRow_heap _ _ _ _ _ _ fN_5.out); have fB_6 := Lib.hid (row_setRowO fB_5.out ne_B_N #[.int .i64 1, .slice (some ⟨gB, 0, none⟩) 1 1]); rw [← hwx] at fB_6; have fA_6 := Lib.hid (row_setRowO fA_5.out ne_N_A.symm #[.int .i64 1, .slice (some ⟨gB, 0, none⟩) 1 1]); rw [← hwx] at fA_6; have fM_6 := Lib.hid (row_setRowO fM_5.out ne_N_M.symm #[.int .i64 1, .slice (some ⟨gB, 0, none⟩) 1 1]); rw [← hwx] at fM_6; have ud6 := ud5.setRowNew bN #[.int .i64 1, .slice (some ⟨gB, 0, none⟩) 1 1]; rw [← hwx] at ud6 ⊢; clear hwx
                    refine hK.out _ _ ?_ (fun hHeld => ?_)
                    · exact HPD.out _ ud6
                    clear hK K
                    try simp only [Act.put]
                    refine wpAnyH_done (by kernel_rfl) ?_ _
                    refine NoPanic.normal ?_
                    exact hJ gA gB gM gN wv6 fA_6 fB_6 fM_6 fN_6 ud6
                  exact AllReadyH.nil
                exact AllReadyH.nil
              exact AllReadyH.nil
            refine AllReadyH.cons (by simp only [List.getElem?_toArray, List.getElem?_cons_succ, List.getElem?_cons_zero] <;> rfl) (fun K hK => ?_) ?_
            · go_simp; obtain ⟨gM, wv3, hgx, hwx, fM_3, hq⟩ := alloc_let (wv2) (.cells #[.int .i64 0, .slice none 0 0] 46); rw [← hgx, ← hwx]; have bM : wA.heap.size ≤ gM := (by have := ud2.size; omega); have ud3 := ud2.trans hq; have fB_3 := Lib.hid (row_updH fB_2.out hq); have ne_B_M : gB ≠ gM := (by have := (Array.getElem?_eq_some_iff.1 fB_2.out).1; omega); have fN_3 := Lib.hid (row_updH fN_2.out hq); have ne_N_M : gN ≠ gM := (by have := (Array.getElem?_eq_some_iff.1 fN_2.out).1; omega); clear hgx hwx hq
              refine hK.out _ _ ?_ (fun hHeld => ?_)
              · exact HPD.out _ ud3
              clear hK K
              try simp only [Act.put, List.setIfInBounds_toArray, List.set_cons_zero, List.set_cons_succ]
              refine wpAnyH_ready (rs := [2]) (by kernel_rfl) (by simp) ?_
              refine AllReadyH.cons (by simp only [List.getElem?_toArray, List.getElem?_cons_succ, List.getElem?_cons_zero] <;> rfl) (fun K hK => ?_) ?_
              · rw [if_pos (by rfl)]; refine wp_buildRun 44 1 _ rfl _ _ (Eq.trans (congrArg (fun z => (Instr.buildSlice 44 1 z).run Tryz.prog wv3) (by kernel_rfl)) (HB1.out wv3)) ?_; obtain ⟨gA, wv4, hgx, hwx, fA_4, hq⟩ := alloc_let (wv3) (.cells X 33); rw [← hgx, ← hwx]; have bA : wA.heap.size ≤ gA := (by have := ud3.size; omega); have ud4 := ud3.trans hq; have fB_4 := Lib.hid (row_updH fB_3.out hq); have ne_B_A : gB ≠ gA := (by have := (Array.getElem?_eq_some_iff.1 fB_3.out).1; omega); have fN_4 := Lib.hid (row_updH fN_3.out hq); have ne_N_A : gN ≠ gA := (by have := (Array.getElem?_eq_some_iff.1 fN_3.out).1; omega); have fM_4 := Lib.hid (row_updH fM_3.out hq); have ne_M_A : gM ≠ gA := (by have := (Array.getElem?_eq_some_iff.1 fM_3.out).1; omega); clear hgx hwx hq
                refine hK.out _ _ ?_ (fun hHeld => ?_)
                · exact HPD.out _ ud4
                clear hK K
                try simp only [Act.put, List.setIfInBounds_toArray, List.set_cons_zero, List.set_cons_succ]
                refine wpAnyH_take (i := 3) (v := ?v17) (by simp only [List.getElem?_toArray, List.getElem?_cons_succ, List.getElem?_cons_zero] <;> rfl) (by kernel_rfl) (by kernel_rfl) (by kernel_rfl) (fun _ _ _ h => h) (Or.inl ⟨by rfl, ?y17⟩) hHeld ?r17
                case y17 => (intro w hSw; (try dsimp only at hSw); go_simp; first | done | with_reducible rfl | rfl)
                try simp only [Act.put, List.setIfInBounds_toArray, List.set_cons_zero, List.set_cons_succ]
                refine wpAnyH_ready (rs := [10]) (by kernel_rfl) (by simp) ?_
                refine AllReadyH.cons (by simp only [List.getElem?_toArray, List.getElem?_cons_succ, List.getElem?_cons_zero] <;> rfl) (fun K hK => ?_) ?_
                · rw [if_pos (by rfl)]; refine wp_store_row 46 _ _ rfl gM #[.int .i64 1, .slice (some ⟨gA, 0, none⟩) 1 1] rfl rfl _ _ fM_4.out (BIH.out _).out (BZH.out _).out (BOH.out _ _ _).out ?_; obtain ⟨wv5, hwx⟩ : ∃ W' : World, W' = wv4.setRow gM #[.int .i64 1, .slice (some ⟨gA, 0, none⟩) 1 1] := ⟨_, rfl⟩; have fM_5 : Hid (wv5.heap[gM]? = some (.cells #[.int .i64 1, .slice (some ⟨gA, 0, none⟩) 1 1] 46 (0, 0))) := (by show _ = _; rw [hwx]; exact setRow_heap _ _ _ _ _ _ fM_4.out); have fB_5 := Lib.hid (row_setRowO fB_4.out ne_B_M #[.int .i64 1, .slice (some ⟨gA, 0, none⟩) 1 1]); rw [← hwx] at fB_5; have fN_5 := Lib.hid (row_setRowO fN_4.out ne_N_M #[.int .i64 1, .slice (some ⟨gA, 0, none⟩) 1 1]); rw [← hwx] at fN_5; have fA_5 := Lib.hid (row_setRowO fA_4.out ne_M_A.symm #[.int .i64 1, .slice (some ⟨gA, 0, none⟩) 1 1]); rw [← hwx] at fA_5; have ud5 := ud4.setRowNew bM #[.int .i64 1, .slice (some ⟨gA, 0, none⟩) 1 1]; rw [← hwx] at ud5 ⊢; clear hwx
                  refine hK.out _ _ ?_ (fun hHeld => ?_)
                  · exact HPD.out _ ud5
                  clear hK K
                  try simp only [Act.put]
                  refine wpAnyH_ready (rs := [11]) (by kernel_rfl) (by simp) ?_
                  refine AllReadyH.cons (by simp only [List.getElem?_toArray, List.getElem?_cons_succ, List.getElem?_cons_zero] <;> rfl) (fun K hK => ?_) ?_
                  · rw [if_pos (by rfl)]; refine wp_store_row 46 _ _ rfl gN #[.int .i64 1, .slice (some ⟨gB, 0, none⟩) 1 1] rfl rfl _ _ fN_5.out (BIH.out _).out (BZH.out _).out (BOH.out _ _ _).out ?_; obtain ⟨wv6, hwx⟩ : ∃ W' : World, W' = wv5.setRow gN #[.int .i64 1, .slice (some ⟨gB, 0, none⟩) 1 1] := ⟨_, rfl⟩; have fN_6 : Hid (wv6.heap[gN]? = some (.cells #[.int .i64 1, .slice (some ⟨gB, 0, none⟩) 1 1] 46 (0, 0))) := (by show _ = _; rw [hwx]; exact setRow_heap _ _ _ _ _ _ fN_5.out); have fB_6 := Lib.hid (row_setRowO fB_5.out ne_B_N #[.int .i64 1, .slice (some ⟨gB, 0, none⟩) 1 1]); rw [← hwx] at fB_6; have fM_6 := Lib.hid (row_setRowO fM_5.out ne_N_M.symm #[.int .i64 1, .slice (some ⟨gB, 0, none⟩) 1 1]); rw [← hwx] at fM_6; have fA_6 := Lib.hid (row_setRowO fA_5.out ne_N_A.symm #[.int .i64 1, .slice (some ⟨gB, 0, none⟩) 1 1]); rw [← hwx] at fA_6; have ud6 := ud5.setRowNew bN #[.int .i64 1, .slice (some ⟨gB, 0, none⟩) 1 1]; rw [← hwx] at ud6 ⊢; clear hwx
                    refine hK.out _ _ ?_ (fun hHeld => ?_)
                    · exact HPD.out _ ud6
                    clear hK K
                    try simp only [Act.put]
                    refine wpAnyH_done (by kernel_rfl) ?_ _
                    refine NoPanic.normal ?_
                    exact hJ gA gB gM gN wv6 fA_6 fB_6 fM_6 fN_6 ud6
                  exact AllReadyH.nil
                exact AllReadyH.nil
              exact AllReadyH.nil
            exact AllReadyH.nil
          exact AllReadyH.nil
        refine AllReadyH.cons (by simp only [List.getElem?_toArray, List.getElem?_cons_succ, List.getElem?_cons_zero] <;> rfl) (fun K hK => ?_) ?_
        · go_simp; obtain ⟨gM, wv1, hgx, hwx, fM_1, hq⟩ := alloc_letD wA (.cells #[.int .i64 0, .slice none 0 0] 46); rw [← hgx, ← hwx]; have bM : wA.heap.size ≤ gM := (by omega); have ud1 := hq; clear hgx hwx hq
          refine hK.out _ _ ?_ (fun hHeld => ?_)
          · exact HPD.out _ ud1
          clear hK K
          try simp only [Act.put, List.setIfInBounds_toArray, List.set_cons_zero, List.set_cons_succ]
          refine wpAnyH_ready (rs := [2, 6, 9]) (by kernel_rfl) (by simp) ?_
          refine AllReadyH.cons (by simp only [List.getElem?_toArray, List.getElem?_cons_succ, List.getElem?_cons_zero] <;> rfl) (fun K hK => ?_) ?_
          · rw [if_pos (by rfl)]; refine wp_buildRun 44 1 _ rfl _ _ (Eq.trans (congrArg (fun z => (Instr.buildSlice 44 1 z).run Tryz.prog wv1) (by kernel_rfl)) (HB1.out wv1)) ?_; obtain ⟨gA, wv2, hgx, hwx, fA_2, hq⟩ := alloc_let (wv1) (.cells X 33); rw [← hgx, ← hwx]; have bA : wA.heap.size ≤ gA := (by have := ud1.size; omega); have ud2 := ud1.trans hq; have fM_2 := Lib.hid (row_updH fM_1.out hq); have ne_M_A : gM ≠ gA := (by have := (Array.getElem?_eq_some_iff.1 fM_1.out).1; omega); clear hgx hwx hq
            refine hK.out _ _ ?_ (fun hHeld => ?_)
            · exact HPD.out _ ud2
            clear hK K
            try simp only [Act.put, List.setIfInBounds_toArray, List.set_cons_zero, List.set_cons_succ]
            refine wpAnyH_take (i := 3) (v := ?v18) (by simp only [List.getElem?_toArray, List.getElem?_cons_succ, List.getElem?_cons_zero] <;> rfl) (by kernel_rfl) (by kernel_rfl) (by kernel_rfl) (fun _ _ _ h => h) (Or.inl ⟨by rfl, ?y18⟩) hHeld ?r18
            case y18 => (intro w hSw; (try dsimp only at hSw); go_simp; first | done | with_reducible rfl | rfl)
            try simp only [Act.put, List.setIfInBounds_toArray, List.set_cons_zero, List.set_cons_succ]
            refine wpAnyH_ready (rs := [6, 9]) (by kernel_rfl) (by simp) ?_
            refine AllReadyH.cons (by simp only [List.getElem?_toArray, List.getElem?_cons_succ, List.getElem?_cons_zero] <;> rfl) (fun K hK => ?_) ?_
            · rw [if_pos (by rfl)]; refine wp_buildRun 44 1 _ rfl _ _ (Eq.trans (congrArg (fun z => (Instr.buildSlice 44 1 z).run Tryz.prog wv2) (by kernel_rfl)) (HB2.out wv2)) ?_; obtain ⟨gB, wv3, hgx, hwx, fB_3, hq⟩ := alloc_let (wv2) (.cells Y 33); rw [← hgx, ← hwx]; have bB : wA.heap.size ≤ gB := (by have := ud2.size; omega); have ud3 := ud2.trans hq; have fM_3 := Lib.hid (row_updH fM_2.out hq); have ne_M_B : gM ≠ gB := (by have := (Array.getElem?_eq_some_iff.1 fM_2.out).1; omega); have fA_3 := Lib.hid (row_updH fA_2.out hq); have ne_A_B : gA ≠ gB := (by have := (Array.getElem?_eq_some_iff.1 fA_2.out).1; omega); clear hgx hwx hq
              refine hK.out _ _ ?_ (fun hHeld => ?_)
              · exact HPD.out _ ud3
              clear hK K
              try simp only [Act.put, List.setIfInBounds_toArray, List.set_cons_zero, List.set_cons_succ]
              refine wpAnyH_take (i := 7) (v := ?v19) (by simp only [List.getElem?_toArray, List.getElem?_cons_succ, List.getElem?_cons_zero] <;> rfl) (by kernel_rfl) (by kernel_rfl) (by kernel_rfl) (fun _ _ _ h => h) (Or.inl ⟨by rfl, ?y19⟩) hHeld ?r19
              case y19 => (intro w hSw; (try dsimp only at hSw); go_simp; first | done | with_reducible rfl | rfl)
              try simp only [Act.put, List.setIfInBounds_toArray, List.set_cons_zero, List.set_cons_succ]
              refine wpAnyH_ready (rs := [9]) (by kernel_rfl) (by simp) ?_
              refine AllReadyH.cons (by simp only [List.getElem?_toArray, List.getElem?_cons_succ, List.getElem?_cons_zero] <;> rfl) (fun K hK => ?_) ?_
              · go_simp; obtain ⟨gN, wv4, hgx, hwx, fN_4, hq⟩ := alloc_let (wv3) (.cells #[.int .i64 0, .slice none 0 0] 46); rw [← hgx, ← hwx]; have bN : wA.heap.size ≤ gN := (by have := ud3.size; omega); have ud4 := ud3.trans hq; have fM_4 := Lib.hid (row_updH fM_3.out hq); have ne_M_N : gM ≠ gN := (by have := (Array.getElem?_eq_some_iff.1 fM_3.out).1; omega); have fA_4 := Lib.hid (row_updH fA_3.out hq); have ne_A_N : gA ≠ gN := (by have := (Array.getElem?_eq_some_iff.1 fA_3.out).1; omega); have fB_4 := Lib.hid (row_updH fB_3.out hq); have ne_B_N : gB ≠ gN := (by have := (Array.getElem?_eq_some_iff.1 fB_3.out).1; omega); clear hgx hwx hq
                refine hK.out _ _ ?_ (fun hHeld => ?_)
                · exact HPD.out _ ud4
                clear hK K
                try simp only [Act.put, List.setIfInBounds_toArray, List.set_cons_zero, List.set_cons_succ]
                refine wpAnyH_ready (rs := [10]) (by kernel_rfl) (by simp) ?_
                refine AllReadyH.cons (by simp only [List.getElem?_toArray, List.getElem?_cons_succ, List.getElem?_cons_zero] <;> rfl) (fun K hK => ?_) ?_
                · rw [if_pos (by rfl)]; refine wp_store_row 46 _ _ rfl gM #[.int .i64 1, .slice (some ⟨gA, 0, none⟩) 1 1] rfl rfl _ _ fM_4.out (BIH.out _).out (BZH.out _).out (BOH.out _ _ _).out ?_; obtain ⟨wv5, hwx⟩ : ∃ W' : World, W' = wv4.setRow gM #[.int .i64 1, .slice (some ⟨gA, 0, none⟩) 1 1] := ⟨_, rfl⟩; have fM_5 : Hid (wv5.heap[gM]? = some (.cells #[.int .i64 1, .slice (some ⟨gA, 0, none⟩) 1 1] 46 (0, 0))) := (by show _ = _; rw [hwx]; exact setRow_heap _ _ _ _ _ _ fM_4.out); have fA_5 := Lib.hid (row_setRowO fA_4.out ne_M_A.symm #[.int .i64 1, .slice (some ⟨gA, 0, none⟩) 1 1]); rw [← hwx] at fA_5; have fB_5 := Lib.hid (row_setRowO fB_4.out ne_M_B.symm #[.int .i64 1, .slice (some ⟨gA, 0, none⟩) 1 1]); rw [← hwx] at fB_5; have fN_5 := Lib.hid (row_setRowO fN_4.out ne_M_N.symm #[.int .i64 1, .slice (some ⟨gA, 0, none⟩) 1 1]); rw [← hwx] at fN_5; have ud5 := ud4.setRowNew bM #[.int .i64 1, .slice (some ⟨gA, 0, none⟩) 1 1]; rw [← hwx] at ud5 ⊢; clear hwx
                  refine hK.out _ _ ?_ (fun hHeld => ?_)
                  · exact HPD.out _ ud5
                  clear hK K
                  try simp only [Act.put]
                  refine wpAnyH_ready (rs := [11]) (by kernel_rfl) (by simp) ?_
                  refine AllReadyH.cons (by simp only [List.getElem?_toArray, List.getElem?_cons_succ, List.getElem?_cons_zero] <;> rfl) (fun K hK => ?_) ?_
                  · rw [if_pos (by rfl)]; refine wp_store_row 46 _ _ rfl gN #[.int .i64 1, .slice (some ⟨gB, 0, none⟩) 1 1] rfl rfl _ _ fN_5.out (BIH.out _).out (BZH.out _).out (BOH.out _ _ _).out ?_; obtain ⟨wv6, hwx⟩ : ∃ W' : World, W' = wv5.setRow gN #[.int .i64 1, .slice (some ⟨gB, 0, none⟩) 1 1] := ⟨_, rfl⟩; have fN_6 : Hid (wv6.heap[gN]? = some (.cells #[.int .i64 1, .slice (some ⟨gB, 0, none⟩) 1 1] 46 (0, 0))) := (by show _ = _; rw [hwx]; exact setRow_heap _ _ _ _ _ _ fN_5.out); have fM_6 := Lib.hid (row_setRowO fM_5.out ne_M_N #[.int .i64 1, .slice (some ⟨gB, 0, none⟩) 1 1]); rw [← hwx] at fM_6; have fA_6 := Lib.hid (row_setRowO fA_5.out ne_A_N #[.int .i64 1, .slice (some ⟨gB, 0, none⟩) 1 1]); rw [← hwx] at fA_6; have fB_6 := Lib.hid (row_setRowO fB_5.out ne_B_N #[.int .i64 1, .slice (some ⟨gB, 0, none⟩) 1 1]); rw [← hwx] at fB_6; have ud6 := ud5.setRowNew bN #[.int .i64 1, .slice (some ⟨gB, 0, none⟩) 1 1]; rw [← hwx] at ud6 ⊢; clear hwx
                    refine hK.out _ _ ?_ (fun hHeld => ?_)
                    · exact HPD.out _ ud6
                    clear hK K
                    try simp only [Act.put]
                    refine wpAnyH_done (by kernel_rfl) ?_ _
                    refine NoPanic.normal ?_
                    exact hJ gA gB gM gN wv6 fA_6 fB_6 fM_6 fN_6 ud6
                  exact AllReadyH.nil
                exact AllReadyH.nil
              exact AllReadyH.nil
            refine AllReadyH.cons (by simp only [List.getElem?_toArray, List.getElem?_cons_succ, List.getElem?_cons_zero] <;> rfl) (fun K hK => ?_) ?_
            · go_simp; obtain ⟨gN, wv3, hgx, hwx, fN_3, hq⟩ := alloc_let (wv2) (.cells #[.int .i64 0, .slice none 0 0] 46); rw [← hgx, ← hwx]; have bN : wA.heap.size ≤ gN := (by have := ud2.size; omega); have ud3 := ud2.trans hq; have fM_3 := Lib.hid (row_updH fM_2.out hq); have ne_M_N : gM ≠ gN := (by have := (Array.getElem?_eq_some_iff.1 fM_2.out).1; omega); have fA_3 := Lib.hid (row_updH fA_2.out hq); have ne_A_N : gA ≠ gN := (by have := (Array.getElem?_eq_some_iff.1 fA_2.out).1; omega); clear hgx hwx hq
              refine hK.out _ _ ?_ (fun hHeld => ?_)
              · exact HPD.out _ ud3
              clear hK K
              try simp only [Act.put, List.setIfInBounds_toArray, List.set_cons_zero, List.set_cons_succ]
              refine wpAnyH_ready (rs := [6, 10]) (by kernel_rfl) (by simp) ?_
              refine AllReadyH.cons (by simp only [List.getElem?_toArray, List.getElem?_cons_succ, List.getElem?_cons_zero] <;> rfl) (fun K hK => ?_) ?_
              · rw [if_pos (by rfl)]; refine wp_buildRun 44 1 _ rfl _ _ (Eq.trans (congrArg (fun z => (Instr.buildSlice 44 1 z).run Tryz.prog wv3) (by kernel_rfl)) (HB2.out wv3)) ?_; obtain ⟨gB, wv4, hgx, hwx, fB_4, hq⟩ := alloc_let (wv3) (.cells Y 33); rw [← hgx, ← hwx]; have bB : wA.heap.size ≤ gB := (by have := ud3.size; omega); have ud4 := ud3.trans hq; have fM_4 := Lib.hid (row_updH fM_3.out hq); have ne_M_B : gM ≠ gB := (by have := (Array.getElem?_eq_some_iff.1 fM_3.out).1; omega); have fA_4 := Lib.hid (row_updH fA_3.out hq); have ne_A_B : gA ≠ gB := (by have := (Array.getElem?_eq_some_iff.1 fA_3.out).1; omega); have fN_4 := Lib.hid (row_updH fN_3.out hq); have ne_N_B : gN ≠ gB := (by have := (Array.getElem?_eq_some_iff.1 fN_3.out).1; omega); clear hgx hwx hq
                refine hK.out _ _ ?_ (fun hHeld => ?_)
                · exact HPD.out _ ud4
                clear hK K
                try simp only [Act.put, List.setIfInBounds_toArray, List.set_cons_zero, List.set_cons_succ]
                refine wpAnyH_take (i := 7) (v := ?v20) (by simp only [List.getElem?_toArray, List.getElem?_cons_succ, List.getElem?_cons_zero] <;> rfl) (by kernel_rfl) (by kernel_rfl) (by kernel_rfl) (fun _ _ _ h => h) (Or.inl ⟨by rfl, ?y20⟩) hHeld ?r20
                case y20 => (intro w hSw; (try dsimp only at hSw); go_simp; first | done | with_reducible rfl | rfl)
                try simp only [Act.put, List.setIfInBounds_toArray, List.set_cons_zero, List.set_cons_succ]
                refine wpAnyH_ready (rs := [10]) (by kernel_rfl) (by simp) ?_
                refine AllReadyH.cons (by simp only [List.getElem?_toArray, List.getElem?_cons_succ, List.getElem?_cons_zero] <;> rfl) (fun K hK => ?_) ?_
                · rw [if_pos (by rfl)]; refine wp_store_row 46 _ _ rfl gM #[.int .i64 1, .slice (some ⟨gA, 0, none⟩) 1 1] rfl rfl _ _ fM_4.out (BIH.out _).out (BZH.out _).out (BOH.out _ _ _).out ?_; obtain ⟨wv5, hwx⟩ : ∃ W' : World, W' = wv4.setRow gM #[.int .i64 1, .slice (some ⟨gA, 0, none⟩) 1 1] := ⟨_, rfl⟩; have fM_5 : Hid (wv5.heap[gM]? = some (.cells #[.int .i64 1, .slice (some ⟨gA, 0, none⟩) 1 1] 46 (0, 0))) := (by show _ = _; rw [hwx]; exact setRow_heap _ _ _ _ _ _ fM_4.out); have fA_5 := Lib.hid (row_setRowO fA_4.out ne_M_A.symm #[.int .i64 1, .slice (some ⟨gA, 0, none⟩) 1 1]); rw [← hwx] at fA_5; have fN_5 := Lib.hid (row_setRowO fN_4.out ne_M_N.symm #[.int .i64 1, .slice (some ⟨gA, 0, none⟩) 1 1]); rw [← hwx] at fN_5; have fB_5 := Lib.hid (row_setRowO fB_4.out ne_M_B.symm #[.int .i64 1, .slice (some ⟨gA, 0, none⟩) 1 1]); rw [← hwx] at fB_5; have ud5 := ud4.setRowNew bM #[.int .i64 1, .slice (some ⟨gA, 0, none⟩) 1 1]; rw [← hwx] at ud5 ⊢; clear hwx
                  refine hK.out _ _ ?_ (fun hHeld => ?_)
                  · exact HPD.out _ ud5
                  clear hK K
                  try simp only [Act.put]
                  refine wpAnyH_ready (rs := [11]) (by kernel_rfl) (by simp) ?_
                  refine AllReadyH.cons (by simp only [List.getElem?_toArray, List.getElem?_cons_succ, List.getElem?_cons_zero] <;> rfl) (fun K hK => ?_) ?_
                  · rw [if_pos (by rfl)]; refine wp_store_row 46 _ _ rfl gN #[.int .i64 1, .slice (some ⟨gB, 0, none⟩) 1 1] rfl rfl _ _ fN_5.out (BIH.out _).out (BZH.out _).out (BOH.out _ _ _).out ?_; obtain ⟨wv6, hwx⟩ : ∃ W' : World, W' = wv5.setRow gN #[.int .i64 1, .slice (some ⟨gB, 0, none⟩) 1 1] := ⟨_, rfl⟩; have fN_6 : Hid (wv6.heap[gN]? = some (.cells #[.int .i64 1, .slice (some ⟨gB, 0, none⟩) 1 1] 46 (0, 0))) := (by show _ = _; rw [hwx]; exact setRow_heap _ _ _ _ _ _ fN_5.out); have fM_6 := Lib.hid (row_setRowO fM_5.out ne_M_N #[.int .i64 1, .slice (some ⟨gB, 0, none⟩) 1 1]); rw [← hwx] at fM_6; have fA_6 := Lib.hid (row_setRowO fA_5.out ne_A_N #[.int .i64 1, .slice (some ⟨gB, 0, none⟩) 1 1]); rw [← hwx] at fA_6; have fB_6 := Lib.hid (row_setRowO fB_5.out ne_N_B.symm #[.int .i64 1, .slice (some ⟨gB, 0, none⟩) 1 1]); rw [← hwx] at fB_6; have ud6 := ud5.setRowNew bN #[.int .i64 1, .slice (some ⟨gB, 0, none⟩) 1 1]; rw [← hwx] at ud6 ⊢; clear hwx
                    refine hK.out _ _ ?_ (fun hHeld => ?_)
                    · exact HPD.out _ ud6
                    clear hK K
                    try simp only [Act.put]
                    refine wpAnyH_done (by kernel_rfl) ?_ _
                    refine NoPanic.normal ?_
                    exact hJ gA gB gM gN wv6 fA_6 fB_6 fM_6 fN_6 ud6
                  exact AllReadyH.nil
                exact AllReadyH.nil
              refine AllReadyH.cons (by simp only [List.getElem?_toArray, List.getElem?_cons_succ, List.getElem?_cons_zero] <;> rfl) (fun K hK => ?_) ?_
              · rw [if_pos (by rfl)]; refine wp_store_row 46 _ _ rfl gM #[.int .i64 1, .slice (some ⟨gA, 0, none⟩) 1 1] rfl rfl _ _ fM_3.out (BIH.out _).out (BZH.out _).out (BOH.out _ _ _).out ?_; obtain ⟨wv4, hwx⟩ : ∃ W' : World, W' = wv3.setRow gM #[.int .i64 1, .slice (some ⟨gA, 0, none⟩) 1 1] := ⟨_, rfl⟩; have fM_4 : Hid (wv4.heap[gM]? = some (.cells #[.int .i64 1, .slice (some ⟨gA, 0, none⟩) 1 1] 46 (0, 0))) := (by show _ = _; rw [hwx]; exact setRow_heap _ _ _ _ _ _ fM_3.out); have fA_4 := Lib.hid (row_setRowO fA_3.out ne_M_A.symm #[.int .i64 1, .slice (some ⟨gA, 0, none⟩) 1 1]); rw [← hwx] at fA_4; have fN_4 := Lib.hid (row_setRowO fN_3.out ne_M_N.symm #[.int .i64 1, .slice (some ⟨gA, 0, none⟩) 1 1]); rw [← hwx] at fN_4; have ud4 := ud3.setRowNew bM #[.int .i64 1, .slice (some ⟨gA, 0, none⟩) 1 1]; rw [← hwx] at ud4 ⊢; clear hwx
                refine hK.out _ _ ?_ (fun hHeld => ?_)
                · exact HPD.out _ ud4
                clear hK K
                try simp only [Act.put]
                refine wpAnyH_ready (rs := [6]) (by kernel_rfl) (by simp) ?_
                refine AllReadyH.cons (by simp only [List.getElem?_toArray, List.getElem?_cons_succ, List.getElem?_cons_zero] <;> rfl) (fun K hK => ?_) ?_
                · rw [if_pos (by rfl)]; refine wp_buildRun 44 1 _ rfl _ _ (Eq.trans (congrArg (fun z => (Instr.buildSlice 44 1 z).run Tryz.prog wv4) (by kernel_rfl)) (HB2.out wv4)) ?_; obtain ⟨gB, wv5, hgx, hwx, fB_5, hq⟩ := alloc_let (wv4) (.cells Y 33); rw [← hgx, ← hwx]; have bB : wA.heap.size ≤ gB := (by have := ud4.size; omega); have ud5 := ud4.trans hq; have fM_5 := Lib.hid (row_updH fM_4.out hq); have ne_M_B : gM ≠ gB := (by have := (Array.getElem?_eq_some_iff.1 fM_4.out).1; omega); have fA_5 := Lib.hid (row_updH fA_4.out hq); have ne_A_B : gA ≠ gB := (by have := (Array.getElem?_eq_some_iff.1 fA_4.out).1; omega); have fN_5 := Lib.hid (row_updH fN_4.out hq); have ne_N_B : gN ≠ gB := (by have := (Array.getElem?_eq_some_iff.1 fN_4.out).1; omega); clear hgx hwx hq
                  refine hK.out _ _ ?_ (fun hHeld => ?_)
                  · exact HPD.out _ ud5
                  clear hK K
                  try simp only [Act.put, List.setIfInBounds_toArray, List.set_cons_zero, List.set_cons_succ]
                  refine wpAnyH_take (i := 7) (v := ?v21) (by simp only [List.getElem?_toArray, List.getElem?_cons_succ, List.getElem?_cons_zero] <;> rfl) (by kernel_rfl) (by kernel_rfl) (by kernel_rfl) (fun _ _ _ h => h) (Or.inl ⟨by rfl, ?y21⟩) hHeld ?r21
                  case y21 => (intro w hSw; (try dsimp only at hSw); go_simp; first | done | with_reducible rfl | rfl)
                  try simp only [Act.put, List.setIfInBounds_toArray, List.set_cons_zero, List.set_cons_succ]
                  refine wpAnyH_ready (rs := [11]) (by kernel_rfl) (by simp) ?_
                  refine AllReadyH.cons (by simp only [List.getElem?_toArray, List.getElem?_cons_succ, List.getElem?_cons_zero] <;> rfl) (fun K hK => ?_) ?_
                  · rw [if_pos (by rfl)]; refine wp_store_row 46 _ _ rfl gN #[.int .i64 1, .slice (some ⟨gB, 0, none⟩) 1 1] rfl rfl _ _ fN_5.out (BIH.out _).out (BZH.out _).out (BOH.out _ _ _).out ?_; obtain ⟨wv6, hwx⟩ : ∃ W' : World, W' = wv5.setRow gN #[.int .i64 1, .slice (some ⟨gB, 0, none⟩) 1 1] := ⟨_, rfl⟩; have fN_6 : Hid (wv6.heap[gN]? = some (.cells #[.int .i64 1, .slice (some ⟨gB, 0, none⟩) 1 1] 46 (0, 0))) := (by show _ = _; rw [hwx]; exact setRow_heap _ _ _ _ _ _ fN_5.out); have fM_6 := Lib.hid (row_setRowO fM_5.out ne_M_N #[.int .i64 1, .slice (some ⟨gB, 0, none⟩) 1 1]); rw [← hwx] at fM_6; have fA_6 := Lib.hid (row_setRowO fA_5.out ne_A_N #[.int .i64 1, .slice (some ⟨gB, 0, none⟩) 1 1]); rw [← hwx] at fA_6; have fB_6 := Lib.hid (row_setRowO fB_5.out ne_N_B.symm #[.int .i64 1, .slice (some ⟨gB, 0, none⟩) 1 1]); rw [← hwx] at fB_6; have ud6 := ud5.setRowNew bN #[.int .i64 1, .slice (some ⟨gB, 0, none⟩) 1 1]; rw [← hwx] at ud6 ⊢; clear hwx
                    refine hK.out _ _ ?_ (fun hHeld => ?_)
                    · exact HPD.out _ ud6
                    clear hK K
                    try simp only [Act.put]
                    refine wpAnyH_done (by kernel_rfl) ?_ _
                    refine NoPanic.normal ?_
                    exact hJ gA gB gM gN wv6 fA_6 fB_6 fM_6 fN_6 ud6
                  exact AllReadyH.nil
                exact AllReadyH.nil
              exact AllReadyH.nil
            exact AllReadyH.nil
          refine AllReadyH.cons (by simp only [List.getElem?_toArray, List.getElem?_cons_succ, List.getElem?_cons_zero] <;> rfl) (fun K hK => ?_) ?_
          · rw [if_pos (by rfl)]; refine wp_buildRun 44 1 _ rfl _ _ (Eq.trans (congrArg (fun z => (Instr.buildSlice 44 1 z).run Tryz.prog wv1) (by kernel_rfl)) (HB2.out wv1)) ?_; obtain ⟨gB, wv2, hgx, hwx, fB_2, hq⟩ := alloc_let (wv1) (.cells Y 33); rw [← hgx, ← hwx]; have bB : wA.heap.size ≤ gB := (by have := ud1.size; omega); have ud2 := ud1.trans hq; have fM_2 := Lib.hid (row_updH fM_1.out hq); have ne_M_B : gM ≠ gB := (by have := (Array.getElem?_eq_some_iff.1 fM_1.out).1; omega); clear hgx hwx hq
            refine hK.out _ _ ?_ (fun hHeld => ?_)
            · exact HPD.out _ ud2
            clear hK K
            try simp only [Act.put, List.setIfInBounds_toArray, List.set_cons_zero, List.set_cons_succ]
            refine wpAnyH_take (i := 7) (v := ?v22) (by simp only [List.getElem?_toArray, List.getElem?_cons_succ, List.getElem?_cons_zero] <;> rfl) (by kernel_rfl) (by kernel_rfl) (by kernel_rfl) (fun _ _ _ h => h) (Or.inl ⟨by rfl, ?y22⟩) hHeld ?r22
            case y22 => (intro w hSw; (try dsimp only at hSw); go_simp; first | done | with_reducible rfl | rfl)
            try simp only [Act.put, List.setIfInBounds_toArray, List.set_cons_zero, List.set_cons_succ]
            refine wpAnyH_ready (rs := [2, 9]) (by kernel_rfl) (by simp) ?_
            refine AllReadyH.cons (by simp only [List.getElem?_toArray, List.getElem?_cons_succ, List.getElem?_cons_zero] <;> rfl) (fun K hK => ?_) ?_
            · rw [if_pos (by rfl)]; refine wp_buildRun 44 1 _ rfl _ _ (Eq.trans (congrArg (fun z => (Instr.buildSlice 44 1 z).run Tryz.prog wv2) (by kernel_rfl)) (HB1.out wv2)) ?_; obtain ⟨gA, wv3, hgx, hwx, fA_3, hq⟩ := alloc_let (wv2) (.cells X 33); rw [← hgx, ← hwx]; have bA : wA.heap.size ≤ gA := (by have := ud2.size; omega); have ud3 := ud2.trans hq; have fM_3 := Lib.hid (row_updH fM_2.out hq); have ne_M_A : gM ≠ gA := (by have := (Array.getElem?_eq_some_iff.1 fM_2.out).1; omega); have fB_3 := Lib.hid (row_updH fB_2.out hq); have ne_B_A : gB ≠ gA := (by have := (Array.getElem?_eq_some_iff.1 fB_2.out).1; omega); clear hgx hwx hq
              refine hK.out _ _ ?_ (fun hHeld => ?_)
              · exact HPD.out _ ud3
              clear hK K
              try simp only [Act.put, List.setIfInBounds_toArray, List.set_cons_zero, List.set_cons_succ]
              refine wpAnyH_take (i := 3) (v := ?v23) (by simp only [List.getElem?_toArray, List.getElem?_cons_succ, List.getElem?_cons_zero] <;> rfl) (by kernel_rfl) (by kernel_rfl) (by kernel_rfl) (fun _ _ _ h => h) (Or.inl ⟨by rfl, ?y23⟩) hHeld ?r23
              case y23 => (intro w hSw; (try dsimp only at hSw); go_simp; first | done | with_reducible rfl | rfl)
              try simp only [Act.put, List.setIfInBounds_toArray, List.set_cons_zero, List.set_cons_succ]
              refine wpAnyH_ready (rs := [9]) (by kernel_rfl) (by simp) ?_
              refine AllReadyH.cons (by simp only [List.getElem?_toArray, List.getElem?_cons_succ, List.getElem?_cons_zero] <;> rfl) (fun K hK => ?_) ?_
              · go_simp; obtain ⟨gN, wv4, hgx, hwx, fN_4, hq⟩ := alloc_let (wv3) (.cells #[.int .i64 0, .slice none 0 0] 46); rw [← hgx, ← hwx]; have bN : wA.heap.size ≤ gN := (by have := ud3.size; omega); have ud4 := ud3.trans hq; have fM_4 := Lib.hid (row_updH fM_3.out hq); have ne_M_N : gM ≠ gN := (by have := (Array.getElem?_eq_some_iff.1 fM_3.out).1; omega); have fB_4 := Lib.hid (row_updH fB_3.out hq); have ne_B_N : gB ≠ gN := (by have := (Array.getElem?_eq_some_iff.1 fB_3.out).1; omega); have fA_4 := Lib.hid (row_updH fA_3.out hq); have ne_A_N : gA ≠ gN := (by have := (Array.getElem?_eq_some_iff.1 fA_3.out).1; omega); clear hgx hwx hq
                refine hK.out _ _ ?_ (fun hHeld => ?_)
                · exact HPD.out _ ud4
                clear hK K
                try simp only [Act.put, List.setIfInBounds_toArray, List.set_cons_zero, List.set_cons_succ]
                refine wpAnyH_ready (rs := [10]) (by kernel_rfl) (by simp) ?_
                refine AllReadyH.cons (by simp only [List.getElem?_toArray, List.getElem?_cons_succ, List.getElem?_cons_zero] <;> rfl) (fun K hK => ?_) ?_
                · rw [if_pos (by rfl)]; refine wp_store_row 46 _ _ rfl gM #[.int .i64 1, .slice (some ⟨gA, 0, none⟩) 1 1] rfl rfl _ _ fM_4.out (BIH.out _).out (BZH.out _).out (BOH.out _ _ _).out ?_; obtain ⟨wv5, hwx⟩ : ∃ W' : World, W' = wv4.setRow gM #[.int .i64 1, .slice (some ⟨gA, 0, none⟩) 1 1] := ⟨_, rfl⟩; have fM_5 : Hid (wv5.heap[gM]? = some (.cells #[.int .i64 1, .slice (some ⟨gA, 0, none⟩) 1 1] 46 (0, 0))) := (by show _ = _; rw [hwx]; exact setRow_heap _ _ _ _ _ _ fM_4.out); have fB_5 := Lib.hid (row_setRowO fB_4.out ne_M_B.symm #[.int .i64 1, .slice (some ⟨gA, 0, none⟩) 1 1]); rw [← hwx] at fB_5; have fA_5 := Lib.hid (row_setRowO fA_4.out ne_M_A.symm #[.int .i64 1, .slice (some ⟨gA, 0, none⟩) 1 1]); rw [← hwx] at fA_5; have fN_5 := Lib.hid (row_setRowO fN_4.out ne_M_N.symm #[.int .i64 1, .slice (some ⟨gA, 0, none⟩) 1 1]); rw [← hwx] at fN_5; have ud5 := ud4.setRowNew bM #[.int .i64 1, .slice (some ⟨gA, 0, none⟩) 1 1]; rw [← hwx] at ud5 ⊢; clear hwx
                  refine hK.out _ _ ?_ (fun hHeld => ?_)
                  · exact HPD.out _ ud5
                  clear hK K
                  try simp only [Act.put]
                  refine wpAnyH_ready (rs := [11]) (by kernel_rfl) (by simp) ?_
                  refine AllReadyH.cons (by simp only [List.getElem?_toArray, List.getElem?_cons_succ, List.getElem?_cons_zero] <;> rfl) (fun K hK => ?_) ?_
                  · rw [if_pos (by rfl)]; refine wp_store_row 46 _ _ rfl gN #[.int .i64 1, .slice (some ⟨gB, 0, none⟩) 1 1] rfl rfl _ _ fN_5.out (BIH.out _).out (BZH.out _).out (BOH.out _ _ _).out ?_; obtain ⟨wv6, hwx⟩ : ∃ W' : World, W' = wv5.setRow gN #[.int .i64 1, .slice (some ⟨gB, 0, none⟩) 1 1] := ⟨_, rfl⟩; have fN_6 : Hid (wv6.heap[gN]? = some (.cells #[.int .i64 1, .slice (some ⟨gB, 0, none⟩) 1 1] 46 (0, 0))) := (by show _ = _; rw [hwx]; exact setRow_heap _ _ _ _ _ _ fN_5.out); have fM_6 := Lib.hid (row_setRowO fM_5.out ne_M_N #[.int .i64 1, .slice (some ⟨gB, 0, none⟩) 1 1]); rw [← hwx] at fM_6; have fB_6 := Lib.hid (row_setRowO fB_5.out ne_B_N #[.int .i64 1, .slice (some ⟨gB, 0, none⟩) 1 1]); rw [← hwx] at fB_6; have fA_6 := Lib.hid (row_setRowO fA_5.out ne_A_N #[.int .i64 1, .slice (some ⟨gB, 0, none⟩) 1 1]); rw [← hwx] at fA_6; have ud6 := ud5.setRowNew bN #[.int .i64 1, .slice (some ⟨gB, 0, none⟩) 1 1]; rw [← hwx] at ud6 ⊢; clear hwx
                    refine hK.out _ _ ?_ (fun hHeld => ?_)
                    · exact HPD.out _ ud6
                    clear hK K
                    try simp only [Act.put]
                    refine wpAnyH_done (by kernel_rfl) ?_ _
                    refine NoPanic.normal ?_
                    exact hJ gA gB gM gN wv6 fA_6 fB_6 fM_6 fN_6 ud6
                  exact AllReadyH.nil
                exact AllReadyH.nil
              exact AllReadyH.nil
            refine AllReadyH.cons (by simp only [List.getElem?_toArray, List.getElem?_cons_succ, List.getElem?_cons_zero] <;> rfl) (fun K hK => ?_) ?_
            · go_simp; obtain ⟨gN, wv3, hgx, hwx, fN_3, hq⟩ := alloc_let (wv2) (.cells #[.int .i64 0, .slice none 0 0] 46); rw [← hgx, ← hwx]; have bN : wA.heap.size ≤ gN := (by have := ud2.size; omega); have ud3 := ud2.trans hq; have fM_3 := Lib.hid (row_updH fM_2.out hq); have ne_M_N : gM ≠ gN := (by have := (Array.getElem?_eq_some_iff.1 fM_2.out).1; omega); have fB_3 := Lib.hid (row_updH fB_2.out hq); have ne_B_N : gB ≠ gN := (by have := (Array.getElem?_eq_some_iff.1 fB_2.out).1; omega); clear hgx hwx hq
              refine hK.out _ _ ?_ (fun hHeld => ?_)
              · exact HPD.out _ ud3
              clear hK K
              try simp only [Act.put, List.setIfInBounds_toArray, List.set_cons_zero, List.set_cons_succ]
              refine wpAnyH_ready (rs := [2]) (by kernel_rfl) (by simp) ?_
              refine AllReadyH.cons (by simp only [List.getElem?_toArray, List.getElem?_cons_succ, List.getElem?_cons_zero] <;> rfl) (fun K hK => ?_) ?_
              · rw [if_pos (by rfl)]; refine wp_buildRun 44 1 _ rfl _ _ (Eq.trans (congrArg (fun z => (Instr.buildSlice 44 1 z).run Tryz.prog wv3) (by kernel_rfl)) (HB1.out wv3)) ?_; obtain ⟨gA, wv4, hgx, hwx, fA_4, hq⟩ := alloc_let (wv3) (.cells X 33); rw [← hgx, ← hwx]; have bA : wA.heap.size ≤ gA := (by have := ud3.size; omega); have ud4 := ud3.trans hq; have fM_4 := Lib.hid (row_updH fM_3.out hq); have ne_M_A : gM ≠ gA := (by have := (Array.getElem?_eq_some_iff.1 fM_3.out).1; omega); have fB_4 := Lib.hid (row_updH fB_3.out hq); have ne_B_A : gB ≠ gA := (by have := (Array.getElem?_eq_some_iff.1 fB_3.out).1; omega); have fN_4 := Lib.hid (row_updH fN_3.out hq); have ne_N_A : gN ≠ gA := (by have := (Array.getElem?_eq_some_iff.1 fN_3.out).1; omega); clear hgx hwx hq
                refine hK.out _ _ ?_ (fun hHeld => ?_)
                · exact HPD.out _ ud4
                clear hK K
                try simp only [Act.put, List.setIfInBounds_toArray, List.set_cons_zero, List.set_cons_succ]
                refine wpAnyH_take (i := 3) (v := ?v24) (by simp only [List.getElem?_toArray, List.getElem?_cons_succ, List.getElem?_cons_zero] <;> rfl) (by kernel_rfl) (by kernel_rfl) (by kernel_rfl) (fun _ _ _ h => h) (Or.inl ⟨by rfl, ?y24⟩) hHeld ?r24
                case y24 => (intro w hSw; (try dsimp only at hSw); go_simp; first | done | with_reducible rfl | rfl)
                try simp only [Act.put, List.setIfInBounds_toArray, List.set_cons_zero, List.set_cons_succ]
                refine wpAnyH_ready (rs := [10]) (by kernel_rfl) (by simp) ?_
                refine AllReadyH.cons (by simp only [List.getElem?_toArray, List.getElem?_cons_succ, List.getElem?_cons_zero] <;> rfl) (fun K hK => ?_) ?_
                · rw [if_pos (by rfl)]; refine wp_store_row 46 _ _ rfl gM #[.int .i64 1, .slice (some ⟨gA, 0, none⟩) 1 1] rfl rfl _ _ fM_4.out (BIH.out _).out (BZH.out _).out (BOH.out _ _ _).out ?_; obtain ⟨wv5, hwx⟩ : ∃ W' : World, W' = wv4.setRow gM #[.int .i64 1, .slice (some ⟨gA, 0, none⟩) 1 1] := ⟨_, rfl⟩; have fM_5 : Hid (wv5.heap[gM]? = some (.cells #[.int .i64 1, .slice (some ⟨gA, 0, none⟩) 1 1] 46 (0, 0))) := (by show _ = _; rw [hwx]; exact setRow_heap _ _ _ _ _ _ fM_4.out); have fB_5 := Lib.hid (row_setRowO fB_4.out ne_M_B.symm #[.int .i64 1, .slice (some ⟨gA, 0, none⟩) 1 1]); rw [← hwx] at fB_5; have fN_5 := Lib.hid (row_setRowO fN_4.out ne_M_N.symm #[.int .i64 1, .slice (some ⟨gA, 0, none⟩) 1 1]); rw [← hwx] at fN_5; have fA_5 := Lib.hid (row_setRowO fA_4.out ne_M_A.symm #[.int .i64 1, .slice (some ⟨gA, 0, none⟩) 1 1]); rw [← hwx] at fA_5; have ud5 := ud4.setRowNew bM #[.int .i64 1, .slice (some ⟨gA, 0, none⟩) 1 1]; rw [← hwx] at ud5 ⊢; clear hwx
                  refine hK.out _ _ ?_ (fun hHeld => ?_)
                  · exact HPD.out _ ud5
                  clear hK K
                  try simp only [Act.put]
                  refine wpAnyH_ready (rs := [11]) (by kernel_rfl) (by simp) ?_
                  refine AllReadyH.cons (by simp only [List.getElem?_toArray, List.getElem?_cons_succ, List.getElem?_cons_zero] <;> rfl) (fun K hK => ?_) ?_
                  · rw [if_pos (by rfl)]; refine wp_store_row 46 _ _ rfl gN #[.int .i64 1, .slice (some ⟨gB, 0, none⟩) 1 1] rfl rfl _ _ fN_5.out (BIH.out _).out (BZH.out _).out (BOH.out _ _ _).out ?_; obtain ⟨wv6, hwx⟩ : ∃ W' : World, W' = wv5.setRow gN #[.int .i64 1, .slice (some ⟨gB, 0, none⟩) 1 1] := ⟨_, rfl⟩; have fN_6 : Hid (wv6.heap[gN]? = some (.cells #[.int .i64 1, .slice (some ⟨gB, 0, none⟩) 1 1] 46 (0, 0))) := (by show _ = _; rw [hwx]; exact setRow_heap _ _ _ _ _ _ fN_5.out); have fM_6 := Lib.hid (row_setRowO fM_5.out ne_M_N #[.int .i64 1, .slice (some ⟨gB, 0, none⟩) 1 1]); rw [← hwx] at fM_6; have fB_6 := Lib.hid (row_setRowO fB_5.out ne_B_N #[.int .i64 1, .slice (some ⟨gB, 0, none⟩) 1 1]); rw [← hwx] at fB_6; have fA_6 := Lib.hid (row_setRowO fA_5.out ne_N_A.symm #[.int .i64 1, .slice (some ⟨gB, 0, none⟩) 1 1]); rw [← hwx] at fA_6; have ud6 := ud5.setRowNew bN #[.int .i64 1, .slice (some ⟨gB, 0, none⟩) 1 1]; rw [← hwx] at ud6 ⊢; clear hwx
                    refine hK.out _ _ ?_ (fun hHeld => ?_)
                    · exact HPD.out _ ud6
                    clear hK K
                    try simp only [Act.put]
                    refine wpAnyH_done (by kernel_rfl) ?_ _
                    refine NoPanic.normal ?_
                    exact hJ gA gB gM gN wv6 fA_6 fB_6 fM_6 fN_6 ud6
                  exact AllReadyH.nil
                exact AllReadyH.nil
              exact AllReadyH.nil
            exact AllReadyH.nil
          refine AllReadyH.cons (by simp only [List.getElem?_toArray, List.getElem?_cons_succ, List.getElem?_cons_zero] <;> rfl) (fun K hK => ?_) ?_
          · go_simp; obtain ⟨gN, wv2, hgx, hwx, fN_2, hq⟩ := alloc_let (wv1) (.cells #[.int .i64 0, .slice none 0 0] 46); rw [← hgx, ← hwx]; have bN : wA.heap.size ≤ gN := (by have := ud1.size; omega); have ud2 := ud1.trans hq; have fM_2 := Lib.hid (row_updH fM_1.out hq); have ne_M_N : gM ≠ gN := (by have := (Array.getElem?_eq_some_iff.1 fM_1.out).1; omega); clear hgx hwx hq
            refine hK.out _ _ ?_ (fun hHeld => ?_)
            · exact HPD.out _ ud2
            clear hK K
            try simp only [Act.put, List.setIfInBounds_toArray, List.set_cons_zero, List.set_cons_succ]
            refine wpAnyH_ready (rs := [2, 6]) (by kernel_rfl) (by simp) ?_
            refine AllReadyH.cons (by simp only [List.getElem?_toArray, List.getElem?_cons_succ, List.getElem?_cons_zero] <;> rfl) (fun K hK => ?_) ?_
            · rw [if_pos (by rfl)]; refine wp_buildRun 44 1 _ rfl _ _ (Eq.trans (congrArg (fun z => (Instr.buildSlice 44 1 z).run Tryz.prog wv2) (by kernel_rfl)) (HB1.out wv2)) ?_; obtain ⟨gA, wv3, hgx, hwx, fA_3, hq⟩ := alloc_let (wv2) (.cells X 33); rw [← hgx, ← hwx]; have bA : wA.heap.size ≤ gA := (by have := ud2.size; omega); have ud3 := ud2.trans hq; have fM_3 := Lib.hid (row_updH fM_2.out hq); have ne_M_A : gM ≠ gA := (by have := (Array.getElem?_eq_some_iff.1 fM_2.out).1; omega); have fN_3 := Lib.hid (row_updH fN_2.out hq); have ne_N_A : gN ≠ gA := (by have := (Array.getElem?_eq_some_iff.1 fN_2.out).1; omega); clear hgx hwx hq
              refine hK.out _ _ ?_ (fun hHeld => ?_)
              · exact HPD.out _ ud3
              clear hK K
              try simp only [Act.put, List.setIfInBounds_toArray, List.set_cons_zero, List.set_cons_succ]
              refine wpAnyH_take (i := 3) (v := ?v25) (by simp only [List.getElem?_toArray, List.getElem?_cons_succ, List.getElem?_cons_zero] <;> rfl) (by kernel_rfl) (by kernel_rfl) (by kernel_rfl) (fun _ _ _ h => h) (Or.inl ⟨by rfl, ?y25⟩) hHeld ?r25
              case y25 => (intro w hSw; (try dsimp only at hSw); go_simp; first | done | with_reducible rfl | rfl)
              try simp only [Act.put, List.setIfInBounds_toArray, List.set_cons_zero, List.set_cons_succ]
              refine wpAnyH_ready (rs := [6, 10]) (by kernel_rfl) (by simp) ?_
              refine AllReadyH.cons (by simp only [List.getElem?_toArray, List.getElem?_cons_succ, List.getElem?_cons_zero] <;> rfl) (fun K hK => ?_) ?_
              · rw [if_pos (by rfl)]; refine wp_buildRun 44 1 _ rfl _ _ (Eq.trans (congrArg (fun z => (Instr.buildSlice 44 1 z).run Tryz.prog wv3) (by kernel_rfl)) (HB2.out wv3)) ?_; obtain ⟨gB, wv4, hgx, hwx, fB_4, hq⟩ := alloc_let (wv3) (.cells Y 33); rw [← hgx, ← hwx]; have bB : wA.heap.size ≤ gB := (by have := ud3.size; omega); have ud4 := ud3.trans hq; have fM_4 := Lib.hid (row_updH fM_3.out hq); have ne_M_B : gM ≠ gB := (by have := (Array.getElem?_eq_some_iff.1 fM_3.out).1; omega); have fN_4 := Lib.hid (row_updH fN_3.out hq); have ne_N_B : gN ≠ gB := (by have := (Array.getElem?_eq_some_iff.1 fN_3.out).1; omega); have fA_4 := Lib.hid (row_updH fA_3.out hq); have ne_A_B : gA ≠ gB := (by have := (Array.getElem?_eq_some_iff.1 fA_3.out).1; omega); clear hgx hwx hq
                refine hK.out _ _ ?_ (fun hHeld => ?_)
                · exact HPD.out _ ud4
                clear hK K
                try simp only [Act.put, List.setIfInBounds_toArray, List.set_cons_zero, List.set_cons_succ]
                refine wpAnyH_take (i := 7) (v := ?v26) (by simp only [List.getElem?_toArray, List.getElem?_cons_succ, List.getElem?_cons_zero] <;> rfl) (by kernel_rfl) (by kernel_rfl) (by kernel_rfl) (fun _ _ _ h => h) (Or.inl ⟨by rfl, ?y26⟩) hHeld ?r26
                case y26 => (intro w hSw; (try dsimp only at hSw); go_simp; first | done | with_reducible rfl | rfl)
                try simp only [Act.put, List.setIfInBounds_toArray, List.set_cons_zero, List.set_cons_succ]
                refine wpAnyH_ready (rs := [10]) (by kernel_rfl) (by simp) ?_
                refine AllReadyH.cons (by simp only [List.getElem?_toArray, List.getElem?_cons_succ, List.getElem?_cons_zero] <;> rfl) (fun K hK => ?_) ?_
                · rw [if_pos (by rfl)]; refine wp_store_row 46 _ _ rfl gM #[.int .i64 1, .slice (some ⟨gA, 0, none⟩) 1 1] rfl rfl _ _ fM_4.out (BIH.out _).out (BZH.out _).out (BOH.out _ _ _).out ?_; obtain ⟨wv5, hwx⟩ : ∃ W' : World, W' = wv4.setRow gM #[.int .i64 1, .slice (some ⟨gA, 0, none⟩) 1 1] := ⟨_, rfl⟩; have fM_5 : Hid (wv5.heap[gM]? = some (.cells #[.int .i64 1, .slice (some ⟨gA, 0, none⟩) 1 1] 46 (0, 0))) := (by show _ = _; rw [hwx]; exact setRow_heap _ _ _ _ _ _ fM_4.out); have fN_5 := Lib.hid (row_setRowO fN_4.out ne_M_N.symm #[.int .i64 1, .slice (some ⟨gA, 0, none⟩) 1 1]); rw [← hwx] at fN_5; have fA_5 := Lib.hid (row_setRowO fA_4.out ne_M_A.symm #[.int .i64 1, .slice (some ⟨gA, 0, none⟩) 1 1]); rw [← hwx] at fA_5; have fB_5 := Lib.hid (row_setRowO fB_4.out ne_M_B.symm #[.int .i64 1, .slice (some ⟨gA, 0, none⟩) 1 1]); rw [← hwx] at fB_5; have ud5 := ud4.setRowNew bM #[.int .i64 1, .slice (some ⟨gA, 0, none⟩) 1 1]; rw [← hwx] at ud5 ⊢; clear hwx
                  refine hK.out _ _ ?_ (fun hHeld => ?_)
                  · exact HPD.out _ ud5
                  clear hK K
                  try simp only [Act.put]
                  refine wpAnyH_ready (rs := [11]) (by kernel_rfl) (by simp) ?_
                  refine AllReadyH.cons (by simp only [List.getElem?_toArray, List.getElem?_cons_succ, List.getElem?_cons_zero] <;> rfl) (fun K hK => ?_) ?_
                  · rw [if_pos (by rfl)]; refine wp_store_row 46 _ _ rfl gN #[.int .i64 1, .slice (some ⟨gB, 0, none⟩) 1 1] rfl rfl _ _ fN_5.out (BIH.out _).out (BZH.out _).out (BOH.out _ _ _).out ?_; obtain ⟨wv6, hwx⟩ : ∃ W' : World, W' = wv5.setRow gN #[.int .i64 1, .slice (some ⟨gB, 0, none⟩) 1 1] := ⟨_, rfl⟩; have fN_6 : Hid (wv6.heap[gN]? = some (.cells #[.int .i64 1, .slice (some ⟨gB, 0, none⟩) 1 1] 46 (0, 0))) := (by show _ = _; rw [hwx]; exact setRow_heap _ _ _ _ _ _ fN_5.out); have fM_6 := Lib.hid (row_setRowO fM_5.out ne_M_N #[.int .i64 1, .slice (some ⟨gB, 0, none⟩) 1 1]); rw [← hwx] at fM_6; have fA_6 := Lib.hid (row_setRowO fA_5.out ne_N_A.symm #[.int .i64 1, .slice (some ⟨gB, 0, none⟩) 1 1]); rw [← hwx] at fA_6; have fB_6 := Lib.hid (row_setRowO fB_5.out ne_N_B.symm #[.int .i64 1, .slice (some ⟨gB, 0, none⟩) 1 1]); rw [← hwx] at fB_6; have ud6 := ud5.setRowNew bN #[.int .i64 1, .slice (some ⟨gB, 0, none⟩) 1 1]; rw [← hwx] at ud6 ⊢; clear hwx
                    refine hK.out _ _ ?_ (fun hHeld => ?_)
                    · exact HPD.out _ ud6
                    clear hK K
                    try simp only [Act.put]
                    refine wpAnyH_done (by kernel_rfl) ?_ _
                    refine NoPanic.normal ?_
                    exact hJ gA gB gM gN wv6 fA_6 fB_6 fM_6 fN_6 ud6
                  exact AllReadyH.nil
                exact AllReadyH.nil
              refine AllReadyH.cons (by simp only [List.getElem?_toArray, List.getElem?_cons_succ, List.getElem?_cons_zero] <;> rfl) (fun K hK => ?_) ?_
              · rw [if_pos (by rfl)]; refine wp_store_row 46 _ _ rfl gM #[.int .i64 1, .slice (some ⟨gA, 0, none⟩) 1 1] rfl rfl _ _ fM_3.out (BIH.out _).out (BZH.out _).out (BOH.out _ _ _).out ?_; obtain ⟨wv4, hwx⟩ : ∃ W' : World, W' = wv3.setRow gM #[.int .i64 1, .slice (some ⟨gA, 0, none⟩) 1 1] := ⟨_, rfl⟩; have fM_4 : Hid (wv4.heap[gM]? = some (.cells #[.int .i64 1, .slice (some ⟨gA, 0, none⟩) 1 1] 46 (0, 0))) := (by show _ = _; rw [hwx]; exact setRow_heap _ _ _ _ _ _ fM_3.out); have fN_4 := Lib.hid (row_setRowO fN_3.out ne_M_N.symm #[.int .i64 1, .slice (some ⟨gA, 0, none⟩) 1 1]); rw [← hwx] at fN_4; have fA_4 := Lib.hid (row_setRowO fA_3.out ne_M_A.symm #[.int .i64 1, .slice (some ⟨gA, 0, none⟩) 1 1]); rw [← hwx] at fA_4; have ud4 := ud3.setRowNew bM #[.int .i64 1, .slice (some ⟨gA, 0, none⟩) 1 1]; rw [← hwx] at ud4 ⊢; clear hwx
                refine hK.out _ _ ?_ (fun hHeld => ?_)
                · exact HPD.out _ ud4
                clear hK K
                try simp only [Act.put]
                refine wpAnyH_ready (rs := [6]) (by kernel_rfl) (by simp) ?_
                refine AllReadyH.cons (by simp only [List.getElem?_toArray, List.getElem?_cons_succ, List.getElem?_cons_zero] <;> rfl) (fun K hK => ?_) ?_
                · rw [if_pos (by rfl)]; refine wp_buildRun 44 1 _ rfl _ _ (Eq.trans (congrArg (fun z => (Instr.buildSlice 44 1 z).run Tryz.prog wv4) (by kernel_rfl)) (HB2.out wv4)) ?_; obtain ⟨gB, wv5, hgx, hwx, fB_5, hq⟩ := alloc_let (wv4) (.cells Y 33); rw [← hgx, ← hwx]; have bB : wA.heap.size ≤ gB := (by have := ud4.size; omega); have ud5 := ud4.trans hq; have fM_5 := Lib.hid (row_updH fM_4.out hq); have ne_M_B : gM ≠ gB := (by have := (Array.getElem?_eq_some_iff.1 fM_4.out).1; omega); have fN_5 := Lib.hid (row_updH fN_4.out hq); have ne_N_B : gN ≠ gB := (by have := (Array.getElem?_eq_some_iff.1 fN_4.out).1; omega); have fA_5 := Lib.hid (row_updH fA_4.out hq); have ne_A_B : gA ≠ gB := (by have := (Array.getElem?_eq_some_iff.1 fA_4.out).1; omega); clear hgx hwx hq
                  refine hK.out _ _ ?_ (fun hHeld => ?_)
                  · exact HPD.out _ ud5
                  clear hK K
                  try simp only [Act.put, List.setIfInBounds_toArray, List.set_cons_zero, List.set_cons_succ]
                  refine wpAnyH_take (i := 7) (v := ?v27) (by simp only [List.getElem?_toArray, List.getElem?_cons_succ, List.getElem?_cons_zero] <;> rfl) (by kernel_rfl) (by kernel_rfl) (by kernel_rfl) (fun _ _ _ h => h) (Or.inl ⟨by rfl, ?y27⟩) hHeld ?r27
                  case y27 => (intro w hSw; (try dsimp only at hSw); go_simp; first | done | with_reducible rfl | rfl)
                  try simp only [Act.put, List.setIfInBounds_toArray, List.set_cons_zero, List.set_cons_succ]
                  refine wpAnyH_ready (rs := [11]) (by kernel_rfl) (by simp) ?_
                  refine AllReadyH.cons (by simp only [List.getElem?_toArray, List.getElem?_cons_succ, List.getElem?_cons_zero] <;> rfl) (fun K hK => ?_) ?_
                  · rw [if_pos (by rfl)]; refine wp_store_row 46 _ _ rfl gN #[.int .i64 1, .slice (some ⟨gB, 0, none⟩) 1 1] rfl rfl _ _ fN_5.out (BIH.out _).out (BZH.out _).out (BOH.out _ _ _).out ?_; obtain ⟨wv6, hwx⟩ : ∃ W' : World, W' = wv5.setRow gN #[.int .i64 1, .slice (some ⟨gB, 0, none⟩) 1 1] := ⟨_, rfl⟩; have fN_6 : Hid (wv6.heap[gN]? = some (.cells #[.int .i64 1, .slice (some ⟨gB, 0, none⟩) 1 1] 46 (0, 0))) := (by show _ = _; rw [hwx]; exact setRow_heap _ _ _ _ _ _ fN_5.out); have fM_6 := Lib.hid (row_setRowO fM_5.out ne_M_N #[.int .i64 1, .slice (some ⟨gB, 0, none⟩) 1 1]); rw [← hwx] at fM_6; have fA_6 := Lib.hid (row_setRowO fA_5.out ne_N_A.symm #[.int .i64 1, .slice (some ⟨gB, 0, none⟩) 1 1]); rw [← hwx] at fA_6; have fB_6 := Lib.hid (row_setRowO fB_5.out ne_N_B.symm #[.int .i64 1, .slice (some ⟨gB, 0, none⟩) 1 1]); rw [← hwx] at fB_6; have ud6 := ud5.setRowNew bN #[.int .i64 1, .slice (some ⟨gB, 0, none⟩) 1 1]; rw [← hwx] at ud6 ⊢; clear hwx
                    refine hK.out _ _ ?_ (fun hHeld => ?_)
                    · exact HPD.out _ ud6
                    clear hK K
                    try simp only [Act.put]
                    refine wpAnyH_done (by kernel_rfl) ?_ _
                    refine NoPanic.normal ?_
                    exact hJ gA gB gM gN wv6 fA_6 fB_6 fM_6 fN_6 ud6
                  exact AllReadyH.nil
                exact AllReadyH.nil
              exact AllReadyH.nil
            refine AllReadyH.cons (by simp only [List.getElem?_toArray, List.getElem?_cons_succ, List.getElem?_cons_zero] <;> rfl) (fun K hK => ?_) ?_
            · rw [if_pos (by rfl)]; refine wp_buildRun 44 1 _ rfl _ _ (Eq.trans (congrArg (fun z => (Instr.buildSlice 44 1 z).run Tryz.prog wv2) (by kernel_rfl)) (HB2.out wv2)) ?_; obtain ⟨gB, wv3, hgx, hwx, fB_3, hq⟩ := alloc_let (wv2) (.cells Y 33); rw [← hgx, ← hwx]; have bB : wA.heap.size ≤ gB := (by have := ud2.size; omega); have ud3 := ud2.trans hq; have fM_3 := Lib.hid (row_updH fM_2.out hq); have ne_M_B : gM ≠ gB := (by have := (Array.getElem?_eq_some_iff.1 fM_2.out).1; omega); have fN_3 := Lib.hid (row_updH fN_2.out hq); have ne_N_B : gN ≠ gB := (by have := (Array.getElem?_eq_some_iff.1 fN_2.out).1; omega); clear hgx hwx hq
              refine hK.out _ _ ?_ (fun hHeld => ?_)
              · exact HPD.out _ ud3
              clear hK K
              try simp only [Act.put, List.setIfInBounds_toArray, List.set_cons_zero, List.set_cons_succ]
              refine wpAnyH_take (i := 7) (v := ?v28) (by simp only [List.getElem?_toArray, List.getElem?_cons_succ, List.getElem?_cons_zero] <;> rfl) (by kernel_rfl) (by kernel_rfl) (by kernel_rfl) (fun _ _ _ h => h) (Or.inl ⟨by rfl, ?y28⟩) hHeld ?r28
              case y28 => (intro w hSw; (try dsimp only at hSw); go_simp; first | done | with_reducible rfl | rfl)
              try simp only [Act.put, List.setIfInBounds_toArray, List.set_cons_zero, List.set_cons_succ]
              refine wpAnyH_ready (rs := [2]) (by kernel_rfl) (by simp) ?_
              refine AllReadyH.cons (by simp only [List.getElem?_toArray, List.getElem?_cons_succ, List.getElem?_cons_zero] <;> rfl) (fun K hK => ?_) ?_
              · rw [if_pos (by rfl)]; refine wp_buildRun 44 1 _ rfl _ _ (Eq.trans (congrArg (fun z => (Instr.buildSlice 44 1 z).run Tryz.prog wv3) (by kernel_rfl)) (HB1.out wv3)) ?_; obtain ⟨gA, wv4, hgx, hwx, fA_4, hq⟩ := alloc_let (wv3) (.cells X 33); rw [← hgx, ← hwx]; have bA : wA.heap.size ≤ gA := (by have := ud3.size; omega); have ud4 := ud3.trans hq; have fM_4 := Lib.hid (row_updH fM_3.out hq); have ne_M_A : gM ≠ gA := (by have := (Array.getElem?_eq_some_iff.1 fM_3.out).1; omega); have fN_4 := Lib.hid (row_updH fN_3.out hq); have ne_N_A : gN ≠ gA := (by have := (Array.getElem?_eq_some_iff.1 fN_3.out).1; omega); have fB_4 := Lib.hid (row_updH fB_3.out hq); have ne_B_A : gB ≠ gA := (by have := (Array.getElem?_eq_some_iff.1 fB_3.out).1; omega); clear hgx hwx hq
                refine hK.out _ _ ?_ (fun hHeld => ?_)
                · exact HPD.out _ ud4
                clear hK K
                try simp only [Act.put, List.setIfInBounds_toArray, List.set_cons_zero, List.set_cons_succ]
                refine wpAnyH_take (i := 3) (v := ?v29) (by simp only [List.getElem?_toArray, List.getElem?_cons_succ, List.getElem?_cons_zero] <;> rfl) (by kernel_rfl) (by kernel_rfl) (by kernel_rfl) (fun _ _ _ h => h) (Or.inl ⟨by rfl, ?y29⟩) hHeld ?r29
                case y29 => (intro w hSw; (try dsimp only at hSw); go_simp; first | done | with_reducible rfl | rfl)
                try simp only [Act.put, List.setIfInBounds_toArray, List.set_cons_zero, List.set_cons_succ]
                refine wpAnyH_ready (rs := [10]) (by kernel_rfl) (by simp) ?_
                refine AllReadyH.cons (by simp only [List.getElem?_toArray, List.getElem?_cons_succ, List.getElem?_cons_zero] <;> rfl) (fun K hK => ?_) ?_
                · rw [if_pos (by rfl)]; refine wp_store_row 46 _ _ rfl gM #[.int .i64 1, .slice (some ⟨gA, 0, none⟩) 1 1] rfl rfl _ _ fM_4.out (BIH.out _).out (BZH.out _).out (BOH.out _ _ _).out ?_; obtain ⟨wv5, hwx⟩ : ∃ W' : World, W' = wv4.setRow gM #[.int .i64 1, .slice (some ⟨gA, 0, none⟩) 1 1] := ⟨_, rfl⟩; have fM_5 : Hid (wv5.heap[gM]? = some (.cells #[.int .i64 1, .slice (some ⟨gA, 0, none⟩) 1 1] 46 (0, 0))) := (by show _ = _; rw [hwx]; exact setRow_heap _ _ _ _ _ _ fM_4.out); have fN_5 := Lib.hid (row_setRowO fN_4.out ne_M_N.symm #[.int .i64 1, .slice (some ⟨gA, 0, none⟩) 1 1]); rw [← hwx] at fN_5; have fB_5 := Lib.hid (row_setRowO fB_4.out ne_M_B.symm #[.int .i64 1, .slice (some ⟨gA, 0, none⟩) 1 1]); rw [← hwx] at fB_5; have fA_5 := Lib.hid (row_setRowO fA_4.out ne_M_A.symm #[.int .i64 1, .slice (some ⟨gA, 0, none⟩) 1 1]); rw [← hwx] at fA_5; have ud5 := ud4.setRowNew bM #[.int .i64 1, .slice (some ⟨gA, 0, none⟩) 1 1]; rw [← hwx] at ud5 ⊢; clear hwx
                  refine hK.out _ _ ?_ (fun hHeld => ?_)
                  · exact HPD.out _ ud5
                  clear hK K
                  try simp only [Act.put]
                  refine wpAnyH_ready (rs := [11]) (by kernel_rfl) (by simp) ?_
                  refine AllReadyH.cons (by simp only [List.getElem?_toArray, List.getElem?_cons_succ, List.getElem?_cons_zero] <;> rfl) (fun K hK => ?_) ?_
                  · rw [if_pos (by rfl)]; refine wp_store_row 46 _ _ rfl gN #[.int .i64 1, .slice (some ⟨gB, 0, none⟩) 1 1] rfl rfl _ _ fN_5.out (BIH.out _).out (BZH.out _).out (BOH.out _ _ _).out ?_; obtain ⟨wv6, hwx⟩ : ∃ W' : World, W' = wv5.setRow gN #[.int .i64 1, .slice (some ⟨gB, 0, none⟩) 1 1] := ⟨_, rfl⟩; have fN_6 : Hid (wv6.heap[gN]? = some (.cells #[.int .i64 1, .slice (some ⟨gB, 0, none⟩) 1 1] 46 (0, 0))) := (by show _ = _; rw [hwx]; exact setRow_heap _ _ _ _ _ _ fN_5.out); have fM_6 := Lib.hid (row_setRowO fM_5.out ne_M_N #[.int .i64 1, .slice (some ⟨gB, 0, none⟩) 1 1]); rw [← hwx] at fM_6; have fB_6 := Lib.hid (row_setRowO fB_5.out ne_N_B.symm #[.int .i64 1, .slice (some ⟨gB, 0, none⟩) 1 1]); rw [← hwx] at fB_6; have fA_6 := Lib.hid (row_setRowO fA_5.out ne_N_A.symm #[.int .i64 1, .slice (some ⟨gB, 0, none⟩) 1 1]); rw [← hwx] at fA_6; have ud6 := ud5.setRowNew bN #[.int .i64 1, .slice (some ⟨gB, 0, none⟩) 1 1]; rw [← hwx] at ud6 ⊢; clear hwx
                    refine hK.out _ _ ?_ (fun hHeld => ?_)
                    · exact HPD.out _ ud6
                    clear hK K
                    try simp only [Act.put]
                    refine wpAnyH_done (by kernel_rfl) ?_ _
                    refine NoPanic.normal ?_
                    exact hJ gA gB gM gN wv6 fA_6 fB_6 fM_6 fN_6 ud6
                  exact AllReadyH.nil
                exact AllReadyH.nil
              exact AllReadyH.nil
            exact AllReadyH.nil
          exact AllReadyH.nil
        refine AllReadyH.cons (by simp only [List.getElem?_toArray, List.getElem?_cons_succ, List.getElem?_cons_zero] <;> rfl) (fun K hK => ?_) ?_
        · go_simp; obtain ⟨gN, wv1, hgx, hwx, fN_1, hq⟩ := alloc_letD wA (.cells #[.int .i64 0, .slice none 0 0] 46); rw [← hgx, ← hwx]; have bN : wA.heap.size ≤ gN := (by omega); have ud1 := hq; clear hgx hwx hq
          refine hK.out _ _ ?_ (fun hHeld => ?_)
          · exact HPD.out _ ud1
          clear hK K
          try simp only [Act.put, List.setIfInBounds_toArray, List.set_cons_zero, List.set_cons_succ]
          refine wpAnyH_ready (rs := [2, 6, 8]) (by kernel_rfl) (by simp) ?_
          refine AllReadyH.cons (by simp only [List.getElem?_toArray, List.getElem?_cons_succ, List.getElem?_cons_zero] <;> rfl) (fun K hK => ?_) ?_
          · rw [if_pos (by rfl)]; refine wp_buildRun 44 1 _ rfl _ _ (Eq.trans (congrArg (fun z => (Instr.buildSlice 44 1 z).run Tryz.prog wv1) (by kernel_rfl)) (HB1.out wv1)) ?_; obtain ⟨gA, wv2, hgx, hwx, fA_2, hq⟩ := alloc_let (wv1) (.cells X 33); rw [← hgx, ← hwx]; have bA : wA.heap.size ≤ gA := (by have := ud1.size; omega); have ud2 := ud1.trans hq; have fN_2 := Lib.hid (row_updH fN_1.out hq); have ne_N_A : gN ≠ gA := (by have := (Array.getElem?_eq_some_iff.1 fN_1.out).1; omega); clear hgx hwx hq
            refine hK.out _ _ ?_ (fun hHeld => ?_)
            · exact HPD.out _ ud2
            clear hK K
            try simp only [Act.put, List.setIfInBounds_toArray, List.set_cons_zero, List.set_cons_succ]
            refine wpAnyH_take (i := 3) (v := ?v30) (by simp only [List.getElem?_toArray, List.getElem?_cons_succ, List.getElem?_cons_zero] <;> rfl) (by kernel_rfl) (by kernel_rfl) (by kernel_rfl) (fun _ _ _ h => h) (Or.inl ⟨by rfl, ?y30⟩) hHeld ?r30
            case y30 => (intro w hSw; (try dsimp only at hSw); go_simp; first | done | with_reducible rfl | rfl)
            try simp only [Act.put, List.setIfInBounds_toArray, List.set_cons_zero, List.set_cons_succ]
            refine wpAnyH_ready (rs := [6, 8]) (by kernel_rfl) (by simp) ?_
            refine AllReadyH.cons (by simp only [List.getElem?_toArray, List.getElem?_cons_succ, List.getElem?_cons_zero] <;> rfl) (fun K hK => ?_) ?_
            · rw [if_pos (by rfl)]; refine wp_buildRun 44 1 _ rfl _ _ (Eq.trans (congrArg (fun z => (Instr.buildSlice 44 1 z).run Tryz.prog wv2) (by kernel_rfl)) (HB2.out wv2)) ?_; obtain ⟨gB, wv3, hgx, hwx, fB_3, hq⟩ := alloc_let (wv2) (.cells Y 33); rw [← hgx, ← hwx]; have bB : wA.heap.size ≤ gB := (by have := ud2.size; omega); have ud3 := ud2.trans hq; have fN_3 := Lib.hid (row_updH fN_2.out hq); have ne_N_B : gN ≠ gB := (by have := (Array.getElem?_eq_some_iff.1 fN_2.out).1; omega); have fA_3 := Lib.hid (row_updH fA_2.out hq); have ne_A_B : gA ≠ gB := (by have := (Array.getElem?_eq_some_iff.1 fA_2.out).1; omega); clear hgx hwx hq
              refine hK.out _ _ ?_ (fun hHeld => ?_)
              · exact HPD.out _ ud3
              clear hK K
              try simp only [Act.put, List.setIfInBounds_toArray, List.set_cons_zero, List.set_cons_succ]
              refine wpAnyH_take (i := 7) (v := ?v31) (by simp only [List.getElem?_toArray, List.getElem?_cons_succ, List.getElem?_cons_zero] <;> rfl) (by kernel_rfl) (by kernel_rfl) (by kernel_rfl) (fun _ _ _ h => h) (Or.inl ⟨by rfl, ?y31⟩) hHeld ?r31
              case y31 => (intro w hSw; (try dsimp only at hSw); go_simp; first | done | with_reducible rfl | rfl)
              try simp only [Act.put, List.setIfInBounds_toArray, List.set_cons_zero, List.set_cons_succ]
              refine wpAnyH_ready (rs := [8]) (by kernel_rfl) (by simp) ?_
              refine AllReadyH.cons (by simp only [List.getElem?_toArray, List.getElem?_cons_succ, List.getElem?_cons_zero] <;> rfl) (fun K hK => ?_) ?_
              · go_simp; obtain ⟨gM, wv4, hgx, hwx, fM_4, hq⟩ := alloc_let (wv3) (.cells #[.int .i64 0, .slice none 0 0] 46); rw [← hgx, ← hwx]; have bM : wA.heap.size ≤ gM := (by have := ud3.size; omega); have ud4 := ud3.trans hq; have fN_4 := Lib.hid (row_updH fN_3.out hq); have ne_N_M : gN ≠ gM := (by have := (Array.getElem?_eq_some_iff.1 fN_3.out).1; omega); have fA_4 := Lib.hid (row_updH fA_3.out hq); have ne_A_M : gA ≠ gM := (by have := (Array.getElem?_eq_some_iff.1 fA_3.out).1; omega); have fB_4 := Lib.hid (row_updH fB_3.out hq); have ne_B_M : gB ≠ gM := (by have := (Array.getElem?_eq_some_iff.1 fB_3.out).1; omega); clear hgx hwx hq
                refine hK.out _ _ ?_ (fun hHeld => ?_)
                · exact HPD.out _ ud4
                clear hK K
                try simp only [Act.put, List.setIfInBounds_toArray, List.set_cons_zero, List.set_cons_succ]
                refine wpAnyH_ready (rs := [10]) (by kernel_rfl) (by simp) ?_
                refine AllReadyH.cons (by simp only [List.getElem?_toArray, List.getElem?_cons_succ, List.getElem?_cons_zero] <;> rfl) (fun K hK => ?_) ?_
                · rw [if_pos (by rfl)]; refine wp_store_row 46 _ _ rfl gM #[.int .i64 1, .slice (some ⟨gA, 0, none⟩) 1 1] rfl rfl _ _ fM_4.out (BIH.out _).out (BZH.out _).out (BOH.out _ _ _).out ?_; obtain ⟨wv5, hwx⟩ : ∃ W' : World, W' = wv4.setRow gM #[.int .i64 1, .slice (some ⟨gA, 0, none⟩) 1 1] := ⟨_, rfl⟩; have fM_5 : Hid (wv5.heap[gM]? = some (.cells #[.int .i64 1, .slice (some ⟨gA, 0, none⟩) 1 1] 46 (0, 0))) := (by show _ = _; rw [hwx]; exact setRow_heap _ _ _ _ _ _ fM_4.out); have fN_5 := Lib.hid (row_setRowO fN_4.out ne_N_M #[.int .i64 1, .slice (some ⟨gA, 0, none⟩) 1 1]); rw [← hwx] at fN_5; have fA_5 := Lib.hid (row_setRowO fA_4.out ne_A_M #[.int .i64 1, .slice (some ⟨gA, 0, none⟩) 1 1]); rw [← hwx] at fA_5; have fB_5 := Lib.hid (row_setRowO fB_4.out ne_B_M #[.int .i64 1, .slice (some ⟨gA, 0, none⟩) 1 1]); rw [← hwx] at fB_5; have ud5 := ud4.setRowNew bM #[.int .i64 1, .slice (some ⟨gA, 0, none⟩) 1 1]; rw [← hwx] at ud5 ⊢; clear hwx
                  refine hK.out _ _ ?_ (fun hHeld => ?_)
                  · exact HPD.out _ ud5
                  clear hK K
                  try simp only [Act.put]
                  refine wpAnyH_ready (rs := [11]) (by kernel_rfl) (by simp) ?_
                  refine AllReadyH.cons (by simp only [List.getElem?_toArray, List.getElem?_cons_succ, List.getElem?_cons_zero] <;> rfl) (fun K hK => ?_) ?_
                  · rw [if_pos (by rfl)]; refine wp_store_row 46 _ _ rfl gN #[.int .i64 1, .slice (some ⟨gB, 0, none⟩) 1 1] rfl rfl _ _ fN_5.out (BIH.out _).out (BZH.out _).out (BOH.out _ _ _).out ?_; obtain ⟨wv6, hwx⟩ : ∃ W' : World, W' = wv5.setRow gN #[.int .i64 1, .slice (some ⟨gB, 0, none⟩) 1 1] := ⟨_, rfl⟩; have fN_6 : Hid (wv6.heap[gN]? = some (.cells #[.int .i64 1, .slice (some ⟨gB, 0, none⟩) 1 1] 46 (0, 0))) := (by show _ = _; rw [hwx]; exact setRow_heap _ _ _ _ _ _ fN_5.out); have fA_6 := Lib.hid (row_setRowO fA_5.out ne_N_A.symm #[.int .i64 1, .slice (some ⟨gB, 0, none⟩) 1 1]); rw [← hwx] at fA_6; have fB_6 := Lib.hid (row_setRowO fB_5.out ne_N_B.symm #[.int .i64 1, .slice (some ⟨gB, 0, none⟩) 1 1]); rw [← hwx] at fB_6; have fM_6 := Lib.hid (row_setRowO fM_5.out ne_N_M.symm #[.int .i64 1, .slice (some ⟨gB, 0, none⟩) 1 1]); rw [← hwx] at fM_6; have ud6 := ud5.setRowNew bN #[.int .i64 1, .slice (some ⟨gB, 0, none⟩) 1 1]; rw [← hwx] at ud6 ⊢; clear hwx
                    refine hK.out _ _ ?_ (fun hHeld => ?_)
                    · exact HPD.out _ ud6
                    clear hK K
                    try simp only [Act.put]
                    refine wpAnyH_done (by kernel_rfl) ?_ _
                    refine NoPanic.normal ?_
                    exact hJ gA gB gM gN wv6 fA_6 fB_6 fM_6 fN_6 ud6
                  exact AllReadyH.nil
                exact AllReadyH.nil
              exact AllReadyH.nil
            refine AllReadyH.cons (by simp only [List.getElem?_toArray, List.getElem?_cons_succ, List.getElem?_cons_zero] <;> rfl) (fun K hK => ?_) ?_
            · go_simp; obtain ⟨gM, wv3, hgx, hwx, fM_3, hq⟩ := alloc_let (wv2) (.cells #[.int .i64 0, .slice none 0 0] 46); rw [← hgx, ← hwx]; have bM : wA.heap.size ≤ gM := (by have := ud2.size; omega); have ud3 := ud2.trans hq; have fN_3 := Lib.hid (row_updH fN_2.out hq); have ne_N_M : gN ≠ gM := (by have := (Array.getElem?_eq_some_iff.1 fN_2.out).1; omega); have fA_3 := Lib.hid (row_updH fA_2.out hq); have ne_A_M : gA ≠ gM := (by have := (Array.getElem?_eq_some_iff.1 fA_2.out).1; omega); clear hgx hwx hq
              refine hK.out _ _ ?_ (fun hHeld => ?_)
              · exact HPD.out _ ud3
              clear hK K
              try simp only [Act.put, List.setIfInBounds_toArray, List.set_cons_zero, List.set_cons_succ]
              refine wpAnyH_ready (rs := [6, 10]) (by kernel_rfl) (by simp) ?_
              refine AllReadyH.cons (by simp only [List.getElem?_toArray, List.getElem?_cons_succ, List.getElem?_cons_zero] <;> rfl) (fun K hK => ?_) ?_
              · rw [if_pos (by rfl)]; refine wp_buildRun 44 1 _ rfl _ _ (Eq.trans (congrArg (fun z => (Instr.buildSlice 44 1 z).run Tryz.prog wv3) (by kernel_rfl)) (HB2.out wv3)) ?_; obtain ⟨gB, wv4, hgx, hwx, fB_4, hq⟩ := alloc_let (wv3) (.cells Y 33); rw [← hgx, ← hwx]; have bB : wA.heap.size ≤ gB := (by have := ud3.size; omega); have ud4 := ud3.trans hq; have fN_4 := Lib.hid (row_updH fN_3.out hq); have ne_N_B : gN ≠ gB := (by have := (Array.getElem?_eq_some_iff.1 fN_3.out).1; omega); have fA_4 := Lib.hid (row_updH fA_3.out hq); have ne_A_B : gA ≠ gB := (by have := (Array.getElem?_eq_some_iff.1 fA_3.out).1; omega); have fM_4 := Lib.hid (row_updH fM_3.out hq); have ne_M_B : gM ≠ gB := (by have := (Array.getElem?_eq_some_iff.1 fM_3.out).1; omega); clear hgx hwx hq
                refine hK.out _ _ ?_ (fun hHeld => ?_)
                · exact HPD.out _ ud4
                clear hK K
                try simp only [Act.put, List.setIfInBounds_toArray, List.set_cons_zero, List.set_cons_succ]
                refine wpAnyH_take (i := 7) (v := ?v32) (by simp only [List.getElem?_toArray, List.getElem?_cons_succ, List.getElem?_cons_zero] <;> rfl) (by kernel_rfl) (by kernel_rfl) (by kernel_rfl) (fun _ _ _ h => h) (Or.inl ⟨by rfl, ?y32⟩) hHeld ?r32
                case y32 => (intro w hSw; (try dsimp only at hSw); go_simp; first | done | with_reducible rfl | rfl)
                try simp only [Act.put, List.setIfInBounds_toArray, List.set_cons_zero, List.set_cons_succ]
                refine wpAnyH_ready (rs := [10]) (by kernel_rfl) (by simp) ?_
                refine AllReadyH.cons (by simp only [List.getElem?_toArray, List.getElem?_cons_succ, List.getElem?_cons_zero] <;> rfl) (fun K hK => ?_) ?_
                · rw [if_pos (by rfl)]; refine wp_store_row 46 _ _ rfl gM #[.int .i64 1, .slice (some ⟨gA, 0, none⟩) 1 1] rfl rfl _ _ fM_4.out (BIH.out _).out (BZH.out _).out (BOH.out _ _ _).out ?_; obtain ⟨wv5, hwx⟩ : ∃ W' : World, W' = wv4.setRow gM #[.int .i64 1, .slice (some ⟨gA, 0, none⟩) 1 1] := ⟨_, rfl⟩; have fM_5 : Hid (wv5.heap[gM]? = some (.cells #[.int .i64 1, .slice (some ⟨gA, 0, none⟩) 1 1] 46 (0, 0))) := (by show _ = _; rw [hwx]; exact setRow_heap _ _ _ _ _ _ fM_4.out); have fN_5 := Lib.hid (row_setRowO fN_4.out ne_N_M #[.int .i64 1, .slice (some ⟨gA, 0, none⟩) 1 1]); rw [← hwx] at fN_5; have fA_5 := Lib.hid (row_setRowO fA_4.out ne_A_M #[.int .i64 1, .slice (some ⟨gA, 0, none⟩) 1 1]); rw [← hwx] at fA_5; have fB_5 := Lib.hid (row_setRowO fB_4.out ne_M_B.symm #[.int .i64 1, .slice (some ⟨gA, 0, none⟩) 1 1]); rw [← hwx] at fB_5; have ud5 := ud4.setRowNew bM #[.int .i64 1, .slice (some ⟨gA, 0, none⟩) 1 1]; rw [← hwx] at ud5 ⊢; clear hwx
                  refine hK.out _ _ ?_ (fun hHeld => ?_)
                  · exact HPD.out _ ud5
                  clear hK K
                  try simp only [Act.put]
                  refine wpAnyH_ready (rs := [11]) (by kernel_rfl) (by simp) ?_
                  refine AllReadyH.cons (by simp only [List.getElem?_toArray, List.getElem?_cons_succ, List.getElem?_cons_zero] <;> rfl) (fun K hK => ?_) ?_
                  · rw [if_pos (by rfl)]; refine wp_store_row 46 _ _ rfl gN #[.int .i64 1, .slice (some ⟨gB, 0, none⟩) 1 1] rfl rfl _ _ fN_5.out (BIH.out _).out (BZH.out _).out (BOH.out _ _ _).out ?_; obtain ⟨wv6, hwx⟩ : ∃ W' : World, W' = wv5.setRow gN #[.int .i64 1, .slice (some ⟨gB, 0, none⟩) 1 1] := ⟨_, rfl⟩; have fN_6 : Hid (wv6.heap[gN]? = some (.cells #[.int .i64 1, .slice (some ⟨gB, 0, none⟩) 1 1] 46 (0, 0))) := (by show _ = _; rw [hwx]; exact setRow_heap _ _ _ _ _ _ fN_5.out); have fA_6 := Lib.hid (row_setRowO fA_5.out ne_N_A.symm #[.int .i64 1, .slice (some ⟨gB, 0, none⟩) 1 1]); rw [← hwx] at fA_6; have fM_6 := Lib.hid (row_setRowO fM_5.out ne_N_M.symm #[.int .i64 1, .slice (some ⟨gB, 0, none⟩) 1 1]); rw [← hwx] at fM_6; have fB_6 := Lib.hid (row_setRowO fB_5.out ne_N_B.symm #[.int .i64 1, .slice (some ⟨gB, 0, none⟩) 1 1]); rw [← hwx] at fB_6; have ud6 := ud5.setRowNew bN #[.int .i64 1, .slice (some ⟨gB, 0, none⟩) 1 1]; rw [← hwx] at ud6 ⊢; clear hwx
                    refine hK.out _ _ ?_ (fun hHeld => ?_)
                    · exact HPD.out _ ud6
                    clear hK K
                    try simp only [Act.put]
                    refine wpAnyH_done (by kernel_rfl) ?_ _
                    refine NoPanic.normal ?_
                    exact hJ gA gB gM gN wv6 fA_6 fB_6 fM_6 fN_6 ud6
                  exact AllReadyH.nil
                exact AllReadyH.nil
              refine AllReadyH.cons (by simp only [List.getElem?_toArray, List.getElem?_cons_succ, List.getElem?_cons_zero] <;> rfl) (fun K hK => ?_) ?_
              · rw [if_pos (by rfl)]; refine wp_store_row 46 _ _ rfl gM #[.int .i64 1, .slice (some ⟨gA, 0, none⟩) 1 1] rfl rfl _ _ fM_3.out (BIH.out _).out (BZH.out _).out (BOH.out _ _ _).out ?_; obtain ⟨wv4, hwx⟩ : ∃ W' : World, W' = wv3.setRow gM #[.int .i64 1, .slice (some ⟨gA, 0, none⟩) 1 1] := ⟨_, rfl⟩; have fM_4 : Hid (wv4.heap[gM]? = some (.cells #[.int .i64 1, .slice (some ⟨gA, 0, none⟩) 1 1] 46 (0, 0))) := (by show _ = _; rw [hwx]; exact setRow_heap _ _ _ _ _ _ fM_3.out); have fN_4 := Lib.hid (row_setRowO fN_3.out ne_N_M #[.int .i64 1, .slice (some ⟨gA, 0, none⟩) 1 1]); rw [← hwx] at fN_4; have fA_4 := Lib.hid (row_setRowO fA_3.out ne_A_M #[.int .i64 1, .slice (some ⟨gA, 0, none⟩) 1 1]); rw [← hwx] at fA_4; have ud4 := ud3.setRowNew bM #[.int .i64 1, .slice (some ⟨gA, 0, none⟩) 1 1]; rw [← hwx] at ud4 ⊢; clear hwx
                refine hK.out _ _ ?_ (fun hHeld => ?_)
                · exact HPD.out _ ud4
                clear hK K
                try simp only [Act.put]
                refine wpAnyH_ready (rs := [6]) (by kernel_rfl) (by simp) ?_
                refine AllReadyH.cons (by simp only [List.getElem?_toArray, List.getElem?_cons_succ, List.getElem?_cons_zero] <;> rfl) (fun K hK => ?_) ?_
                · rw [if_pos (by rfl)]; refine wp_buildRun 44 1 _ rfl _ _ (Eq.trans (congrArg (fun z => (Instr.buildSlice 44 1 z).run Tryz.prog wv4) (by kernel_rfl)) (HB2.out wv4)) ?_; obtain ⟨gB, wv5, hgx, hwx, fB_5, hq⟩ := alloc_let (wv4) (.cells Y 33); rw [← hgx, ← hwx]; have bB : wA.heap.size ≤ gB := (by have := ud4.size; omega); have ud5 := ud4.trans hq; have fN_5 := Lib.hid (row_updH fN_4.out hq); have ne_N_B : gN ≠ gB := (by have := (Array.getElem?_eq_some_iff.1 fN_4.out).1; omega); have fA_5 := Lib.hid (row_updH fA_4.out hq); have ne_A_B : gA ≠ gB := (by have := (Array.getElem?_eq_some_iff.1 fA_4.out).1; omega); have fM_5 := Lib.hid (row_updH fM_4.out hq); have ne_M_B : gM ≠ gB := (by have := (Array.getElem?_eq_some_iff.1 fM_4.out).1; omega); clear hgx hwx hq
                  refine hK.out _ _ ?_ (fun hHeld => ?_)
                  · exact HPD.out _ ud5
                  clear hK K
                  try simp only [Act.put, List.setIfInBounds_toArray, List.set_cons_zero, List.set_cons_succ]
                  refine wpAnyH_take (i := 7) (v := ?v33) (by simp only [List.getElem?_toArray, List.getElem?_cons_succ, List.getElem?_cons_zero] <;> rfl) (by kernel_rfl) (by kernel_rfl) (by kernel_rfl) (fun _ _ _ h => h) (Or.inl ⟨by rfl, ?y33⟩) hHeld ?r33
                  case y33 => (intro w hSw; (try dsimp only at hSw); go_simp; first | done | with_reducible rfl | rfl)
                  try simp only [Act.put, List.setIfInBounds_toArray, List.set_cons_zero, List.set_cons_succ]
                  refine wpAnyH_ready (rs := [11]) (by kernel_rfl) (by simp) ?_
                  refine AllReadyH.cons (by simp only [List.getElem?_toArray, List.getElem?_cons_succ, List.getElem?_cons_zero] <;> rfl) (fun K hK => ?_) ?_
                  · rw [if_pos (by rfl)]; refine wp_store_row 46 _ _ rfl gN #[.int .i64 1, .slice (some ⟨gB, 0, none⟩) 1 1] rfl rfl _ _ fN_5.out (BIH.out _).out (BZH.out _).out (BOH.out _ _ _).out ?_; obtain ⟨wv6, hwx⟩ : ∃ W' : World, W' = wv5.setRow gN #[.int .i64 1, .slice (some ⟨gB, 0, none⟩) 1 1] := ⟨_, rfl⟩; have fN_6 : Hid (wv6.heap[gN]? = some (.cells #[.int .i64 1, .slice (some ⟨gB, 0, none⟩) 1 1] 46 (0, 0))) := (by show _ = _; rw [hwx]; exact setRow_heap _ _ _ _ _ _ fN_5.out); have fA_6 := Lib.hid (row_setRowO fA_5.out ne_N_A.symm #[.int .i64 1, .slice (some ⟨gB, 0, none⟩) 1 1]); rw [← hwx] at fA_6; have fM_6 := Lib.hid (row_setRowO fM_5.out ne_N_M.symm #[.int .i64 1, .slice (some ⟨gB, 0, none⟩) 1 1]); rw [← hwx] at fM_6; have fB_6 := Lib.hid (row_setRowO fB_5.out ne_N_B.symm #[.int .i64 1, .slice (some ⟨gB, 0, none⟩) 1 1]); rw [← hwx] at fB_6; have ud6 := ud5.setRowNew bN #[.int .i64 1, .slice (some ⟨gB, 0, none⟩) 1 1]; rw [← hwx] at ud6 ⊢; clear hwx
                    refine hK.out _ _ ?_ (fun hHeld => ?_)
                    · exact HPD.out _ ud6
                    clear hK K
                    try simp only [Act.put]
                    refine wpAnyH_done (by kernel_rfl) ?_ _
                    refine NoPanic.normal ?_
                    exact hJ gA gB gM gN wv6 fA_6 fB_6 fM_6 fN_6 ud6
                  exact AllReadyH.nil
                exact AllReadyH.nil
              exact AllReadyH.nil
            exact AllReadyH.nil
          refine AllReadyH.cons (by simp only [List.getElem?_toArray, List.getElem?_cons_succ, List.getElem?_cons_zero] <;> rfl) (fun K hK => ?_) ?_
          · rw [if_pos (by rfl)]; refine wp_buildRun 44 1 _ rfl _ _ (Eq.trans (congrArg (fun z => (Instr.buildSlice 44 1 z).run Tryz.prog wv1) (by kernel_rfl)) (HB2.out wv1)) ?_; obtain ⟨gB, wv2, hgx, hwx, fB_2, hq⟩ := alloc_let (wv1) (.cells Y 33); rw [← hgx, ← hwx]; have bB : wA.heap.size ≤ gB := (by have := ud1.size; omega); have ud2 := ud1.trans hq; have fN_2 := Lib.hid (row_updH fN_1.out hq); have ne_N_B : gN ≠ gB := (by have := (Array.getElem?_eq_some_iff.1 fN_1.out).1; omega); clear hgx hwx hq
            refine hK.out _ _ ?_ (fun hHeld => ?_)
            · exact HPD.out _ ud2
            clear hK K
            try simp only [Act.put, List.setIfInBounds_toArray, List.set_cons_zero, List.set_cons_succ]
            refine wpAnyH_take (i := 7) (v := ?v34) (by simp only [List.getElem?_toArray, List.getElem?_cons_succ, List.getElem?_cons_zero] <;> rfl) (by kernel_rfl) (by kernel_rfl) (by kernel_rfl) (fun _ _ _ h => h) (Or.inl ⟨by rfl, ?y34⟩) hHeld ?r34
            case y34 => (intro w hSw; (try dsimp only at hSw); go_simp; first | done | with_reducible rfl | rfl)
            try simp only [Act.put, List.setIfInBounds_toArray, List.set_cons_zero, List.set_cons_succ]
            refine wpAnyH_ready (rs := [2, 8]) (by kernel_rfl) (by simp) ?_
            refine AllReadyH.cons (by simp only [List.getElem?_toArray, List.getElem?_cons_succ, List.getElem?_cons_zero] <;> rfl) (fun K hK => ?_) ?_
            · rw [if_pos (by rfl)]; refine wp_buildRun 44 1 _ rfl _ _ (Eq.trans (congrArg (fun z => (Instr.buildSlice 44 1 z).run Tryz.prog wv2) (by kernel_rfl)) (HB1.out wv2)) ?_; obtain ⟨gA, wv3, hgx, hwx, fA_3, hq⟩ := alloc_let (wv2) (.cells X 33); rw [← hgx, ← hwx]; have bA : wA.heap.size ≤ gA := (by have := ud2.size; omega); have ud3 := ud2.trans hq; have fN_3 := Lib.hid (row_updH fN_2.out hq); have ne_N_A : gN ≠ gA := (by have := (Array.getElem?_eq_some_iff.1 fN_2.out).1; omega); have fB_3 := Lib.hid (row_updH fB_2.out hq); have ne_B_A : gB ≠ gA := (by have := (Array.getElem?_eq_some_iff.1 fB_2.out).1; omega); clear hgx hwx hq
              refine hK.out _ _ ?_ (fun hHeld => ?_)
              · exact HPD.out _ ud3
              clear hK K
              try simp only [Act.put, List.setIfInBounds_toArray, List.set_cons_zero, List.set_cons_succ]
              refine wpAnyH_take (i := 3) (v := ?v35) (by simp only [List.getElem?_toArray, List.getElem?_cons_succ, List.getElem?_cons_zero] <;> rfl) (by kernel_rfl) (by kernel_rfl) (by kernel_rfl) (fun _ _ _ h => h) (Or.inl ⟨by rfl, ?y35⟩) hHeld ?r35
              case y35 => (intro w hSw; (try dsimp only at hSw); go_simp; first | done | with_reducible rfl | rfl)
              try simp only [Act.put, List.setIfInBounds_toArray, List.set_cons_zero, List.set_cons_succ]
              refine wpAnyH_ready (rs := [8]) (by kernel_rfl) (by simp) ?_
              refine AllReadyH.cons (by simp only [List.getElem?_toArray, List.getElem?_cons_succ, List.getElem?_cons_zero] <;> rfl) (fun K hK => ?_) ?_
              · go_simp; obtain ⟨gM, wv4, hgx, hwx, fM_4, hq⟩ := alloc_let (wv3) (.cells #[.int .i64 0, .slice none 0 0] 46); rw [← hgx, ← hwx]; have bM : wA.heap.size ≤ gM := (by have := ud3.size; omega); have ud4 := ud3.trans hq; have fN_4 := Lib.hid (row_updH fN_3.out hq); have ne_N_M : gN ≠ gM := (by have := (Array.getElem?_eq_some_iff.1 fN_3.out).1; omega); have fB_4 := Lib.hid (row_updH fB_3.out hq); have ne_B_M : gB ≠ gM := (by have := (Array.getElem?_eq_some_iff.1 fB_3.out).1; omega); have fA_4 := Lib.hid (row_updH fA_3.out hq); have ne_A_M : gA ≠ gM := (by have := (Array.getElem?_eq_some_iff.1 fA_3.out).1; omega); clear hgx hwx hq
                refine hK.out _ _ ?_ (fun hHeld => ?_)
                · exact HPD.out _ ud4
                clear hK K
                try simp only [Act.put, List.setIfInBounds_toArray, List.set_cons_zero, List.set_cons_succ]
                refine wpAnyH_ready (rs := [10]) (by kernel_rfl) (by simp) ?_
                refine AllReadyH.cons (by simp only [List.getElem?_toArray, List.getElem?_cons_succ, List.getElem?_cons_zero] <;> rfl) (fun K hK => ?_) ?_
                · rw [if_pos (by rfl)]; refine wp_store_row 46 _ _ rfl gM #[.int .i64 1, .slice (some ⟨gA, 0, none⟩) 1 1] rfl rfl _ _ fM_4.out (BIH.out _).out (BZH.out _).out (BOH.out _ _ _).out ?_; obtain ⟨wv5, hwx⟩ : ∃ W' : World, W' = wv4.setRow gM #[.int .i64 1, .slice (some ⟨gA, 0, none⟩) 1 1] := ⟨_, rfl⟩; have fM_5 : Hid (wv5.heap[gM]? = some (.cells #[.int .i64 1, .slice (some ⟨gA, 0, none⟩) 1 1] 46 (0, 0))) := (by show _ = _; rw [hwx]; exact setRow_heap _ _ _ _ _ _ fM_4.out); have fN_5 := Lib.hid (row_setRowO fN_4.out ne_N_M #[.int .i64 1, .slice (some ⟨gA, 0, none⟩) 1 1]); rw [← hwx] at fN_5; have fB_5 := Lib.hid (row_setRowO fB_4.out ne_B_M #[.int .i64 1, .slice (some ⟨gA, 0, none⟩) 1 1]); rw [← hwx] at fB_5; have fA_5 := Lib.hid (row_setRowO fA_4.out ne_A_M #[.int .i64 1, .slice (some ⟨gA, 0, none⟩) 1 1]); rw [← hwx] at fA_5; have ud5 := ud4.setRowNew bM #[.int .i64 1, .slice (some ⟨gA, 0, none⟩) 1 1]; rw [← hwx] at ud5 ⊢; clear hwx
                  refine hK.out _ _ ?_ (fun hHeld => ?_)
                  · exact HPD.out _ ud5
                  clear hK K
                  try simp only [Act.put]
                  refine wpAnyH_ready (rs := [11]) (by kernel_rfl) (by simp) ?_
                  refine AllReadyH.cons (by simp only [List.getElem?_toArray, List.getElem?_cons_succ, List.getElem?_cons_zero] <;> rfl) (fun K hK => ?_) ?_
                  · rw [if_pos (by rfl)]; refine wp_store_row 46 _ _ rfl gN #[.int .i64 1, .slice (some ⟨gB, 0, none⟩) 1 1] rfl rfl _ _ fN_5.out (BIH.out _).out (BZH.out _).out (BOH.out _ _ _).out ?_; obtain ⟨wv6, hwx⟩ : ∃ W' : World, W' = wv5.setRow gN #[.int .i64 1, .slice (some ⟨gB, 0, none⟩) 1 1] := ⟨_, rfl⟩; have fN_6 : Hid (wv6.heap[gN]? = some (.cells #[.int .i64 1, .slice (some ⟨gB, 0, none⟩) 1 1] 46 (0, 0))) := (by show _ = _; rw [hwx]; exact setRow_heap _ _ _ _ _ _ fN_5.out); have fB_6 := Lib.hid (row_setRowO fB_5.out ne_N_B.symm #[.int .i64 1, .slice (some ⟨gB, 0, none⟩) 1 1]); rw [← hwx] at fB_6; have fA_6 := Lib.hid (row_setRowO fA_5.out ne_N_A.symm #[.int .i64 1, .slice (some ⟨gB, 0, none⟩) 1 1]); rw [← hwx] at fA_6; have fM_6 := Lib.hid (row_setRowO fM_5.out ne_N_M.symm #[.int .i64 1, .slice (some ⟨gB, 0, none⟩) 1 1]); rw [← hwx] at fM_6; have ud6 := ud5.setRowNew bN #[.int .i64 1, .slice (some ⟨gB, 0, none⟩) 1 1]; rw [← hwx] at ud6 ⊢; clear hwx
                    refine hK.out _ _ ?_ (fun hHeld => ?_)
                    · exact HPD.out _ ud6
                    clear hK K
                    try simp only [Act.put]
                    refine wpAnyH_done (by kernel_rfl) ?_ _
                    refine NoPanic.normal ?_
                    exact hJ gA gB gM gN wv6 fA_6 fB_6 fM_6 fN_6 ud6
                  exact AllReadyH.nil
                exact AllReadyH.nil
              exact AllReadyH.nil
            refine AllReadyH.cons (by simp only [List.getElem?_toArray, List.getElem?_cons_succ, List.getElem?_cons_zero] <;> rfl) (fun K hK => ?_) ?_
            · go_simp; obtain ⟨gM, wv3, hgx, hwx, fM_3, hq⟩ := alloc_let (wv2) (.cells #[.int .i64 0, .slice none 0 0] 46); rw [← hgx, ← hwx]; have bM : wA.heap.size ≤ gM := (by have := ud2.size; omega); have ud3 := ud2.trans hq; have fN_3 := Lib.hid (row_updH fN_2.out hq); have ne_N_M : gN ≠ gM := (by have := (Array.getElem?_eq_some_iff.1 fN_2.out).1; omega); have fB_3 := Lib.hid (row_updH fB_2.out hq); have ne_B_M : gB ≠ gM := (by have := (Array.getElem?_eq_some_iff.1 fB_2.out).1; omega); clear hgx hwx hq
              refine hK.out _ _ ?_ (fun hHeld => ?_)
              · exact HPD.out _ ud3
              clear hK K
              try simp only [Act.put, List.setIfInBounds_toArray, List.set_cons_zero, List.set_cons_succ]
              refine wpAnyH_ready (rs := [2]) (by kernel_rfl) (by simp) ?_
              refine AllReadyH.cons (by simp only [List.getElem?_toArray, List.getElem?_cons_succ, List.getElem?_cons_zero] <;> rfl) (fun K hK => ?_) ?_
              · rw [if_pos (by rfl)]; refine wp_buildRun 44 1 _ rfl _ _ (Eq.trans (congrArg (fun z => (Instr.buildSlice 44 1 z).run Tryz.prog wv3) (by kernel_rfl)) (HB1.out wv3)) ?_; obtain ⟨gA, wv4, hgx, hwx, fA_4, hq⟩ := alloc_let (wv3) (.cells X 33); rw [← hgx, ← hwx]; have bA : wA.heap.size ≤ gA := (by have := ud3.size; omega); have ud4 := ud3.trans hq; have fN_4 := Lib.hid (row_updH fN_3.out hq); have ne_N_A : gN ≠ gA := (by have := (Array.getElem?_eq_some_iff.1 fN_3.out).1; omega); have fB_4 := Lib.hid (row_updH fB_3.out hq); have ne_B_A : gB ≠ gA := (by have := (Array.getElem?_eq_some_iff.1 fB_3.out).1; omega); have fM_4 := Lib.hid (row_updH fM_3.out hq); have ne_M_A : gM ≠ gA := (by have := (Array.getElem?_eq_some_iff.1 fM_3.out).1; omega); clear hgx hwx hq
                refine hK.out _ _ ?_ (fun hHeld => ?_)
                · exact HPD.out _ ud4
                clear hK K
                try simp only [Act.put, List.setIfInBounds_toArray, List.set_cons_zero, List.set_cons_succ]
                refine wpAnyH_take (i := 3) (v := ?v36) (by simp only [List.getElem?_toArray, List.getElem?_cons_succ, List.getElem?_cons_zero] <;> rfl) (by kernel_rfl) (by kernel_rfl) (by kernel_rfl) (fun _ _ _ h => h) (Or.inl ⟨by rfl, ?y36⟩) hHeld ?r36
                case y36 => (intro w hSw; (try dsimp only at hSw); go_simp; first | done | with_reducible rfl | rfl)
                try simp only [Act.put, List.setIfInBounds_toArray, List.set_cons_zero, List.set_cons_succ]
                refine wpAnyH_ready (rs := [10]) (by kernel_rfl) (by simp) ?_
                refine AllReadyH.cons (by simp only [List.getElem?_toArray, List.getElem?_cons_succ, List.getElem?_cons_zero] <;> rfl) (fun K hK => ?_) ?_
                · rw [if_pos (by rfl)]; refine wp_store_row 46 _ _ rfl gM #[.int .i64 1, .slice (some ⟨gA, 0, none⟩) 1 1] rfl rfl _ _ fM_4.out (BIH.out _).out (BZH.out _).out (BOH.out _ _ _).out ?_; obtain ⟨wv5, hwx⟩ : ∃ W' : World, W' = wv4.setRow gM #[.int .i64 1, .slice (some ⟨gA, 0, none⟩) 1 1] := ⟨_, rfl⟩; have fM_5 : Hid (wv5.heap[gM]? = some (.cells #[.int .i64 1, .slice (some ⟨gA, 0, none⟩) 1 1] 46 (0, 0))) := (by show _ = _; rw [hwx]; exact setRow_heap _ _ _ _ _ _ fM_4.out); have fN_5 := Lib.hid (row_setRowO fN_4.out ne_N_M #[.int .i64 1, .slice (some ⟨gA, 0, none⟩) 1 1]); rw [← hwx] at fN_5; have fB_5 := Lib.hid (row_setRowO fB_4.out ne_B_M #[.int .i64 1, .slice (some ⟨gA, 0, none⟩) 1 1]); rw [← hwx] at fB_5; have fA_5 := Lib.hid (row_setRowO fA_4.out ne_M_A.symm #[.int .i64 1, .slice (some ⟨gA, 0, none⟩) 1 1]); rw [← hwx] at fA_5; have ud5 := ud4.setRowNew bM #[.int .i64 1, .slice (some ⟨gA, 0, none⟩) 1 1]; rw [← hwx] at ud5 ⊢; clear hwx
                  refine hK.out _ _ ?_ (fun hHeld => ?_)
                  · exact HPD.out _ ud5
                  clear hK K
                  try simp only [Act.put]
                  refine wpAnyH_ready (rs := [11]) (by kernel_rfl) (by simp) ?_
                  refine AllReadyH.cons (by simp only [List.getElem?_toArray, List.getElem?_cons_succ, List.getElem?_cons_zero] <;> rfl) (fun K hK => ?_) ?_
                  · rw [if_pos (by rfl)]; refine wp_store_row 46 _ _ rfl gN #[.int .i64 1, .slice (some ⟨gB, 0, none⟩) 1 1] rfl rfl _ _ fN_5.out (BIH.out _).out (BZH.out _).out (BOH.out _ _ _).out ?_; obtain ⟨wv6, hwx⟩ : ∃ W' : World, W' = wv5.setRow gN #[.int .i64 1, .slice (some ⟨gB, 0, none⟩) 1 1] := ⟨_, rfl⟩; have fN_6 : Hid (wv6.heap[gN]? = some (.cells #[.int .i64 1, .slice (some ⟨gB, 0, none⟩) 1 1] 46 (0, 0))) := (by show _ = _; rw [hwx]; exact setRow_heap _ _ _ _ _ _ fN_5.out); have fB_6 := Lib.hid (row_setRowO fB_5.out ne_N_B.symm #[.int .i64 1, .slice (some ⟨gB, 0, none⟩) 1 1]); rw [← hwx] at fB_6; have fM_6 := Lib.hid (row_setRowO fM_5.out ne_N_M.symm #[.int .i64 1, .slice (some ⟨gB, 0, none⟩) 1 1]); rw [← hwx] at fM_6; have fA_6 := Lib.hid (row_setRowO fA_5.out ne_N_A.symm #[.int .i64 1, .slice (some ⟨gB, 0, none⟩) 1 1]); rw [← hwx] at fA_6; have ud6 := ud5.setRowNew bN #[.int .i64 1, .slice (some ⟨gB, 0, none⟩) 1 1]; rw [← hwx] at ud6 ⊢; clear hwx
                    refine hK.out _ _ ?_ (fun hHeld => ?_)
                    · exact HPD.out _ ud6
                    clear hK K
                    try simp only [Act.put]
                    refine wpAnyH_done (by kernel_rfl) ?_ _
                    refine NoPanic.normal ?_
                    exact hJ gA gB gM gN wv6 fA_6 fB_6 fM_6 fN_6 ud6
                  exact AllReadyH.nil
                exact AllReadyH.nil
              exact AllReadyH.nil
            exact AllReadyH.nil
          refine AllReadyH.cons (by simp only [List.getElem?_toArray, List.getElem?_cons_succ, List.getElem?_cons_zero] <;> rfl) (fun K hK => ?_) ?_
          · go_simp; obtain ⟨gM, wv2, hgx, hwx, fM_2, hq⟩ := alloc_let (wv1) (.cells #[.int .i64 0, .slice none 0 0] 46); rw [← hgx, ← hwx]; have bM : wA.heap.size ≤ gM := (by have := ud1.size; omega); have ud2 := ud1.trans hq; have fN_2 := Lib.hid (row_updH fN_1.out hq); have ne_N_M : gN ≠ gM := (by have := (Array.getElem?_eq_some_iff.1 fN_1.out).1; omega); clear hgx hwx hq
            refine hK.out _ _ ?_ (fun hHeld => ?_)
            · exact HPD.out _ ud2
            clear hK K
            try simp only [Act.put, List.setIfInBounds_toArray, List.set_cons_zero, List.set_cons_succ]
            refine wpAnyH_ready (rs := [2, 6]) (by kernel_rfl) (by simp) ?_
            refine AllReadyH.cons (by simp only [List.getElem?_toArray, List.getElem?_cons_succ, List.getElem?_cons_zero] <;> rfl) (fun K hK => ?_) ?_
            · rw [if_pos (by rfl)]; refine wp_buildRun 44 1 _ rfl _ _ (Eq.trans (congrArg (fun z => (Instr.buildSlice 44 1 z).run Tryz.prog wv2) (by kernel_rfl)) (HB1.out wv2)) ?_; obtain ⟨gA, wv3, hgx, hwx, fA_3, hq⟩ := alloc_let (wv2) (.cells X 33); rw [← hgx, ← hwx]; have bA : wA.heap.size ≤ gA := (by have := ud2.size; omega); have ud3 := ud2.trans hq; have fN_3 := Lib.hid (row_updH fN_2.out hq); have ne_N_A : gN ≠ gA := (by have := (Array.getElem?_eq_some_iff.1 fN_2.out).1; omega); have fM_3 := Lib.hid (row_updH fM_2.out hq); have ne_M_A : gM ≠ gA := (by have := (Array.getElem?_eq_some_iff.1 fM_2.out).1; omega); clear hgx hwx hq
              refine hK.out _ _ ?_ (fun hHeld => ?_)
              · exact HPD.out _ ud3
              clear hK K
              try simp only [Act.put, List.setIfInBounds_toArray, List.set_cons_zero, List.set_cons_succ]
              refine wpAnyH_take (i := 3) (v := ?v37) (by simp only [List.getElem?_toArray, List.getElem?_cons_succ, List.getElem?_cons_zero] <;> rfl) (by kernel_rfl) (by kernel_rfl) (by kernel_rfl) (fun _ _ _ h => h) (Or.inl ⟨by rfl, ?y37⟩) hHeld ?r37
              case y37 => (intro w hSw; (try dsimp only at hSw); go_simp; first | done | with_reducible rfl | rfl)
              try simp only [Act.put, List.setIfInBounds_toArray, List.set_cons_zero, List.set_cons_succ]
              refine wpAnyH_ready (rs := [6, 10]) (by kernel_rfl) (by simp) ?_
              refine AllReadyH.cons (by simp only [List.getElem?_toArray, List.getElem?_cons_succ, List.getElem?_cons_zero] <;> rfl) (fun K hK => ?_) ?_
              · rw [if_pos (by rfl)]; refine wp_buildRun 44 1 _ rfl _ _ (Eq.trans (congrArg (fun z => (Instr.buildSlice 44 1 z).run Tryz.prog wv3) (by kernel_rfl)) (HB2.out wv3)) ?_; obtain ⟨gB, wv4, hgx, hwx, fB_4, hq⟩ := alloc_let (wv3) (.cells Y 33); rw [← hgx, ← hwx]; have bB : wA.heap.size ≤ gB := (by have := ud3.size; omega); have ud4 := ud3.trans hq; have fN_4 := Lib.hid (row_updH fN_3.out hq); have ne_N_B : gN ≠ gB := (by have := (Array.getElem?_eq_some_iff.1 fN_3.out).1; omega); have fM_4 := Lib.hid (row_updH fM_3.out hq); have ne_M_B : gM ≠ gB := (by have := (Array.getElem?_eq_some_iff.1 fM_3.out).1; omega); have fA_4 := Lib.hid (row_updH fA_3.out hq); have ne_A_B : gA ≠ gB := (by have := (Array.getElem?_eq_some_iff.1 fA_3.out).1; omega); clear hgx hwx hq
                refine hK.out _ _ ?_ (fun hHeld => ?_)
                · exact HPD.out _ ud4
                clear hK K
                try simp only [Act.put, List.setIfInBounds_toArray, List.set_cons_zero, List.set_cons_succ]
                refine wpAnyH_take (i := 7) (v := ?v38) (by simp only [List.getElem?_toArray, List.getElem?_cons_succ, List.getElem?_cons_zero] <;> rfl) (by kernel_rfl) (by kernel_rfl) (by kernel_rfl) (fun _ _ _ h => h) (Or.inl ⟨by rfl, ?y38⟩) hHeld ?r38
                case y38 => (intro w hSw; (try dsimp only at hSw); go_simp; first | done | with_reducible rfl | rfl)
                try simp only [Act.put, List.setIfInBounds_toArray, List.set_cons_zero, List.set_cons_succ]
                refine wpAnyH_ready (rs := [10]) (by kernel_rfl) (by simp) ?_
                refine AllReadyH.cons (by simp only [List.getElem?_toArray, List.getElem?_cons_succ, List.getElem?_cons_zero] <;> rfl) (fun K hK => ?_) ?_
                · rw [if_pos (by rfl)]; refine wp_store_row 46 _ _ rfl gM #[.int .i64 1, .slice (some ⟨gA, 0, none⟩) 1 1] rfl rfl _ _ fM_4.out (BIH.out _).out (BZH.out _).out (BOH.out _ _ _).out ?_; obtain ⟨wv5, hwx⟩ : ∃ W' : World, W' = wv4.setRow gM #[.int .i64 1, .slice (some ⟨gA, 0, none⟩) 1 1] := ⟨_, rfl⟩; have fM_5 : Hid (wv5.heap[gM]? = some (.cells #[.int .i64 1, .slice (some ⟨gA, 0, none⟩) 1 1] 46 (0, 0))) := (by show _ = _; rw [hwx]; exact setRow_heap _ _ _ _ _ _ fM_4.out); have fN_5 := Lib.hid (row_setRowO fN_4.out ne_N_M #[.int .i64 1, .slice (some ⟨gA, 0, none⟩) 1 1]); rw [← hwx] at fN_5; have fA_5 := Lib.hid (row_setRowO fA_4.out ne_M_A.symm #[.int .i64 1, .slice (some ⟨gA, 0, none⟩) 1 1]); rw [← hwx] at fA_5; have fB_5 := Lib.hid (row_setRowO fB_4.out ne_M_B.symm #[.int .i64 1, .slice (some ⟨gA, 0, none⟩) 1 1]); rw [← hwx] at fB_5; have ud5 := ud4.setRowNew bM #[.int .i64 1, .slice (some ⟨gA, 0, none⟩) 1 1]; rw [← hwx] at ud5 ⊢; clear hwx
                  refine hK.out _ _ ?_ (fun hHeld => ?_)
                  · exact HPD.out _ ud5
                  clear hK K
                  try simp only [Act.put]
                  refine wpAnyH_ready (rs := [11]) (by kernel_rfl) (by simp) ?_
                  refine AllReadyH.cons (by simp only [List.getElem?_toArray, List.getElem?_cons_succ, List.getElem?_cons_zero] <;> rfl) (fun K hK => ?_) ?_
                  · rw [if_pos (by rfl)]; refine wp_store_row 46 _ _ rfl gN #[.int .i64 1, .slice (some ⟨gB, 0, none⟩) 1 1] rfl rfl _ _ fN_5.out (BIH.out _).out (BZH.out _).out (BOH.out _ _ _).out ?_; obtain ⟨wv6, hwx⟩ : ∃ W' : World, W' = wv5.setRow gN #[.int .i64 1, .slice (some ⟨gB, 0, none⟩) 1 1] := ⟨_, rfl⟩; have fN_6 : Hid (wv6.heap[gN]? = some (.cells #[.int .i64 1, .slice (some ⟨gB, 0, none⟩) 1 1] 46 (0, 0))) := (by show _ = _; rw [hwx]; exact setRow_heap _ _ _ _ _ _ fN_5.out); have fM_6 := Lib.hid (row_setRowO fM_5.out ne_N_M.symm #[.int .i64 1, .slice (some ⟨gB, 0, none⟩) 1 1]); rw [← hwx] at fM_6; have fA_6 := Lib.hid (row_setRowO fA_5.out ne_N_A.symm #[.int .i64 1, .slice (some ⟨gB, 0, none⟩) 1 1]); rw [← hwx] at fA_6; have fB_6 := Lib.hid (row_setRowO fB_5.out ne_N_B.symm #[.int .i64 1, .slice (some ⟨gB, 0, none⟩) 1 1]); rw [← hwx] at fB_6; have ud6 := ud5.setRowNew bN #[.int .i64 1, .slice (some ⟨gB, 0, none⟩) 1 1]; rw [← hwx] at ud6 ⊢; clear hwx
                    refine hK.out _ _ ?_ (fun hHeld => ?_)
                    · exact HPD.out _ ud6
                    clear hK K
                    try simp only [Act.put]
                    refine wpAnyH_done (by kernel_rfl) ?_ _
                    refine NoPanic.normal ?_
                    exact hJ gA gB gM gN wv6 fA_6 fB_6 fM_6 fN_6 ud6
                  exact AllReadyH.nil
                exact AllReadyH.nil
              refine AllReadyH.cons (by simp only [List.getElem?_toArray, List.getElem?_cons_succ, List.getElem?_cons_zero] <;> rfl) (fun K hK => ?_) ?_
              · rw [if_pos (by rfl)]; refine wp_store_row 46 _ _ rfl gM #[.int .i64 1, .slice (some ⟨gA, 0, none⟩) 1 1] rfl rfl _ _ fM_3.out (BIH.out _).out (BZH.out _).out (BOH.out _ _ _).out ?_; obtain ⟨wv4, hwx⟩ : ∃ W' : World, W' = wv3.setRow gM #[.int .i64 1, .slice (some ⟨gA, 0, none⟩) 1 1] := ⟨_, rfl⟩; have fM_4 : Hid (wv4.heap[gM]? = some (.cells #[.int .i64 1, .slice (some ⟨gA, 0, none⟩) 1 1] 46 (0, 0))) := (by show _ = _; rw [hwx]; exact setRow_heap _ _ _ _ _ _ fM_3.out); have fN_4 := Lib.hid (row_setRowO fN_3.out ne_N_M #[.int .i64 1, .slice (some ⟨gA, 0, none⟩) 1 1]); rw [← hwx] at fN_4; have fA_4 := Lib.hid (row_setRowO fA_3.out ne_M_A.symm #[.int .i64 1, .slice (some ⟨gA, 0, none⟩) 1 1]); rw [← hwx] at fA_4; have ud4 := ud3.setRowNew bM #[.int .i64 1, .slice (some ⟨gA, 0, none⟩) 1 1]; rw [← hwx] at ud4 ⊢; clear hwx
                refine hK.out _ _ ?_ (fun hHeld => ?_)
                · exact HPD.out _ ud4
                clear hK K
                try simp only [Act.put]
                refine wpAnyH_ready (rs := [6]) (by kernel_rfl) (by simp) ?_
                refine AllReadyH.cons (by simp only [List.getElem?_toArray, List.getElem?_cons_succ, List.getElem?_cons_zero] <;> rfl) (fun K hK => ?_) ?_
                · rw [if_pos (by rfl)]; refine wp_buildRun 44 1 _ rfl _ _ (Eq.trans (congrArg (fun z => (Instr.buildSlice 44 1 z).run Tryz.prog wv4) (by kernel_rfl)) (HB2.out wv4)) ?_; obtain ⟨gB, wv5, hgx, hwx, fB_5, hq⟩ := alloc_let (wv4) (.cells Y 33); rw [← hgx, ← hwx]; have bB : wA.heap.size ≤ gB := (by have := ud4.size; omega); have ud5 := ud4.trans hq; have fN_5 := Lib.hid (row_updH fN_4.out hq); have ne_N_B : gN ≠ gB := (by have := (Array.getElem?_eq_some_iff.1 fN_4.out).1; omega); have fM_5 := Lib.hid (row_updH fM_4.out hq); have ne_M_B : gM ≠ gB := (by have := (Array.getElem?_eq_some_iff.1 fM_4.out).1; omega); have fA_5 := Lib.hid (row_updH fA_4.out hq); have ne_A_B : gA ≠ gB := (by have := (Array.getElem?_eq_some_iff.1 fA_4.out).1; omega); clear hgx hwx hq
                  refine hK.out _ _ ?_ (fun hHeld => ?_)
                  · exact HPD.out _ ud5
                  clear hK K
                  try simp only [Act.put, List.setIfInBounds_toArray, List.set_cons_zero, List.set_cons_succ]
                  refine wpAnyH_take (i := 7) (v := ?v39) (by simp only [List.getElem?_toArray, List.getElem?_cons_succ, List.getElem?_cons_zero] <;> rfl) (by kernel_rfl) (by kernel_rfl) (by kernel_rfl) (fun _ _ _ h => h) (Or.inl ⟨by rfl, ?y39⟩) hHeld ?r39
                  case y39 => (intro w hSw; (try dsimp only at hSw); go_simp; first | done | with_reducible rfl | rfl)
                  try simp only [Act.put, List.setIfInBounds_toArray, List.set_cons_zero, List.set_cons_succ]
                  refine wpAnyH_ready (rs := [11]) (by kernel_rfl) (by simp) ?_
                  refine AllReadyH.cons (by simp only [List.getElem?_toArray, List.getElem?_cons_succ, List.getElem?_cons_zero] <;> rfl) (fun K hK => ?_) ?_
                  · rw [if_pos (by rfl)]; refine wp_store_row 46 _ _ rfl gN #[.int .i64 1, .slice (some ⟨gB, 0, none⟩) 1 1] rfl rfl _ _ fN_5.out (BIH.out _).out (BZH.out _).out (BOH.out _ _ _).out ?_; obtain ⟨wv6, hwx⟩ : ∃ W' : World, W' = wv5.setRow gN #[.int .i64 1, .slice (some ⟨gB, 0, none⟩) 1 1] := ⟨_, rfl⟩; have fN_6 : Hid (wv6.heap[gN]? = some (.cells #[.int .i64 1, .slice (some ⟨gB, 0, none⟩) 1 1] 46 (0, 0))) := (by show _ = _; rw [hwx]; exact setRow_heap _ _ _ _ _ _ fN_5.out); have fM_6 := Lib.hid (row_setRowO fM_5.out ne_N_M.symm #[.int .i64 1, .slice (some ⟨gB, 0, none⟩) 1 1]); rw [← hwx] at fM_6; have fA_6 := Lib.hid (row_setRowO fA_5.out ne_N_A.symm #[.int .i64 1, .slice (some ⟨gB, 0, none⟩) 1 1]); rw [← hwx] at fA_6; have fB_6 := Lib.hid (row_setRowO fB_5.out ne_N_B.symm #[.int .i64 1, .slice (some ⟨gB, 0, none⟩) 1 1]); rw [← hwx] at fB_6; have ud6 := ud5.setRowNew bN #[.int .i64 1, .slice (some ⟨gB, 0, none⟩) 1 1]; rw [← hwx] at ud6 ⊢; clear hwx
                    refine hK.out _ _ ?_ (fun hHeld => ?_)
                    · exact HPD.out _ ud6
                    clear hK K
                    try simp only [Act.put]
                    refine wpAnyH_done (by kernel_rfl) ?_ _
                    refine NoPanic.normal ?_
                    exact hJ gA gB gM gN wv6 fA_6 fB_6 fM_6 fN_6 ud6
                  exact AllReadyH.nil
                exact AllReadyH.nil
              exact AllReadyH.nil
            refine AllReadyH.cons (by simp only [List.getElem?_toArray, List.getElem?_cons_succ, List.getElem?_cons_zero] <;> rfl) (fun K hK => ?_) ?_
            · rw [if_pos (by rfl)]; refine wp_buildRun 44 1 _ rfl _ _ (Eq.trans (congrArg (fun z => (Instr.buildSlice 44 1 z).run Tryz.prog wv2) (by kernel_rfl)) (HB2.out wv2)) ?_; obtain ⟨gB, wv3, hgx, hwx, fB_3, hq⟩ := alloc_let (wv2) (.cells Y 33); rw [← hgx, ← hwx]; have bB : wA.heap.size ≤ gB := (by have := ud2.size; omega); have ud3 := ud2.trans hq; have fN_3 := Lib.hid (row_updH fN_2.out hq); have ne_N_B : gN ≠ gB := (by have := (Array.getElem?_eq_some_iff.1 fN_2.out).1; omega); have fM_3 := Lib.hid (row_updH fM_2.out hq); have ne_M_B : gM ≠ gB := (by have := (Array.getElem?_eq_some_iff.1 fM_2.out).1; omega); clear hgx hwx hq
              refine hK.out _ _ ?_ (fun hHeld => ?_)
              · exact HPD.out _ ud3
              clear hK K
              try simp only [Act.put, List.setIfInBounds_toArray, List.set_cons_zero, List.set_cons_succ]
              refine wpAnyH_take (i := 7) (v := ?v40) (by simp only [List.getElem?_toArray, List.getElem?_cons_succ, List.getElem?_cons_zero] <;> rfl) (by kernel_rfl) (by kernel_rfl) (by kernel_rfl) (fun _ _ _ h => h) (Or.inl ⟨by rfl, ?y40⟩) hHeld ?r40
              case y40 => (intro w hSw; (try dsimp only at hSw); go_simp; first | done | with_reducible rfl | rfl)
              try simp only [Act.put, List.setIfInBounds_toArray, List.set_cons_zero, List.set_cons_succ]
              refine wpAnyH_ready (rs := [2]) (by kernel_rfl) (by simp) ?_
              refine AllReadyH.cons (by simp only [List.getElem?_toArray, List.getElem?_cons_succ, List.getElem?_cons_zero] <;> rfl) (fun K hK => ?_) ?_
              · rw [if_pos (by rfl)]; refine wp_buildRun 44 1 _ rfl _ _ (Eq.trans (congrArg (fun z => (Instr.buildSlice 44 1 z).run Tryz.prog wv3) (by kernel_rfl)) (HB1.out wv3)) ?_; obtain ⟨gA, wv4, hgx, hwx, fA_4, hq⟩ := alloc_let (wv3) (.cells X 33); rw [← hgx, ← hwx]; have bA : wA.heap.size ≤ gA := (by have := ud3.size; omega); have ud4 := ud3.trans hq; have fN_4 := Lib.hid (row_updH fN_3.out hq); have ne_N_A : gN ≠ gA := (by have := (Array.getElem?_eq_some_iff.1 fN_3.out).1; omega); have fM_4 := Lib.hid (row_updH fM_3.out hq); have ne_M_A : gM ≠ gA := (by have := (Array.getElem?_eq_some_iff.1 fM_3.out).1; omega); have fB_4 := Lib.hid (row_updH fB_3.out hq); have ne_B_A : gB ≠ gA := (by have := (Array.getElem?_eq_some_iff.1 fB_3.out).1; omega); clear hgx hwx hq
                refine hK.out _ _ ?_ (fun hHeld => ?_)
                · exact HPD.out _ ud4
                clear hK K
                try simp only [Act.put, List.setIfInBounds_toArray, List.set_cons_zero, List.set_cons_succ]
                refine wpAnyH_take (i := 3) (v := ?v41) (by simp only [List.getElem?_toArray, List.getElem?_cons_succ, List.getElem?_cons_zero] <;> rfl) (by kernel_rfl) (by kernel_rfl) (by kernel_rfl) (fun _ _ _ h => h) (Or.inl ⟨by rfl, ?y41⟩) hHeld ?r41
                case y41 => (intro w hSw; (try dsimp only at hSw); go_simp; first | done | with_reducible rfl | rfl)
                try simp only [Act.put, List.setIfInBounds_toArray, List.set_cons_zero, List.set_cons_succ]
                refine wpAnyH_ready (rs := [10]) (by kernel_rfl) (by simp) ?_
                refine AllReadyH.cons (by simp only [List.getElem?_toArray, List.getElem?_cons_succ, List.getElem?_cons_zero] <;> rfl) (fun K hK => ?_) ?_
                · rw [if_pos (by rfl)]; refine wp_store_row 46 _ _ rfl gM #[.int .i64 1, .slice (some ⟨gA, 0, none⟩) 1 1] rfl rfl _ _ fM_4.out (BIH.out _).out (BZH.out _).out (BOH.out _ _ _).out ?_; obtain ⟨wv5, hwx⟩ : ∃ W' : World, W' = wv4.setRow gM #[.int .i64 1, .slice (some ⟨gA, 0, none⟩) 1 1] := ⟨_, rfl⟩; have fM_5 : Hid (wv5.heap[gM]? = some (.cells #[.int .i64 1, .slice (some ⟨gA, 0, none⟩) 1 1] 46 (0, 0))) := (by show _ = _; rw [hwx]; exact setRow_heap _ _ _ _ _ _ fM_4.out); have fN_5 := Lib.hid (row_setRowO fN_4.out ne_N_M #[.int .i64 1, .slice (some ⟨gA, 0, none⟩) 1 1]); rw [← hwx] at fN_5; have fB_5 := Lib.hid (row_setRowO fB_4.out ne_M_B.symm #[.int .i64 1, .slice (some ⟨gA, 0, none⟩) 1 1]); rw [← hwx] at fB_5; have fA_5 := Lib.hid (row_setRowO fA_4.out ne_M_A.symm #[.int .i64 1, .slice (some ⟨gA, 0, none⟩) 1 1]); rw [← hwx] at fA_5; have ud5 := ud4.setRowNew bM #[.int .i64 1, .slice (some ⟨gA, 0, none⟩) 1 1]; rw [← hwx] at ud5 ⊢; clear hwx
                  refine hK.out _ _ ?_ (fun hHeld => ?_)
                  · exact HPD.out _ ud5
                  clear hK K
                  try simp only [Act.put]
                  refine wpAnyH_ready (rs := [11]) (by kernel_rfl) (by simp) ?_
                  refine AllReadyH.cons (by simp only [List.getElem?_toArray, List.getElem?_cons_succ, List.getElem?_cons_zero] <;> rfl) (fun K hK => ?_) ?_
                  · rw [if_pos (by rfl)]; refine wp_store_row 46 _ _ rfl gN #[.int .i64 1, .slice (some ⟨gB, 0, none⟩) 1 1] rfl rfl _ _ fN_5.out (BIH.out _).out (BZH.out _).out (BOH.out _ _ _).out ?_; obtain ⟨wv6, hwx⟩ : ∃ W' : World, W' = wv5.setRow gN #[.int .i64 1, .slice (some ⟨gB, 0, none⟩) 1 1] := ⟨_, rfl⟩; have fN_6 : Hid (wv6.heap[gN]? = some (.cells #[.int .i64 1, .slice (some ⟨gB, 0, none⟩) 1 1] 46 (0, 0))) := (by show _ = _; rw [hwx]; exact setRow_heap _ _ _ _ _ _ fN_5.out); have fM_6 := Lib.hid (row_setRowO fM_5.out ne_N_M.symm #[.int .i64 1, .slice (some ⟨gB, 0, none⟩) 1 1]); rw [← hwx] at fM_6; have fB_6 := Lib.hid (row_setRowO fB_5.out ne_N_B.symm #[.int .i64 1, .slice (some ⟨gB, 0, none⟩) 1 1]); rw [← hwx] at fB_6; have fA_6 := Lib.hid (row_setRowO fA_5.out ne_N_A.symm #[.int .i64 1, .slice (some ⟨gB, 0, none⟩) 1 1]); rw [← hwx] at fA_6; have ud6 := ud5.setRowNew bN #[.int .i64 1, .slice (some ⟨gB, 0, none⟩) 1 1]; rw [← hwx] at ud6 ⊢; clear hwx
                    refine hK.out _ _ ?_ (fun hHeld => ?_)
                    · exact HPD.out _ ud6
                    clear hK K
                    try simp only [Act.put]
                    refine wpAnyH_done (by kernel_rfl) ?_ _
                    refine NoPanic.normal ?_
                    exact hJ gA gB gM gN wv6 fA_6 fB_6 fM_6 fN_6 ud6
                  exact AllReadyH.nil
                exact AllReadyH.nil
              exact AllReadyH.nil
            exact AllReadyH.nil
          exact AllReadyH.nil
        exact AllReadyH.nil
      intro gA gB gM gN wB FA FB FM FN uB
      clear ud0 HB1 HB2
      obtain ⟨YX, hYX⟩ : ∃ YX, YX = (rcV y0 ++ rcV x0).toArray := ⟨_, rfl⟩
      rw [← hYX] at HB3
      have HYX := Lib.hid hYX
      have HPE : Hid (∀ W, Upd [] [] wB W → (Instr.loadAt 33 (.pointer (some ⟨GX, 0, none⟩))).run Tryz.prog W = .ok (.agg X) W ∧ (Instr.loadAt 33 (.pointer (some ⟨GX, 102, none⟩))).run Tryz.prog W = .ok (.agg Y) W) := fun W u => HPD.out W (uB.trans u)
      clear hYX HPD
      go_upto_region 10 with (fail)
      have ud0 : Upd [] [] wB wB.drew := (Upd.refl _ _).drew
      refine @id ((∀ (gC gO gQ : Nat) (W : World), Hid (W.heap[gC]? = some (.cells YX 33 (0, 0))) → Hid (W.heap[gO]? = some (.cells #[.int .i64 1, .slice (some ⟨GX, 0, none⟩) 2 2] 46 (0, 0))) → Hid (W.heap[gQ]? = some (.cells #[.int .i64 1, .slice (some ⟨gC, 0, none⟩) 2 2] 46 (0, 0))) → Upd [] [] wB W → (?pj42 : Nat → Nat → Nat → World → Prop) gC gO gQ W) → _) (fun hJ => ?mj42) ?jj42
      case mj42 =>
        refine wp_region_noPanic ?_
        refine wp_region_held_drew (S := fun wp => (Instr.loadAt 33 (.pointer (some ⟨GX, 0, none⟩))).run Tryz.prog wp = .ok (.agg X) wp ∧ (Instr.loadAt 33 (.pointer (some ⟨GX, 102, none⟩))).run Tryz.prog wp = .ok (.agg Y) wp) (by kernel_rfl) ?_ (fun hHeld => ?_)
        · exact HPE.out _ ud0
        refine wpAnyH_take (i := 0) (v := ?v43) (by simp only [List.getElem?_toArray, List.getElem?_cons_zero] <;> rfl) (by kernel_rfl) (by kernel_rfl) (by kernel_rfl) (fun _ _ _ h => h) (Or.inl ⟨by rfl, ?y43⟩) hHeld ?r43
        case y43 => (intro w hSw; (try dsimp only at hSw); go_simp; first | done | with_reducible rfl | rfl)
        try simp only [Act.put, List.setIfInBounds_toArray, List.set_cons_zero, List.set_cons_succ]
        refine wpAnyH_take (i := 1) (v := ?v44) (by simp only [List.getElem?_toArray, List.getElem?_cons_succ, List.getElem?_cons_zero] <;> rfl) (by kernel_rfl) (by kernel_rfl) (by kernel_rfl) (fun _ _ _ h => h) (Or.inl ⟨by rfl, ?y44⟩) hHeld ?r44
        case y44 => (intro w hSw; (try dsimp only at hSw); go_simp; first | done | with_reducible rfl | rfl)
        try simp only [Act.put, List.setIfInBounds_toArray, List.set_cons_zero, List.set_cons_succ]
        refine wpAnyH_take (i := 2) (v := ?v45) (by simp only [List.getElem?_toArray, List.getElem?_cons_succ, List.getElem?_cons_zero] <;> rfl) (by kernel_rfl) (by kernel_rfl) (by kernel_rfl) (fun _ _ _ h => h) (Or.inl ⟨by rfl, ?y45⟩) hHeld ?r45
        case y45 => (intro w hSw; (try dsimp only at hSw); go_simp; first | done | with_reducible rfl | rfl)
        try simp only [Act.put, List.setIfInBounds_toArray, List.set_cons_zero, List.set_cons_succ]
        refine wpAnyH_take (i := 3) (v := .agg Y) (by simp only [List.getElem?_toArray, List.getElem?_cons_succ, List.getElem?_cons_zero] <;> rfl) (by kernel_rfl) (by kernel_rfl) (by kernel_rfl) (fun _ _ _ h => h) (yieldsIf_loadW (by rfl) _ _ rfl _ rfl Y (fun w hSw => hSw.2)) hHeld ?_
        try simp only [Act.put, List.setIfInBounds_toArray, List.set_cons_zero, List.set_cons_succ]
        refine wpAnyH_take (i := 4) (v := ?v46) (by simp only [List.getElem?_toArray, List.getElem?_cons_succ, List.getElem?_cons_zero] <;> rfl) (by kernel_rfl) (by kernel_rfl) (by kernel_rfl) (fun _ _ _ h => h) (Or.inl ⟨by rfl, ?y46⟩) hHeld ?r46
        case y46 => (intro w hSw; (try dsimp only at hSw); go_simp; first | done | with_reducible rfl | rfl)
        try simp only [Act.put, List.setIfInBounds_toArray, List.set_cons_zero, List.set_cons_succ]
        refine wpAnyH_take (i := 5) (v := .agg X) (by simp only [List.getElem?_toArray, List.getElem?_cons_succ, List.getElem?_cons_zero] <;> rfl) (by kernel_rfl) (by kernel_rfl) (by kernel_rfl) (fun _ _ _ h => h) (yieldsIf_loadW (by rfl) _ _ rfl _ rfl X (fun w hSw => hSw.1)) hHeld ?_
        try simp only [Act.put, List.setIfInBounds_toArray, List.set_cons_zero, List.set_cons_succ]
        refine wpAnyH_ready (rs := [6, 8, 9]) (by kernel_rfl) (by simp) ?_
        refine AllReadyH.cons (by simp only [List.getElem?_toArray, List.getElem?_cons_succ, List.getElem?_cons_zero] <;> rfl) (fun K hK => ?_) ?_
        · rw [if_pos (by rfl)]; refine wp_buildRun 44 2 _ rfl _ _ (Eq.trans (congrArg (fun z => (Instr.buildSlice 44 2 z).run Tryz.prog wB.drew) (by kernel_rfl)) (HB3.out wB.drew)) ?_; obtain ⟨gC, wv1, hgx, hwx, fC_1, hq⟩ := alloc_let (wB.drew) (.cells YX 33); rw [← hgx, ← hwx]; have bC : wB.heap.size ≤ gC := (by have := ud0.size; omega); have ud1 := ud0.trans hq; clear hgx hwx hq
          refine hK.out _ _ ?_ (fun hHeld => ?_)
          · exact HPE.out _ ud1
          clear hK K
          try simp only [Act.put, List.setIfInBounds_toArray, List.set_cons_zero, List.set_cons_succ]
          refine wpAnyH_take (i := 7) (v := ?v47) (by simp only [List.getElem?_toArray, List.getElem?_cons_succ, List.getElem?_cons_zero] <;> rfl) (by kernel_rfl) (by kernel_rfl) (by kernel_rfl) (fun _ _ _ h => h) (Or.inl ⟨by rfl, ?y47⟩) hHeld ?r47
          case y47 => (intro w hSw; (try dsimp only at hSw); go_simp; first | done | with_reducible rfl | rfl)
          try simp only [Act.put, List.setIfInBounds_toArray, List.set_cons_zero, List.set_cons_succ]
          refine wpAnyH_ready (rs := [8, 9]) (by kernel_rfl) (by simp) ?_
          refine AllReadyH.cons (by simp only [List.getElem?_toArray, List.getElem?_cons_succ, List.getElem?_cons_zero] <;> rfl) (fun K hK => ?_) ?_
          · go_simp; obtain ⟨gO, wv2, hgx, hwx, fO_2, hq⟩ := alloc_let (wv1) (.cells #[.int .i64 0, .slice none 0 0] 46); rw [← hgx, ← hwx]; have bO : wB.heap.size ≤ gO := (by have := ud1.size; omega); have ud2 := ud1.trans hq; have fC_2 := Lib.hid (row_updH fC_1.out hq); have ne_C_O : gC ≠ gO := (by have := (Array.getElem?_eq_some_iff.1 fC_1.out).1; omega); clear hgx hwx hq
            refine hK.out _ _ ?_ (fun hHeld => ?_)
            · exact HPE.out _ ud2
            clear hK K
            try simp only [Act.put, List.setIfInBounds_toArray, List.set_cons_zero, List.set_cons_succ]
            refine wpAnyH_ready (rs := [9]) (by kernel_rfl) (by simp) ?_
            refine AllReadyH.cons (by simp only [List.getElem?_toArray, List.getElem?_cons_succ, List.getElem?_cons_zero] <;> rfl) (fun K hK => ?_) ?_
            · go_simp; obtain ⟨gQ, wv3, hgx, hwx, fQ_3, hq⟩ := alloc_let (wv2) (.cells #[.int .i64 0, .slice none 0 0] 46); rw [← hgx, ← hwx]; have bQ : wB.heap.size ≤ gQ := (by have := ud2.size; omega); have ud3 := ud2.trans hq; have fC_3 := Lib.hid (row_updH fC_2.out hq); have ne_C_Q : gC ≠ gQ := (by have := (Array.getElem?_eq_some_iff.1 fC_2.out).1; omega); have fO_3 := Lib.hid (row_updH fO_2.out hq); have ne_O_Q : gO ≠ gQ := (by have := (Array.getElem?_eq_some_iff.1 fO_2.out).1; omega); clear hgx hwx hq
              refine hK.out _ _ ?_ (fun hHeld => ?_)
              · exact HPE.out _ ud3
              clear hK K
              try simp only [Act.put, List.setIfInBounds_toArray, List.set_cons_zero, List.set_cons_succ]
              refine wpAnyH_ready (rs := [10]) (by kernel_rfl) (by simp) ?_
              refine AllReadyH.cons (by simp only [List.getElem?_toArray, List.getElem?_cons_succ, List.getElem?_cons_zero] <;> rfl) (fun K hK => ?_) ?_
              · rw [if_pos (by rfl)]; refine wp_store_row 46 _ _ rfl gO #[.int .i64 1, .slice (some ⟨GX, 0, none⟩) 2 2] rfl rfl _ _ fO_3.out (BIH.out _).out (BZH.out _).out (BOH.out _ _ _).out ?_; obtain ⟨wv4, hwx⟩ : ∃ W' : World, W' = wv3.setRow gO #[.int .i64 1, .slice (some ⟨GX, 0, none⟩) 2 2] := ⟨_, rfl⟩; have fO_4 : Hid (wv4.heap[gO]? = some (.cells #[.int .i64 1, .slice (some ⟨GX, 0, none⟩) 2 2] 46 (0, 0))) := (by show _ = _; rw [hwx]; exact setRow_heap _ _ _ _ _ _ fO_3.out); have fC_4 := Lib.hid (row_setRowO fC_3.out ne_C_O #[.int .i64 1, .slice (some ⟨GX, 0, none⟩) 2 2]); rw [← hwx] at fC_4; have fQ_4 := Lib.hid (row_setRowO fQ_3.out ne_O_Q.symm #[.int .i64 1, .slice (some ⟨GX, 0, none⟩) 2 2]); rw [← hwx] at fQ_4; have ud4 := ud3.setRowNew bO #[.int .i64 1, .slice (some ⟨GX, 0, none⟩) 2 2]; rw [← hwx] at ud4 ⊢; clear hwx
                refine hK.out _ _ ?_ (fun hHeld => ?_)
                · exact HPE.out _ ud4
                clear hK K
                try simp only [Act.put]
                refine wpAnyH_ready (rs := [11]) (by kernel_rfl) (by simp) ?_
                refine AllReadyH.cons (by simp only [List.getElem?_toArray, List.getElem?_cons_succ, List.getElem?_cons_zero] <;> rfl) (fun K hK => ?_) ?_
                · rw [if_pos (by rfl)]; refine wp_store_row 46 _ _ rfl gQ #[.int .i64 1, .slice (some ⟨gC, 0, none⟩) 2 2] rfl rfl _ _ fQ_4.out (BIH.out _).out (BZH.out _).out (BOH.out _ _ _).out ?_; obtain ⟨wv5, hwx⟩ : ∃ W' : World, W' = wv4.setRow gQ #[.int .i64 1, .slice (some ⟨gC, 0, none⟩) 2 2] := ⟨_, rfl⟩; have fQ_5 : Hid (wv5.heap[gQ]? = some (.cells #[.int .i64 1, .slice (some ⟨gC, 0, none⟩) 2 2] 46 (0, 0))) := (by show _ = _; rw [hwx]; exact setRow_heap _ _ _ _ _ _ fQ_4.out); have fC_5 := Lib.hid (row_setRowO fC_4.out ne_C_Q #[.int .i64 1, .slice (some ⟨gC, 0, none⟩) 2 2]); rw [← hwx] at fC_5; have fO_5 := Lib.hid (row_setRowO fO_4.out ne_O_Q #[.int .i64 1, .slice (some ⟨gC, 0, none⟩) 2 2]); rw [← hwx] at fO_5; have ud5 := ud4.setRowNew bQ #[.int .i64 1, .slice (some ⟨gC, 0, none⟩) 2 2]; rw [← hwx] at ud5 ⊢; clear hwx
                  refine hK.out _ _ ?_ (fun hHeld => ?_)
                  · exact HPE.out _ ud5
                  clear hK K
                  try simp only [Act.put]
                  refine wpAnyH_done (by kernel_rfl) ?_ _
                  refine NoPanic.normal ?_
                  exact hJ gC gO gQ wv5 fC_5 fO_5 fQ_5 ud5
                exact AllReadyH.nil
              exact AllReadyH.nil
            exact AllReadyH.nil
          refine AllReadyH.cons (by simp only [List.getElem?_toArray, List.getElem?_cons_succ, List.getElem?_cons_zero] <;> rfl) (fun K hK => ?_) ?_
          · go_simp; obtain ⟨gQ, wv2, hgx, hwx, fQ_2, hq⟩ := alloc_let (wv1) (.cells #[.int .i64 0, .slice none 0 0] 46); rw [← hgx, ← hwx]; have bQ : wB.heap.size ≤ gQ := (by have := ud1.size; omega); have ud2 := ud1.trans hq; have fC_2 := Lib.hid (row_updH fC_1.out hq); have ne_C_Q : gC ≠ gQ := (by have := (Array.getElem?_eq_some_iff.1 fC_1.out).1; omega); clear hgx hwx hq
            refine hK.out _ _ ?_ (fun hHeld => ?_)
            · exact HPE.out _ ud2
            clear hK K
            try simp only [Act.put, List.setIfInBounds_toArray, List.set_cons_zero, List.set_cons_succ]
            refine wpAnyH_ready (rs := [8]) (by kernel_rfl) (by simp) ?_
            refine AllReadyH.cons (by simp only [List.getElem?_toArray, List.getElem?_cons_succ, List.getElem?_cons_zero] <;> rfl) (fun K hK => ?_) ?_
            · go_simp; obtain ⟨gO, wv3, hgx, hwx, fO_3, hq⟩ := alloc_let (wv2) (.cells #[.int .i64 0, .slice none 0 0] 46); rw [← hgx, ← hwx]; have bO : wB.heap.size ≤ gO := (by have := ud2.size; omega); have ud3 := ud2.trans hq; have fC_3 := Lib.hid (row_updH fC_2.out hq); have ne_C_O : gC ≠ gO := (by have := (Array.getElem?_eq_some_iff.1 fC_2.out).1; omega); have fQ_3 := Lib.hid (row_updH fQ_2.out hq); have ne_Q_O : gQ ≠ gO := (by have := (Array.getElem?_eq_some_iff.1 fQ_2.out).1; omega); clear hgx hwx hq
              refine hK.out _ _ ?_ (fun hHeld => ?_)
              · exact HPE.out _ ud3
              clear hK K
              try simp only [Act.put, List.setIfInBounds_toArray, List.set_cons_zero, List.set_cons_succ]
              refine wpAnyH_ready (rs := [10]) (by kernel_rfl) (by simp) ?_
              refine AllReadyH.cons (by simp only [List.getElem?_toArray, List.getElem?_cons_succ, List.getElem?_cons_zero] <;> rfl) (fun K hK => ?_) ?_
              · rw [if_pos (by rfl)]; refine wp_store_row 46 _ _ rfl gO #[.int .i64 1, .slice (some ⟨GX, 0, none⟩) 2 2] rfl rfl _ _ fO_3.out (BIH.out _).out (BZH.out _).out (BOH.out _ _ _).out ?_; obtain ⟨wv4, hwx⟩ : ∃ W' : World, W' = wv3.setRow gO #[.int .i64 1, .slice (some ⟨GX, 0, none⟩) 2 2] := ⟨_, rfl⟩; have fO_4 : Hid (wv4.heap[gO]? = some (.cells #[.int .i64 1, .slice (some ⟨GX, 0, none⟩) 2 2] 46 (0, 0))) := (by show _ = _; rw [hwx]; exact setRow_heap _ _ _ _ _ _ fO_3.out); have fC_4 := Lib.hid (row_setRowO fC_3.out ne_C_O #[.int .i64 1, .slice (some ⟨GX, 0, none⟩) 2 2]); rw [← hwx] at fC_4; have fQ_4 := Lib.hid (row_setRowO fQ_3.out ne_Q_O #[.int .i64 1, .slice (some ⟨GX, 0, none⟩) 2 2]); rw [← hwx] at fQ_4; have ud4 := ud3.setRowNew bO #[.int .i64 1, .slice (some ⟨GX, 0, none⟩) 2 2]; rw [← hwx] at ud4 ⊢; clear hwx
                refine hK.out _ _ ?_ (fun hHeld => ?_)
                · exact HPE.out _ ud4
                clear hK K
                try simp only [Act.put]
                refine wpAnyH_ready (rs := [11]) (by kernel_rfl) (by simp) ?_
                refine AllReadyH.cons (by simp only [List.getElem?_toArray, List.getElem?_cons_succ, List.getElem?_cons_zero] <;> rfl) (fun K hK => ?_) ?_
                · rw [if_pos (by rfl)]; refine wp_store_row 46 _ _ rfl gQ #[.int .i64 1, .slice (some ⟨gC, 0, none⟩) 2 2] rfl rfl _ _ fQ_4.out (BIH.out _).out (BZH.out _).out (BOH.out _ _ _).out ?_; obtain ⟨wv5, hwx⟩ : ∃ W' : World, W' = wv4.setRow gQ #[.int .i64 1, .slice (some ⟨gC, 0, none⟩) 2 2] := ⟨_, rfl⟩; have fQ_5 : Hid (wv5.heap[gQ]? = some (.cells #[.int .i64 1, .slice (some ⟨gC, 0, none⟩) 2 2] 46 (0, 0))) := (by show _ = _; rw [hwx]; exact setRow_heap _ _ _ _ _ _ fQ_4.out); have fC_5 := Lib.hid (row_setRowO fC_4.out ne_C_Q #[.int .i64 1, .slice (some ⟨gC, 0, none⟩) 2 2]); rw [← hwx] at fC_5; have fO_5 := Lib.hid (row_setRowO fO_4.out ne_Q_O.symm #[.int .i64 1, .slice (some ⟨gC, 0, none⟩) 2 2]); rw [← hwx] at fO_5; have ud5 := ud4.setRowNew bQ #[.int .i64 1, .slice (some ⟨gC, 0, none⟩) 2 2]; rw [← hwx] at ud5 ⊢; clear hwx
                  refine hK.out _ _ ?_ (fun hHeld => ?_)
                  · exact HPE.out _ ud5
                  clear hK K
                  try simp only [Act.put]
                  refine wpAnyH_done (by kernel_rfl) ?_ _
                  refine NoPanic.normal ?_
                  exact hJ gC gO gQ wv5 fC_5 fO_5 fQ_5 ud5
                exact AllReadyH.nil
              exact AllReadyH.nil
            exact AllReadyH.nil
          exact AllReadyH.nil
        refine AllReadyH.cons (by simp only [List.getElem?_toArray, List.getElem?_cons_succ, List.getElem?_cons_zero] <;> rfl) (fun K hK => ?_) ?_
        · go_simp; obtain ⟨gO, wv1, hgx, hwx, fO_1, hq⟩ := alloc_letD wB (.cells #[.int .i64 0, .slice none 0 0] 46); rw [← hgx, ← hwx]; have bO : wB.heap.size ≤ gO := (by omega); have ud1 := hq; clear hgx hwx hq
          refine hK.out _ _ ?_ (fun hHeld => ?_)
          · exact HPE.out _ ud1
          clear hK K
          try simp only [Act.put, List.setIfInBounds_toArray, List.set_cons_zero, List.set_cons_succ]
          refine wpAnyH_ready (rs := [6, 9]) (by kernel_rfl) (by simp) ?_
          refine AllReadyH.cons (by simp only [List.getElem?_toArray, List.getElem?_cons_succ, List.getElem?_cons_zero] <;> rfl) (fun K hK => ?_) ?_
          · rw [if_pos (by rfl)]; refine wp_buildRun 44 2 _ rfl _ _ (Eq.trans (congrArg (fun z => (Instr.buildSlice 44 2 z).run Tryz.prog wv1) (by kernel_rfl)) (HB3.out wv1)) ?_; obtain ⟨gC, wv2, hgx, hwx, fC_2, hq⟩ := alloc_let (wv1) (.cells YX 33); rw [← hgx, ← hwx]; have bC : wB.heap.size ≤ gC := (by have := ud1.size; omega); have ud2 := ud1.trans hq; have fO_2 := Lib.hid (row_updH fO_1.out hq); have ne_O_C : gO ≠ gC := (by have := (Array.getElem?_eq_some_iff.1 fO_1.out).1; omega); clear hgx hwx hq
            refine hK.out _ _ ?_ (fun hHeld => ?_)
            · exact HPE.out _ ud2
            clear hK K
            try simp only [Act.put, List.setIfInBounds_toArray, List.set_cons_zero, List.set_cons_succ]
            refine wpAnyH_take (i := 7) (v := ?v48) (by simp only [List.getElem?_toArray, List.getElem?_cons_succ, List.getElem?_cons_zero] <;> rfl) (by kernel_rfl) (by kernel_rfl) (by kernel_rfl) (fun _ _ _ h => h) (Or.inl ⟨by rfl, ?y48⟩) hHeld ?r48
            case y48 => (intro w hSw; (try dsimp only at hSw); go_simp; first | done | with_reducible rfl | rfl)
            try simp only [Act.put, List.setIfInBounds_toArray, List.set_cons_zero, List.set_cons_succ]
            refine wpAnyH_ready (rs := [9]) (by kernel_rfl) (by simp) ?_
            refine AllReadyH.cons (by simp only [List.getElem?_toArray, List.getElem?_cons_succ, List.getElem?_cons_zero] <;> rfl) (fun K hK => ?_) ?_
            · go_simp; obtain ⟨gQ, wv3, hgx, hwx, fQ_3, hq⟩ := alloc_let (wv2) (.cells #[.int .i64 0, .slice none 0 0] 46); rw [← hgx, ← hwx]; have bQ : wB.heap.size ≤ gQ := (by have := ud2.size; omega); have ud3 := ud2.trans hq; have fO_3 := Lib.hid (row_updH fO_2.out hq); have ne_O_Q : gO ≠ gQ := (by have := (Array.getElem?_eq_some_iff.1 fO_2.out).1; omega); have fC_3 := Lib.hid (row_updH fC_2.out hq); have ne_C_Q : gC ≠ gQ := (by have := (Array.getElem?_eq_some_iff.1 fC_2.out).1; omega); clear hgx hwx hq
              refine hK.out _ _ ?_ (fun hHeld => ?_)
              · exact HPE.out _ ud3
              clear hK K
              try simp only [Act.put, List.setIfInBounds_toArray, List.set_cons_zero, List.set_cons_succ]
              refine wpAnyH_ready (rs := [10]) (by kernel_rfl) (by simp) ?_
              refine AllReadyH.cons (by simp only [List.getElem?_toArray, List.getElem?_cons_succ, List.getElem?_cons_zero] <;> rfl) (fun K hK => ?_) ?_
              · rw [if_pos (by rfl)]; refine wp_store_row 46 _ _ rfl gO #[.int .i64 1, .slice (some ⟨GX, 0, none⟩) 2 2] rfl rfl _ _ fO_3.out (BIH.out _).out (BZH.out _).out (BOH.out _ _ _).out ?_; obtain ⟨wv4, hwx⟩ : ∃ W' : World, W' = wv3.setRow gO #[.int .i64 1, .slice (some ⟨GX, 0, none⟩) 2 2] := ⟨_, rfl⟩; have fO_4 : Hid (wv4.heap[gO]? = some (.cells #[.int .i64 1, .slice (some ⟨GX, 0, none⟩) 2 2] 46 (0, 0))) := (by show _ = _; rw [hwx]; exact setRow_heap _ _ _ _ _ _ fO_3.out); have fC_4 := Lib.hid (row_setRowO fC_3.out ne_O_C.symm #[.int .i64 1, .slice (some ⟨GX, 0, none⟩) 2 2]); rw [← hwx] at fC_4; have fQ_4 := Lib.hid (row_setRowO fQ_3.out ne_O_Q.symm #[.int .i64 1, .slice (some ⟨GX, 0, none⟩) 2 2]); rw [← hwx] at fQ_4; have ud4 := ud3.setRowNew bO #[.int .i64 1, .slice (some ⟨GX, 0, none⟩) 2 2]; rw [← hwx] at ud4 ⊢; clear hwx
                refine hK.out _ _ ?_ (fun hHeld => ?_)
                · exact HPE.out _ ud4
                clear hK K
                try simp only [Act.put]
                refine wpAnyH_ready (rs := [11]) (by kernel_rfl) (by simp) ?_
                refine AllReadyH.cons (by simp only [List.getElem?_toArray, List.getElem?_cons_succ, List.getElem?_cons_zero] <;> rfl) (fun K hK => ?_) ?_
                · rw [if_pos (by rfl)]; refine wp_store_row 46 _ _ rfl gQ #[.int .i64 1, .slice (some ⟨gC, 0, none⟩) 2 2] rfl rfl _ _ fQ_4.out (BIH.out _).out (BZH.out _).out (BOH.out _ _ _).out ?_; obtain ⟨wv5, hwx⟩ : ∃ W' : World, W' = wv4.setRow gQ #[.int .i64 1, .slice (some ⟨gC, 0, none⟩) 2 2] := ⟨_, rfl⟩; have fQ_5 : Hid (wv5.heap[gQ]? = some (.cells #[.int .i64 1, .slice (some ⟨gC, 0, none⟩) 2 2] 46 (0, 0))) := (by show _ = _; rw [hwx]; exact setRow_heap _ _ _ _ _ _ fQ_4.out); have fO_5 := Lib.hid (row_setRowO fO_4.out ne_O_Q #[.int .i64 1, .slice (some ⟨gC, 0, none⟩) 2 2]); rw [← hwx] at fO_5; have fC_5 := Lib.hid (row_setRowO fC_4.out ne_C_Q #[.int .i64 1, .slice (some ⟨gC, 0, none⟩) 2 2]); rw [← hwx] at fC_5; have ud5 := ud4.setRowNew bQ #[.int .i64 1, .slice (some ⟨gC, 0, none⟩) 2 2]; rw [← hwx] at ud5 ⊢; clear hwx
                  refine hK.out _ _ ?_ (fun hHeld => ?_)
                  · exact HPE.out _ ud5
                  clear hK K
                  try simp only [Act.put]
                  refine wpAnyH_done (by kernel_rfl) ?_ _
                  refine NoPanic.normal ?_
                  exact hJ gC gO gQ wv5 fC_5 fO_5 fQ_5 ud5
                exact AllReadyH.nil
              exact AllReadyH.nil
            exact AllReadyH.nil
          refine AllReadyH.cons (by simp only [List.getElem?_toArray, List.getElem?_cons_succ, List.getElem?_cons_zero] <;> rfl) (fun K hK => ?_) ?_
          · go_simp; obtain ⟨gQ, wv2, hgx, hwx, fQ_2, hq⟩ := alloc_let (wv1) (.cells #[.int .i64 0, .slice none 0 0] 46); rw [← hgx, ← hwx]; have bQ : wB.heap.size ≤ gQ := (by have := ud1.size; omega); have ud2 := ud1.trans hq; have fO_2 := Lib.hid (row_updH fO_1.out hq); have ne_O_Q : gO ≠ gQ := (by have := (Array.getElem?_eq_some_iff.1 fO_1.out).1; omega); clear hgx hwx hq
            refine hK.out _ _ ?_ (fun hHeld => ?_)
            · exact HPE.out _ ud2
            clear hK K
            try simp only [Act.put, List.setIfInBounds_toArray, List.set_cons_zero, List.set_cons_succ]
            refine wpAnyH_ready (rs := [6, 10]) (by kernel_rfl) (by simp) ?_
            refine AllReadyH.cons (by simp only [List.getElem?_toArray, List.getElem?_cons_succ, List.getElem?_cons_zero] <;> rfl) (fun K hK => ?_) ?_
            · rw [if_pos (by rfl)]; refine wp_buildRun 44 2 _ rfl _ _ (Eq.trans (congrArg (fun z => (Instr.buildSlice 44 2 z).run Tryz.prog wv2) (by kernel_rfl)) (HB3.out wv2)) ?_; obtain ⟨gC, wv3, hgx, hwx, fC_3, hq⟩ := alloc_let (wv2) (.cells YX 33); rw [← hgx, ← hwx]; have bC : wB.heap.size ≤ gC := (by have := ud2.size; omega); have ud3 := ud2.trans hq; have fO_3 := Lib.hid (row_updH fO_2.out hq); have ne_O_C : gO ≠ gC := (by have := (Array.getElem?_eq_some_iff.1 fO_2.out).1; omega); have fQ_3 := Lib.hid (row_updH fQ_2.out hq); have ne_Q_C : gQ ≠ gC := (by have := (Array.getElem?_eq_some_iff.1 fQ_2.out).1; omega); clear hgx hwx hq
              refine hK.out _ _ ?_ (fun hHeld => ?_)
              · exact HPE.out _ ud3
              clear hK K
              try simp only [Act.put, List.setIfInBounds_toArray, List.set_cons_zero, List.set_cons_succ]
              refine wpAnyH_take (i := 7) (v := ?v49) (by simp only [List.getElem?_toArray, List.getElem?_cons_succ, List.getElem?_cons_zero] <;> rfl) (by kernel_rfl) (by kernel_rfl) (by kernel_rfl) (fun _ _ _ h => h) (Or.inl ⟨by rfl, ?y49⟩) hHeld ?r49
              case y49 => (intro w hSw; (try dsimp only at hSw); go_simp; first | done | with_reducible rfl | rfl)
              try simp only [Act.put, List.setIfInBounds_toArray, List.set_cons_zero, List.set_cons_succ]
              refine wpAnyH_ready (rs := [10]) (by kernel_rfl) (by simp) ?_
              refine AllReadyH.cons (by simp only [List.getElem?_toArray, List.getElem?_cons_succ, List.getElem?_cons_zero] <;> rfl) (fun K hK => ?_) ?_
              · rw [if_pos (by rfl)]; refine wp_store_row 46 _ _ rfl gO #[.int .i64 1, .slice (some ⟨GX, 0, none⟩) 2 2] rfl rfl _ _ fO_3.out (BIH.out _).out (BZH.out _).out (BOH.out _ _ _).out ?_; obtain ⟨wv4, hwx⟩ : ∃ W' : World, W' = wv3.setRow gO #[.int .i64 1, .slice (some ⟨GX, 0, none⟩) 2 2] := ⟨_, rfl⟩; have fO_4 : Hid (wv4.heap[gO]? = some (.cells #[.int .i64 1, .slice (some ⟨GX, 0, none⟩) 2 2] 46 (0, 0))) := (by show _ = _; rw [hwx]; exact setRow_heap _ _ _ _ _ _ fO_3.out); have fQ_4 := Lib.hid (row_setRowO fQ_3.out ne_O_Q.symm #[.int .i64 1, .slice (some ⟨GX, 0, none⟩) 2 2]); rw [← hwx] at fQ_4; have fC_4 := Lib.hid (row_setRowO fC_3.out ne_O_C.symm #[.int .i64 1, .slice (some ⟨GX, 0, none⟩) 2 2]); rw [← hwx] at fC_4; have ud4 := ud3.setRowNew bO #[.int .i64 1, .slice (some ⟨GX, 0, none⟩) 2 2]; rw [← hwx] at ud4 ⊢; clear hwx
                refine hK.out _ _ ?_ (fun hHeld => ?_)
                · exact HPE.out _ ud4
                clear hK K
                try simp only [Act.put]
                refine wpAnyH_ready (rs := [11]) (by kernel_rfl) (by simp) ?_
                refine AllReadyH.cons (by simp only [List.getElem?_toArray, List.getElem?_cons_succ, List.getElem?_cons_zero] <;> rfl) (fun K hK => ?_) ?_
                · rw [if_pos (by rfl)]; refine wp_store_row 46 _ _ rfl gQ #[.int .i64 1, .slice (some ⟨gC, 0, none⟩) 2 2] rfl rfl _ _ fQ_4.out (BIH.out _).out (BZH.out _).out (BOH.out _ _ _).out ?_; obtain ⟨wv5, hwx⟩ : ∃ W' : World, W' = wv4.setRow gQ #[.int .i64 1, .slice (some ⟨gC, 0, none⟩) 2 2] := ⟨_, rfl⟩; have fQ_5 : Hid (wv5.heap[gQ]? = some (.cells #[.int .i64 1, .slice (some ⟨gC, 0, none⟩) 2 2] 46 (0, 0))) := (by show _ = _; rw [hwx]; exact setRow_heap _ _ _ _ _ _ fQ_4.out); have fO_5 := Lib.hid (row_setRowO fO_4.out ne_O_Q #[.int .i64 1, .slice (some ⟨gC, 0, none⟩) 2 2]); rw [← hwx] at fO_5; have fC_5 := Lib.hid (row_setRowO fC_4.out ne_Q_C.symm #[.int .i64 1, .slice (some ⟨gC, 0, none⟩) 2 2]); rw [← hwx] at fC_5; have ud5 := ud4.setRowNew bQ #[.int .i64 1, .slice (some ⟨gC, 0, none⟩) 2 2]; rw [← hwx] at ud5 ⊢; clear hwx
                  refine hK.out _ _ ?_ (fun hHeld => ?_)
                  · exact HPE.out _ ud5
                  clear hK K
                  try simp only [Act.put]
                  refine wpAnyH_done (by kernel_rfl) ?_ _
                  refine NoPanic.normal ?_
                  exact hJ gC gO gQ wv5 fC_5 fO_5 fQ_5 ud5
                exact AllReadyH.nil
              exact AllReadyH.nil
            refine AllReadyH.cons (by simp only [List.getElem?_toArray, List.getElem?_cons_succ, List.getElem?_cons_zero] <;> rfl) (fun K hK => ?_) ?_
            · rw [if_pos (by rfl)]; refine wp_store_row 46 _ _ rfl gO #[.int .i64 1, .slice (some ⟨GX, 0, none⟩) 2 2] rfl rfl _ _ fO_2.out (BIH.out _).out (BZH.out _).out (BOH.out _ _ _).out ?_; obtain ⟨wv3, hwx⟩ : ∃ W' : World, W' = wv2.setRow gO #[.int .i64 1, .slice (some ⟨GX, 0, none⟩) 2 2] := ⟨_, rfl⟩; have fO_3 : Hid (wv3.heap[gO]? = some (.cells #[.int .i64 1, .slice (some ⟨GX, 0, none⟩) 2 2] 46 (0, 0))) := (by show _ = _; rw [hwx]; exact setRow_heap _ _ _ _ _ _ fO_2.out); have fQ_3 := Lib.hid (row_setRowO fQ_2.out ne_O_Q.symm #[.int .i64 1, .slice (some ⟨GX, 0, none⟩) 2 2]); rw [← hwx] at fQ_3; have ud3 := ud2.setRowNew bO #[.int .i64 1, .slice (some ⟨GX, 0, none⟩) 2 2]; rw [← hwx] at ud3 ⊢; clear hwx
              refine hK.out _ _ ?_ (fun hHeld => ?_)
              · exact HPE.out _ ud3
              clear hK K
              try simp only [Act.put]
              refine wpAnyH_ready (rs := [6]) (by kernel_rfl) (by simp) ?_
              refine AllReadyH.cons (by simp only [List.getElem?_toArray, List.getElem?_cons_succ, List.getElem?_cons_zero] <;> rfl) (fun K hK => ?_) ?_
              · rw [if_pos (by rfl)]; refine wp_buildRun 44 2 _ rfl _ _ (Eq.trans (congrArg (fun z => (Instr.buildSlice 44 2 z).run Tryz.prog wv3) (by kernel_rfl)) (HB3.out wv3)) ?_; obtain ⟨gC, wv4, hgx, hwx, fC_4, hq⟩ := alloc_let (wv3) (.cells YX 33); rw [← hgx, ← hwx]; have bC : wB.heap.size ≤ gC := (by have := ud3.size; omega); have ud4 := ud3.trans hq; have fO_4 := Lib.hid (row_updH fO_3.out hq); have ne_O_C : gO ≠ gC := (by have := (Array.getElem?_eq_some_iff.1 fO_3.out).1; omega); have fQ_4 := Lib.hid (row_updH fQ_3.out hq); have ne_Q_C : gQ ≠ gC := (by have := (Array.getElem?_eq_some_iff.1 fQ_3.out).1; omega); clear hgx hwx hq
                refine hK.out _ _ ?_ (fun hHeld => ?_)
                · exact HPE.out _ ud4
                clear hK K
                try simp only [Act.put, List.setIfInBounds_toArray, List.set_cons_zero, List.set_cons_succ]
                refine wpAnyH_take (i := 7) (v := ?v50) (by simp only [List.getElem?_toArray, List.getElem?_cons_succ, List.getElem?_cons_zero] <;> rfl) (by kernel_rfl) (by kernel_rfl) (by kernel_rfl) (fun _ _ _ h => h) (Or.inl ⟨by rfl, ?y50⟩) hHeld ?r50
                case y50 => (intro w hSw; (try dsimp only at hSw); go_simp; first | done | with_reducible rfl | rfl)
                try simp only [Act.put, List.setIfInBounds_toArray, List.set_cons_zero, List.set_cons_succ]
                refine wpAnyH_ready (rs := [11]) (by kernel_rfl) (by simp) ?_
                refine AllReadyH.cons (by simp only [List.getElem?_toArray, List.getElem?_cons_succ, List.getElem?_cons_zero] <;> rfl) (fun K hK => ?_) ?_
                · rw [if_pos (by rfl)]; refine wp_store_row 46 _ _ rfl gQ #[.int .i64 1, .slice (some ⟨gC, 0, none⟩) 2 2] rfl rfl _ _ fQ_4.out (BIH.out _).out (BZH.out _).out (BOH.out _ _ _).out ?_; obtain ⟨wv5, hwx⟩ : ∃ W' : World, W' = wv4.setRow gQ #[.int .i64 1, .slice (some ⟨gC, 0, none⟩) 2 2] := ⟨_, rfl⟩; have fQ_5 : Hid (wv5.heap[gQ]? = some (.cells #[.int .i64 1, .slice (some ⟨gC, 0, none⟩) 2 2] 46 (0, 0))) := (by show _ = _; rw [hwx]; exact setRow_heap _ _ _ _ _ _ fQ_4.out); have fO_5 := Lib.hid (row_setRowO fO_4.out ne_O_Q #[.int .i64 1, .slice (some ⟨gC, 0, none⟩) 2 2]); rw [← hwx] at fO_5; have fC_5 := Lib.hid (row_setRowO fC_4.out ne_Q_C.symm #[.int .i64 1, .slice (some ⟨gC, 0, none⟩) 2 2]); rw [← hwx] at fC_5; have ud5 := ud4.setRowNew bQ #[.int .i64 1, .slice (some ⟨gC, 0, none⟩) 2 2]; rw [← hwx] at ud5 ⊢; clear hwx
                  refine hK.out _ _ ?_ (fun hHeld => ?_)
                  · exact HPE.out _ ud5
                  clear hK K
                  try simp only [Act.put]
                  refine wpAnyH_done (by kernel_rfl) ?_ _
                  refine NoPanic.normal ?_
                  exact hJ gC gO gQ wv5 fC_5 fO_5 fQ_5 ud5
                exact AllReadyH.nil
              exact AllReadyH.nil
            exact AllReadyH.nil
          exact AllReadyH.nil
        refine AllReadyH.cons (by simp only [List.getElem?_toArray, List.getElem?_cons_succ, List.getElem?_cons_zero] <;> rfl) (fun K hK => ?_) ?_
        · go_simp; obtain ⟨gQ, wv1, hgx, hwx, fQ_1, hq⟩ := alloc_letD wB (.cells #[.int .i64 0, .slice none 0 0] 46); rw [← hgx, ← hwx]; have bQ : wB.heap.size ≤ gQ := (by omega); have ud1 := hq; clear hgx hwx hq
          refine hK.out _ _ ?_ (fun hHeld => ?_)
          · exact HPE.out _ ud1
          clear hK K
          try simp only [Act.put, List.setIfInBounds_toArray, List.set_cons_zero, List.set_cons_succ]
          refine wpAnyH_ready (rs := [6, 8]) (by kernel_rfl) (by simp) ?_
          refine AllReadyH.cons (by simp only [List.getElem?_toArray, List.getElem?_cons_succ, List.getElem?_cons_zero] <;> rfl) (fun K hK => ?_) ?_
          · rw [if_pos (by rfl)]; refine wp_buildRun 44 2 _ rfl _ _ (Eq.trans (congrArg (fun z => (Instr.buildSlice 44 2 z).run Tryz.prog wv1) (by kernel_rfl)) (HB3.out wv1)) ?_; obtain ⟨gC, wv2, hgx, hwx, fC_2, hq⟩ := alloc_let (wv1) (.cells YX 33); rw [← hgx, ← hwx]; have bC : wB.heap.size ≤ gC := (by have := ud1.size; omega); have ud2 := ud1.trans hq; have fQ_2 := Lib.hid (row_updH fQ_1.out hq); have ne_Q_C : gQ ≠ gC := (by have := (Array.getElem?_eq_some_iff.1 fQ_1.out).1; omega); clear hgx hwx hq
            refine hK.out _ _ ?_ (fun hHeld => ?_)
            · exact HPE.out _ ud2
            clear hK K
            try simp only [Act.put, List.setIfInBounds_toArray, List.set_cons_zero, List.set_cons_succ]
            refine wpAnyH_take (i := 7) (v := ?v51) (by simp only [List.getElem?_toArray, List.getElem?_cons_succ, List.getElem?_cons_zero] <;> rfl) (by kernel_rfl) (by kernel_rfl) (by kernel_rfl) (fun _ _ _ h => h) (Or.inl ⟨by rfl, ?y51⟩) hHeld ?r51
            case y51 => (intro w hSw; (try dsimp only at hSw); go_simp; first | done | with_reducible rfl | rfl)
            try simp only [Act.put, List.setIfInBounds_toArray, List.set_cons_zero, List.set_cons_succ]
            refine wpAnyH_ready (rs := [8]) (by kernel_rfl) (by simp) ?_
            refine AllReadyH.cons (by simp only [List.getElem?_toArray, List.getElem?_cons_succ, List.getElem?_cons_zero] <;> rfl) (fun K hK => ?_) ?_
            · go_simp; obtain ⟨gO, wv3, hgx, hwx, fO_3, hq⟩ := alloc_let (wv2) (.cells #[.int .i64 0, .slice none 0 0] 46); rw [← hgx, ← hwx]; have bO : wB.heap.size ≤ gO := (by have := ud2.size; omega); have ud3 := ud2.trans hq; have fQ_3 := Lib.hid (row_updH fQ_2.out hq); have ne_Q_O : gQ ≠ gO := (by have := (Array.getElem?_eq_some_iff.1 fQ_2.out).1; omega); have fC_3 := Lib.hid (row_updH fC_2.out hq); have ne_C_O : gC ≠ gO := (by have := (Array.getElem?_eq_some_iff.1 fC_2.out).1; omega); clear hgx hwx hq
              refine hK.out _ _ ?_ (fun hHeld => ?_)
              · exact HPE.out _ ud3
              clear hK K
              try simp only [Act.put, List.setIfInBounds_toArray, List.set_cons_zero, List.set_cons_succ]
              refine wpAnyH_ready (rs := [10]) (by kernel_rfl) (by simp) ?_
              refine AllReadyH.cons (by simp only [List.getElem?_toArray, List.getElem?_cons_succ, List.getElem?_cons_zero] <;> rfl) (fun K hK => ?_) ?_
              · rw [if_pos (by rfl)]; refine wp_store_row 46 _ _ rfl gO #[.int .i64 1, .slice (some ⟨GX, 0, none⟩) 2 2] rfl rfl _ _ fO_3.out (BIH.out _).out (BZH.out _).out (BOH.out _ _ _).out ?_; obtain ⟨wv4, hwx⟩ : ∃ W' : World, W' = wv3.setRow gO #[.int .i64 1, .slice (some ⟨GX, 0, none⟩) 2 2] := ⟨_, rfl⟩; have fO_4 : Hid (wv4.heap[gO]? = some (.cells #[.int .i64 1, .slice (some ⟨GX, 0, none⟩) 2 2] 46 (0, 0))) := (by show _ = _; rw [hwx]; exact setRow_heap _ _ _ _ _ _ fO_3.out); have fQ_4 := Lib.hid (row_setRowO fQ_3.out ne_Q_O #[.int .i64 1, .slice (some ⟨GX, 0, none⟩) 2 2]); rw [← hwx] at fQ_4; have fC_4 := Lib.hid (row_setRowO fC_3.out ne_C_O #[.int .i64 1, .slice (some ⟨GX, 0, none⟩) 2 2]); rw [← hwx] at fC_4; have ud4 := ud3.setRowNew bO #[.int .i64 1, .slice (some ⟨GX, 0, none⟩) 2 2]; rw [← hwx] at ud4 ⊢; clear hwx
                refine hK.out _ _ ?_ (fun hHeld => ?_)
                · exact HPE.out _ ud4
                clear hK K
                try simp only [Act.put]
                refine wpAnyH_ready (rs := [11]) (by kernel_rfl) (by simp) ?_
                refine AllReadyH.cons (by simp only [List.getElem?_toArray, List.getElem?_cons_succ, List.getElem?_cons_zero] <;> rfl) (fun K hK => ?_) ?_
                · rw [if_pos (by rfl)]; refine wp_store_row 46 _ _ rfl gQ #[.int .i64 1, .slice (some ⟨gC, 0, none⟩) 2 2] rfl rfl _ _ fQ_4.out (BIH.out _).out (BZH.out _).out (BOH.out _ _ _).out ?_; obtain ⟨wv5, hwx⟩ : ∃ W' : World, W' = wv4.setRow gQ #[.int .i64 1, .slice (some ⟨gC, 0, none⟩) 2 2] := ⟨_, rfl⟩; have fQ_5 : Hid (wv5.heap[gQ]? = some (.cells #[.int .i64 1, .slice (some ⟨gC, 0, none⟩) 2 2] 46 (0, 0))) := (by show _ = _; rw [hwx]; exact setRow_heap _ _ _ _ _ _ fQ_4.out); have fC_5 := Lib.hid (row_setRowO fC_4.out ne_Q_C.symm #[.int .i64 1, .slice (some ⟨gC, 0, none⟩) 2 2]); rw [← hwx] at fC_5; have fO_5 := Lib.hid (row_setRowO fO_4.out ne_Q_O.symm #[.int .i64 1, .slice (some ⟨gC, 0, none⟩) 2 2]); rw [← hwx] at fO_5; have ud5 := ud4.setRowNew bQ #[.int .i64 1, .slice (some ⟨gC, 0, none⟩) 2 2]; rw [← hwx] at ud5 ⊢; clear hwx
                  refine hK.out _ _ ?_ (fun hHeld => ?_)
                  · exact HPE.out _ ud5
                  clear hK K
                  try simp only [Act.put]
                  refine wpAnyH_done (by kernel_rfl) ?_ _
                  refine NoPanic.normal ?_
                  exact hJ gC gO gQ wv5 fC_5 fO_5 fQ_5 ud5
                exact AllReadyH.nil
              exact AllReadyH.nil
            exact AllReadyH.nil
          refine AllReadyH.cons (by simp only [List.getElem?_toArray, List.getElem?_cons_succ, List.getElem?_cons_zero] <;> rfl) (fun K hK => ?_) ?_
          · go_simp; obtain ⟨gO, wv2, hgx, hwx, fO_2, hq⟩ := alloc_let (wv1) (.cells #[.int .i64 0, .slice none 0 0] 46); rw [← hgx, ← hwx]; have bO : wB.heap.size ≤ gO := (by have := ud1.size; omega); have ud2 := ud1.trans hq; have fQ_2 := Lib.hid (row_updH fQ_1.out hq); have ne_Q_O : gQ ≠ gO := (by have := (Array.getElem?_eq_some_iff.1 fQ_1.out).1; omega); clear hgx hwx hq
            refine hK.out _ _ ?_ (fun hHeld => ?_)
            · exact HPE.out _ ud2
            clear hK K
            try simp only [Act.put, List.setIfInBounds_toArray, List.set_cons_zero, List.set_cons_succ]
            refine wpAnyH_ready (rs := [6, 10]) (by kernel_rfl) (by simp) ?_
            refine AllReadyH.cons (by simp only [List.getElem?_toArray, List.getElem?_cons_succ, List.getElem?_cons_zero] <;> rfl) (fun K hK => ?_) ?_
            · rw [if_pos (by rfl)]; refine wp_buildRun 44 2 _ rfl _ _ (Eq.trans (congrArg (fun z => (Instr.buildSlice 44 2 z).run Tryz.prog wv2) (by kernel_rfl)) (HB3.out wv2)) ?_; obtain ⟨gC, wv3, hgx, hwx, fC_3, hq⟩ := alloc_let (wv2) (.cells YX 33); rw [← hgx, ← hwx]; have bC : wB.heap.size ≤ gC := (by have := ud2.size; omega); have ud3 := ud2.trans hq; have fQ_3 := Lib.hid (row_updH fQ_2.out hq); have ne_Q_C : gQ ≠ gC := (by have := (Array.getElem?_eq_some_iff.1 fQ_2.out).1; omega); have fO_3 := Lib.hid (row_updH fO_2.out hq); have ne_O_C : gO ≠ gC := (by have := (Array.getElem?_eq_some_iff.1 fO_2.out).1; omega); clear hgx hwx hq
              refine hK.out _ _ ?_ (fun hHeld => ?_)
              · exact HPE.out _ ud3
              clear hK K
              try simp only [Act.put, List.setIfInBounds_toArray, List.set_cons_zero, List.set_cons_succ]
              refine wpAnyH_take (i := 7) (v := ?v52) (by simp only [List.getElem?_toArray, List.getElem?_cons_succ, List.getElem?_cons_zero] <;> rfl) (by kernel_rfl) (by kernel_rfl) (by kernel_rfl) (fun _ _ _ h => h) (Or.inl ⟨by rfl, ?y52⟩) hHeld ?r52
              case y52 => (intro w hSw; (try dsimp only at hSw); go_simp; first | done | with_reducible rfl | rfl)
              try simp only [Act.put, List.setIfInBounds_toArray, List.set_cons_zero, List.set_cons_succ]
              refine wpAnyH_ready (rs := [10]) (by kernel_rfl) (by simp) ?_
              refine AllReadyH.cons (by simp only [List.getElem?_toArray, List.getElem?_cons_succ, List.getElem?_cons_zero] <;> rfl) (fun K hK => ?_) ?_
              · rw [if_pos (by rfl)]; refine wp_store_row 46 _ _ rfl gO #[.int .i64 1, .slice (some ⟨GX, 0, none⟩) 2 2] rfl rfl _ _ fO_3.out (BIH.out _).out (BZH.out _).out (BOH.out _ _ _).out ?_; obtain ⟨wv4, hwx⟩ : ∃ W' : World, W' = wv3.setRow gO #[.int .i64 1, .slice (some ⟨GX, 0, none⟩) 2 2] := ⟨_, rfl⟩; have fO_4 : Hid (wv4.heap[gO]? = some (.cells #[.int .i64 1, .slice (some ⟨GX, 0, none⟩) 2 2] 46 (0, 0))) := (by show _ = _; rw [hwx]; exact setRow_heap _ _ _ _ _ _ fO_3.out); have fQ_4 := Lib.hid (row_setRowO fQ_3.out ne_Q_O #[.int .i64 1, .slice (some ⟨GX, 0, none⟩) 2 2]); rw [← hwx] at fQ_4; have fC_4 := Lib.hid (row_setRowO fC_3.out ne_O_C.symm #[.int .i64 1, .slice (some ⟨GX, 0, none⟩) 2 2]); rw [← hwx] at fC_4; have ud4 := ud3.setRowNew bO #[.int .i64 1, .slice (some ⟨GX, 0, none⟩) 2 2]; rw [← hwx] at ud4 ⊢; clear hwx
                refine hK.out _ _ ?_ (fun hHeld => ?_)
                · exact HPE.out _ ud4
                clear hK K
                try simp only [Act.put]
                refine wpAnyH_ready (rs := [11]) (by kernel_rfl) (by simp) ?_
                refine AllReadyH.cons (by simp only [List.getElem?_toArray, List.getElem?_cons_succ, List.getElem?_cons_zero] <;> rfl) (fun K hK => ?_) ?_
                · rw [if_pos (by rfl)]; refine wp_store_row 46 _ _ rfl gQ #[.int .i64 1, .slice (some ⟨gC, 0, none⟩) 2 2] rfl rfl _ _ fQ_4.out (BIH.out _).out (BZH.out _).out (BOH.out _ _ _).out ?_; obtain ⟨wv5, hwx⟩ : ∃ W' : World, W' = wv4.setRow gQ #[.int .i64 1, .slice (some ⟨gC, 0, none⟩) 2 2] := ⟨_, rfl⟩; have fQ_5 : Hid (wv5.heap[gQ]? = some (.cells #[.int .i64 1, .slice (some ⟨gC, 0, none⟩) 2 2] 46 (0, 0))) := (by show _ = _; rw [hwx]; exact setRow_heap _ _ _ _ _ _ fQ_4.out); have fO_5 := Lib.hid (row_setRowO fO_4.out ne_Q_O.symm #[.int .i64 1, .slice (some ⟨gC, 0, none⟩) 2 2]); rw [← hwx] at fO_5; have fC_5 := Lib.hid (row_setRowO fC_4.out ne_Q_C.symm #[.int .i64 1, .slice (some ⟨gC, 0, none⟩) 2 2]); rw [← hwx] at fC_5; have ud5 := ud4.setRowNew bQ #[.int .i64 1, .slice (some ⟨gC, 0, none⟩) 2 2]; rw [← hwx] at ud5 ⊢; clear hwx
                  refine hK.out _ _ ?_ (fun hHeld => ?_)
                  · exact HPE.out _ ud5
                  clear hK K
                  try simp only [Act.put]
                  refine wpAnyH_done (by kernel_rfl) ?_ _
                  refine NoPanic.normal ?_
                  exact hJ gC gO gQ wv5 fC_5 fO_5 fQ_5 ud5
                exact AllReadyH.nil
              exact AllReadyH.nil
            refine AllReadyH.cons (by simp only [List.getElem?_toArray, List.getElem?_cons_succ, List.getElem?_cons_zero] <;> rfl) (fun K hK => ?_) ?_
            · rw [if_pos (by rfl)]; refine wp_store_row 46 _ _ rfl gO #[.int .i64 1, .slice (some ⟨GX, 0, none⟩) 2 2] rfl rfl _ _ fO_2.out (BIH.out _).out (BZH.out _).out (BOH.out _ _ _).out ?_; obtain ⟨wv3, hwx⟩ : ∃ W' : World, W' = wv2.setRow gO #[.int .i64 1, .slice (some ⟨GX, 0, none⟩) 2 2] := ⟨_, rfl⟩; have fO_3 : Hid (wv3.heap[gO]? = some (.cells #[.int .i64 1, .slice (some ⟨GX, 0, none⟩) 2 2] 46 (0, 0))) := (by show _ = _; rw [hwx]; exact setRow_heap _ _ _ _ _ _ fO_2.out); have fQ_3 := Lib.hid (row_setRowO fQ_2.out ne_Q_O #[.int .i64 1, .slice (some ⟨GX, 0, none⟩) 2 2]); rw [← hwx] at fQ_3; have ud3 := ud2.setRowNew bO #[.int .i64 1, .slice (some ⟨GX, 0, none⟩) 2 2]; rw [← hwx] at ud3 ⊢; clear hwx
              refine hK.out _ _ ?_ (fun hHeld => ?_)
              · exact HPE.out _ ud3
              clear hK K
              try simp only [Act.put]
              refine wpAnyH_ready (rs := [6]) (by kernel_rfl) (by simp) ?_
              refine AllReadyH.cons (by simp only [List.getElem?_toArray, List.getElem?_cons_succ, List.getElem?_cons_zero] <;> rfl) (fun K hK => ?_) ?_
              · rw [if_pos (by rfl)]; refine wp_buildRun 44 2 _ rfl _ _ (Eq.trans (congrArg (fun z => (Instr.buildSlice 44 2 z).run Tryz.prog wv3) (by kernel_rfl)) (HB3.out wv3)) ?_; obtain ⟨gC, wv4, hgx, hwx, fC_4, hq⟩ := alloc_let (wv3) (.cells YX 33); rw [← hgx, ← hwx]; have bC : wB.heap.size ≤ gC := (by have := ud3.size; omega); have ud4 := ud3.trans hq; have fQ_4 := Lib.hid (row_updH fQ_3.out hq); have ne_Q_C : gQ ≠ gC := (by have := (Array.getElem?_eq_some_iff.1 fQ_3.out).1; omega); have fO_4 := Lib.hid (row_updH fO_3.out hq); have ne_O_C : gO ≠ gC := (by have := (Array.getElem?_eq_some_iff.1 fO_3.out).1; omega); clear hgx hwx hq
                refine hK.out _ _ ?_ (fun hHeld => ?_)
                · exact HPE.out _ ud4
                clear hK K
                try simp only [Act.put, List.setIfInBounds_toArray, List.set_cons_zero, List.set_cons_succ]
                refine wpAnyH_take (i := 7) (v := ?v53) (by simp only [List.getElem?_toArray, List.getElem?_cons_succ, List.getElem?_cons_zero] <;> rfl) (by kernel_rfl) (by kernel_rfl) (by kernel_rfl) (fun _ _ _ h => h) (Or.inl ⟨by rfl, ?y53⟩) hHeld ?r53
                case y53 => (intro w hSw; (try dsimp only at hSw); go_simp; first | done | with_reducible rfl | rfl)
                try simp only [Act.put, List.setIfInBounds_toArray, List.set_cons_zero, List.set_cons_succ]
                refine wpAnyH_ready (rs := [11]) (by kernel_rfl) (by simp) ?_
                refine AllReadyH.cons (by simp only [List.getElem?_toArray, List.getElem?_cons_succ, List.getElem?_cons_zero] <;> rfl) (fun K hK => ?_) ?_
                · rw [if_pos (by rfl)]; refine wp_store_row 46 _ _ rfl gQ #[.int .i64 1, .slice (some ⟨gC, 0, none⟩) 2 2] rfl rfl _ _ fQ_4.out (BIH.out _).out (BZH.out _).out (BOH.out _ _ _).out ?_; obtain ⟨wv5, hwx⟩ : ∃ W' : World, W' = wv4.setRow gQ #[.int .i64 1, .slice (some ⟨gC, 0, none⟩) 2 2] := ⟨_, rfl⟩; have fQ_5 : Hid (wv5.heap[gQ]? = some (.cells #[.int .i64 1, .slice (some ⟨gC, 0, none⟩) 2 2] 46 (0, 0))) := (by show _ = _; rw [hwx]; exact setRow_heap _ _ _ _ _ _ fQ_4.out); have fO_5 := Lib.hid (row_setRowO fO_4.out ne_Q_O.symm #[.int .i64 1, .slice (some ⟨gC, 0, none⟩) 2 2]); rw [← hwx] at fO_5; have fC_5 := Lib.hid (row_setRowO fC_4.out ne_Q_C.symm #[.int .i64 1, .slice (some ⟨gC, 0, none⟩) 2 2]); rw [← hwx] at fC_5; have ud5 := ud4.setRowNew bQ #[.int .i64 1, .slice (some ⟨gC, 0, none⟩) 2 2]; rw [← hwx] at ud5 ⊢; clear hwx
                  refine hK.out _ _ ?_ (fun hHeld => ?_)
                  · exact HPE.out _ ud5
                  clear hK K
                  try simp only [Act.put]
                  refine wpAnyH_done (by kernel_rfl) ?_ _
                  refine NoPanic.normal ?_
                  exact hJ gC gO gQ wv5 fC_5 fO_5 fQ_5 ud5
                exact AllReadyH.nil
              exact AllReadyH.nil
            exact AllReadyH.nil
          exact AllReadyH.nil
        exact AllReadyH.nil
      intro gC gO gQ wC FC FO FQ uC
      clear ud0 HB3
      have HRS : Hid (∀ W, Upd [] [] wC W → RcsIn W (some ⟨gA, 0, none⟩) [x0] ∧ RcsIn W (some ⟨gB, 0, none⟩) [y0] ∧ RcsIn W (some ⟨GX, 0, none⟩) [x0, y0] ∧ RcsIn W (some ⟨gC, 0, none⟩) [y0, x0]) := by
        intro W u
        have hA := row_updH FA.out (uC.trans u)
        have hB := row_updH FB.out (uC.trans u)
        have hC := row_updH FC.out u
        rw [HXE.out] at hA
        rw [HYE.out] at hB
        rw [HYX.out] at hC
        exact ⟨RcAt.rcs hA ox (by omega), RcAt.rcs hB oy (by omega), (HPR.out.upd (uB.trans (uC.trans u))).rcs ox oy (by omega) (by omega), rcs_two hC oy ox (by omega) (by omega)⟩
      have HK : Hid (∀ W, Upd [] [] wC W → (Instr.loadAt 33 (.pointer (some ⟨GX, 0, none⟩))).run Tryz.prog W = .ok (.agg X) W ∧ (Instr.loadAt 33 (.pointer (some ⟨GX, 102, none⟩))).run Tryz.prog W = .ok (.agg Y) W ∧ W.cell? ⟨gM, 0, none⟩ = some (.int .i64 1) ∧ W.cell? ⟨gM, 1, none⟩ = some (.slice (some ⟨gA, 0, none⟩) 1 1) ∧ W.cell? ⟨gN, 0, none⟩ = some (.int .i64 1) ∧ W.cell? ⟨gN, 1, none⟩ = some (.slice (some ⟨gB, 0, none⟩) 1 1) ∧ W.cell? ⟨gO, 0, none⟩ = some (.int .i64 1) ∧ W.cell? ⟨gO, 1, none⟩ = some (.slice (some ⟨GX, 0, none⟩) 2 2) ∧ W.cell? ⟨gQ, 0, none⟩ = some (.int .i64 1) ∧ W.cell? ⟨gQ, 1, none⟩ = some (.slice (some ⟨gC, 0, none⟩) 2 2)) := by
        intro W u
        have hM := row_updH FM.out (uC.trans u)
        have hN := row_updH FN.out (uC.trans u)
        have hO := row_updH FO.out u
        have hQ := row_updH FQ.out u
        obtain ⟨h1, h2⟩ := HPE.out W (uC.trans u)
        exact ⟨h1, h2, by rw [cell_of_row _ _ _ _ _ _ hM]; rfl, by rw [cell_of_row _ _ _ _ _ _ hM]; rfl, by rw [cell_of_row _ _ _ _ _ _ hN]; rfl, by rw [cell_of_row _ _ _ _ _ _ hN]; rfl, by rw [cell_of_row _ _ _ _ _ _ hO]; rfl, by rw [cell_of_row _ _ _ _ _ _ hO]; rfl, by rw [cell_of_row _ _ _ _ _ _ hQ]; rfl, by rw [cell_of_row _ _ _ _ _ _ hQ]; rfl⟩
      have IC : Hid (PsAt wC PB ps ∧ Upd [] [] w wC) := ⟨IA.out.1.upd (uB.trans uC), IA.out.2.trans (uB.trans uC)⟩
      have HTX := Lib.hid (fun W hW => text22_any x0 ox (by omega) W hW)
      have HTY := Lib.hid (fun W hW => text22_any y0 oy (by omega) W hW)
      rw [← HXE.out] at HTX
      rw [← HYE.out] at HTY
      have i1 : i64in 1 := by unfold i64in; omega
      have HBM := Lib.hid (fun W (u : Upd [] [] wC W) hW => batchText_any 1 [x0] (some ⟨gA, 0, none⟩) 1 W i1 (by simp) (by simp) (HRS.out W u).1 hW)
      have HBN := Lib.hid (fun W (u : Upd [] [] wC W) hW => batchText_any 1 [y0] (some ⟨gB, 0, none⟩) 1 W i1 (by simp) (by simp) (HRS.out W u).2.1 hW)
      have HBO := Lib.hid (fun W (u : Upd [] [] wC W) hW => batchText_any 1 [x0, y0] (some ⟨GX, 0, none⟩) 2 W i1 (by simp) (by simp) (HRS.out W u).2.2.1 hW)
      have HBQ := Lib.hid (fun W (u : Upd [] [] wC W) hW => batchText_any 1 [y0, x0] (some ⟨gC, 0, none⟩) 2 W i1 (by simp) (by simp) (HRS.out W u).2.2.2 hW)
      have hx2 : x0.ok ∧ x0.draw.size ≤ 1000000 := ⟨ox, by omega⟩
      have hy2 : y0.ok ∧ y0.draw.size ≤ 1000000 := ⟨oy, by omega⟩
      have E1 : Hid (textL x0 = textL y0 ↔ eb = true) := by show _ ↔ _; rw [textL_iff ox oy, HEB.out]
      have E2 : Hid (batchL 1 [x0] = batchL 1 [y0] ↔ eb = true) := by show _ ↔ _; rw [bat1 hx2 hy2, HEB.out]
      have E3 : Hid (batchL 1 [x0, y0] = batchL 1 [y0, x0] ↔ eb = true) := by show _ ↔ _; rw [bat2 hx2 hy2, HEB.out]
      have E4 : Hid (batchL 1 [x0] = batchL 1 [x0, y0] ↔ false = true) := bat3 hx2 hy2
      clear HPE HPR FA FB FM FN FC FO FQ HYX HXE HYE HEB IA BIH BOH BZH HRS i1 hx2 hy2 ox oy dx dy
      go_upto_region 11 with (fail)
      have ud0 : Upd [] [] wC wC.drew := (Upd.refl _ _).drew
      have uW := IC.out.2
      refine wp_region_noPanic ?_
      refine wp_region_held_drew (S := fun wp => (Instr.loadAt 33 (.pointer (some ⟨GX, 0, none⟩))).run Tryz.prog wp = .ok (.agg X) wp ∧ (Instr.loadAt 33 (.pointer (some ⟨GX, 102, none⟩))).run Tryz.prog wp = .ok (.agg Y) wp ∧ wp.cell? ⟨gM, 0, none⟩ = some (.int .i64 1) ∧ wp.cell? ⟨gM, 1, none⟩ = some (.slice (some ⟨gA, 0, none⟩) 1 1) ∧ wp.cell? ⟨gN, 0, none⟩ = some (.int .i64 1) ∧ wp.cell? ⟨gN, 1, none⟩ = some (.slice (some ⟨gB, 0, none⟩) 1 1) ∧ wp.cell? ⟨gO, 0, none⟩ = some (.int .i64 1) ∧ wp.cell? ⟨gO, 1, none⟩ = some (.slice (some ⟨GX, 0, none⟩) 2 2) ∧ wp.cell? ⟨gQ, 0, none⟩ = some (.int .i64 1) ∧ wp.cell? ⟨gQ, 1, none⟩ = some (.slice (some ⟨gC, 0, none⟩) 2 2)) (by kernel_rfl) ?_ (fun hHeld => ?_)
      · exact HK.out _ ud0
      refine wpAnyH_take (i := 0) (v := ?v54) (by simp only [List.getElem?_toArray, List.getElem?_cons_zero] <;> rfl) (by kernel_rfl) (by kernel_rfl) (by kernel_rfl) (fun _ _ _ h => h) (Or.inl ⟨by rfl, ?y54⟩) hHeld ?r54
      case y54 => (intro w hSw; (try dsimp only at hSw); go_simp; first | done | with_reducible rfl | rfl)
      try simp only [Act.put, List.setIfInBounds_toArray, List.set_cons_zero, List.set_cons_succ]
      refine wpAnyH_take (i := 1) (v := .agg X) (by simp only [List.getElem?_toArray, List.getElem?_cons_succ, List.getElem?_cons_zero] <;> rfl) (by kernel_rfl) (by kernel_rfl) (by kernel_rfl) (fun _ _ _ h => h) (yieldsIf_loadW (by rfl) _ _ rfl _ rfl X (fun w hSw => hSw.1)) hHeld ?_
      try simp only [Act.put, List.setIfInBounds_toArray, List.set_cons_zero, List.set_cons_succ]
      refine wpAnyH_take (i := 3) (v := ?v55) (by simp only [List.getElem?_toArray, List.getElem?_cons_succ, List.getElem?_cons_zero] <;> rfl) (by kernel_rfl) (by kernel_rfl) (by kernel_rfl) (fun _ _ _ h => h) (Or.inl ⟨by rfl, ?y55⟩) hHeld ?r55
      case y55 => (intro w hSw; (try dsimp only at hSw); go_simp; first | done | with_reducible rfl | rfl)
      try simp only [Act.put, List.setIfInBounds_toArray, List.set_cons_zero, List.set_cons_succ]
      refine wpAnyH_take (i := 4) (v := .agg Y) (by simp only [List.getElem?_toArray, List.getElem?_cons_succ, List.getElem?_cons_zero] <;> rfl) (by kernel_rfl) (by kernel_rfl) (by kernel_rfl) (fun _ _ _ h => h) (yieldsIf_loadW (by rfl) _ _ rfl _ rfl Y (fun w hSw => hSw.2.1)) hHeld ?_
      try simp only [Act.put, List.setIfInBounds_toArray, List.set_cons_zero, List.set_cons_succ]
      refine wpAnyH_take (i := 7) (v := ?v56) (by simp only [List.getElem?_toArray, List.getElem?_cons_succ, List.getElem?_cons_zero] <;> rfl) (by kernel_rfl) (by kernel_rfl) (by kernel_rfl) (fun _ _ _ h => h) (Or.inl ⟨by rfl, ?y56⟩) hHeld ?r56
      case y56 => (intro w hSw; (try dsimp only at hSw); go_simp; first | done | with_reducible rfl | rfl)
      try simp only [Act.put, List.setIfInBounds_toArray, List.set_cons_zero, List.set_cons_succ]
      refine wpAnyH_ready (rs := [2]) (by kernel_rfl) (by simp) ?_
      refine AllReadyH.cons (by simp only [List.getElem?_toArray, List.getElem?_cons_succ, List.getElem?_cons_zero] <;> rfl) (fun K hK => ?_) ?_
      · go_simp; refine (HTX.out _ (htab.upd (uW.trans ud0))).mono ?_; rintro e wv1 ⟨s1, Hs1, hh, rfl, hq⟩; have ud1 := ud0.trans hq; clear hh hq; go_wp2_with fail
        refine hK.out _ _ ?_ (fun hHeld => ?_)
        · exact HK.out _ ud1
        clear hK K
        try simp only [Act.put, List.setIfInBounds_toArray, List.set_cons_zero, List.set_cons_succ]
        refine wpAnyH_ready (rs := [5]) (by kernel_rfl) (by simp) ?_
        refine AllReadyH.cons (by simp only [List.getElem?_toArray, List.getElem?_cons_succ, List.getElem?_cons_zero] <;> rfl) (fun K hK => ?_) ?_
        · go_simp; refine (HTY.out _ (htab.upd (uW.trans ud1))).mono ?_; rintro e wv2 ⟨s2, Hs2, hh, rfl, hq⟩; have ud2 := ud1.trans hq; clear hh hq; have hb1 := beq_dec Hs1.out Hs2.out E1.out; go_wp2_with fail
          refine hK.out _ _ ?_ (fun hHeld => ?_)
          · exact HK.out _ ud2
          clear hK K
          try simp only [Act.put, List.setIfInBounds_toArray, List.set_cons_zero, List.set_cons_succ]
          refine wpAnyH_take (i := 6) (v := ?v57) (by simp only [List.getElem?_toArray, List.getElem?_cons_succ, List.getElem?_cons_zero] <;> rfl) (by kernel_rfl) (by kernel_rfl) (by kernel_rfl) (fun _ _ _ h => h) (Or.inl ⟨by rfl, ?y57⟩) hHeld ?r57
          case y57 => (intro w hSw; (try dsimp only at hSw); go_simp; first | done | with_reducible rfl | rfl)
          try simp only [Act.put, List.setIfInBounds_toArray, List.set_cons_zero, List.set_cons_succ]
          refine wpAnyH_take (i := 8) (v := ?v58) (by simp only [List.getElem?_toArray, List.getElem?_cons_succ, List.getElem?_cons_zero] <;> rfl) (by kernel_rfl) (by kernel_rfl) (by kernel_rfl) (fun _ _ _ h => h) (Or.inl ⟨by rfl, ?y58⟩) hHeld ?r58
          case y58 => (intro w hSw; (try dsimp only at hSw); go_simp; first | done | with_reducible rfl | rfl)
          try simp only [Act.put, List.setIfInBounds_toArray, List.set_cons_zero, List.set_cons_succ]
          refine wpAnyH_take (i := 9) (v := ?v59) (by simp only [List.getElem?_toArray, List.getElem?_cons_succ, List.getElem?_cons_zero] <;> rfl) (by kernel_rfl) (by kernel_rfl) (by kernel_rfl) (fun _ _ _ h => h) (Or.inl ⟨by rfl, ?y59⟩) hHeld ?r59
          case y59 => (intro w hSw; (try dsimp only at hSw); go_simp; first | done | with_reducible rfl | rfl)
          try simp only [Act.put, List.setIfInBounds_toArray, List.set_cons_zero, List.set_cons_succ]
          refine wpAnyH_take (i := 10) (v := ?v60) (by simp only [List.getElem?_toArray, List.getElem?_cons_succ, List.getElem?_cons_zero] <;> rfl) (by kernel_rfl) (by kernel_rfl) (by kernel_rfl) (fun _ _ _ h => h) (Or.inl ⟨by rfl, ?y60⟩) hHeld ?r60
          case y60 => (intro w hSw; (try dsimp only at hSw); go_simp; first | done | with_reducible rfl | rfl)
          try simp only [Act.put, List.setIfInBounds_toArray, List.set_cons_zero, List.set_cons_succ]
          refine wpAnyH_take (i := 12) (v := ?v61) (by simp only [List.getElem?_toArray, List.getElem?_cons_succ, List.getElem?_cons_zero] <;> rfl) (by kernel_rfl) (by kernel_rfl) (by kernel_rfl) (fun _ _ _ h => h) (Or.inl ⟨by rfl, ?y61⟩) hHeld ?r61
          case y61 => (intro w hSw; (try dsimp only at hSw); go_simp; first | done | with_reducible rfl | rfl)
          try simp only [Act.put, List.setIfInBounds_toArray, List.set_cons_zero, List.set_cons_succ]
          refine wpAnyH_take (i := 15) (v := ?v62) (by simp only [List.getElem?_toArray, List.getElem?_cons_succ, List.getElem?_cons_zero] <;> rfl) (by kernel_rfl) (by kernel_rfl) (by kernel_rfl) (fun _ _ _ h => h) (Or.inl ⟨by rfl, ?y62⟩) hHeld ?r62
          case y62 => (intro w hSw; (try dsimp only at hSw); go_simp; first | done | with_reducible rfl | rfl)
          try simp only [Act.put, List.setIfInBounds_toArray, List.set_cons_zero, List.set_cons_succ]
          refine wpAnyH_ready (rs := [11]) (by kernel_rfl) (by simp) ?_
          refine AllReadyH.cons (by simp only [List.getElem?_toArray, List.getElem?_cons_succ, List.getElem?_cons_zero] <;> rfl) (fun K hK => ?_) ?_
          · go_simp; refine (HBM.out _ ud2 (htab.upd (uW.trans ud2))).mono ?_; rintro e wv3 ⟨s3, Hs3, hh, rfl, hq⟩; have ud3 := ud2.trans hq; clear hh hq; go_wp2_with fail
            refine hK.out _ _ ?_ (fun hHeld => ?_)
            · exact HK.out _ ud3
            clear hK K
            try simp only [Act.put, List.setIfInBounds_toArray, List.set_cons_zero, List.set_cons_succ]
            refine wpAnyH_ready (rs := [13]) (by kernel_rfl) (by simp) ?_
            refine AllReadyH.cons (by simp only [List.getElem?_toArray, List.getElem?_cons_succ, List.getElem?_cons_zero] <;> rfl) (fun K hK => ?_) ?_
            · go_simp; refine (HBN.out _ ud3 (htab.upd (uW.trans ud3))).mono ?_; rintro e wv4 ⟨s4, Hs4, hh, rfl, hq⟩; have ud4 := ud3.trans hq; clear hh hq; have hb2 := beq_dec Hs3.out Hs4.out E2.out; go_wp2_with fail
              refine hK.out _ _ ?_ (fun hHeld => ?_)
              · exact HK.out _ ud4
              clear hK K
              try simp only [Act.put, List.setIfInBounds_toArray, List.set_cons_zero, List.set_cons_succ]
              refine wpAnyH_take (i := 14) (v := ?v63) (by simp only [List.getElem?_toArray, List.getElem?_cons_succ, List.getElem?_cons_zero] <;> rfl) (by kernel_rfl) (by kernel_rfl) (by kernel_rfl) (fun _ _ _ h => h) (Or.inl ⟨by rfl, ?y63⟩) hHeld ?r63
              case y63 => (intro w hSw; (try dsimp only at hSw); go_simp; first | done | with_reducible rfl | rfl)
              try simp only [Act.put, List.setIfInBounds_toArray, List.set_cons_zero, List.set_cons_succ]
              refine wpAnyH_take (i := 16) (v := ?v64) (by simp only [List.getElem?_toArray, List.getElem?_cons_succ, List.getElem?_cons_zero] <;> rfl) (by kernel_rfl) (by kernel_rfl) (by kernel_rfl) (fun _ _ _ h => h) (Or.inl ⟨by rfl, ?y64⟩) hHeld ?r64
              case y64 => (intro w hSw; (try dsimp only at hSw); go_simp; first | done | with_reducible rfl | rfl)
              try simp only [Act.put, List.setIfInBounds_toArray, List.set_cons_zero, List.set_cons_succ]
              refine wpAnyH_take (i := 17) (v := ?v65) (by simp only [List.getElem?_toArray, List.getElem?_cons_succ, List.getElem?_cons_zero] <;> rfl) (by kernel_rfl) (by kernel_rfl) (by kernel_rfl) (fun _ _ _ h => h) (Or.inl ⟨by rfl, ?y65⟩) hHeld ?r65
              case y65 => (intro w hSw; (try dsimp only at hSw); go_simp; first | done | with_reducible rfl | rfl)
              try simp only [Act.put, List.setIfInBounds_toArray, List.set_cons_zero, List.set_cons_succ]
              refine wpAnyH_take (i := 18) (v := ?v66) (by simp only [List.getElem?_toArray, List.getElem?_cons_succ, List.getElem?_cons_zero] <;> rfl) (by kernel_rfl) (by kernel_rfl) (by kernel_rfl) (fun _ _ _ h => h) (Or.inl ⟨by rfl, ?y66⟩) hHeld ?r66
              case y66 => (intro w hSw; (try dsimp only at hSw); go_simp; first | done | with_reducible rfl | rfl)
              try simp only [Act.put, List.setIfInBounds_toArray, List.set_cons_zero, List.set_cons_succ]
              refine wpAnyH_take (i := 19) (v := ?v67) (by simp only [List.getElem?_toArray, List.getElem?_cons_succ, List.getElem?_cons_zero] <;> rfl) (by kernel_rfl) (by kernel_rfl) (by kernel_rfl) (fun _ _ _ h => h) (Or.inl ⟨by rfl, ?y67⟩) hHeld ?r67
              case y67 => (intro w hSw; (try dsimp only at hSw); go_simp; first | done | with_reducible rfl | rfl)
              try simp only [Act.put, List.setIfInBounds_toArray, List.set_cons_zero, List.set_cons_succ]
              refine wpAnyH_take (i := 21) (v := ?v68) (by simp only [List.getElem?_toArray, List.getElem?_cons_succ, List.getElem?_cons_zero] <;> rfl) (by kernel_rfl) (by kernel_rfl) (by kernel_rfl) (fun _ _ _ h => h) (Or.inl ⟨by rfl, ?y68⟩) hHeld ?r68
              case y68 => (intro w hSw; (try dsimp only at hSw); go_simp; first | done | with_reducible rfl | rfl)
              try simp only [Act.put, List.setIfInBounds_toArray, List.set_cons_zero, List.set_cons_succ]
              refine wpAnyH_take (i := 24) (v := ?v69) (by simp only [List.getElem?_toArray, List.getElem?_cons_succ, List.getElem?_cons_zero] <;> rfl) (by kernel_rfl) (by kernel_rfl) (by kernel_rfl) (fun _ _ _ h => h) (Or.inl ⟨by rfl, ?y69⟩) hHeld ?r69
              case y69 => (intro w hSw; (try dsimp only at hSw); go_simp; first | done | with_reducible rfl | rfl)
              try simp only [Act.put, List.setIfInBounds_toArray, List.set_cons_zero, List.set_cons_succ]
              refine wpAnyH_ready (rs := [20]) (by kernel_rfl) (by simp) ?_
              refine AllReadyH.cons (by simp only [List.getElem?_toArray, List.getElem?_cons_succ, List.getElem?_cons_zero] <;> rfl) (fun K hK => ?_) ?_
              · go_simp; refine (HBO.out _ ud4 (htab.upd (uW.trans ud4))).mono ?_; rintro e wv5 ⟨s5, Hs5, hh, rfl, hq⟩; have ud5 := ud4.trans hq; clear hh hq; go_wp2_with fail
                refine hK.out _ _ ?_ (fun hHeld => ?_)
                · exact HK.out _ ud5
                clear hK K
                try simp only [Act.put, List.setIfInBounds_toArray, List.set_cons_zero, List.set_cons_succ]
                refine wpAnyH_ready (rs := [22]) (by kernel_rfl) (by simp) ?_
                refine AllReadyH.cons (by simp only [List.getElem?_toArray, List.getElem?_cons_succ, List.getElem?_cons_zero] <;> rfl) (fun K hK => ?_) ?_
                · go_simp; refine (HBQ.out _ ud5 (htab.upd (uW.trans ud5))).mono ?_; rintro e wv6 ⟨s6, Hs6, hh, rfl, hq⟩; have ud6 := ud5.trans hq; clear hh hq; have hb3 := beq_dec Hs5.out Hs6.out E3.out; go_wp2_with fail
                  refine hK.out _ _ ?_ (fun hHeld => ?_)
                  · exact HK.out _ ud6
                  clear hK K
                  try simp only [Act.put, List.setIfInBounds_toArray, List.set_cons_zero, List.set_cons_succ]
                  refine wpAnyH_take (i := 23) (v := ?v70) (by simp only [List.getElem?_toArray, List.getElem?_cons_succ, List.getElem?_cons_zero] <;> rfl) (by kernel_rfl) (by kernel_rfl) (by kernel_rfl) (fun _ _ _ h => h) (Or.inl ⟨by rfl, ?y70⟩) hHeld ?r70
                  case y70 => (intro w hSw; (try dsimp only at hSw); go_simp; first | done | with_reducible rfl | rfl)
                  try simp only [Act.put, List.setIfInBounds_toArray, List.set_cons_zero, List.set_cons_succ]
                  refine wpAnyH_take (i := 25) (v := ?v71) (by simp only [List.getElem?_toArray, List.getElem?_cons_succ, List.getElem?_cons_zero] <;> rfl) (by kernel_rfl) (by kernel_rfl) (by kernel_rfl) (fun _ _ _ h => h) (Or.inl ⟨by rfl, ?y71⟩) hHeld ?r71
                  case y71 => (intro w hSw; (try dsimp only at hSw); go_simp; first | done | with_reducible rfl | rfl)
                  try simp only [Act.put, List.setIfInBounds_toArray, List.set_cons_zero, List.set_cons_succ]
                  refine wpAnyH_take (i := 26) (v := ?v72) (by simp only [List.getElem?_toArray, List.getElem?_cons_succ, List.getElem?_cons_zero] <;> rfl) (by kernel_rfl) (by kernel_rfl) (by kernel_rfl) (fun _ _ _ h => h) (Or.inl ⟨by rfl, ?y72⟩) hHeld ?r72
                  case y72 => (intro w hSw; (try dsimp only at hSw); go_simp; first | done | with_reducible rfl | rfl)
                  try simp only [Act.put, List.setIfInBounds_toArray, List.set_cons_zero, List.set_cons_succ]
                  refine wpAnyH_take (i := 27) (v := ?v73) (by simp only [List.getElem?_toArray, List.getElem?_cons_succ, List.getElem?_cons_zero] <;> rfl) (by kernel_rfl) (by kernel_rfl) (by kernel_rfl) (fun _ _ _ h => h) (Or.inl ⟨by rfl, ?y73⟩) hHeld ?r73
                  case y73 => (intro w hSw; (try dsimp only at hSw); go_simp; first | done | with_reducible rfl | rfl)
                  try simp only [Act.put, List.setIfInBounds_toArray, List.set_cons_zero, List.set_cons_succ]
                  refine wpAnyH_take (i := 28) (v := ?v74) (by simp only [List.getElem?_toArray, List.getElem?_cons_succ, List.getElem?_cons_zero] <;> rfl) (by kernel_rfl) (by kernel_rfl) (by kernel_rfl) (fun _ _ _ h => h) (Or.inl ⟨by rfl, ?y74⟩) hHeld ?r74
                  case y74 => (intro w hSw; (try dsimp only at hSw); go_simp; first | done | with_reducible rfl | rfl)
                  try simp only [Act.put, List.setIfInBounds_toArray, List.set_cons_zero, List.set_cons_succ]
                  refine wpAnyH_take (i := 30) (v := ?v75) (by simp only [List.getElem?_toArray, List.getElem?_cons_succ, List.getElem?_cons_zero] <;> rfl) (by kernel_rfl) (by kernel_rfl) (by kernel_rfl) (fun _ _ _ h => h) (Or.inl ⟨by rfl, ?y75⟩) hHeld ?r75
                  case y75 => (intro w hSw; (try dsimp only at hSw); go_simp; first | done | with_reducible rfl | rfl)
                  try simp only [Act.put, List.setIfInBounds_toArray, List.set_cons_zero, List.set_cons_succ]
                  refine wpAnyH_ready (rs := [29]) (by kernel_rfl) (by simp) ?_
                  refine AllReadyH.cons (by simp only [List.getElem?_toArray, List.getElem?_cons_succ, List.getElem?_cons_zero] <;> rfl) (fun K hK => ?_) ?_
                  · go_simp; refine (HBM.out _ ud6 (htab.upd (uW.trans ud6))).mono ?_; rintro e wv7 ⟨s7, Hs7, hh, rfl, hq⟩; have ud7 := ud6.trans hq; clear hh hq; go_wp2_with fail
                    refine hK.out _ _ ?_ (fun hHeld => ?_)
                    · exact HK.out _ ud7
                    clear hK K
                    try simp only [Act.put, List.setIfInBounds_toArray, List.set_cons_zero, List.set_cons_succ]
                    refine wpAnyH_ready (rs := [31]) (by kernel_rfl) (by simp) ?_
                    refine AllReadyH.cons (by simp only [List.getElem?_toArray, List.getElem?_cons_succ, List.getElem?_cons_zero] <;> rfl) (fun K hK => ?_) ?_
                    · go_simp; refine (HBO.out _ ud7 (htab.upd (uW.trans ud7))).mono ?_; rintro e wv8 ⟨s8, Hs8, hh, rfl, hq⟩; have ud8 := ud7.trans hq; clear hh hq; have hb4 := beq_dec Hs7.out Hs8.out E4.out; go_wp2_with fail
                      refine hK.out _ _ ?_ (fun hHeld => ?_)
                      · exact HK.out _ ud8
                      clear hK K
                      try simp only [Act.put, List.setIfInBounds_toArray, List.set_cons_zero, List.set_cons_succ]
                      refine wpAnyH_take (i := 32) (v := ?v76) (by simp only [List.getElem?_toArray, List.getElem?_cons_succ, List.getElem?_cons_zero] <;> rfl) (by kernel_rfl) (by kernel_rfl) (by kernel_rfl) (fun _ _ _ h => h) (Or.inl ⟨by rfl, ?y76⟩) hHeld ?r76
                      case y76 => (intro w hSw; (try dsimp only at hSw); go_simp; first | done | with_reducible rfl | rfl)
                      try simp only [Act.put, List.setIfInBounds_toArray, List.set_cons_zero, List.set_cons_succ]
                      refine wpAnyH_take (i := 33) (v := ?v77) (by simp only [List.getElem?_toArray, List.getElem?_cons_succ, List.getElem?_cons_zero] <;> rfl) (by kernel_rfl) (by kernel_rfl) (by kernel_rfl) (fun _ _ _ h => h) (Or.inl ⟨by rfl, ?y77⟩) hHeld ?r77
                      case y77 => (intro w hSw; (try dsimp only at hSw); go_simp; first | done | with_reducible rfl | rfl)
                      try simp only [Act.put, List.setIfInBounds_toArray, List.set_cons_zero, List.set_cons_succ]
                      refine wpAnyH_done (by kernel_rfl) ?_ _
                      refine NoPanic.normal ?_
                      have IE : Hid (PsAt wv8 PB ps ∧ Upd [] [] w wv8) := ⟨IC.out.1.upd ud8, uW.trans ud8⟩
                      go_wp2_with fail
                      exact ⟨⟨j + 1, by go_num, by omega, IE⟩, by simp [intOf]; omega⟩
                    exact AllReadyH.nil
                  exact AllReadyH.nil
                exact AllReadyH.nil
              exact AllReadyH.nil
            exact AllReadyH.nil
          exact AllReadyH.nil
        exact AllReadyH.nil
      exact AllReadyH.nil
    · obtain rfl : j = 4 := by omega
      clear hlt hj
      go_wp2_with fail
      go_ret
      exact ⟨rfl, HI.out.2⟩
end Go.Proofs.YtmnmhhbldbdpfaaGreatDoor
