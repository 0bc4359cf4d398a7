/- The walk of EntryPrints. -/
import Derived.Test.YtmnmhhbldbdpfaaGreatDoorGK
namespace Go.Proofs.YtmnmhhbldbdpfaaGreatDoor
open Go.RowKit
set_option maxRecDepth 100000

theorem verify22_is (p : Int) (x : Rc) (b : Bool) (hp : i64in p) (hx : x.ok) (hd : x.draw.size ≤ 1000000000) (h : verB p (bodyL x) x.r x.s = b) (w : World) (htab : Tabs w) : Calls Tryz.prog 25 #[.int .i64 p, .agg (rcV x).toArray] w (fun e w' => e = .returned (.bool b) ∧ Upd [] [] w w') := by
  rw [← h]
  exact verify22_any p x hp hx hd w htab
theorem printR_ver (k s n : Int) (d : ByteArray) (a b c : List UInt8) (x : Int) : verB (gP (expN x) : Int) (bodyL (printR k s n d a b c x)) (printR k s n d a b c x).r (printR k s n d a b c x).s = true :=
  ver_with (expN x) (nonceN (expN x) (bodyL ⟨k, s, n, d, a, b, c, 0, 0⟩)) (bodyL ⟨k, s, n, d, a, b, c, 0, 0⟩)
/-- A form in a new block. -/
theorem fm_box (w : World) (f : Fm) (V : Array Value) (hV : V = (fmV f).toArray) : FmAt (w.alloc (.cells V 27)) w.heap.size f := by
  rw [hV]
  exact heap_alloc_new _ _
theorem FmAt.load {w : World} {g : Nat} {f : Fm} (h : FmAt w g f) (hf : f.ok) (V : Array Value) (hV : V = (fmV f).toArray) : (Instr.loadAt 27 (.pointer (some ⟨g, 0, none⟩))).run Tryz.prog w = .ok (.agg V) w := by
  rw [hV]
  refine run_loadAt_mid w g 0 _ _ _ (fun j v hv => ?_) Tryz.underlying27 rfl (by rw [fmInfo hf]; simp)
  rw [Nat.zero_add, h.cell]
  exact hv
theorem RcAt.load {w : World} {g : Nat} {x : Rc} (h : RcAt w g x) (hx : x.ok) (R : Array Value) (hR : R = (rcV x).toArray) : (Instr.loadAt 33 (.pointer (some ⟨g, 0, none⟩))).run Tryz.prog w = .ok (.agg R) w := by
  rw [hR]
  exact run_loadAt_mid w g 0 _ _ _ h.all Tryz.underlying33 rfl (rcInfo hx)
theorem sha32 (l : List UInt8) : (sha l).length = 32 := sha_len l

/-- Two rows in new blocks. -/
theorem rows_two (wB : World) (T : TypeId) (Z C D : Array Value) : ∃ wC wD : World, Hid (((wB.alloc (.cells Z T)).alloc (.cells Z T)).heap[wB.heap.size]? = some (.cells Z T (0, 0))) ∧ Hid (((wB.alloc (.cells Z T)).alloc (.cells Z T)).setRow wB.heap.size C = wC) ∧ Hid (wC.heap[wB.heap.size + 1]? = some (.cells Z T (0, 0))) ∧ Hid (wC.setRow (wB.heap.size + 1) D = wD) ∧ Hid (wD.heap[wB.heap.size]? = some (.cells C T (0, 0))) ∧ Hid (wD.heap[wB.heap.size + 1]? = some (.cells D T (0, 0))) ∧ Upd [] [] wB wD := by
  have h1 := row_updH (heap_alloc_new wB (.cells Z T)) ((Upd.refl [] _).alloc (.cells Z T))
  have h2 := heap_alloc_new (wB.alloc (.cells Z T)) (.cells Z T)
  rw [World.size_alloc] at h2
  have h3 := row_setRowO h2 (show wB.heap.size + 1 ≠ wB.heap.size by omega) C
  exact ⟨_, _, h1, rfl, h3, rfl, row_setRowO (setRow_heap _ _ _ C _ _ h1) (by omega) D, setRow_heap _ _ _ D _ _ h3, ((((Upd.refl [] _).alloc _).alloc _).setRowNew (Nat.le_refl _) C).setRowNew (by omega) D⟩
theorem rcLet {x : Rc} (h : x.ok) (R : Array Value) (hR : R = (rcV x).toArray) : Hid ((Tryz.prog.info? 33).map (·.size) = some R.size) ∧ Hid (R.all (·.oneCell') = true) ∧ Hid ((Tryz.zeroCells33).size = R.size) := by
  rw [hR]
  refine ⟨rcSz h, rcOne _, ?_⟩
  show _ = _
  simp [rcV_len h]
theorem shaInfo (l : List UInt8) : (byteVals (sha l)).toArray.size = 32 := by simp [byteVals, sha_len]

set_option maxHeartbeats 1000000 in
theorem entryPrints_walk (f : Fm) (w : World) (hf : f.ok) (htab : Tabs w) : Calls Tryz.prog 7 #[.agg (fmV f).toArray] w (TrueMk w) := by
  obtain ⟨V, hV⟩ : ∃ V, V = (fmV f).toArray := ⟨_, rfl⟩
  have fm0 := Lib.hid (fm_box w f V hV)
  have HVE := Lib.hid hV
  have HRC := Lib.hid (fun W hW => receipt_any f hf W hW)
  rw [← hV] at HRC ⊢
  obtain ⟨R, hR⟩ : ∃ R, R = (rcV (fmR f)).toArray := ⟨_, rfl⟩
  rw [← hR] at HRC
  have HRE := Lib.hid hR
  have hRo := Lib.hid (fmR_ok hf)
  have hRd := fmR_draw f
  have u0 : Upd [] [] w (w.alloc (.cells V 27)) := (Upd.refl _ _).alloc _
  clear hV hR
  go_enter Tryz.func7, Tryz.ntmps7
  go_wp2_with fail
  refine (sanity22_any _ (htab.upd u0)).mono ?_
  rintro e w1 ⟨rfl, hq⟩
  have u1 := u0.trans hq
  have fm1 := Lib.hid (fm0.out.upd hq)
  have q1 := Lib.hid (fm1.out.load hf V HVE.out)
  clear hq fm0
  go_upto_region 2 with (fail)
  go_wp2_with (first | (refine wpList_load_atW (by rfl) 27 _ rfl w.heap.size 0 rfl V q1.out ?_))
  refine (HRC.out _ (htab.upd u1)).mono ?_
  rintro e w2 ⟨rfl, hq⟩
  have u2 := u1.trans hq
  have fm2 := Lib.hid (fm1.out.upd hq)
  obtain ⟨w3, w4, HZ2, HW3, HZ3, HW4, RA4, RB4, hq'⟩ := rows_two w2 33 Tryz.zeroCells33 R R
  obtain ⟨HRI, HRO, HRZ⟩ := rcLet hRo.out R HRE.out
  have u4 := u2.trans hq'
  have fm4 := Lib.hid (fm2.out.upd hq')
  clear hq hq' fm1 q1 fm2
  go_upto_region 3 with (first | (refine wpList_store_rowAs rfl 33 _ _ rfl w2.heap.size R rfl rfl _ _ HZ2.out HRI.out HRZ.out HRO.out w3 HW3.out ?_) | (refine wpList_store_rowAs rfl 33 _ _ rfl (w2.heap.size + 1) R rfl rfl _ _ HZ3.out HRI.out HRZ.out HRO.out w4 HW4.out ?_))
  clear HW3 HZ2 HZ3 HW4
  have RA4' : Hid (RcAt w4 w2.heap.size (fmR f)) := by show _ = _; rw [← HRE.out]; exact RA4.out
  have RB4' : Hid (RcAt w4 (w2.heap.size + 1) (fmR f)) := by show _ = _; rw [← HRE.out]; exact RB4.out
  obtain ⟨A, hA⟩ : ∃ A, A = w2.heap.size := ⟨_, rfl⟩
  rw [← hA] at RA4' RB4' ⊢
  clear hA RA4 RB4
  have HK : Hid (∀ W : World, FmAt W w.heap.size f → RcAt W A (fmR f) → RcAt W (A + 1) (fmR f) → W.cell? ⟨w.heap.size, 1, none⟩ = some (.int .i64 f.x) ∧ (Instr.loadAt 33 (.pointer (some ⟨A, 0, none⟩))).run Tryz.prog W = .ok (.agg R) W ∧ (Instr.loadAt 33 (.pointer (some ⟨A + 1, 0, none⟩))).run Tryz.prog W = .ok (.agg R) W) := by
    intro W h1 h2 h3
    exact ⟨h1.head.2.1, h2.load hRo.out R HRE.out, h3.load hRo.out R HRE.out⟩
  obtain ⟨H, hH⟩ : ∃ H, H = (byteVals (sha (textL (fmR f)))).toArray := ⟨_, rfl⟩
  have hEq : ∀ W : World, (Op.equalIn 10000 33 (.agg R) (.agg R)).run Tryz.prog W = .ok true W := by
    intro W
    rw [HRE.out, show (10000 : Nat) = 9997 + 3 from rfl, eqRc_run 9997 _ _ hRo.out hRo.out W, eqRc_refl]
  have hEqH : ∀ W : World, (Op.equalIn 10000 24 (.agg H) (.agg H)).run Tryz.prog W = .ok true W := by
    intro W
    rw [hH, show (10000 : Nat) = 9998 + 2 from rfl, eqHash_run 9998 _ _ W (sha_len _) (sha_len _)]
    simp
  have HV := Lib.hid (fun (p : Int) (hp : i64in p) (h : verB p (bodyL (fmR f)) (fmR f).r (fmR f).s = true) W hW => verify22_is p (fmR f) true hp hRo.out (by omega) h W hW)
  have HT := Lib.hid (fun W hW => text22_any (fmR f) hRo.out (by omega) W hW)
  have HTR := Lib.hid (fun W => rtext22_any (fmR f) hRo.out (by omega) W)
  have HH := Lib.hid (fun W hW => hash22_any (fmR f) hRo.out (by omega) W hW)
  have HHR := Lib.hid (fun W => rhash22_any (fmR f) hRo.out (by omega) W)
  rw [← HRE.out] at HV HT HTR HH HHR
  rw [← hH] at HH HHR
  have hi := hf.2.1
  clear hH
  have fm5 := Lib.hid (FmAt.upd fm4.out (Upd.refl [] w4).drew)
  have RA5' := Lib.hid (RcAt.upd RA4'.out (Upd.refl [] w4).drew)
  have RB5' := Lib.hid (RcAt.upd RB4'.out (Upd.refl [] w4).drew)
  have u5 := u4.drew
  clear fm4 RA4' RB4' u4
  refine wp_region_noPanic ?_
  refine wp_region_held_drew (S := fun wp => wp.cell? ⟨w.heap.size, 1, none⟩ = some (.int .i64 f.x) ∧ (Instr.loadAt 33 (.pointer (some ⟨A, 0, none⟩))).run Tryz.prog wp = .ok (.agg R) wp ∧ (Instr.loadAt 33 (.pointer (some ⟨A + 1, 0, none⟩))).run Tryz.prog wp = .ok (.agg R) wp) (by kernel_rfl) ?_ (fun hHeld => ?_)
  · exact HK.out _ fm5.out RA5'.out RB5'.out
  refine wpAnyH_take (i := 0) (v := ?v1) (by simp only [List.getElem?_toArray, List.getElem?_cons_zero] <;> rfl) (by kernel_rfl) (by kernel_rfl) (by kernel_rfl) (fun _ _ _ h => h) (Or.inl ⟨by rfl, ?y1⟩) hHeld ?r1
  case y1 => (intro w hSw; (try dsimp only at hSw); go_simp; first | done | with_reducible rfl | rfl)
  try simp only [Act.put, List.setIfInBounds_toArray, List.set_cons_zero, List.set_cons_succ]
  refine wpAnyH_take (i := 1) (v := ?v2) (by simp only [List.getElem?_toArray, List.getElem?_cons_succ, List.getElem?_cons_zero] <;> rfl) (by kernel_rfl) (by kernel_rfl) (by kernel_rfl) (fun _ _ _ h => h) (Or.inl ⟨by rfl, ?y2⟩) hHeld ?r2
  case y2 => (intro w hSw; (try dsimp only at hSw); go_simp; first | done | with_reducible rfl | rfl)
  try simp only [Act.put, List.setIfInBounds_toArray, List.set_cons_zero, List.set_cons_succ]
  refine wpAnyH_take (i := 2) (v := .agg R) (by simp only [List.getElem?_toArray, List.getElem?_cons_succ, List.getElem?_cons_zero] <;> rfl) (by kernel_rfl) (by kernel_rfl) (by kernel_rfl) (fun _ _ _ h => h) (yieldsIf_loadW (by rfl) _ _ rfl _ rfl R (fun w hSw => hSw.2.1)) hHeld ?_
  try simp only [Act.put, List.setIfInBounds_toArray, List.set_cons_zero, List.set_cons_succ]
  refine wpAnyH_take (i := 3) (v := .agg R) (by simp only [List.getElem?_toArray, List.getElem?_cons_succ, List.getElem?_cons_zero] <;> rfl) (by kernel_rfl) (by kernel_rfl) (by kernel_rfl) (fun _ _ _ h => h) (yieldsIf_loadW (by rfl) _ _ rfl _ rfl R (fun w hSw => hSw.2.2)) hHeld ?_
  try simp only [Act.put, List.setIfInBounds_toArray, List.set_cons_zero, List.set_cons_succ]
  refine wpAnyH_take (i := 4) (v := ?v3) (by simp only [List.getElem?_toArray, List.getElem?_cons_succ, List.getElem?_cons_zero] <;> rfl) (by kernel_rfl) (by kernel_rfl) (by kernel_rfl) (fun _ _ _ h => h) (Or.inl ⟨by rfl, ?y3⟩) hHeld ?r3
  case y3 => (intro w hSw; (try dsimp only at hSw); go_simp; first | done | with_reducible rfl | rfl)
  try simp only [Act.put, List.setIfInBounds_toArray, List.set_cons_zero, List.set_cons_succ]
  refine wpAnyH_take (i := 5) (v := ?v4) (by simp only [List.getElem?_toArray, List.getElem?_cons_succ, List.getElem?_cons_zero] <;> rfl) (by kernel_rfl) (by kernel_rfl) (by kernel_rfl) (fun _ _ _ h => h) (Or.inl ⟨by rfl, ?y4⟩) hHeld ?r4
  case y4 => (intro w hSw; (try dsimp only at hSw); go_simp; first | done | with_reducible rfl | rfl)
  try simp only [Act.put, List.setIfInBounds_toArray, List.set_cons_zero, List.set_cons_succ]
  refine wpAnyH_take (i := 6) (v := ?v5) (by simp only [List.getElem?_toArray, List.getElem?_cons_succ, List.getElem?_cons_zero] <;> rfl) (by kernel_rfl) (by kernel_rfl) (by kernel_rfl) (fun _ _ _ h => h) (Or.inl ⟨by rfl, ?y5⟩) hHeld ?r5
  case y5 => (intro w hSw; (try dsimp only at hSw); go_simp; first | done | with_reducible rfl | rfl)
  try simp only [Act.put, List.setIfInBounds_toArray, List.set_cons_zero, List.set_cons_succ]
  refine wpAnyH_take (i := 7) (v := ?v6) (by simp only [List.getElem?_toArray, List.getElem?_cons_succ, List.getElem?_cons_zero] <;> rfl) (by kernel_rfl) (by kernel_rfl) (by kernel_rfl) (fun _ _ _ h => h) (Or.inl ⟨by rfl, ?y6⟩) hHeld ?r6
  case y6 => (intro w hSw; (try dsimp only at hSw); go_simp; first | done | with_reducible rfl | rfl)
  try simp only [Act.put, List.setIfInBounds_toArray, List.set_cons_zero, List.set_cons_succ]
  refine wpAnyH_take (i := 8) (v := ?v7) (by simp only [List.getElem?_toArray, List.getElem?_cons_succ, List.getElem?_cons_zero] <;> rfl) (by kernel_rfl) (by kernel_rfl) (by kernel_rfl) (fun _ _ _ h => h) (Or.inl ⟨by rfl, ?y7⟩) hHeld ?r7
  case y7 => (intro w hSw; (try dsimp only at hSw); go_simp; first | done | with_reducible rfl | rfl)
  try simp only [Act.put, List.setIfInBounds_toArray, List.set_cons_zero, List.set_cons_succ]
  refine wpAnyH_take (i := 9) (v := ?v8) (by simp only [List.getElem?_toArray, List.getElem?_cons_succ, List.getElem?_cons_zero] <;> rfl) (by kernel_rfl) (by kernel_rfl) (by kernel_rfl) (fun _ _ _ h => h) (Or.inl ⟨by rfl, ?y8⟩) hHeld ?r8
  case y8 => (intro w hSw; (try dsimp only at hSw); go_simp; first | done | with_reducible rfl | rfl)
  try simp only [Act.put, List.setIfInBounds_toArray, List.set_cons_zero, List.set_cons_succ]
  refine wpAnyH_take (i := 11) (v := .agg R) (by simp only [List.getElem?_toArray, List.getElem?_cons_succ, List.getElem?_cons_zero] <;> rfl) (by kernel_rfl) (by kernel_rfl) (by kernel_rfl) (fun _ _ _ h => h) (yieldsIf_loadW (by rfl) _ _ rfl _ rfl R (fun w hSw => hSw.2.1)) hHeld ?_
  try simp only [Act.put, List.setIfInBounds_toArray, List.set_cons_zero, List.set_cons_succ]
  refine wpAnyH_ready (rs := [10]) (by kernel_rfl) (by simp) ?_
  refine AllReadyH.cons (by simp only [List.getElem?_toArray, List.getElem?_cons_succ, List.getElem?_cons_zero] <;> rfl) (fun K hK => ?_) ?_
  · go_simp; refine (public_any f.x _ (by unfold i64in at hi; omega)).mono ?_; rintro e w6 ⟨r, HR, hr, rfl, rfl⟩; go_wp2_with fail
    refine hK.out _ _ ?_ (fun hHeld => ?_)
    · exact HK.out _ fm5.out RA5'.out RB5'.out
    clear hK K
    try simp only [Act.put, List.setIfInBounds_toArray, List.set_cons_zero, List.set_cons_succ]
    refine wpAnyH_ready (rs := [12]) (by kernel_rfl) (by simp) ?_
    refine AllReadyH.cons (by simp only [List.getElem?_toArray, List.getElem?_cons_succ, List.getElem?_cons_zero] <;> rfl) (fun K hK => ?_) ?_
    · go_simp; refine (HV.out (r : Int) ⟨by omega, by omega⟩ (by rw [HR.out]; exact printR_ver _ _ _ _ _ _ _ _) _ (htab.upd u5)).mono ?_; rintro e w6 ⟨rfl, hq⟩; have fm6 := Lib.hid (fm5.out.upd hq); have RA6' := Lib.hid (RA5'.out.upd hq); have RB6' := Lib.hid (RB5'.out.upd hq); have u6 := u5.trans hq; clear hq; go_wp2_with fail
      refine hK.out _ _ ?_ (fun hHeld => ?_)
      · exact HK.out _ fm6.out RA6'.out RB6'.out
      clear hK K
      try simp only [Act.put, List.setIfInBounds_toArray, List.set_cons_zero, List.set_cons_succ]
      refine wpAnyH_take (i := 13) (v := ?v9) (by simp only [List.getElem?_toArray, List.getElem?_cons_succ, List.getElem?_cons_zero] <;> rfl) (by kernel_rfl) (by kernel_rfl) (by kernel_rfl) (fun _ _ _ h => h) (Or.inl ⟨by rfl, ?y9⟩) hHeld ?r9
      case y9 => (intro w hSw; (try dsimp only at hSw); go_simp; first | done | with_reducible rfl | rfl)
      try simp only [Act.put, List.setIfInBounds_toArray, List.set_cons_zero, List.set_cons_succ]
      refine wpAnyH_take (i := 14) (v := ?v10) (by simp only [List.getElem?_toArray, List.getElem?_cons_succ, List.getElem?_cons_zero] <;> rfl) (by kernel_rfl) (by kernel_rfl) (by kernel_rfl) (fun _ _ _ h => h) (Or.inl ⟨by rfl, ?y10⟩) hHeld ?r10
      case y10 => (intro w hSw; (try dsimp only at hSw); go_simp; first | done | with_reducible rfl | rfl)
      try simp only [Act.put, List.setIfInBounds_toArray, List.set_cons_zero, List.set_cons_succ]
      refine wpAnyH_take (i := 15) (v := .agg R) (by simp only [List.getElem?_toArray, List.getElem?_cons_succ, List.getElem?_cons_zero] <;> rfl) (by kernel_rfl) (by kernel_rfl) (by kernel_rfl) (fun _ _ _ h => h) (yieldsIf_loadW (by rfl) _ _ rfl _ rfl R (fun w hSw => hSw.2.1)) hHeld ?_
      try simp only [Act.put, List.setIfInBounds_toArray, List.set_cons_zero, List.set_cons_succ]
      refine wpAnyH_take (i := 17) (v := .agg R) (by simp only [List.getElem?_toArray, List.getElem?_cons_succ, List.getElem?_cons_zero] <;> rfl) (by kernel_rfl) (by kernel_rfl) (by kernel_rfl) (fun _ _ _ h => h) (yieldsIf_loadW (by rfl) _ _ rfl _ rfl R (fun w hSw => hSw.2.2)) hHeld ?_
      try simp only [Act.put, List.setIfInBounds_toArray, List.set_cons_zero, List.set_cons_succ]
      refine wpAnyH_ready (rs := [16]) (by kernel_rfl) (by simp) ?_
      refine AllReadyH.cons (by simp only [List.getElem?_toArray, List.getElem?_cons_succ, List.getElem?_cons_zero] <;> rfl) (fun K hK => ?_) ?_
      · go_simp; refine (HT.out _ (htab.upd u6)).mono ?_; rintro e w7 ⟨y, HY, hy, rfl, hq⟩; have fm7 := Lib.hid (fm6.out.upd hq); have RA7' := Lib.hid (RA6'.out.upd hq); have RB7' := Lib.hid (RB6'.out.upd hq); have u7 := u6.trans hq; clear hq; go_wp2_with fail
        refine hK.out _ _ ?_ (fun hHeld => ?_)
        · exact HK.out _ fm7.out RA7'.out RB7'.out
        clear hK K
        try simp only [Act.put, List.setIfInBounds_toArray, List.set_cons_zero, List.set_cons_succ]
        refine wpAnyH_ready (rs := [18]) (by kernel_rfl) (by simp) ?_
        refine AllReadyH.cons (by simp only [List.getElem?_toArray, List.getElem?_cons_succ, List.getElem?_cons_zero] <;> rfl) (fun K hK => ?_) ?_
        · go_simp; refine (HTR.out _).mono ?_; rintro e w8 ⟨y2, HY2, hy2, rfl, hq⟩; obtain rfl : y2 = y := bs_injE (by rw [HY.out, HY2.out]); have fm8 := Lib.hid (fm7.out.upd hq); have RA8' := Lib.hid (RA7'.out.upd hq); have RB8' := Lib.hid (RB7'.out.upd hq); have u8 := u7.trans hq; clear hq; go_wp2_with fail
          refine hK.out _ _ ?_ (fun hHeld => ?_)
          · exact HK.out _ fm8.out RA8'.out RB8'.out
          clear hK K
          try simp only [Act.put, List.setIfInBounds_toArray, List.set_cons_zero, List.set_cons_succ]
          refine wpAnyH_take (i := 19) (v := ?v11) (by simp only [List.getElem?_toArray, List.getElem?_cons_succ, List.getElem?_cons_zero] <;> rfl) (by kernel_rfl) (by kernel_rfl) (by kernel_rfl) (fun _ _ _ h => h) (Or.inl ⟨by rfl, ?y11⟩) hHeld ?r11
          case y11 => (intro w hSw; (try dsimp only at hSw); go_simp; first | done | with_reducible rfl | rfl)
          try simp only [Act.put, List.setIfInBounds_toArray, List.set_cons_zero, List.set_cons_succ]
          refine wpAnyH_take (i := 20) (v := ?v12) (by simp only [List.getElem?_toArray, List.getElem?_cons_succ, List.getElem?_cons_zero] <;> rfl) (by kernel_rfl) (by kernel_rfl) (by kernel_rfl) (fun _ _ _ h => h) (Or.inl ⟨by rfl, ?y12⟩) hHeld ?r12
          case y12 => (intro w hSw; (try dsimp only at hSw); go_simp; first | done | with_reducible rfl | rfl)
          try simp only [Act.put, List.setIfInBounds_toArray, List.set_cons_zero, List.set_cons_succ]
          refine wpAnyH_take (i := 21) (v := ?v13) (by simp only [List.getElem?_toArray, List.getElem?_cons_succ, List.getElem?_cons_zero] <;> rfl) (by kernel_rfl) (by kernel_rfl) (by kernel_rfl) (fun _ _ _ h => h) (Or.inl ⟨by rfl, ?y13⟩) hHeld ?r13
          case y13 => (intro w hSw; (try dsimp only at hSw); go_simp; first | done | with_reducible rfl | rfl)
          try simp only [Act.put, List.setIfInBounds_toArray, List.set_cons_zero, List.set_cons_succ]
          refine wpAnyH_take (i := 22) (v := .agg R) (by simp only [List.getElem?_toArray, List.getElem?_cons_succ, List.getElem?_cons_zero] <;> rfl) (by kernel_rfl) (by kernel_rfl) (by kernel_rfl) (fun _ _ _ h => h) (yieldsIf_loadW (by rfl) _ _ rfl _ rfl R (fun w hSw => hSw.2.1)) hHeld ?_
          try simp only [Act.put, List.setIfInBounds_toArray, List.set_cons_zero, List.set_cons_succ]
          refine wpAnyH_take (i := 24) (v := .agg R) (by simp only [List.getElem?_toArray, List.getElem?_cons_succ, List.getElem?_cons_zero] <;> rfl) (by kernel_rfl) (by kernel_rfl) (by kernel_rfl) (fun _ _ _ h => h) (yieldsIf_loadW (by rfl) _ _ rfl _ rfl R (fun w hSw => hSw.2.2)) hHeld ?_
          try simp only [Act.put, List.setIfInBounds_toArray, List.set_cons_zero, List.set_cons_succ]
          refine wpAnyH_ready (rs := [23]) (by kernel_rfl) (by simp) ?_
          refine AllReadyH.cons (by simp only [List.getElem?_toArray, List.getElem?_cons_succ, List.getElem?_cons_zero] <;> rfl) (fun K hK => ?_) ?_
          · go_simp; refine (HH.out _ (htab.upd u8)).mono ?_; rintro e w9 ⟨rfl, hq⟩; have fm9 := Lib.hid (fm8.out.upd hq); have RA9' := Lib.hid (RA8'.out.upd hq); have RB9' := Lib.hid (RB8'.out.upd hq); have u9 := u8.trans hq; clear hq; go_wp2_with fail
            refine hK.out _ _ ?_ (fun hHeld => ?_)
            · exact HK.out _ fm9.out RA9'.out RB9'.out
            clear hK K
            try simp only [Act.put, List.setIfInBounds_toArray, List.set_cons_zero, List.set_cons_succ]
            refine wpAnyH_ready (rs := [25]) (by kernel_rfl) (by simp) ?_
            refine AllReadyH.cons (by simp only [List.getElem?_toArray, List.getElem?_cons_succ, List.getElem?_cons_zero] <;> rfl) (fun K hK => ?_) ?_
            · go_simp; refine (HHR.out _).mono ?_; rintro e w10 ⟨rfl, hq⟩; have fm10 := Lib.hid (fm9.out.upd hq); have RA10' := Lib.hid (RA9'.out.upd hq); have RB10' := Lib.hid (RB9'.out.upd hq); have u10 := u9.trans hq; clear hq; go_wp2_with fail
              refine hK.out _ _ ?_ (fun hHeld => ?_)
              · exact HK.out _ fm10.out RA10'.out RB10'.out
              clear hK K
              try simp only [Act.put, List.setIfInBounds_toArray, List.set_cons_zero, List.set_cons_succ]
              refine wpAnyH_take (i := 26) (v := ?v14) (by simp only [List.getElem?_toArray, List.getElem?_cons_succ, List.getElem?_cons_zero] <;> rfl) (by kernel_rfl) (by kernel_rfl) (by kernel_rfl) (fun _ _ _ h => h) (Or.inl ⟨by rfl, ?y14⟩) hHeld ?r14
              case y14 => (intro w hSw; (try dsimp only at hSw); go_simp; first | done | with_reducible rfl | rfl)
              try simp only [Act.put, List.setIfInBounds_toArray, List.set_cons_zero, List.set_cons_succ]
              refine wpAnyH_take (i := 27) (v := ?v15) (by simp only [List.getElem?_toArray, List.getElem?_cons_succ, List.getElem?_cons_zero] <;> rfl) (by kernel_rfl) (by kernel_rfl) (by kernel_rfl) (fun _ _ _ h => h) (Or.inl ⟨by rfl, ?y15⟩) hHeld ?r15
              case y15 => (intro w hSw; (try dsimp only at hSw); go_simp; first | done | with_reducible rfl | rfl)
              try simp only [Act.put, List.setIfInBounds_toArray, List.set_cons_zero, List.set_cons_succ]
              refine wpAnyH_take (i := 28) (v := ?v16) (by simp only [List.getElem?_toArray, List.getElem?_cons_succ, List.getElem?_cons_zero] <;> rfl) (by kernel_rfl) (by kernel_rfl) (by kernel_rfl) (fun _ _ _ h => h) (Or.inl ⟨by rfl, ?y16⟩) hHeld ?r16
              case y16 => (intro w hSw; (try dsimp only at hSw); go_simp; first | done | with_reducible rfl | rfl)
              try simp only [Act.put, List.setIfInBounds_toArray, List.set_cons_zero, List.set_cons_succ]
              refine wpAnyH_done (by kernel_rfl) ?_ _
              refine NoPanic.normal ?_
              go_wp2_with fail
              go_ret
              exact ⟨rfl, u10⟩
            exact AllReadyH.nil
          exact AllReadyH.nil
        exact AllReadyH.nil
      exact AllReadyH.nil
    exact AllReadyH.nil
  exact AllReadyH.nil
end Go.Proofs.YtmnmhhbldbdpfaaGreatDoor
