/- The walk of EntryVerifies. -/
import Derived.Test.YtmnmhhbldbdpfaaGreatDoorXBentW
namespace Go.Proofs.YtmnmhhbldbdpfaaGreatDoor
open Go.RowKit
set_option maxRecDepth 100000

theorem FmAt.setX {w : World} {g : Nat} {f : Fm} (h : FmAt w g f) (z : Int) : FmAt (w.setCell ⟨g, 1, none⟩ (.int .i64 z)) g { f with x := z } := heap_setCell_same w g 1 _ _ (.int .i64 z) h
theorem rc_range2 : (Array.range (2 * 102)).map ((rcV Rc.zero).toArray[· % (rcV Rc.zero).toArray.size]!) = (rcV Rc.zero ++ rcV Rc.zero).toArray := by kernel_rfl
/-- []Receipt{x, y} -/
theorem rc_build2 (x y : Rc) (hx : x.ok) (hy : y.ok) (w : World) : (Instr.buildSlice 44 2 #[(0, .agg (rcV x).toArray), (1, .agg (rcV y).toArray)]).run Tryz.prog w = .ok (.slice (some ⟨w.heap.size, 0, none⟩) 2 2) (w.alloc (.cells (rcV x ++ rcV y).toArray 33)) := by
  obtain ⟨ie, hi, hz, hs, _⟩ := rcI
  refine run_buildSlice w 44 33 2 _ (rcV x ++ rcV y).toArray ie _ Tryz.underlying44 hi hz (by rw [hs]; omega) (by rw [hs]; omega) ?_
  rw [hs]
  show Instr.fill _ ((Array.range (2 * 102)).map ((rcV Rc.zero).toArray[· % (rcV Rc.zero).toArray.size]!)) [(0, Value.agg (rcV x).toArray), (1, Value.agg (rcV y).toArray)] = _
  rw [rc_range2]
  have h := fill_mid (pl := fun i => some (i * 102, 102)) (i := 0) (off := 0) (n := 102) (v := .agg (rcV x).toArray) (V := rcV x) (A := []) (B := rcV Rc.zero) (C := rcV Rc.zero) (r := [(1, Value.agg (rcV y).toArray)]) rfl rfl (rcV_len hx) rfl (rcV_len Rc.zero_ok)
  rw [List.nil_append, List.nil_append] at h
  rw [h]
  have h := fill_mid (pl := fun i => some (i * 102, 102)) (i := 1) (off := 102) (n := 102) (v := .agg (rcV y).toArray) (V := rcV y) (A := rcV x) (B := rcV Rc.zero) (C := []) (r := []) rfl rfl (rcV_len hy) (rcV_len hx) (rcV_len Rc.zero_ok)
  rw [List.append_nil, List.append_nil] at h
  rw [h]
  rfl
/-- Receipts in a block, one behind the other. -/
def RcsAt (w : World) (g : Nat) (l : List Rc) : Prop := w.heap[g]? = some (.cells (rcVals l).toArray 33 (0, 0))
theorem RcsAt.upd {w w' : World} {g : Nat} {l : List Rc} (h : RcsAt w g l) (u : Upd [] [] w w') : RcsAt w' g l := row_updH h u
theorem rcVals_len (l : List Rc) (h : ∀ x ∈ l, x.ok) : (rcVals l).length = l.length * 102 := by
  induction l with
  | nil => rfl
  | cons x r ih =>
    have h1 := rcV_len (h x (by simp))
    have h2 := ih (fun y hy => h y (by simp [hy]))
    unfold rcVals at h2 ⊢
    rw [List.flatMap_cons, List.length_append, h1, h2, List.length_cons]
    omega
theorem rcVals_get : ∀ (l : List Rc) (k : Nat) (x : Rc), (∀ y ∈ l, y.ok) → l[k]? = some x → ∀ j v, (rcV x)[j]? = some v → (rcVals l)[k * 102 + j]? = some v := by
  intro l
  induction l with
  | nil => intro k x _ h; simp at h
  | cons a r ih =>
    intro k x hok h j v hv
    have la := rcV_len (hok a (by simp))
    unfold rcVals at ih ⊢
    rw [List.flatMap_cons]
    cases k with
    | zero =>
      simp at h
      subst h
      rw [List.getElem?_append_left (by have := (List.getElem?_eq_some_iff.1 hv).1; omega)]
      simpa using hv
    | succ k =>
      rw [List.getElem?_append_right (by omega), la, show (k + 1) * 102 + j - 102 = k * 102 + j by omega]
      exact ih k x (fun y hy => hok y (List.mem_cons_of_mem _ hy)) (by simpa using h) j v hv
theorem RcsAt.range {w : World} {g : Nat} {l : List Rc} (h : RcsAt w g l) (ho : ∀ x ∈ l, x.ok) {k : Nat} {x : Rc} (hk : l[k]? = some x) : w.rangeAt g (k * 102) (rcV x) := by
  intro j v hv
  rw [cell_of_row _ _ _ _ _ _ h, List.getElem?_toArray]
  exact rcVals_get l k x ho hk j v hv
theorem RcsAt.load {w : World} {g : Nat} {l : List Rc} (h : RcsAt w g l) (ho : ∀ x ∈ l, x.ok) {k : Nat} {x : Rc} (hk : l[k]? = some x) (R : Array Value) (hR : R = (rcV x).toArray) (o : Nat) (e : o = k * 102) : (Instr.loadAt 33 (.pointer (some ⟨g, o, none⟩))).run Tryz.prog w = .ok (.agg R) w := by
  rw [hR, e]
  exact run_loadAt_mid w g _ _ _ _ (h.range ho hk) Tryz.underlying33 rfl (rcInfo (ho x (List.mem_of_getElem? hk)))
theorem rverify22_is (p : Int) (x : Rc) (b : Bool) (hp : i64in p) (hx : x.ok) (hd : x.draw.size ≤ 1000000000) (h : verB p (bodyL x) x.r x.s = b) (w : World) : Calls Tryz.prog 26 #[.int .i64 p, .agg (rcV x).toArray] w (fun e w' => e = .returned (.bool b) ∧ Upd [] [] w w') := by
  rw [← h]
  exact rverify22_any p x hp hx hd w

set_option maxHeartbeats 2000000 in
theorem entryVerifies_walk (f : Fm) (a b c d : Int) (k8 : Int) (w : World) (hf : f.ok) (ha : -9223372036854775808 ≤ a ∧ a ≤ 9223372036854775807) (hb : -9223372036854775808 ≤ b ∧ b ≤ 9223372036854775807) (hc : -9223372036854775808 ≤ c ∧ c ≤ 9223372036854775807) (hd : -9223372036854775808 ≤ d ∧ d ≤ 9223372036854775807) (hk : 0 ≤ k8 ∧ k8 ≤ 255) (htab : Tabs w) :
    Calls Tryz.prog 6 #[.agg (fmV f).toArray, .agg #[.int .i64 a, .int .i64 b, .int .i64 c, .int .i64 d], .int .u8 k8] w (TrueMk w) := by
  obtain ⟨V, hV⟩ : ∃ V, V = (fmV f).toArray := ⟨_, rfl⟩
  have fm0 := Lib.hid ((fm_box w f V hV).upd ((Upd.refl [] _).alloc (.cells #[.int .i64 a, .int .i64 b, .int .i64 c, .int .i64 d] 57)))
  have q0 := two_box (w.alloc (.cells V 27)) 57 #[.int .i64 a, .int .i64 b, .int .i64 c, .int .i64 d]
  rw [World.size_alloc] at q0
  have Q0 := Lib.hid q0
  rw [← hV]
  have u0 : Upd [] [] w ((w.alloc (.cells V 27)).alloc (.cells #[.int .i64 a, .int .i64 b, .int .i64 c, .int .i64 d] 57)) := ((Upd.refl _ _).alloc _).alloc _
  have wk : IntKind.i64.wrap k8 = k8 := IntWalk.i64_in _ (by omega)
  clear hV q0
  go_enter Tryz.func6, Tryz.ntmps6
  go_wp2_with fail
  refine (sanity22_any _ (htab.upd u0)).mono ?_
  rintro e w1 ⟨rfl, hq⟩
  have u1 := u0.trans hq
  have fm1 := Lib.hid (fm0.out.upd hq)
  have Q1 := Lib.hid (row_updH Q0.out hq)
  clear hq fm0 Q0
  go_wp2_with fail
  refine (secret22_any k8 w1 (by omega)).mono ?_
  rintro e w2 ⟨rfl, rfl⟩
  obtain ⟨X, hX⟩ : ∃ X, X = 5000 + 3 * k8 := ⟨_, rfl⟩
  have HX := Lib.hid hX
  have iX : i64in X := by unfold i64in; omega
  rw [← hX]
  clear hX
  have k1 := fm1.out.head.2.1
  have f1 := frozen_of_row _ w.heap.size 1 _ _ fm1.out
  have fm3 := Lib.hid (fm1.out.setX X)
  have Q3 := Lib.hid (row_otherE (j := 1) Q1.out (show w.heap.size + 1 ≠ w.heap.size by omega) (.int .i64 X))
  have u3 := u1.setNew (p := ⟨w.heap.size, 1, none⟩) (Nat.le_refl _) (.int .i64 X)
  obtain ⟨F, hF⟩ : ∃ F : Fm, F = { f with x := X } := ⟨_, rfl⟩
  have hFo : F.ok := by rw [hF]; exact ⟨hf.1, iX, hf.2.2⟩
  have HFX : Hid (F.x = X) := by show _ = _; rw [hF]
  rw [← hF] at fm3
  obtain ⟨V3, hV3⟩ : ∃ V3, V3 = (fmV F).toArray := ⟨_, rfl⟩
  have q3 := Lib.hid (fm3.out.load hFo V3 hV3)
  have HRC := Lib.hid (fun W hW => receipt_any F hFo W hW)
  rw [← hV3] at HRC
  obtain ⟨R, hR⟩ : ∃ R, R = (rcV (fmR F)).toArray := ⟨_, rfl⟩
  rw [← hR] at HRC
  have HRE := Lib.hid hR
  have hRo := Lib.hid (fmR_ok hFo)
  have hRd := fmR_draw F
  clear hV3 hF hR Q1 fm1 hf
  go_upto_region 4 with (fail)
  clear k1 f1
  generalize (w2.setCell ⟨w.heap.size, 1, none⟩ (.int .i64 X)) = w3 at *
  go_wp2_with (first | (refine wpList_load_atW (by rfl) 27 _ rfl w.heap.size 0 rfl V3 q3.out ?_))
  refine (HRC.out _ (htab.upd u3)).mono ?_
  rintro e w4 ⟨rfl, hq⟩
  obtain ⟨w5, w6, HZ5, HW5, HZ6, HW6, RA6, _, hq'⟩ := rows_two w4 33 Tryz.zeroCells33 R R
  obtain ⟨HRI, HRO, HRZ⟩ := rcLet hRo.out R HRE.out
  have u6 := u3.trans (hq.trans hq')
  have Q6 := row_updH Q3.out (hq.trans hq')
  have RA6' : RcAt w6 w4.heap.size (fmR F) := by have := RA6.out; rw [HRE.out] at this; exact this
  have c0 : w6.cell? ⟨w.heap.size + 1, 0, none⟩ = some (.int .i64 a) := by rw [cell_of_row _ _ _ _ _ _ Q6]; rfl
  have c1 : w6.cell? ⟨w.heap.size + 1, 1, none⟩ = some (.int .i64 b) := by rw [cell_of_row _ _ _ _ _ _ Q6]; rfl
  have Q6H := Lib.hid Q6
  have q6 := Lib.hid (RA6'.load hRo.out R HRE.out)
  have RAH := Lib.hid RA6'
  have hBo := Lib.hid (bentC_ok hRo.out (a % 9) b)
  have hBd := bentC_draw (fmR F) (a % 9) b
  have HB1 := Lib.hid (fun W => bent_any (fmR F) a b hRo.out (by omega) ha hb W)
  rw [← HRE.out] at HB1
  obtain ⟨x1, hx1⟩ : ∃ x1, x1 = bentR (fmR F) a b := ⟨_, rfl⟩
  have hBo1 : Hid x1.ok := by rw [hx1]; exact hBo
  have hBd1 : x1.draw.size ≤ 101 := by rw [hx1]; exact Nat.le_trans hBd (by omega)
  rw [← hx1] at HB1
  obtain ⟨A, hA⟩ : ∃ A, A = (rcV x1).toArray := ⟨_, rfl⟩
  rw [← hA] at HB1
  have HAE := Lib.hid hA
  obtain ⟨HAI, HAO, HAZ⟩ := rcLet hBo1.out A hA
  clear Q3 q3 fm3 hq hq' RA6 RA6' Q6 hBo hBd hx1 hA u3 HRC
  go_upto_region 5 with (first | (refine wpList_store_rowAs rfl 33 _ _ rfl w4.heap.size R rfl rfl _ _ HZ5.out HRI.out HRZ.out HRO.out w5 HW5.out ?_) | (refine wpList_store_rowAs rfl 33 _ _ rfl (w4.heap.size + 1) R rfl rfl _ _ HZ6.out HRI.out HRZ.out HRO.out w6 HW6.out ?_))
  clear HZ5 HZ6 HW5 HW6
  obtain ⟨G, hG⟩ : ∃ G, G = w4.heap.size := ⟨_, rfl⟩
  rw [← hG] at RAH q6 ⊢
  clear hG
  go_wp2_with (first | (refine wpList_load_atW (by rfl) 33 _ rfl G 0 rfl R q6.out ?_))
  refine (HB1.out _).mono ?_
  rintro e w7 ⟨rfl, hq⟩
  obtain ⟨w8, HZ8, HW8, HR8, hq'⟩ := blk_new w7 33 Tryz.zeroCells33 A
  have hq8 := hq.trans hq'
  have u8 := u6.trans hq8
  have Q8 := row_updH Q6H.out hq8
  have RA8 := Lib.hid (RAH.out.upd hq8)
  have r8 : RcAt w8 w7.heap.size x1 := by have := HR8.out; rw [HAE.out] at this; exact this
  have c2 : w8.cell? ⟨w.heap.size + 1, 2, none⟩ = some (.int .i64 c) := by rw [cell_of_row _ _ _ _ _ _ Q8]; rfl
  have c3 : w8.cell? ⟨w.heap.size + 1, 3, none⟩ = some (.int .i64 d) := by rw [cell_of_row _ _ _ _ _ _ Q8]; rfl
  have q8 := Lib.hid (r8.load hBo1.out A HAE.out)
  have RB8 := Lib.hid r8
  have hBo2 := Lib.hid (bentC_ok hBo1.out (c % 9) d)
  have hBd2 := bentC_draw x1 (c % 9) d
  have HB2 := Lib.hid (fun W => bent_any x1 c d hBo1.out (by omega) hc hd W)
  rw [← HAE.out] at HB2
  obtain ⟨x2, hx2⟩ : ∃ x2, x2 = bentR x1 c d := ⟨_, rfl⟩
  have hCo : Hid x2.ok := by rw [hx2]; exact hBo2
  have hCd : x2.draw.size ≤ 102 := by rw [hx2]; exact Nat.le_trans hBd2 (by omega)
  rw [← hx2] at HB2
  obtain ⟨B, hB⟩ : ∃ B, B = (rcV x2).toArray := ⟨_, rfl⟩
  rw [← hB] at HB2
  have HBE := Lib.hid hB
  obtain ⟨HBI, HBO, HBZ⟩ := rcLet hCo.out B hB
  clear hq hq' hq8 Q6H q6 RAH c0 c1 HB1 r8 Q8 hBo2 hBd2 hx2 hB HR8 u6
  go_upto_region 6 with (first | (refine wpList_store_rowAs rfl 33 _ _ rfl w7.heap.size A rfl rfl _ _ HZ8.out HAI.out HAZ.out HAO.out w8 HW8.out ?_))
  clear HZ8 HW8
  obtain ⟨GA, hGA⟩ : ∃ GA, GA = w7.heap.size := ⟨_, rfl⟩
  rw [← hGA] at RB8 q8 ⊢
  clear hGA
  go_wp2_with (first | (refine wpList_load_atW (by rfl) 33 _ rfl GA 0 rfl A q8.out ?_))
  refine (HB2.out _).mono ?_
  rintro e w9 ⟨rfl, hq⟩
  obtain ⟨w10, HZ10, HW10, HR10, hq'⟩ := blk_new w9 33 Tryz.zeroCells33 B
  have hq10 := hq.trans hq'
  have u10 := u8.trans hq10
  have RA10 := Lib.hid (RA8.out.upd hq10)
  have RB10 := Lib.hid (RB8.out.upd hq10)
  have RC10 : Hid (RcAt w10 w9.heap.size x2) := by have := HR10.out; rw [HBE.out] at this; exact this
  clear hq hq' hq10 RA8 RB8 q8 c2 c3 HB2 HR10 u8
  go_upto_region 7 with (first | (refine wpList_store_rowAs rfl 33 _ _ rfl w9.heap.size B rfl rfl _ _ HZ10.out HBI.out HBZ.out HBO.out w10 HW10.out ?_))
  clear HZ10 HW10
  obtain ⟨GB, hGB⟩ : ∃ GB, GB = w9.heap.size := ⟨_, rfl⟩
  rw [← hGB] at RC10 ⊢
  clear hGB
  go_wp2_with fail
  refine (public22_any k8 w10 (by omega)).mono ?_
  rintro e w11 ⟨p, HP, hp, rfl, rfl⟩
  have q11 := Lib.hid (RB10.out.load hBo1.out A HAE.out)
  have q12 := Lib.hid (RC10.out.load hCo.out B HBE.out)
  have hbb := fun W => rc_build2 x1 x2 hBo1.out hCo.out W
  rw [← HAE.out, ← HBE.out] at hbb
  have HBB := Lib.hid hbb
  clear hbb
  have L12 : Hid (RcsAt (w10.alloc (.cells (rcV x1 ++ rcV x2).toArray 33)) w10.heap.size [x1, x2]) := by
    show _ = _
    rw [show rcVals [x1, x2] = rcV x1 ++ rcV x2 by simp [rcVals]]
    exact heap_alloc_new _ _
  have u12 := u10.alloc (.cells (rcV x1 ++ rcV x2).toArray 33)
  have RA12 := Lib.hid (RA10.out.upd ((Upd.refl [] w10).alloc (.cells (rcV x1 ++ rcV x2).toArray 33)))
  obtain ⟨w12, hw12⟩ : ∃ w12, w10.alloc (.cells (rcV x1 ++ rcV x2).toArray 33) = w12 := ⟨_, rfl⟩
  have HW12 := Lib.hid hw12
  rw [hw12] at L12 u12 RA12
  clear hw12
  go_wp2_with (first | (refine wpList_load_atW (by rfl) 33 _ rfl GA 0 rfl A q11.out ?_) | (refine wpList_load_atW (by rfl) 33 _ rfl GB 0 rfl B q12.out ?_) | (refine wpList_buildRun rfl 44 2 _ rfl _ _ (Eq.trans (congrArg (fun z => (Instr.buildSlice 44 2 z).run Tryz.prog w10) (by kernel_rfl)) (HBB.out _)) ?_))
  rw [HW12.out]
  obtain ⟨Bk, hBk⟩ : ∃ Bk, Bk = w10.heap.size := ⟨_, rfl⟩
  rw [← hBk] at L12 ⊢
  have HLO : Hid (∀ x ∈ [x1, x2], Rc.ok x ∧ x.draw.size ≤ 102) := by
    intro x hx
    simp only [List.mem_cons, List.not_mem_nil, or_false] at hx
    rcases hx with rfl | rfl
    · exact ⟨hBo1.out, by omega⟩
    · exact ⟨hCo.out, hCd⟩
  clear hBk HW12 q11 q12 HBB RB10 RC10 u10 RA10 HAE HBE HAI HAO HAZ HBI HBO HBZ
  have L12H : Hid (RcsAt w12 Bk [x1, x2] ∧ RcAt w12 G (fmR F) ∧ Upd [] [] w w12) := ⟨L12.out, RA12.out, u12⟩
  clear L12 RA12 u12
  obtain ⟨LL, hLL⟩ : ∃ LL, LL = [x1, x2] := ⟨_, rfl⟩
  rw [← hLL] at HLO L12H
  have HLL : Hid (LL.length = 2) := by show _ = _; rw [hLL]; rfl
  clear hLL
  go_loopw [15, 42] (fun _ i wr => ∃ j : Nat, i = .int .i64 (j : Int) ∧ j ≤ 2 ∧ Hid (RcsAt wr Bk LL ∧ RcAt wr G (fmR F) ∧ Upd [] [] w wr)) (fun _ i _ => 2 - (intOf i).toNat)
  case atStart => exact ⟨0, rfl, by omega, L12H⟩
  case round =>
    obtain ⟨j, rfl, hj, HI⟩ := hrel
    by_cases hlt : j < 2
    · obtain ⟨x, hx⟩ : ∃ x, LL[j]? = some x := ⟨_, List.getElem?_eq_getElem (by rw [HLL.out]; exact hlt)⟩
      have hxo := Lib.hid (HLO.out x (List.mem_of_getElem? hx)).1
      have hxd := (HLO.out x (List.mem_of_getElem? hx)).2
      obtain ⟨C, hC⟩ : ∃ C, C = (rcV x).toArray := ⟨_, rfl⟩
      have HCE := Lib.hid hC
      have qj := Lib.hid (HI.out.1.load (fun y hy => (HLO.out y hy).1) hx C hC (j * 102) rfl)
      obtain ⟨HCI, HCO, HCZ⟩ := rcLet hxo.out C hC
      obtain ⟨wA, HZA, HWA, HRA, hqA⟩ := blk_new wr 33 Tryz.zeroCells33 C
      have RXA : Hid (RcAt wA wr.heap.size x) := by have := HRA.out; rw [HCE.out] at this; exact this
      have IA : Hid (RcsAt wA Bk LL ∧ RcAt wA G (fmR F) ∧ Upd [] [] w wA) := ⟨HI.out.1.upd hqA, HI.out.2.1.upd hqA, HI.out.2.2.trans hqA⟩
      have i0 : (0 : Int) ≤ (j : Int) := by omega
      have i1 : (j : Int) < 2 := by omega
      clear hx hC HI HRA hqA
      go_upto_region 11 with (first | (refine wpList_load_atW (by rfl) 33 _ rfl Bk (j * 102) rfl C qj.out ?_) | (refine wpList_store_rowAs rfl 33 _ _ rfl wr.heap.size C rfl rfl _ _ HZA.out HCI.out HCZ.out HCO.out wA HWA.out ?_))
      clear HZA HWA qj HCI HCO HCZ
      obtain ⟨GX, hGX⟩ : ∃ GX, GX = wr.heap.size := ⟨_, rfl⟩
      rw [← hGX] at RXA ⊢
      clear hGX
      have HK : Hid (∀ W : World, RcAt W GX x → (Instr.loadAt 33 (.pointer (some ⟨GX, 0, none⟩))).run Tryz.prog W = .ok (.agg C) W) := fun W h => h.load hxo.out C HCE.out
      have HV := Lib.hid (fun (p : Int) (v : Bool) (hp : i64in p) (h : verB p (bodyL x) x.r x.s = v) W hW => verify22_is p x v hp hxo.out (by omega) h W hW)
      have HR := Lib.hid (fun (p : Int) (v : Bool) (hp : i64in p) (h : verB p (bodyL x) x.r x.s = v) W => rverify22_is p x v hp hxo.out (by omega) h W)
      rw [← HCE.out] at HV HR
      have I0 : Hid (RcsAt wA.drew Bk LL ∧ RcAt wA.drew G (fmR F) ∧ Upd [] [] w wA.drew) := ⟨IA.out.1.upd (Upd.refl _ _).drew, IA.out.2.1.upd (Upd.refl _ _).drew, IA.out.2.2.drew⟩
      have X0 := Lib.hid (RXA.out.upd (Upd.refl [] wA).drew)
      have wk1 : IntKind.i64.wrap (k8 + 1) = k8 + 1 := IntWalk.i64_in _ (by omega)
      obtain ⟨v1, hv1⟩ : ∃ v1, verB (p : Int) (bodyL x) x.r x.s = v1 := ⟨_, rfl⟩
      have HV1 := Lib.hid hv1
      clear hv1 IA RXA HCE
      refine wp_region_noPanic ?_
      refine wp_region_held_drew (S := fun wp => (Instr.loadAt 33 (.pointer (some ⟨GX, 0, none⟩))).run Tryz.prog wp = .ok (.agg C) wp) (by kernel_rfl) ?_ (fun hHeld => ?_)
      · exact HK.out _ X0.out
      refine wpAnyH_take (i := 0) (v := ?v1) (by simp only [List.getElem?_toArray, List.getElem?_cons_zero] <;> rfl) (by kernel_rfl) (by kernel_rfl) (by kernel_rfl) (fun _ _ _ h => h) (Or.inl ⟨by rfl, ?y1⟩) hHeld ?r1
      case y1 => (intro w hSw; (try dsimp only at hSw); go_simp; first | done | with_reducible rfl | rfl)
      try simp only [Act.put, List.setIfInBounds_toArray, List.set_cons_zero, List.set_cons_succ]
      refine wpAnyH_take (i := 1) (v := .agg C) (by simp only [List.getElem?_toArray, List.getElem?_cons_succ, List.getElem?_cons_zero] <;> rfl) (by kernel_rfl) (by kernel_rfl) (by kernel_rfl) (fun _ _ _ h => h) (yieldsIf_loadW (by rfl) _ _ rfl _ rfl C (fun w hSw => hSw)) hHeld ?_
      try simp only [Act.put, List.setIfInBounds_toArray, List.set_cons_zero, List.set_cons_succ]
      refine wpAnyH_take (i := 3) (v := ?v2) (by simp only [List.getElem?_toArray, List.getElem?_cons_succ, List.getElem?_cons_zero] <;> rfl) (by kernel_rfl) (by kernel_rfl) (by kernel_rfl) (fun _ _ _ h => h) (Or.inl ⟨by rfl, ?y2⟩) hHeld ?r2
      case y2 => (intro w hSw; (try dsimp only at hSw); go_simp; first | done | with_reducible rfl | rfl)
      try simp only [Act.put, List.setIfInBounds_toArray, List.set_cons_zero, List.set_cons_succ]
      refine wpAnyH_take (i := 4) (v := .agg C) (by simp only [List.getElem?_toArray, List.getElem?_cons_succ, List.getElem?_cons_zero] <;> rfl) (by kernel_rfl) (by kernel_rfl) (by kernel_rfl) (fun _ _ _ h => h) (yieldsIf_loadW (by rfl) _ _ rfl _ rfl C (fun w hSw => hSw)) hHeld ?_
      try simp only [Act.put, List.setIfInBounds_toArray, List.set_cons_zero, List.set_cons_succ]
      refine wpAnyH_ready (rs := [2]) (by kernel_rfl) (by simp) ?_
      refine AllReadyH.cons (by simp only [List.getElem?_toArray, List.getElem?_cons_succ, List.getElem?_cons_zero] <;> rfl) (fun K hK => ?_) ?_
      · go_simp; refine (HV.out (p : Int) v1 ⟨by omega, by omega⟩ HV1.out _ (htab.upd I0.out.2.2)).mono ?_; rintro e wq1 ⟨rfl, hq⟩; have I1 : Hid (RcsAt wq1 Bk LL ∧ RcAt wq1 G (fmR F) ∧ Upd [] [] w wq1) := ⟨I0.out.1.upd hq, I0.out.2.1.upd hq, I0.out.2.2.trans hq⟩; have X1 := Lib.hid (X0.out.upd hq); clear hq; go_wp2_with fail
        refine hK.out _ _ ?_ (fun hHeld => ?_)
        · exact HK.out _ X1.out
        clear hK K
        try simp only [Act.put, List.setIfInBounds_toArray, List.set_cons_zero, List.set_cons_succ]
        refine wpAnyH_ready (rs := [5]) (by kernel_rfl) (by simp) ?_
        refine AllReadyH.cons (by simp only [List.getElem?_toArray, List.getElem?_cons_succ, List.getElem?_cons_zero] <;> rfl) (fun K hK => ?_) ?_
        · go_simp; refine (HR.out (p : Int) v1 ⟨by omega, by omega⟩ HV1.out _).mono ?_; rintro e wq2 ⟨rfl, hq⟩; have I2 : Hid (RcsAt wq2 Bk LL ∧ RcAt wq2 G (fmR F) ∧ Upd [] [] w wq2) := ⟨I1.out.1.upd hq, I1.out.2.1.upd hq, I1.out.2.2.trans hq⟩; have X2 := Lib.hid (X1.out.upd hq); clear hq; go_wp2_with fail
          refine hK.out _ _ ?_ (fun hHeld => ?_)
          · exact HK.out _ X2.out
          clear hK K
          try simp only [Act.put, List.setIfInBounds_toArray, List.set_cons_zero, List.set_cons_succ]
          refine wpAnyH_take (i := 6) (v := ?v3) (by simp only [List.getElem?_toArray, List.getElem?_cons_succ, List.getElem?_cons_zero] <;> rfl) (by kernel_rfl) (by kernel_rfl) (by kernel_rfl) (fun _ _ _ h => h) (Or.inl ⟨by rfl, ?y3⟩) hHeld ?r3
          case y3 => (intro w hSw; (try dsimp only at hSw); go_simp; first | done | with_reducible rfl | rfl)
          try simp only [Act.put, List.setIfInBounds_toArray, List.set_cons_zero, List.set_cons_succ]
          refine wpAnyH_take (i := 7) (v := ?v4) (by simp only [List.getElem?_toArray, List.getElem?_cons_succ, List.getElem?_cons_zero] <;> rfl) (by kernel_rfl) (by kernel_rfl) (by kernel_rfl) (fun _ _ _ h => h) (Or.inl ⟨by rfl, ?y4⟩) hHeld ?r4
          case y4 => (intro w hSw; (try dsimp only at hSw); go_simp; first | done | with_reducible rfl | rfl)
          try simp only [Act.put, List.setIfInBounds_toArray, List.set_cons_zero, List.set_cons_succ]
          refine wpAnyH_take (i := 8) (v := ?v5) (by simp only [List.getElem?_toArray, List.getElem?_cons_succ, List.getElem?_cons_zero] <;> rfl) (by kernel_rfl) (by kernel_rfl) (by kernel_rfl) (fun _ _ _ h => h) (Or.inl ⟨by rfl, ?y5⟩) hHeld ?r5
          case y5 => (intro w hSw; (try dsimp only at hSw); go_simp; first | done | with_reducible rfl | rfl)
          try simp only [Act.put, List.setIfInBounds_toArray, List.set_cons_zero, List.set_cons_succ]
          refine wpAnyH_take (i := 9) (v := ?v6) (by simp only [List.getElem?_toArray, List.getElem?_cons_succ, List.getElem?_cons_zero] <;> rfl) (by kernel_rfl) (by kernel_rfl) (by kernel_rfl) (fun _ _ _ h => h) (Or.inl ⟨by rfl, ?y6⟩) hHeld ?r6
          case y6 => (intro w hSw; (try dsimp only at hSw); go_simp; first | done | with_reducible rfl | rfl)
          try simp only [Act.put, List.setIfInBounds_toArray, List.set_cons_zero, List.set_cons_succ]
          refine wpAnyH_take (i := 11) (v := .agg C) (by simp only [List.getElem?_toArray, List.getElem?_cons_succ, List.getElem?_cons_zero] <;> rfl) (by kernel_rfl) (by kernel_rfl) (by kernel_rfl) (fun _ _ _ h => h) (yieldsIf_loadW (by rfl) _ _ rfl _ rfl C (fun w hSw => hSw)) hHeld ?_
          try simp only [Act.put, List.setIfInBounds_toArray, List.set_cons_zero, List.set_cons_succ]
          refine wpAnyH_take (i := 13) (v := ?v7) (by simp only [List.getElem?_toArray, List.getElem?_cons_succ, List.getElem?_cons_zero] <;> rfl) (by kernel_rfl) (by kernel_rfl) (by kernel_rfl) (fun _ _ _ h => h) (Or.inl ⟨by rfl, ?y7⟩) hHeld ?r7
          case y7 => (intro w hSw; (try dsimp only at hSw); go_simp; first | done | with_reducible rfl | rfl)
          try simp only [Act.put, List.setIfInBounds_toArray, List.set_cons_zero, List.set_cons_succ]
          refine wpAnyH_take (i := 14) (v := ?v8) (by simp only [List.getElem?_toArray, List.getElem?_cons_succ, List.getElem?_cons_zero] <;> rfl) (by kernel_rfl) (by kernel_rfl) (by kernel_rfl) (fun _ _ _ h => h) (Or.inl ⟨by rfl, ?y8⟩) hHeld ?r8
          case y8 => (intro w hSw; (try dsimp only at hSw); go_simp; first | done | with_reducible rfl | rfl)
          try simp only [Act.put, List.setIfInBounds_toArray, List.set_cons_zero, List.set_cons_succ]
          refine wpAnyH_take (i := 16) (v := .agg C) (by simp only [List.getElem?_toArray, List.getElem?_cons_succ, List.getElem?_cons_zero] <;> rfl) (by kernel_rfl) (by kernel_rfl) (by kernel_rfl) (fun _ _ _ h => h) (yieldsIf_loadW (by rfl) _ _ rfl _ rfl C (fun w hSw => hSw)) hHeld ?_
          try simp only [Act.put, List.setIfInBounds_toArray, List.set_cons_zero, List.set_cons_succ]
          refine wpAnyH_ready (rs := [10]) (by kernel_rfl) (by simp) ?_
          refine AllReadyH.cons (by simp only [List.getElem?_toArray, List.getElem?_cons_succ, List.getElem?_cons_zero] <;> rfl) (fun K hK => ?_) ?_
          · go_simp; refine (public22_any (k8 + 1) _ (by omega)).mono ?_; rintro e wq3 ⟨p2, HP2, hp2, rfl, rfl⟩; obtain ⟨v2, hv2⟩ : ∃ v2, verB (p2 : Int) (bodyL x) x.r x.s = v2 := ⟨_, rfl⟩; have HV2 := Lib.hid hv2; clear hv2; go_wp2_with fail
            refine hK.out _ _ ?_ (fun hHeld => ?_)
            · exact HK.out _ X2.out
            clear hK K
            try simp only [Act.put, List.setIfInBounds_toArray, List.set_cons_zero, List.set_cons_succ]
            refine wpAnyH_ready (rs := [12]) (by kernel_rfl) (by simp) ?_
            refine AllReadyH.cons (by simp only [List.getElem?_toArray, List.getElem?_cons_succ, List.getElem?_cons_zero] <;> rfl) (fun K hK => ?_) ?_
            · go_simp; refine (HV.out (p2 : Int) v2 ⟨by omega, by omega⟩ HV2.out _ (htab.upd I2.out.2.2)).mono ?_; rintro e wq3 ⟨rfl, hq⟩; have I3 : Hid (RcsAt wq3 Bk LL ∧ RcAt wq3 G (fmR F) ∧ Upd [] [] w wq3) := ⟨I2.out.1.upd hq, I2.out.2.1.upd hq, I2.out.2.2.trans hq⟩; have X3 := Lib.hid (X2.out.upd hq); clear hq; go_wp2_with fail
              refine hK.out _ _ ?_ (fun hHeld => ?_)
              · exact HK.out _ X3.out
              clear hK K
              try simp only [Act.put, List.setIfInBounds_toArray, List.set_cons_zero, List.set_cons_succ]
              refine wpAnyH_ready (rs := [15]) (by kernel_rfl) (by simp) ?_
              refine AllReadyH.cons (by simp only [List.getElem?_toArray, List.getElem?_cons_succ, List.getElem?_cons_zero] <;> rfl) (fun K hK => ?_) ?_
              · go_simp; refine (public22_any (k8 + 1) _ (by omega)).mono ?_; rintro e wq4 ⟨p3, HP3, hp3, rfl, rfl⟩; obtain rfl : p2 = p3 := by rw [HP2.out, HP3.out]; go_wp2_with fail
                refine hK.out _ _ ?_ (fun hHeld => ?_)
                · exact HK.out _ X3.out
                clear hK K
                try simp only [Act.put, List.setIfInBounds_toArray, List.set_cons_zero, List.set_cons_succ]
                refine wpAnyH_ready (rs := [17]) (by kernel_rfl) (by simp) ?_
                refine AllReadyH.cons (by simp only [List.getElem?_toArray, List.getElem?_cons_succ, List.getElem?_cons_zero] <;> rfl) (fun K hK => ?_) ?_
                · go_simp; refine (HR.out (p2 : Int) v2 ⟨by omega, by omega⟩ HV2.out _).mono ?_; rintro e wq4 ⟨rfl, hq⟩; have I4 : Hid (RcsAt wq4 Bk LL ∧ RcAt wq4 G (fmR F) ∧ Upd [] [] w wq4) := ⟨I3.out.1.upd hq, I3.out.2.1.upd hq, I3.out.2.2.trans hq⟩; have X4 := Lib.hid (X3.out.upd hq); clear hq; go_wp2_with fail
                  refine hK.out _ _ ?_ (fun hHeld => ?_)
                  · exact HK.out _ X4.out
                  clear hK K
                  try simp only [Act.put, List.setIfInBounds_toArray, List.set_cons_zero, List.set_cons_succ]
                  refine wpAnyH_take (i := 18) (v := ?v9) (by simp only [List.getElem?_toArray, List.getElem?_cons_succ, List.getElem?_cons_zero] <;> rfl) (by kernel_rfl) (by kernel_rfl) (by kernel_rfl) (fun _ _ _ h => h) (Or.inl ⟨by rfl, ?y9⟩) hHeld ?r9
                  case y9 => (intro w hSw; (try dsimp only at hSw); go_simp; first | done | with_reducible rfl | rfl)
                  try simp only [Act.put, List.setIfInBounds_toArray, List.set_cons_zero, List.set_cons_succ]
                  refine wpAnyH_take (i := 19) (v := ?v10) (by simp only [List.getElem?_toArray, List.getElem?_cons_succ, List.getElem?_cons_zero] <;> rfl) (by kernel_rfl) (by kernel_rfl) (by kernel_rfl) (fun _ _ _ h => h) (Or.inl ⟨by rfl, ?y10⟩) hHeld ?r10
                  case y10 => (intro w hSw; (try dsimp only at hSw); go_simp; first | done | with_reducible rfl | rfl)
                  try simp only [Act.put, List.setIfInBounds_toArray, List.set_cons_zero, List.set_cons_succ]
                  refine wpAnyH_done (by kernel_rfl) ?_ _
                  refine NoPanic.normal ?_
                  go_wp2_with fail
                  exact ⟨⟨j + 1, by go_num, by omega, I4⟩, by simp [intOf]; omega⟩
                exact AllReadyH.nil
              exact AllReadyH.nil
            exact AllReadyH.nil
          exact AllReadyH.nil
        exact AllReadyH.nil
      exact AllReadyH.nil
    · obtain rfl : j = 2 := by omega
      have RL := Lib.hid (HI.out.2.1.load hRo.out R HRE.out)
      have HV := Lib.hid (fun (p : Int) (hp : i64in p) (h : verB p (bodyL (fmR F)) (fmR F).r (fmR F).s = true) W hW => verify22_is p (fmR F) true hp hRo.out (by omega) h W hW)
      rw [← HRE.out] at HV
      clear hlt hj
      go_wp2_with (first | (refine wpList_load_atW (by rfl) 33 _ rfl G 0 rfl R RL.out ?_))
      refine (HV.out (p : Int) ⟨by omega, by omega⟩ (by rw [HP.out, ← HX.out, ← HFX.out]; exact printR_ver _ _ _ _ _ _ _ _) _ (htab.upd HI.out.2.2)).mono ?_
      rintro e wz ⟨rfl, hq⟩
      have uz := HI.out.2.2.trans hq
      clear hq
      go_wp2_with fail
      go_ret
      exact ⟨rfl, uz⟩
end Go.Proofs.YtmnmhhbldbdpfaaGreatDoor
