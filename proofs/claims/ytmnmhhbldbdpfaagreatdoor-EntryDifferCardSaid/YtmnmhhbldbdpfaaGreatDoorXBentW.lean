/- sortesref22.Bent: the walk. -/
import Derived.Test.YtmnmhhbldbdpfaaGreatDoorXBent
namespace Go.Proofs.YtmnmhhbldbdpfaaGreatDoor
open Go.RowKit
set_option maxRecDepth 100000

theorem rcV_tail (x : Rc) (r s : Int) : rcV { x with r := r, s := s } = ([.int .i64 x.kiosk, .int .i64 x.serial, .string x.draw, .int .i64 x.seen] ++ byteVals x.out ++ byteVals x.hash ++ byteVals x.prev) ++ ([.int .i64 r, .int .i64 s] ++ []) := by simp [rcV]
theorem RcAt.sigOne {w : World} {g : Nat} {x : Rc} (h : RcAt w g x) (hx : x.ok) (z : Int) : RcAt (w.setCell ⟨g, 100, none⟩ (.int .i64 z)) g { x with r := z } ∧ RcAt (w.setCell ⟨g, 101, none⟩ (.int .i64 z)) g { x with s := z } := by
  obtain ⟨_, _, _, h1, h2, h3, _⟩ := hx
  have hl : ([.int .i64 x.kiosk, .int .i64 x.serial, .string x.draw, .int .i64 x.seen] ++ byteVals x.out ++ byteVals x.hash ++ byteVals x.prev : List Value).length = 100 := by simp [byteVals_length, h1, h2, h3]
  have e0 := rcV_tail x x.r x.s
  rw [show ({ x with r := x.r, s := x.s } : Rc) = x from rfl] at e0
  constructor
  · have hs := heap_setCell_same w g (100 + 0) _ _ (.int .i64 z) h
    unfold RcAt
    rw [hs, List.setIfInBounds_toArray, e0, show ({ x with r := z } : Rc) = { x with r := z, s := x.s } from rfl, rcV_tail, set_mid _ _ _ 100 0 _ hl (by simp)]
    rfl
  · have hs := heap_setCell_same w g (100 + 1) _ _ (.int .i64 z) h
    unfold RcAt
    rw [hs, List.setIfInBounds_toArray, e0, show ({ x with s := z } : Rc) = { x with r := x.r, s := z } from rfl, rcV_tail, set_mid _ _ _ 100 1 _ hl (by simp)]
    rfl
set_option maxHeartbeats 1000000 in
theorem bent_any (x : Rc) (a n : Int) (hx : x.ok) (hd : x.draw.size ≤ 1000000000) (_ha : i64in a) (_hn : i64in n) (w : World) :
    Calls Tryz.prog 22 #[.agg (rcV x).toArray, .agg #[.int .i64 a, .int .i64 n]] w (Mk (.agg (rcV (bentR x a n)).toArray) w) := by
  obtain ⟨C, hC⟩ : ∃ C, C = (rcV x).toArray := ⟨_, rfl⟩
  have b0 := two_box w 33 C
  have b1 := two_box (w.alloc (.cells C 33)) 52 #[.int .i64 a, .int .i64 n]
  have b2 := two_box ((w.alloc (.cells C 33)).alloc (.cells #[.int .i64 a, .int .i64 n] 52)) 33 Tryz.zeroCells33
  have b01 := row_updH b0 (((Upd.refl [] _).alloc (.cells #[.int .i64 a, .int .i64 n] 52)).alloc (.cells Tryz.zeroCells33 33))
  have b11 := row_updH b1 ((Upd.refl [] _).alloc (.cells Tryz.zeroCells33 33))
  rw [World.size_alloc] at b11
  rw [World.size_alloc, World.size_alloc] at b2
  have u3 : Upd [] [] w (((w.alloc (.cells C 33)).alloc (.cells #[.int .i64 a, .int .i64 n] 52)).alloc (.cells Tryz.zeroCells33 33)) := (((Upd.refl _ _).alloc _).alloc _).alloc _
  have hs3 : (((w.alloc (.cells C 33)).alloc (.cells #[.int .i64 a, .int .i64 n] 52)).alloc (.cells Tryz.zeroCells33 33)).heap.size = w.heap.size + 1 + 1 + 1 := by rw [World.size_alloc, World.size_alloc, World.size_alloc]
  obtain ⟨w3, hw3⟩ : ∃ w3, (((w.alloc (.cells C 33)).alloc (.cells #[.int .i64 a, .int .i64 n] 52)).alloc (.cells Tryz.zeroCells33 33)) = w3 := ⟨_, rfl⟩
  rw [hw3] at b01 b11 b2 u3 hs3
  have hr : RcAt w3 w.heap.size x := by rw [hC] at b01; exact b01
  have HLD := Lib.hid (hr.load hx C hC)
  obtain ⟨w5, HZ4, HW5, HR5, hq5⟩ := blk_new w3 33 Tryz.zeroCells33 C
  obtain ⟨HCI, HCO, HCZ⟩ := rcLet hx C hC
  have r5 : RcAt w5 w3.heap.size x := by
    have := HR5.out
    rw [hC] at this
    exact this
  have R5 := Lib.hid r5
  have Q5 := row_updH b11 hq5
  have B5 := Lib.hid (row_updH b2 hq5)
  have u5 := u3.trans hq5
  have c0 : w5.cell? ⟨w.heap.size + 1, 0, none⟩ = some (.int .i64 a) := by rw [cell_of_row _ _ _ _ _ _ Q5]; rfl
  have c1 : w5.cell? ⟨w.heap.size + 1, 1, none⟩ = some (.int .i64 n) := by rw [cell_of_row _ _ _ _ _ _ Q5]; rfl
  have HS3 := Lib.hid hs3
  have HW3 := Lib.hid hw3
  rw [← hC]
  clear b0 b1 b01 b11 b2 hs3 hw3 hr hC hq5 r5 HR5 u3
  go_enter Tryz.func22, Tryz.ntmps22
  go_upto_region 1 with (fail)
  rw [HW3.out]
  go_wp2_with (first | (refine wpList_load_atW (by rfl) 33 _ rfl w.heap.size 0 rfl C HLD.out ?_) | (refine wpList_store_rowAs rfl 33 _ _ rfl w3.heap.size C rfl rfl _ _ HZ4.out HCI.out HCZ.out HCO.out w5 HW5.out ?_))
  refine (mod_any a 9 w5 (by omega)).mono ?_
  rintro e w6 ⟨c, HC9, hc9, rfl, rfl⟩
  clear c0 HLD HZ4 HW5
  rw [HS3.out]
  rw [HS3.out] at R5
  have u6 := Lib.hid u5
  clear u5 HS3 HW3
  obtain ⟨G, hG⟩ : ∃ G, G = w.heap.size + 1 + 1 + 1 := ⟨_, rfl⟩
  obtain ⟨G2, hG2⟩ : ∃ G2, G2 = w.heap.size + 1 + 1 := ⟨_, rfl⟩
  rw [← hG] at R5 ⊢
  rw [← hG2] at B5 ⊢
  have hGG : G2 ≠ G := by omega
  have hwG : w.heap.size ≤ G := by omega
  have hwG2 : w.heap.size ≤ G2 := by omega
  clear hG hG2
  have FIN : Hid (∀ (y : Rc) (W : World), y.ok → RcAt W G y → W.heap[G2]? = some (.cells Tryz.zeroCells33 33 (0, 0)) → Upd [] [] w W → ∃ (D : Array Value) (W2 : World), Hid (D = (rcV y).toArray) ∧ Hid ((Instr.loadAt 33 (.pointer (some ⟨G, 0, none⟩))).run Tryz.prog W = .ok (.agg D) W) ∧ Hid ((Tryz.prog.info? 33).map (·.size) = some D.size) ∧ Hid (D.all (·.oneCell') = true) ∧ Hid ((Tryz.zeroCells33).size = D.size) ∧ Hid (W.setRow G2 D = W2) ∧ Hid (W2.heap[G2]? = some (.cells D 33 (0, 0))) ∧ Hid (W.heap[G2]? = some (.cells Tryz.zeroCells33 33 (0, 0))) ∧ Upd [] [] w W2) := by
    intro y W hy h1 h2 h3
    obtain ⟨e1, e2, e3⟩ := rcLet hy _ rfl
    exact ⟨_, _, rfl, h1.load hy _ rfl, e1, e2, e3, rfl, setRow_heap _ _ _ _ _ _ h2, h2, h3.setRowNew hwG2 _⟩
  have hb : bentR x a n = bentC x (c : Int) n := by unfold bentR; rw [← HC9.out]
  have HB := Lib.hid hb
  clear hb HC9
  obtain rfl | rfl | rfl | rfl | rfl | rfl | rfl | rfl | rfl : c = 0 ∨ c = 1 ∨ c = 2 ∨ c = 3 ∨ c = 4 ∨ c = 5 ∨ c = 6 ∨ c = 7 ∨ c = 8 := by omega
  · have hb := bentC_ok hx 0 n
    have r7 := R5.out.kiosk (wrap64 (x.kiosk + n))
    obtain ⟨D, W2, HD, HL, D1, D2, D3, HW, HF, HZ, hu⟩ := FIN.out { x with kiosk := wrap64 (x.kiosk + n) } _ hb r7 (row_otherE B5.out hGG _) (u6.out.setNew (p := ⟨G, 0, none⟩) hwG _)
    have k0 := R5.out.head.1
    have f0 := R5.out.frozen 0
    clear r7 FIN
    go_wp2_with (first | (refine wpList_load_atW (by rfl) 33 _ rfl G 0 rfl D HL.out ?_) | (refine wpList_store_rowAs rfl 33 _ _ rfl G2 D rfl rfl _ _ HZ.out D1.out D3.out D2.out W2 HW.out ?_))
    refine bodyPost_ret (results_cell_row rfl _ _ G2 _ D _ _ rfl HF.out Tryz.underlying33 rfl D1.out) rfl ⟨by rw [HD.out, HB.out]; rfl, hu⟩
  · have hb := bentC_ok hx 1 n
    have r7 := R5.out.serial (wrap64 (x.serial + n))
    obtain ⟨D, W2, HD, HL, D1, D2, D3, HW, HF, HZ, hu⟩ := FIN.out { x with serial := wrap64 (x.serial + n) } _ hb r7 (row_otherE B5.out hGG _) (u6.out.setNew (p := ⟨G, 1, none⟩) hwG _)
    have k0 := R5.out.head.2.1
    have f0 := R5.out.frozen 1
    clear r7 FIN
    go_wp2_with (first | (refine wpList_load_atW (by rfl) 33 _ rfl G 0 rfl D HL.out ?_) | (refine wpList_store_rowAs rfl 33 _ _ rfl G2 D rfl rfl _ _ HZ.out D1.out D3.out D2.out W2 HW.out ?_))
    refine bodyPost_ret (results_cell_row rfl _ _ G2 _ D _ _ rfl HF.out Tryz.underlying33 rfl D1.out) rfl ⟨by rw [HD.out, HB.out]; rfl, hu⟩
  · have hb := bentC_ok hx 2 n
    have r7 := R5.out.draw (x.draw ++ ByteArray.mk #[120])
    obtain ⟨D, W2, HD, HL, D1, D2, D3, HW, HF, HZ, hu⟩ := FIN.out { x with draw := x.draw ++ ByteArray.mk #[120] } _ hb r7 (row_otherE B5.out hGG _) (u6.out.setNew (p := ⟨G, 2, none⟩) hwG _)
    have k0 := R5.out.head.2.2.1
    have f0 := R5.out.frozen 2
    clear r7 FIN
    have s1 : ¬ 9223372036854775807 < x.draw.size + 1 := by omega
    go_wp2_with (first | (refine wpList_load_atW (by rfl) 33 _ rfl G 0 rfl D HL.out ?_) | (refine wpList_store_rowAs rfl 33 _ _ rfl G2 D rfl rfl _ _ HZ.out D1.out D3.out D2.out W2 HW.out ?_))
    refine bodyPost_ret (results_cell_row rfl _ _ G2 _ D _ _ rfl HF.out Tryz.underlying33 rfl D1.out) rfl ⟨by rw [HD.out, HB.out]; rfl, hu⟩
  · have hb := bentC_ok hx 3 n
    have r7 := R5.out.seen (wrap64 (x.seen + n))
    obtain ⟨D, W2, HD, HL, D1, D2, D3, HW, HF, HZ, hu⟩ := FIN.out { x with seen := wrap64 (x.seen + n) } _ hb r7 (row_otherE B5.out hGG _) (u6.out.setNew (p := ⟨G, 3, none⟩) hwG _)
    have k0 := R5.out.head.2.2.2
    have f0 := R5.out.frozen 3
    clear r7 FIN
    go_wp2_with (first | (refine wpList_load_atW (by rfl) 33 _ rfl G 0 rfl D HL.out ?_) | (refine wpList_store_rowAs rfl 33 _ _ rfl G2 D rfl rfl _ _ HZ.out D1.out D3.out D2.out W2 HW.out ?_))
    refine bodyPost_ret (results_cell_row rfl _ _ G2 _ D _ _ rfl HF.out Tryz.underlying33 rfl D1.out) rfl ⟨by rw [HD.out, HB.out]; rfl, hu⟩
  · have hb := bentC_ok hx 4 n
    have R6 := R5
    have m32 := mod_any n 32 w6 (by omega)
    obtain ⟨j, hj, hjm⟩ : ∃ j : Nat, (j : Int) = n % 32 ∧ j < 32 := ⟨(n % 32).toNat, by omega, by omega⟩
    have hbj : bentC x 4 n = { x with out := flip x.out j } := by
      unfold bentC
      simp only [show ((4 : Int) = 0) = False from by simp, if_false]
      rw [← hj, Int.toNat_natCast]
      rfl
    rw [hbj] at hb
    have r7 := (RcAt.flips R5.out hx hjm).1
    have hl := (R5.out.ranges hx).1
    have k0 := hashCell 4 x.out hl (j := j) (by rw [hx.2.2.2.1]; exact hjm)
    obtain ⟨b, hbb⟩ : ∃ b, b = x.out.getD j 0 := ⟨_, rfl⟩
    obtain ⟨b', hbb'⟩ : ∃ b', b' = b ^^^ 1 := ⟨_, rfl⟩
    have xb := xor_byte b
    rw [← hbb'] at xb
    rw [← hbb] at k0
    rw [← hbb, ← hbb'] at r7
    obtain ⟨D, W2, HD, HL, D1, D2, D3, HW, HF, HZ, hu⟩ := FIN.out { x with out := flip x.out j } _ hb r7 (row_otherE B5.out hGG _) (u6.out.setNew (p := ⟨G, 4 + j, none⟩) hwG _)
    have f0 := R5.out.frozen (4 + j)
    have HBJ : Hid (bentR x a n = { x with out := flip x.out j }) := HB.out.trans hbj
    have i0 : (0 : Int) ≤ (j : Int) := by omega
    have i1 : (j : Int) < 32 := by omega
    have HJ := Lib.hid hj
    clear r7 FIN hl hbj HB hj hbb hbb'
    go_wp2_with fail
    refine m32.mono ?_
    rintro e w7 ⟨j', HJ', hj', rfl, rfl⟩
    obtain rfl : j' = j := by have h1 := HJ.out; have h2 := HJ'.out; omega
    clear HJ HJ' m32
    go_wp2_with (first | (refine wpList_load_atW (by rfl) 33 _ rfl G 0 rfl D HL.out ?_) | (refine wpList_store_rowAs rfl 33 _ _ rfl G2 D rfl rfl _ _ HZ.out D1.out D3.out D2.out W2 HW.out ?_))
    refine bodyPost_ret (results_cell_row rfl _ _ G2 _ D _ _ rfl HF.out Tryz.underlying33 rfl D1.out) rfl ⟨by rw [HD.out, HBJ.out], hu⟩
  · have hb := bentC_ok hx 5 n
    have R6 := R5
    have m32 := mod_any n 32 w6 (by omega)
    obtain ⟨j, hj, hjm⟩ : ∃ j : Nat, (j : Int) = n % 32 ∧ j < 32 := ⟨(n % 32).toNat, by omega, by omega⟩
    have hbj : bentC x 5 n = { x with hash := flip x.hash j } := by
      unfold bentC
      simp only [show ((5 : Int) = 0) = False from by simp, if_false]
      rw [← hj, Int.toNat_natCast]
      rfl
    rw [hbj] at hb
    have r7 := (RcAt.flips R5.out hx hjm).2.1
    have hl := (R5.out.ranges hx).2.1
    have k0 := hashCell 36 x.hash hl (j := j) (by rw [hx.2.2.2.2.1]; exact hjm)
    obtain ⟨b, hbb⟩ : ∃ b, b = x.hash.getD j 0 := ⟨_, rfl⟩
    obtain ⟨b', hbb'⟩ : ∃ b', b' = b ^^^ 1 := ⟨_, rfl⟩
    have xb := xor_byte b
    rw [← hbb'] at xb
    rw [← hbb] at k0
    rw [← hbb, ← hbb'] at r7
    obtain ⟨D, W2, HD, HL, D1, D2, D3, HW, HF, HZ, hu⟩ := FIN.out { x with hash := flip x.hash j } _ hb r7 (row_otherE B5.out hGG _) (u6.out.setNew (p := ⟨G, 36 + j, none⟩) hwG _)
    have f0 := R5.out.frozen (36 + j)
    have HBJ : Hid (bentR x a n = { x with hash := flip x.hash j }) := HB.out.trans hbj
    have i0 : (0 : Int) ≤ (j : Int) := by omega
    have i1 : (j : Int) < 32 := by omega
    have HJ := Lib.hid hj
    clear r7 FIN hl hbj HB hj hbb hbb'
    go_wp2_with fail
    refine m32.mono ?_
    rintro e w7 ⟨j', HJ', hj', rfl, rfl⟩
    obtain rfl : j' = j := by have h1 := HJ.out; have h2 := HJ'.out; omega
    clear HJ HJ' m32
    go_wp2_with (first | (refine wpList_load_atW (by rfl) 33 _ rfl G 0 rfl D HL.out ?_) | (refine wpList_store_rowAs rfl 33 _ _ rfl G2 D rfl rfl _ _ HZ.out D1.out D3.out D2.out W2 HW.out ?_))
    refine bodyPost_ret (results_cell_row rfl _ _ G2 _ D _ _ rfl HF.out Tryz.underlying33 rfl D1.out) rfl ⟨by rw [HD.out, HBJ.out], hu⟩
  · have hb := bentC_ok hx 6 n
    have R6 := R5
    have m32 := mod_any n 32 w6 (by omega)
    obtain ⟨j, hj, hjm⟩ : ∃ j : Nat, (j : Int) = n % 32 ∧ j < 32 := ⟨(n % 32).toNat, by omega, by omega⟩
    have hbj : bentC x 6 n = { x with prev := flip x.prev j } := by
      unfold bentC
      simp only [show ((6 : Int) = 0) = False from by simp, if_false]
      rw [← hj, Int.toNat_natCast]
      rfl
    rw [hbj] at hb
    have r7 := (RcAt.flips R5.out hx hjm).2.2
    have hl := (R5.out.ranges hx).2.2
    have k0 := hashCell 68 x.prev hl (j := j) (by rw [hx.2.2.2.2.2.1]; exact hjm)
    obtain ⟨b, hbb⟩ : ∃ b, b = x.prev.getD j 0 := ⟨_, rfl⟩
    obtain ⟨b', hbb'⟩ : ∃ b', b' = b ^^^ 1 := ⟨_, rfl⟩
    have xb := xor_byte b
    rw [← hbb'] at xb
    rw [← hbb] at k0
    rw [← hbb, ← hbb'] at r7
    obtain ⟨D, W2, HD, HL, D1, D2, D3, HW, HF, HZ, hu⟩ := FIN.out { x with prev := flip x.prev j } _ hb r7 (row_otherE B5.out hGG _) (u6.out.setNew (p := ⟨G, 68 + j, none⟩) hwG _)
    have f0 := R5.out.frozen (68 + j)
    have HBJ : Hid (bentR x a n = { x with prev := flip x.prev j }) := HB.out.trans hbj
    have i0 : (0 : Int) ≤ (j : Int) := by omega
    have i1 : (j : Int) < 32 := by omega
    have HJ := Lib.hid hj
    clear r7 FIN hl hbj HB hj hbb hbb'
    go_wp2_with fail
    refine m32.mono ?_
    rintro e w7 ⟨j', HJ', hj', rfl, rfl⟩
    obtain rfl : j' = j := by have h1 := HJ.out; have h2 := HJ'.out; omega
    clear HJ HJ' m32
    go_wp2_with (first | (refine wpList_load_atW (by rfl) 33 _ rfl G 0 rfl D HL.out ?_) | (refine wpList_store_rowAs rfl 33 _ _ rfl G2 D rfl rfl _ _ HZ.out D1.out D3.out D2.out W2 HW.out ?_))
    refine bodyPost_ret (results_cell_row rfl _ _ G2 _ D _ _ rfl HF.out Tryz.underlying33 rfl D1.out) rfl ⟨by rw [HD.out, HBJ.out], hu⟩
  · have hb := bentC_ok hx 7 n
    have r7 := (R5.out.sigOne hx (wrap64 (x.r + n))).1
    obtain ⟨D, W2, HD, HL, D1, D2, D3, HW, HF, HZ, hu⟩ := FIN.out { x with r := wrap64 (x.r + n) } _ hb r7 (row_otherE B5.out hGG _) (u6.out.setNew (p := ⟨G, 100, none⟩) hwG _)
    obtain ⟨k0, k1⟩ := R5.out.sig hx
    have f0 := R5.out.frozen 100
    clear r7 FIN
    go_wp2_with (first | (refine wpList_load_atW (by rfl) 33 _ rfl G 0 rfl D HL.out ?_) | (refine wpList_store_rowAs rfl 33 _ _ rfl G2 D rfl rfl _ _ HZ.out D1.out D3.out D2.out W2 HW.out ?_))
    refine bodyPost_ret (results_cell_row rfl _ _ G2 _ D _ _ rfl HF.out Tryz.underlying33 rfl D1.out) rfl ⟨by rw [HD.out, HB.out]; rfl, hu⟩
  · have hb := bentC_ok hx 8 n
    have r7 := (R5.out.sigOne hx (wrap64 (x.s + n))).2
    obtain ⟨D, W2, HD, HL, D1, D2, D3, HW, HF, HZ, hu⟩ := FIN.out { x with s := wrap64 (x.s + n) } _ hb r7 (row_otherE B5.out hGG _) (u6.out.setNew (p := ⟨G, 101, none⟩) hwG _)
    obtain ⟨k0, k1⟩ := R5.out.sig hx
    have f0 := R5.out.frozen 101
    clear r7 FIN
    go_wp2_with (first | (refine wpList_load_atW (by rfl) 33 _ rfl G 0 rfl D HL.out ?_) | (refine wpList_store_rowAs rfl 33 _ _ rfl G2 D rfl rfl _ _ HZ.out D1.out D3.out D2.out W2 HW.out ?_))
    refine bodyPost_ret (results_cell_row rfl _ _ G2 _ D _ _ rfl HF.out Tryz.underlying33 rfl D1.out) rfl ⟨by rw [HD.out, HB.out]; rfl, hu⟩
end Go.Proofs.YtmnmhhbldbdpfaaGreatDoor
