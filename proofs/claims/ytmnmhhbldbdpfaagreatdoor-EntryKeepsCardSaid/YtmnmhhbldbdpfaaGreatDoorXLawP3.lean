/- The walk of EntryTexts. -/
import Derived.Test.YtmnmhhbldbdpfaaGreatDoorXLawP1
import Derived.Test.YtmnmhhbldbdpfaaGreatDoorXECuE
import Derived.Test.YtmnmhhbldbdpfaaGreatDoorXBent
import Derived.Test.YtmnmhhbldbdpfaaGreatDoorGE
namespace Go.Proofs.YtmnmhhbldbdpfaaGreatDoor
open Go.RowKit
set_option maxRecDepth 100000

theorem mod_is (a m : Int) (r : Nat) (w : World) (hm : 0 < m ∧ m ≤ 4611686018427387904) (hr : (r : Int) = a % m) :
    Calls Tryz.prog 15 #[.int .i64 a, .int .i64 m] w (fun e w' => e = .returned (.int .i64 (r : Int)) ∧ w' = w) := by
  refine (mod_any a m w hm).mono ?_
  rintro e w' ⟨k, HK, _, rfl, rfl⟩
  obtain rfl : k = r := by have := HK.out; omega
  exact ⟨rfl, rfl⟩
theorem byte_wrap (n : Int) : ∃ b : UInt8, IntKind.u8.wrap n = (b.toNat : Int) := by
  refine ⟨UInt8.ofNat (IntKind.u8.wrap n).toNat, ?_⟩
  rw [IntKind.wrap_u8, UInt8.toNat_ofNat']
  omega
theorem byte_strAt (W : World) (g : Nat) (b : UInt8) (h : W.heap[g]? = some (.cells #[.int .u8 (b.toNat : Int)] 5 (0, 0))) : (convert 40 9 (.slice (some ⟨g, 0, none⟩) 1 1)).run Tryz.prog W = .ok (.string ⟨#[b]⟩) W :=
  conv_bytes (P := Tryz.prog) W 40 9 5 Tryz.underlying40 Tryz.underlying5 Tryz.underlying9 g _ _ _ h [b] rfl 0 1 1 (by simp)
/-- Strings in a block. -/
def StrAt (w : World) (g : Nat) (us : List ByteArray) : Prop := w.heap[g]? = some (.cells (us.map Value.string).toArray 9 (0, 0))
theorem StrAt.upd {w w' : World} {g : Nat} {us : List ByteArray} (h : StrAt w g us) (u : Upd [] [] w w') : StrAt w' g us := row_updH h u
theorem StrAt.cell {w : World} {g k : Nat} {us : List ByteArray} {u : ByteArray} (h : StrAt w g us) (hu : us[k]? = some u) : w.cell? ⟨g, k, none⟩ = some (.string u) := by
  rw [cell_of_row _ _ _ _ _ _ h, List.getElem?_toArray, List.getElem?_map, hu]
  rfl
theorem rc_eq_run {x y : Rc} (hx : x.ok) (hy : y.ok) (b : Bool) (hb : eqRc x y = b) (A B : Array Value) (hA : A = (rcV x).toArray) (hB : B = (rcV y).toArray) (W : World) : (Op.equalIn 10000 33 (.agg A) (.agg B)).run Tryz.prog W = .ok b W := by
  rw [hA, hB, show (10000 : Nat) = 9997 + 3 from rfl, eqRc_run 9997 _ _ hx hy W, hb]
theorem textL_pos (x : Rc) : 0 < (textL x).length := by
  unfold textL
  rw [List.length_append, List.length_cons]
  omega

set_option maxHeartbeats 4000000 in
theorem entryTexts_walk (f : Fm) (raw : ByteArray) (q0 q1 q2 : Int) (w : World) (hf : f.ok) (hraw : raw.size ≤ 9223372036854775807) (_hq0 : -9223372036854775808 ≤ q0 ∧ q0 ≤ 9223372036854775807) (_hq1 : -9223372036854775808 ≤ q1 ∧ q1 ≤ 9223372036854775807) (_hq2 : -9223372036854775808 ≤ q2 ∧ q2 ≤ 9223372036854775807) (htab : Tabs w) :
    Calls Tryz.prog 3 #[.agg (fmV f).toArray, .string raw, .agg #[.int .i64 q0, .int .i64 q1, .int .i64 q2]] w (TrueMk w) := by
  obtain ⟨V, hV⟩ : ∃ V, V = (fmV f).toArray := ⟨_, rfl⟩
  have fm0 := Lib.hid ((fm_box w f V hV).upd ((Upd.refl [] _).alloc (.cells #[.int .i64 q0, .int .i64 q1, .int .i64 q2] 28)))
  have b0 := two_box (w.alloc (.cells V 27)) 28 #[.int .i64 q0, .int .i64 q1, .int .i64 q2]
  rw [World.size_alloc] at b0
  have B0 := Lib.hid b0
  have HVE := Lib.hid hV
  have HRC := Lib.hid (fun W hW => receipt_any f hf W hW)
  rw [← hV] at HRC ⊢
  obtain ⟨R, hR⟩ : ∃ R, R = (rcV (fmR f)).toArray := ⟨_, rfl⟩
  rw [← hR] at HRC
  have HRE := Lib.hid hR
  have hRo := Lib.hid (fmR_ok hf)
  have hRd := fmR_draw f
  have u0 : Upd [] [] w ((w.alloc (.cells V 27)).alloc (.cells #[.int .i64 q0, .int .i64 q1, .int .i64 q2] 28)) := ((Upd.refl _ _).alloc _).alloc _
  clear hV hR b0
  go_enter Tryz.func3, Tryz.ntmps3
  go_wp2_with fail
  refine (sanity22_any _ (htab.upd u0)).mono ?_
  rintro e w1 ⟨rfl, hq⟩
  have u1 := u0.trans hq
  have fm1 := Lib.hid (fm0.out.upd hq)
  have B1 := Lib.hid (row_updH B0.out hq)
  have p1 := Lib.hid (fm1.out.load hf V HVE.out)
  clear hq fm0 B0
  go_wp2_with (first | (refine wpList_load_atW (by rfl) 27 _ rfl w.heap.size 0 rfl V p1.out ?_))
  refine (HRC.out _ (htab.upd u1)).mono ?_
  rintro e w2 ⟨rfl, hq⟩
  obtain ⟨w3, w4, HZ2, HW3, HZ3, HW4, RA4, RB4, hq'⟩ := rows_two w2 33 Tryz.zeroCells33 R R
  obtain ⟨HRI, HRO, HRZ⟩ := rcLet hRo.out R HRE.out
  have u4 := u1.trans (hq.trans hq')
  have B4 := Lib.hid (row_updH B1.out (hq.trans hq'))
  have RA4' : Hid (RcAt w4 w2.heap.size (fmR f)) := by show _ = _; rw [← HRE.out]; exact RA4.out
  have p4 := Lib.hid (RA4'.out.load hRo.out R HRE.out)
  have HT := Lib.hid (fun W hW => text22_any (fmR f) hRo.out (by omega) W hW)
  rw [← HRE.out] at HT
  clear hq hq' fm1 p1 B1 RB4 RA4
  go_upto_region 3 with (first | (refine wpList_store_rowAs rfl 33 _ _ rfl w2.heap.size R rfl rfl _ _ HZ2.out HRI.out HRZ.out HRO.out w3 HW3.out ?_) | (refine wpList_store_rowAs rfl 33 _ _ rfl (w2.heap.size + 1) R rfl rfl _ _ HZ3.out HRI.out HRZ.out HRO.out w4 HW4.out ?_))
  clear HW3 HZ2 HZ3 HW4
  obtain ⟨G, hG⟩ : ∃ G, G = w2.heap.size := ⟨_, rfl⟩
  rw [← hG] at RA4' p4 ⊢
  clear hG
  go_wp2_with (first | (refine wpList_load_atW (by rfl) 33 _ rfl G 0 rfl R p4.out ?_))
  refine (HT.out _ (htab.upd u4)).mono ?_
  rintro e w5 ⟨s, HS, hs, rfl, hq⟩
  have hsl := textL_len hRo.out
  have hss : s.size ≤ 500 := by omega
  have hsp : 0 < s.size := by rw [← bs_length, HS.out]; exact textL_pos _
  have u5 := u4.trans hq
  have B5 := Lib.hid (row_updH B4.out hq)
  have RA5 := Lib.hid (RA4'.out.upd hq)
  clear hq p4 B4 RA4' hs hsl
  go_wp2_with fail
  refine (read22_any s w5 (by omega) (htab.upd u5)).mono ?_
  rintro e w6 ⟨X, ok, HX, rfl, hq⟩
  have hx2 := HX.out
  rw [HS.out] at hx2
  obtain ⟨rfl, rfl⟩ := rcOk_text hRo.out hx2
  rw [← HRE.out]
  obtain ⟨w7, HZ6, HW7, HR7, hq'⟩ := blk_new w6 33 Tryz.zeroCells33 R
  have hq7 := hq.trans hq'
  have u7 := u5.trans hq7
  have B7 := Lib.hid (row_updH B5.out hq7)
  have RA7 := Lib.hid (RA5.out.upd hq7)
  have p7 := Lib.hid (RA7.out.load hRo.out R HRE.out)
  have RX7 : Hid (RcAt w7 w6.heap.size (fmR f)) := by have := HR7.out; rw [HRE.out] at this; exact this
  have p8 := Lib.hid (RX7.out.load hRo.out R HRE.out)
  have hEq := fun W => rc_eq_run hRo.out hRo.out true (eqRc_refl _) R R HRE.out HRE.out W
  clear hq hq' hq7 B5 RA5 HR7 hx2 HX
  go_upto_region 7 with (first | (refine wpList_store_rowAs rfl 33 _ _ rfl w6.heap.size R rfl rfl _ _ HZ6.out HRI.out HRZ.out HRO.out w7 HW7.out ?_) | (refine wpList_load_atW (by rfl) 33 _ rfl G 0 rfl R p7.out ?_) | (refine wpList_load_atW (by rfl) 33 _ rfl w6.heap.size 0 rfl R p8.out ?_))
  clear HZ6 HW7 p7 p8 hEq RX7
  obtain ⟨raw2, hraw2⟩ : ∃ r2 : ByteArray, r2 = raw.extract 0 (min (raw.size : Int) 200).toNat := ⟨_, rfl⟩
  have hr2s : raw2.size ≤ 200 := by rw [hraw2, ByteArray.size_extract]; omega
  have hraw2' := hraw2.symm
  have k0 : w7.cell? ⟨w.heap.size + 1, 0, none⟩ = some (.int .i64 q0) := by rw [cell_of_row _ _ _ _ _ _ B7.out]; rfl
  clear hraw2
  go_wp2_with fail
  have hsi : (s.size : Int) ≤ 4611686018427387904 := by omega
  refine (mod_any q0 (s.size : Int) w7 ⟨by omega, hsi⟩).mono ?_
  rintro e w8 ⟨at0, HA, hat, rfl, rfl⟩
  clear hraw2' k0 hraw
  go_upto_region 9 with (fail)
  obtain ⟨b, hb⟩ := byte_wrap q2
  obtain ⟨r2, hr2⟩ : ∃ r2 : Nat, (r2 : Int) = q1 % 2 := ⟨(q1 % 2).toNat, by omega⟩
  obtain ⟨at2, hat2⟩ : ∃ at2 : Nat, at2 = at0 + r2 := ⟨_, rfl⟩
  have hr2b : r2 ≤ 1 := by omega
  have hw2 : IntKind.i64.wrap ((at0 : Int) + (r2 : Int)) = (at2 : Int) := by rw [IntWalk.i64_in _ (by omega)]; omega
  obtain ⟨L, hL⟩ : ∃ L : ByteArray, L = s.extract 0 at0 := ⟨_, rfl⟩
  obtain ⟨T, hT⟩ : ∃ T : ByteArray, T = s.extract at2 s.size := ⟨_, rfl⟩
  obtain ⟨z, hz⟩ : ∃ z : ByteArray, z = ⟨#[b]⟩ := ⟨_, rfl⟩
  have hLs : L.size ≤ 500 := by rw [hL, ByteArray.size_extract]; omega
  have hTs : T.size ≤ 500 := by rw [hT, ByteArray.size_extract]; omega
  have hzs : z.size = 1 := by rw [hz]; rfl
  have hL' := hL.symm
  have HLE := Lib.hid hL
  have hT' := hT.symm
  have i0 : (0 : Int) ≤ (at0 : Int) := by omega
  have i1 : (at0 : Int) ≤ (s.size : Int) := by omega
  have i2 : (0 : Int) ≤ (at2 : Int) := by omega
  have i3 : (at2 : Int) ≤ (s.size : Int) := by omega
  have s1 : ¬ 9223372036854775807 < L.size + 1 := by omega
  have s2 : ¬ 9223372036854775807 < L.size + 1 + T.size := by omega
  have HCV : Hid ((convert 40 9 (.slice (some ⟨w8.heap.size, 0, none⟩) 1 1)).run Tryz.prog (w8.alloc (.cells #[.int .u8 (b.toNat : Int)] 5)).drew = .ok (.string z) (w8.alloc (.cells #[.int .u8 (b.toNat : Int)] 5)).drew) := by
    have h := byte_strAt (w8.alloc (.cells #[.int .u8 (b.toNat : Int)] 5)).drew w8.heap.size b (heap_alloc_new w8 _)
    rw [← hz] at h
    exact h
  have HM := Lib.hid (fun W => mod_is q1 2 r2 W (by omega) hr2)
  have B8 := Lib.hid (row_updH B7.out (Upd.refl [] w8).drew)
  have HK : Hid (∀ W : World, W.heap[w.heap.size + 1]? = some (.cells #[.int .i64 q0, .int .i64 q1, .int .i64 q2] 28 (0, 0)) → W.cell? ⟨w.heap.size + 1, 1, none⟩ = some (.int .i64 q1) ∧ W.cell? ⟨w.heap.size + 1, 2, none⟩ = some (.int .i64 q2)) := by
    intro W h
    exact ⟨by rw [cell_of_row _ _ _ _ _ _ h]; rfl, by rw [cell_of_row _ _ _ _ _ _ h]; rfl⟩
  have B9 := Lib.hid (row_updH B7.out ((Upd.refl [] w8).alloc (.cells #[.int .u8 (b.toNat : Int)] 5)).drew)
  have HAT := Lib.hid hat
  clear hL hT hz hr2 hat2 HA hat
  refine @id ((?pj1 : Prop) → _) (fun hJ => ?mj1) ?jj1
  case mj1 =>
    refine wp_region_noPanic ?_
    refine wp_region_held_drew (S := fun wp => wp.cell? ⟨w.heap.size + 1, 1, none⟩ = some (.int .i64 q1) ∧ wp.cell? ⟨w.heap.size + 1, 2, none⟩ = some (.int .i64 q2)) (by kernel_rfl) ?_ (fun hHeld => ?_)
    · exact HK.out _ B8.out
    refine wpAnyH_take (i := 0) (v := ?v2) (by simp only [List.getElem?_toArray, List.getElem?_cons_zero] <;> rfl) (by kernel_rfl) (by kernel_rfl) (by kernel_rfl) (fun _ _ _ h => h) (Or.inl ⟨by rfl, ?y2⟩) hHeld ?r2
    case y2 => (intro w hSw; (try dsimp only at hSw); go_simp; first | done | with_reducible rfl | rfl)
    try simp only [Act.put, List.setIfInBounds_toArray, List.set_cons_zero, List.set_cons_succ]
    refine wpAnyH_take (i := 1) (v := ?v3) (by simp only [List.getElem?_toArray, List.getElem?_cons_succ, List.getElem?_cons_zero] <;> rfl) (by kernel_rfl) (by kernel_rfl) (by kernel_rfl) (fun _ _ _ h => h) (Or.inl ⟨by rfl, ?y3⟩) hHeld ?r3
    case y3 => (intro w hSw; (try dsimp only at hSw); go_simp; first | done | with_reducible rfl | rfl)
    try simp only [Act.put, List.setIfInBounds_toArray, List.set_cons_zero, List.set_cons_succ]
    refine wpAnyH_take (i := 2) (v := ?v4) (by simp only [List.getElem?_toArray, List.getElem?_cons_succ, List.getElem?_cons_zero] <;> rfl) (by kernel_rfl) (by kernel_rfl) (by kernel_rfl) (fun _ _ _ h => h) (Or.inl ⟨by rfl, ?y4⟩) hHeld ?r4
    case y4 => (intro w hSw; (try dsimp only at hSw); go_simp; first | done | with_reducible rfl | rfl)
    try simp only [Act.put, List.setIfInBounds_toArray, List.set_cons_zero, List.set_cons_succ]
    refine wpAnyH_take (i := 3) (v := ?v5) (by simp only [List.getElem?_toArray, List.getElem?_cons_succ, List.getElem?_cons_zero] <;> rfl) (by kernel_rfl) (by kernel_rfl) (by kernel_rfl) (fun _ _ _ h => h) (Or.inl ⟨by rfl, ?y5⟩) hHeld ?r5
    case y5 => (intro w hSw; (try dsimp only at hSw); go_simp; first | done | with_reducible rfl | rfl)
    try simp only [Act.put, List.setIfInBounds_toArray, List.set_cons_zero, List.set_cons_succ]
    refine wpAnyH_take (i := 4) (v := ?v6) (by simp only [List.getElem?_toArray, List.getElem?_cons_succ, List.getElem?_cons_zero] <;> rfl) (by kernel_rfl) (by kernel_rfl) (by kernel_rfl) (fun _ _ _ h => h) (Or.inl ⟨by rfl, ?y6⟩) hHeld ?r6
    case y6 => (intro w hSw; (try dsimp only at hSw); go_simp; first | done | with_reducible rfl | rfl)
    try simp only [Act.put, List.setIfInBounds_toArray, List.set_cons_zero, List.set_cons_succ]
    refine wpAnyH_take (i := 5) (v := ?v7) (by simp only [List.getElem?_toArray, List.getElem?_cons_succ, List.getElem?_cons_zero] <;> rfl) (by kernel_rfl) (by kernel_rfl) (by kernel_rfl) (fun _ _ _ h => h) (Or.inl ⟨by rfl, ?y7⟩) hHeld ?r7
    case y7 => (intro w hSw; (try dsimp only at hSw); go_simp; first | done | with_reducible rfl | rfl)
    try simp only [Act.put, List.setIfInBounds_toArray, List.set_cons_zero, List.set_cons_succ]
    refine wpAnyH_take (i := 9) (v := ?v8) (by simp only [List.getElem?_toArray, List.getElem?_cons_succ, List.getElem?_cons_zero] <;> rfl) (by kernel_rfl) (by kernel_rfl) (by kernel_rfl) (fun _ _ _ h => h) (Or.inl ⟨by rfl, ?y8⟩) hHeld ?r8
    case y8 => (intro w hSw; (try dsimp only at hSw); go_simp; first | done | with_reducible rfl | rfl)
    try simp only [Act.put, List.setIfInBounds_toArray, List.set_cons_zero, List.set_cons_succ]
    refine wpAnyH_take (i := 10) (v := ?v9) (by simp only [List.getElem?_toArray, List.getElem?_cons_succ, List.getElem?_cons_zero] <;> rfl) (by kernel_rfl) (by kernel_rfl) (by kernel_rfl) (fun _ _ _ h => h) (Or.inl ⟨by rfl, ?y9⟩) hHeld ?r9
    case y9 => (intro w hSw; (try dsimp only at hSw); go_simp; first | done | with_reducible rfl | rfl)
    try simp only [Act.put, List.setIfInBounds_toArray, List.set_cons_zero, List.set_cons_succ]
    refine wpAnyH_take (i := 11) (v := ?v10) (by simp only [List.getElem?_toArray, List.getElem?_cons_succ, List.getElem?_cons_zero] <;> rfl) (by kernel_rfl) (by kernel_rfl) (by kernel_rfl) (fun _ _ _ h => h) (Or.inl ⟨by rfl, ?y10⟩) hHeld ?r10
    case y10 => (intro w hSw; (try dsimp only at hSw); go_simp; first | done | with_reducible rfl | rfl)
    try simp only [Act.put, List.setIfInBounds_toArray, List.set_cons_zero, List.set_cons_succ]
    refine wpAnyH_take (i := 12) (v := ?v11) (by simp only [List.getElem?_toArray, List.getElem?_cons_succ, List.getElem?_cons_zero] <;> rfl) (by kernel_rfl) (by kernel_rfl) (by kernel_rfl) (fun _ _ _ h => h) (Or.inl ⟨by rfl, ?y11⟩) hHeld ?r11
    case y11 => (intro w hSw; (try dsimp only at hSw); go_simp; first | done | with_reducible rfl | rfl)
    try simp only [Act.put, List.setIfInBounds_toArray, List.set_cons_zero, List.set_cons_succ]
    refine wpAnyH_ready (rs := [6, 13]) (by kernel_rfl) (by simp) ?_
    refine AllReadyH.cons (by simp only [List.getElem?_toArray, List.getElem?_cons_succ, List.getElem?_cons_zero] <;> rfl) (fun K hK => ?_) ?_
    · go_simp
      refine hK.out _ _ ?_ (fun hHeld => ?_)
      · exact HK.out _ B9.out
      clear hK K
      try simp only [Act.put, List.setIfInBounds_toArray, List.set_cons_zero, List.set_cons_succ]
      refine wpAnyH_ready (rs := [7, 13]) (by kernel_rfl) (by simp) ?_
      refine AllReadyH.cons (by simp only [List.getElem?_toArray, List.getElem?_cons_succ, List.getElem?_cons_zero] <;> rfl) (fun K hK => ?_) ?_
      · have hcv := HCV.out; go_simp
        refine hK.out _ _ ?_ (fun hHeld => ?_)
        · exact HK.out _ B9.out
        clear hK K
        try simp only [Act.put, List.setIfInBounds_toArray, List.set_cons_zero, List.set_cons_succ]
        refine wpAnyH_take (i := 8) (v := ?v12) (by simp only [List.getElem?_toArray, List.getElem?_cons_succ, List.getElem?_cons_zero] <;> rfl) (by kernel_rfl) (by kernel_rfl) (by kernel_rfl) (fun _ _ _ h => h) (Or.inl ⟨by rfl, ?y12⟩) hHeld ?r12
        case y12 => (intro w hSw; (try dsimp only at hSw); go_simp; first | done | with_reducible rfl | rfl)
        try simp only [Act.put, List.setIfInBounds_toArray, List.set_cons_zero, List.set_cons_succ]
        refine wpAnyH_ready (rs := [13]) (by kernel_rfl) (by simp) ?_
        refine AllReadyH.cons (by simp only [List.getElem?_toArray, List.getElem?_cons_succ, List.getElem?_cons_zero] <;> rfl) (fun K hK => ?_) ?_
        · go_simp; refine (HM.out _).mono ?_; rintro e wz ⟨rfl, rfl⟩; go_wp2_with fail
          refine hK.out _ _ ?_ (fun hHeld => ?_)
          · exact HK.out _ B9.out
          clear hK K
          try simp only [Act.put, List.setIfInBounds_toArray, List.set_cons_zero, List.set_cons_succ]
          refine wpAnyH_take (i := 14) (v := ?v13) (by simp only [List.getElem?_toArray, List.getElem?_cons_succ, List.getElem?_cons_zero] <;> rfl) (by kernel_rfl) (by kernel_rfl) (by kernel_rfl) (fun _ _ _ h => h) (Or.inl ⟨by rfl, ?y13⟩) hHeld ?r13
          case y13 => (intro w hSw; (try dsimp only at hSw); go_simp; first | done | with_reducible rfl | rfl)
          try simp only [Act.put, List.setIfInBounds_toArray, List.set_cons_zero, List.set_cons_succ]
          refine wpAnyH_take (i := 15) (v := ?v14) (by simp only [List.getElem?_toArray, List.getElem?_cons_succ, List.getElem?_cons_zero] <;> rfl) (by kernel_rfl) (by kernel_rfl) (by kernel_rfl) (fun _ _ _ h => h) (Or.inl ⟨by rfl, ?y14⟩) hHeld ?r14
          case y14 => (intro w hSw; (try dsimp only at hSw); go_simp; first | done | with_reducible rfl | rfl)
          try simp only [Act.put, List.setIfInBounds_toArray, List.set_cons_zero, List.set_cons_succ]
          refine wpAnyH_take (i := 16) (v := ?v15) (by simp only [List.getElem?_toArray, List.getElem?_cons_succ, List.getElem?_cons_zero] <;> rfl) (by kernel_rfl) (by kernel_rfl) (by kernel_rfl) (fun _ _ _ h => h) (Or.inl ⟨by rfl, ?y15⟩) hHeld ?r15
          case y15 => (intro w hSw; (try dsimp only at hSw); go_simp; first | done | with_reducible rfl | rfl)
          try simp only [Act.put, List.setIfInBounds_toArray, List.set_cons_zero, List.set_cons_succ]
          refine wpAnyH_take (i := 17) (v := ?v16) (by simp only [List.getElem?_toArray, List.getElem?_cons_succ, List.getElem?_cons_zero] <;> rfl) (by kernel_rfl) (by kernel_rfl) (by kernel_rfl) (fun _ _ _ h => h) (Or.inl ⟨by rfl, ?y16⟩) hHeld ?r16
          case y16 => (intro w hSw; (try dsimp only at hSw); go_simp; first | done | with_reducible rfl | rfl)
          try simp only [Act.put, List.setIfInBounds_toArray, List.set_cons_zero, List.set_cons_succ]
          refine wpAnyH_done (by kernel_rfl) ?_ _
          refine NoPanic.normal ?_
          exact hJ
        exact AllReadyH.nil
      refine AllReadyH.cons (by simp only [List.getElem?_toArray, List.getElem?_cons_succ, List.getElem?_cons_zero] <;> rfl) (fun K hK => ?_) ?_
      · go_simp; refine (HM.out _).mono ?_; rintro e wz ⟨rfl, rfl⟩; go_wp2_with fail
        refine hK.out _ _ ?_ (fun hHeld => ?_)
        · exact HK.out _ B9.out
        clear hK K
        try simp only [Act.put, List.setIfInBounds_toArray, List.set_cons_zero, List.set_cons_succ]
        refine wpAnyH_take (i := 14) (v := ?v17) (by simp only [List.getElem?_toArray, List.getElem?_cons_succ, List.getElem?_cons_zero] <;> rfl) (by kernel_rfl) (by kernel_rfl) (by kernel_rfl) (fun _ _ _ h => h) (Or.inl ⟨by rfl, ?y17⟩) hHeld ?r17
        case y17 => (intro w hSw; (try dsimp only at hSw); go_simp; first | done | with_reducible rfl | rfl)
        try simp only [Act.put, List.setIfInBounds_toArray, List.set_cons_zero, List.set_cons_succ]
        refine wpAnyH_take (i := 15) (v := ?v18) (by simp only [List.getElem?_toArray, List.getElem?_cons_succ, List.getElem?_cons_zero] <;> rfl) (by kernel_rfl) (by kernel_rfl) (by kernel_rfl) (fun _ _ _ h => h) (Or.inl ⟨by rfl, ?y18⟩) hHeld ?r18
        case y18 => (intro w hSw; (try dsimp only at hSw); go_simp; first | done | with_reducible rfl | rfl)
        try simp only [Act.put, List.setIfInBounds_toArray, List.set_cons_zero, List.set_cons_succ]
        refine wpAnyH_ready (rs := [7]) (by kernel_rfl) (by simp) ?_
        refine AllReadyH.cons (by simp only [List.getElem?_toArray, List.getElem?_cons_succ, List.getElem?_cons_zero] <;> rfl) (fun K hK => ?_) ?_
        · have hcv := HCV.out; go_simp
          refine hK.out _ _ ?_ (fun hHeld => ?_)
          · exact HK.out _ B9.out
          clear hK K
          try simp only [Act.put, List.setIfInBounds_toArray, List.set_cons_zero, List.set_cons_succ]
          refine wpAnyH_take (i := 8) (v := ?v19) (by simp only [List.getElem?_toArray, List.getElem?_cons_succ, List.getElem?_cons_zero] <;> rfl) (by kernel_rfl) (by kernel_rfl) (by kernel_rfl) (fun _ _ _ h => h) (Or.inl ⟨by rfl, ?y19⟩) hHeld ?r19
          case y19 => (intro w hSw; (try dsimp only at hSw); go_simp; first | done | with_reducible rfl | rfl)
          try simp only [Act.put, List.setIfInBounds_toArray, List.set_cons_zero, List.set_cons_succ]
          refine wpAnyH_take (i := 16) (v := ?v20) (by simp only [List.getElem?_toArray, List.getElem?_cons_succ, List.getElem?_cons_zero] <;> rfl) (by kernel_rfl) (by kernel_rfl) (by kernel_rfl) (fun _ _ _ h => h) (Or.inl ⟨by rfl, ?y20⟩) hHeld ?r20
          case y20 => (intro w hSw; (try dsimp only at hSw); go_simp; first | done | with_reducible rfl | rfl)
          try simp only [Act.put, List.setIfInBounds_toArray, List.set_cons_zero, List.set_cons_succ]
          refine wpAnyH_take (i := 17) (v := ?v21) (by simp only [List.getElem?_toArray, List.getElem?_cons_succ, List.getElem?_cons_zero] <;> rfl) (by kernel_rfl) (by kernel_rfl) (by kernel_rfl) (fun _ _ _ h => h) (Or.inl ⟨by rfl, ?y21⟩) hHeld ?r21
          case y21 => (intro w hSw; (try dsimp only at hSw); go_simp; first | done | with_reducible rfl | rfl)
          try simp only [Act.put, List.setIfInBounds_toArray, List.set_cons_zero, List.set_cons_succ]
          refine wpAnyH_done (by kernel_rfl) ?_ _
          refine NoPanic.normal ?_
          exact hJ
        exact AllReadyH.nil
      exact AllReadyH.nil
    refine AllReadyH.cons (by simp only [List.getElem?_toArray, List.getElem?_cons_succ, List.getElem?_cons_zero] <;> rfl) (fun K hK => ?_) ?_
    · go_simp; refine (HM.out _).mono ?_; rintro e wz ⟨rfl, rfl⟩; go_wp2_with fail
      refine hK.out _ _ ?_ (fun hHeld => ?_)
      · exact HK.out _ B8.out
      clear hK K
      try simp only [Act.put, List.setIfInBounds_toArray, List.set_cons_zero, List.set_cons_succ]
      refine wpAnyH_take (i := 14) (v := ?v22) (by simp only [List.getElem?_toArray, List.getElem?_cons_succ, List.getElem?_cons_zero] <;> rfl) (by kernel_rfl) (by kernel_rfl) (by kernel_rfl) (fun _ _ _ h => h) (Or.inl ⟨by rfl, ?y22⟩) hHeld ?r22
      case y22 => (intro w hSw; (try dsimp only at hSw); go_simp; first | done | with_reducible rfl | rfl)
      try simp only [Act.put, List.setIfInBounds_toArray, List.set_cons_zero, List.set_cons_succ]
      refine wpAnyH_take (i := 15) (v := ?v23) (by simp only [List.getElem?_toArray, List.getElem?_cons_succ, List.getElem?_cons_zero] <;> rfl) (by kernel_rfl) (by kernel_rfl) (by kernel_rfl) (fun _ _ _ h => h) (Or.inl ⟨by rfl, ?y23⟩) hHeld ?r23
      case y23 => (intro w hSw; (try dsimp only at hSw); go_simp; first | done | with_reducible rfl | rfl)
      try simp only [Act.put, List.setIfInBounds_toArray, List.set_cons_zero, List.set_cons_succ]
      refine wpAnyH_ready (rs := [6]) (by kernel_rfl) (by simp) ?_
      refine AllReadyH.cons (by simp only [List.getElem?_toArray, List.getElem?_cons_succ, List.getElem?_cons_zero] <;> rfl) (fun K hK => ?_) ?_
      · go_simp
        refine hK.out _ _ ?_ (fun hHeld => ?_)
        · exact HK.out _ B9.out
        clear hK K
        try simp only [Act.put, List.setIfInBounds_toArray, List.set_cons_zero, List.set_cons_succ]
        refine wpAnyH_ready (rs := [7]) (by kernel_rfl) (by simp) ?_
        refine AllReadyH.cons (by simp only [List.getElem?_toArray, List.getElem?_cons_succ, List.getElem?_cons_zero] <;> rfl) (fun K hK => ?_) ?_
        · have hcv := HCV.out; go_simp
          refine hK.out _ _ ?_ (fun hHeld => ?_)
          · exact HK.out _ B9.out
          clear hK K
          try simp only [Act.put, List.setIfInBounds_toArray, List.set_cons_zero, List.set_cons_succ]
          refine wpAnyH_take (i := 8) (v := ?v24) (by simp only [List.getElem?_toArray, List.getElem?_cons_succ, List.getElem?_cons_zero] <;> rfl) (by kernel_rfl) (by kernel_rfl) (by kernel_rfl) (fun _ _ _ h => h) (Or.inl ⟨by rfl, ?y24⟩) hHeld ?r24
          case y24 => (intro w hSw; (try dsimp only at hSw); go_simp; first | done | with_reducible rfl | rfl)
          try simp only [Act.put, List.setIfInBounds_toArray, List.set_cons_zero, List.set_cons_succ]
          refine wpAnyH_take (i := 16) (v := ?v25) (by simp only [List.getElem?_toArray, List.getElem?_cons_succ, List.getElem?_cons_zero] <;> rfl) (by kernel_rfl) (by kernel_rfl) (by kernel_rfl) (fun _ _ _ h => h) (Or.inl ⟨by rfl, ?y25⟩) hHeld ?r25
          case y25 => (intro w hSw; (try dsimp only at hSw); go_simp; first | done | with_reducible rfl | rfl)
          try simp only [Act.put, List.setIfInBounds_toArray, List.set_cons_zero, List.set_cons_succ]
          refine wpAnyH_take (i := 17) (v := ?v26) (by simp only [List.getElem?_toArray, List.getElem?_cons_succ, List.getElem?_cons_zero] <;> rfl) (by kernel_rfl) (by kernel_rfl) (by kernel_rfl) (fun _ _ _ h => h) (Or.inl ⟨by rfl, ?y26⟩) hHeld ?r26
          case y26 => (intro w hSw; (try dsimp only at hSw); go_simp; first | done | with_reducible rfl | rfl)
          try simp only [Act.put, List.setIfInBounds_toArray, List.set_cons_zero, List.set_cons_succ]
          refine wpAnyH_done (by kernel_rfl) ?_ _
          refine NoPanic.normal ?_
          exact hJ
        exact AllReadyH.nil
      exact AllReadyH.nil
    exact AllReadyH.nil
  have hu9 : Upd [] [] w8 (w8.alloc (.cells #[.int .u8 (b.toNat : Int)] 5)).drew := ((Upd.refl [] _).alloc _).drew
  have u9 := u7.trans hu9
  clear HCV HM B8 HK B9 hL' hT' i0 i1 i2 i3 s1 s2 hw2 B7
  obtain ⟨w9, hw9⟩ : ∃ w9, (w8.alloc (.cells #[.int .u8 (b.toNat : Int)] 5)).drew = w9 := ⟨_, rfl⟩
  rw [hw9] at hu9 u9 ⊢
  clear hw9 hb
  obtain ⟨bent, hbent⟩ : ∃ bent : ByteArray, bent = L ++ z ++ T := ⟨_, rfl⟩
  have hbs : bent.size ≤ 1100 := by rw [hbent, ByteArray.size_append, ByteArray.size_append]; omega
  rw [← hbent]
  have hq32 : (ByteArray.mk #[32]).size = 1 := rfl
  obtain ⟨us, hus⟩ : ∃ us : List ByteArray, us = [bent, raw2, s ++ raw2, L, ByteArray.mk #[32] ++ s, raw2 ++ s] := ⟨_, rfl⟩
  have husl : ∀ u ∈ us, u.size ≤ 2000 := by
    intro u hu
    rw [hus] at hu
    simp only [List.mem_cons, List.not_mem_nil, or_false] at hu
    rcases hu with rfl | rfl | rfl | rfl | rfl | rfl
    · omega
    · omega
    · rw [ByteArray.size_append]; omega
    · omega
    · rw [ByteArray.size_append]; omega
    · rw [ByteArray.size_append]; omega
  have hrow : StrAt (w9.alloc (.cells #[.string bent, .string raw2, .string (s ++ raw2), .string L, .string (ByteArray.mk #[32] ++ s), .string (raw2 ++ s)] 9)) w9.heap.size us := by
    rw [hus]
    exact heap_alloc_new w9 _
  have hlen : us.length = 6 := by rw [hus]; rfl
  have u10 := u9.alloc (.cells #[.string bent, .string raw2, .string (s ++ raw2), .string L, .string (ByteArray.mk #[32] ++ s), .string (raw2 ++ s)] 9)
  have s1 : ¬ 9223372036854775807 < s.size + raw2.size := by omega
  have s2 : ¬ 9223372036854775807 < 1 + s.size := by omega
  have s3 : ¬ 9223372036854775807 < raw2.size + s.size := by omega
  have i0 : (0 : Int) ≤ (at0 : Int) := by omega
  have i1 : (at0 : Int) ≤ (s.size : Int) := by have := HAT.out; omega
  have HUSL := Lib.hid husl
  have HROW := Lib.hid hrow
  have HLEN := Lib.hid hlen
  have hL2 : s.extract 0 at0 = L := HLE.out.symm
  clear hus husl hrow hlen hbent hbs
  go_wp2_with fail
  generalize (w9.alloc (.cells #[.string bent, .string raw2, .string (s ++ raw2), .string L, .string (ByteArray.mk #[32] ++ s), .string (raw2 ++ s)] 9)) = w10 at *
  clear hL2 s1 s2 s3 i0 i1 hu9 u9
  obtain ⟨SB, hSB⟩ : ∃ SB, SB = w9.heap.size := ⟨_, rfl⟩
  rw [← hSB] at HROW ⊢
  clear hSB
  have I10 : Hid (StrAt w10 SB us ∧ Upd [] [] w w10) := ⟨HROW.out, u10⟩
  clear HROW u10
  go_loopw [16, 17, 18, 19, 20, 83] (fun _ _ _ _ _ i wr => ∃ j : Nat, i = .int .i64 (j : Int) ∧ j ≤ 6 ∧ Hid (StrAt wr SB us ∧ Upd [] [] w wr)) (fun _ _ _ _ _ i _ => 6 - (intOf i).toNat)
  case atStart => exact ⟨0, rfl, Nat.zero_le _, I10⟩
  case round =>
    obtain ⟨j, rfl, hj, HI⟩ := hrel
    by_cases hlt : j < 6
    · obtain ⟨u, hu⟩ : ∃ u, us[j]? = some u := ⟨_, List.getElem?_eq_getElem (by rw [HLEN.out]; exact hlt)⟩
      have hus : u.size ≤ 2000 := HUSL.out u (List.mem_of_getElem? hu)
      have k0 := HI.out.1.cell hu
      have p0 : (0 : Int) ≤ (j : Int) := by omega
      have p1 : (j : Int) < 6 := by omega
      clear hu
      go_wp2_with fail
      refine (read22_any u wr (by omega) (htab.upd HI.out.2)).mono ?_
      rintro e wa ⟨x, p, HX, rfl, hq⟩
      have hxo := HX.out.1
      obtain ⟨C, wb, HC, HZ, HCI, HCZ, HCO, HW, RB, hq'⟩ := rc_new wa x hxo
      rw [← HC.out]
      have IB : Hid (StrAt wb SB us ∧ Upd [] [] w wb) := ⟨HI.out.1.upd (hq.trans hq'), HI.out.2.trans (hq.trans hq')⟩
      clear hq hq' k0 HI
      go_wp2_with (first | (refine wpList_store_rowAs rfl 33 _ _ rfl wa.heap.size C rfl rfl _ _ HZ.out HCI.out HCZ.out HCO.out wb HW.out ?_))
      clear HZ HW
      obtain ⟨GA, hGA⟩ : ∃ GA, GA = wa.heap.size := ⟨_, rfl⟩
      rw [← hGA] at RB ⊢
      clear hGA
      refine (rread22_any u wb (by omega)).mono ?_
      rintro e wc ⟨y, v, HY, rfl, hq⟩
      obtain ⟨rfl, rfl⟩ := rcOk_unique HX.out HY.out
      rw [← HC.out]
      obtain ⟨wd, HZ, HW, HR, hq'⟩ := blk_new wc 33 Tryz.zeroCells33 C
      have ID : Hid (StrAt wd SB us ∧ Upd [] [] w wd) := ⟨IB.out.1.upd (hq.trans hq'), IB.out.2.trans (hq.trans hq')⟩
      have ra := Lib.hid ((RB.out.upd (hq.trans hq')).load hxo C HC.out)
      have RD : Hid (RcAt wd wc.heap.size x) := by have := HR.out; rw [HC.out] at this; exact this
      have rb := Lib.hid (RD.out.load hxo C HC.out)
      have hEq := fun W => rc_eq_run hxo hxo true (eqRc_refl _) C C HC.out HC.out W
      clear hq hq' RB HR IB HX HY
      cases p
      all_goals
        go_wp2_with (first | (refine wpList_store_rowAs rfl 33 _ _ rfl wc.heap.size C rfl rfl _ _ HZ.out HCI.out HCZ.out HCO.out wd HW.out ?_) | (refine wpList_load_atW (by rfl) 33 _ rfl GA 0 rfl C ra.out ?_) | (refine wpList_load_atW (by rfl) 33 _ rfl wc.heap.size 0 rfl C rb.out ?_))
        exact ⟨⟨j + 1, by go_num, by omega, ID⟩, by simp [intOf]; omega⟩
    · obtain rfl : j = 6 := by omega
      clear hlt hj
      go_wp2_with fail
      go_ret
      exact ⟨rfl, HI.out.2⟩
end Go.Proofs.YtmnmhhbldbdpfaaGreatDoor
