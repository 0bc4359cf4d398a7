/- CourtContradicts: the walk. -/
import Derived.Test.YtcimcodljjcmgaaGreatDoorGAA
import Derived.Test.YtcimcodljjcmgaaGreatDoorGBL
import Derived.Test.YtcimcodljjcmgaaGreatDoorGBQ
namespace Go.Proofs.YtcimcodljjcmgaaGreatDoor
open Go.RowKit
set_option maxRecDepth 100000

set_option maxHeartbeats 40000000 in
theorem courtContradicts_walk (q0 q1 q2 q3 q4 q5 : Int) (a b : ByteArray) (w : World) (i0 : i64in q0) (i1 : i64in q1) (i2 : i64in q2) (i3 : i64in q3) (_i4 : i64in q4) (_i5 : i64in q5) (ha : a.size ≤ 1048576) (hb : b.size ≤ 1048576) (htab : Tabs w) :
    Calls Tryz.prog 3 #[.agg #[.int .i64 q0, .int .i64 q1, .int .i64 q2, .int .i64 q3, .int .i64 q4, .int .i64 q5], .string a, .string b] w (TrueMk w) := by
  obtain ⟨gq, hgq⟩ : ∃ g, w.heap.size = g := ⟨_, rfl⟩
  obtain ⟨wb, hwb⟩ : ∃ W, w.alloc (.cells #[.int .i64 q0, .int .i64 q1, .int .i64 q2, .int .i64 q3, .int .i64 q4, .int .i64 q5] 22) = W := ⟨_, rfl⟩
  have RQ := Lib.hid (show wb.heap[gq]? = some (.cells #[.int .i64 q0, .int .i64 q1, .int .i64 q2, .int .i64 q3, .int .i64 q4, .int .i64 q5] 22 (0, 0)) by rw [← hgq, ← hwb]; exact heap_alloc_new _ _)
  have UB := Lib.hid (show Upd [] [] w wb by rw [← hwb]; exact (Upd.refl _ _).alloc _)
  have tabB := htab.upd UB.out
  have HQ : Hid (∀ W, Upd [] [] wb W → W.cell? ⟨gq, 0, none⟩ = some (.int .i64 q0) ∧ W.cell? ⟨gq, 1, none⟩ = some (.int .i64 q1) ∧ W.cell? ⟨gq, 2, none⟩ = some (.int .i64 q2) ∧ W.cell? ⟨gq, 3, none⟩ = some (.int .i64 q3) ∧ W.cell? ⟨gq, 4, none⟩ = some (.int .i64 q4) ∧ W.cell? ⟨gq, 5, none⟩ = some (.int .i64 q5)) := by
    intro W u
    have r := heap_upd RQ.out u
    exact ⟨cell_of_row _ gq 0 _ _ _ r, cell_of_row _ gq 1 _ _ _ r, cell_of_row _ gq 2 _ _ _ r, cell_of_row _ gq 3 _ _ _ r, cell_of_row _ gq 4 _ _ _ r, cell_of_row _ gq 5 _ _ _ r⟩
  have HII := Lib.hid (And.intro i0 (And.intro i1 (And.intro i2 i3)))
  clear RQ i0 i1 i2 i3 _i4 _i5
  go_enter Tryz.func3, Tryz.ntmps3
  go_wp2_with fail
  refine (sanity33_any wb tabB).mono ?_
  rintro e w1 ⟨rfl, hq⟩
  have U1 := Lib.hid hq
  clear hq
  obtain ⟨gk, hgk⟩ : ∃ g, w1.heap.size = g := ⟨_, rfl⟩
  obtain ⟨w2, hw2⟩ : ∃ W, w1.alloc (.cells #[.string ⟨#[112, 114, 111, 112, 111, 115, 101]⟩, .string ⟨#[112, 114, 101, 112, 97, 114, 101]⟩, .string ⟨#[99, 111, 109, 109, 105, 116]⟩] 9) = W := ⟨_, rfl⟩
  have RK := Lib.hid (show w2.heap[gk]? = some (.cells #[.string ⟨#[112, 114, 111, 112, 111, 115, 101]⟩, .string ⟨#[112, 114, 101, 112, 97, 114, 101]⟩, .string ⟨#[99, 111, 109, 109, 105, 116]⟩] 9 (0, 0)) by rw [← hgk, ← hw2]; exact heap_alloc_new _ _)
  have U2 := Lib.hid (U1.out.trans (show Upd [] [] w1 w2 by rw [← hw2]; exact (Upd.refl _ _).alloc _))
  clear U1
  go_upto_region 3 with (fail)
  clear hgk hw2 hgq hwb
  obtain ⟨t0, u0, z0, m1, m2, m3, m4, m5, m6⟩ := mod_three q0
  obtain ⟨b1, n1, n2⟩ := and_oneI q1
  obtain ⟨b2, n3, n4⟩ := and_oneI q2
  have hk0 : Hid (∀ W, Upd [] [] w2 W → W.cell? ⟨gk, z0, none⟩ = some (.string (kindB z0))) := fun W u => kind_cell (heap_upd RK.out u) m6
  have m2w : IntKind.i64.wrap u0 = u0 := wrap_in (by omega) (by omega)
  have m1w : IntKind.i64.wrap t0 = t0 := wrap_in (by omega) (by omega)
  have mz : (0 : Int) ≤ (z0 : Int) := by omega
  have mz3 : (z0 : Int) < 3 := by omega
  have ud0 : Upd [] [] w2 w2.drew := (Upd.refl _ _).drew
  have HK : Hid (∀ W, Upd [] [] w2 W → (W.cell? ⟨gq, 0, none⟩ = some (.int .i64 q0) ∧ W.cell? ⟨gq, 1, none⟩ = some (.int .i64 q1) ∧ W.cell? ⟨gq, 2, none⟩ = some (.int .i64 q2) ∧ W.cell? ⟨gk, z0, none⟩ = some (.string (kindB z0)))) := fun W u => by
    have h := HQ.out W (U2.out.trans u)
    exact ⟨h.1, h.2.1, h.2.2.1, hk0.out W u⟩
  obtain ⟨K0, hK0⟩ : ∃ K, K = kindB z0 := ⟨_, rfl⟩
  rw [← hK0] at HK hk0
  have hK0s : K0.size ≤ 7 := by rw [hK0]; exact kind_size z0
  have fz : (IntKind.i64.wrap (q0.tmod 3 + 3)).tmod 3 = (z0 : Int) := by rw [m1, m2, m2w]; exact m5
  clear hK0 m1 m2 m5 m1w m2w
  refine @_root_.id ((∀ (X : ByteArray) (W : World), X.size ≤ 100 → Hid (Upd [] [] w2 W) → (?pj1 : ByteArray → World → Prop) X W) → _) (fun hJ => ?mj1) ?jj1
  case mj1 =>
    refine wp_region_noPanic ?_
    refine wp_region_held_drew (S := fun wp => wp.cell? ⟨gq, 0, none⟩ = some (.int .i64 q0) ∧ wp.cell? ⟨gq, 1, none⟩ = some (.int .i64 q1) ∧ wp.cell? ⟨gq, 2, none⟩ = some (.int .i64 q2) ∧ wp.cell? ⟨gk, z0, none⟩ = some (.string K0)) (by kernel_rfl) ?_ (fun hHeld => ?_)
    · exact HK.out _ ud0
    refine tkY 0 hHeld ?_; try simp only [fz, n1, n3]
    refine tkY 1 hHeld ?_; try simp only [fz, n1, n3]
    refine tkY 2 hHeld ?_; try simp only [fz, n1, n3]
    refine tkY 3 hHeld ?_; try simp only [fz, n1, n3]
    refine tkY 4 hHeld ?_; try simp only [fz, n1, n3]
    refine tkY 5 hHeld ?_; try simp only [fz, n1, n3]
    refine tkY 6 hHeld ?_; try simp only [fz, n1, n3]
    refine tkY 7 hHeld ?_; try simp only [fz, n1, n3]
    refine tkY 8 hHeld ?_; try simp only [fz, n1, n3]
    refine tkY 9 hHeld ?_; try simp only [fz, n1, n3]
    refine tkY 10 hHeld ?_; try simp only [fz, n1, n3]
    refine tkY 11 hHeld ?_; try simp only [fz, n1, n3]
    refine tkY 12 hHeld ?_; try simp only [fz, n1, n3]
    refine tkY 13 hHeld ?_; try simp only [fz, n1, n3]
    refine wpAnyH_ready (rs := [14]) (by kernel_rfl) (by simp) ?_
    refine AllReadyH.cons (by simp only [List.getElem?_toArray, List.getElem?_cons_succ, List.getElem?_cons_zero] <;> rfl) (fun K hK => ?_) ?_
    · go_simp; refine (text29_any K0 (ByteArray.mk #[118]) (b1 : Int) (b2 : Int) (by omega) (by unfold i64in; omega) (by unfold i64in; omega) (by show 1 ≤ _; omega) _).mono ?_; rintro e wv1 ⟨X, HX, hX, rfl, hq⟩; have ud1 := ud0.trans hq; clear hq; go_wp2_with fail
      refine hK.out _ _ ?_ (fun hHeld => ?_)
      · exact HK.out _ ud1
      clear hK K
      try simp only [Act.put, List.setIfInBounds_toArray, List.set_cons_zero, List.set_cons_succ]; try simp only [fz, n1, n3]
      refine tkY 15 hHeld ?_; try simp only [fz, n1, n3]
      refine wpAnyH_done (by kernel_rfl) ?_ _
      refine NoPanic.normal ?_
      exact hJ X wv1 (Nat.le_trans hX (vote_len hK0s n2 n4 (by show 1 ≤ _; omega))) (Lib.hid ud1)
    exact AllReadyH.nil
  intro X w3 hX hq
  have U3 := Lib.hid (U2.out.trans hq.out)
  have RK3 := Lib.hid (heap_upd RK.out hq.out)
  clear HK hk0 hK0s fz n1 n3 n2 n4 m3 m4 m6 mz mz3 ud0 hq RK U2
  obtain ⟨t1, u1, z1, m1, m2, m3, m4, m5, m6⟩ := mod_three q3
  obtain ⟨b3, n1, n2⟩ := and_oneI q4
  obtain ⟨b4, n3, n4⟩ := and_oneI q5
  obtain ⟨b5, n5, n6⟩ := and_oneI q0
  have hk1 : Hid (∀ W, Upd [] [] w3 W → W.cell? ⟨gk, z1, none⟩ = some (.string (kindB z1))) := fun W u => kind_cell (heap_upd RK3.out u) m6
  have m2w : IntKind.i64.wrap u1 = u1 := wrap_in (by omega) (by omega)
  have mz : (0 : Int) ≤ (z1 : Int) := by omega
  have mz3 : (z1 : Int) < 3 := by omega
  have HK : Hid (∀ W, Upd [] [] w3 W → (W.cell? ⟨gq, 0, none⟩ = some (.int .i64 q0) ∧ W.cell? ⟨gq, 3, none⟩ = some (.int .i64 q3) ∧ W.cell? ⟨gq, 4, none⟩ = some (.int .i64 q4) ∧ W.cell? ⟨gq, 5, none⟩ = some (.int .i64 q5) ∧ W.cell? ⟨gk, z1, none⟩ = some (.string (kindB z1)))) := fun W u => by
    have h := HQ.out W (U3.out.trans u)
    exact ⟨h.1, h.2.2.2.1, h.2.2.2.2.1, h.2.2.2.2.2, hk1.out W u⟩
  obtain ⟨K1, hK1⟩ : ∃ K, K = kindB z1 := ⟨_, rfl⟩
  rw [← hK1] at HK hk1
  have hK1s : K1.size ≤ 7 := by rw [hK1]; exact kind_size z1
  have fz : (IntKind.i64.wrap (q3.tmod 3 + 3)).tmod 3 = (z1 : Int) := by rw [m1, m2, m2w]; exact m5
  obtain ⟨cb, hcb⟩ : ∃ c, c = UInt8.ofNat (118 + b5) := ⟨_, rfl⟩
  have hcn : cb.toNat = 118 + b5 := by rw [hcb, UInt8.toNat_ofNat']; omega
  have fc1 : (118 : Int) + (b5 : Int) = (cb.toNat : Int) := by omega
  have fc2 : IntKind.i64.wrap (cb.toNat : Int) = (cb.toNat : Int) := wrap_in (by omega) (by omega)
  have fc3 : IntKind.u8.wrap (cb.toNat : Int) = (cb.toNat : Int) := by rw [IntKind.wrap_u8]; omega
  clear hK1 m1 m2 m5 m2w hcb hcn
  go_upto_region 4 with (fail)
  have ud0 : Upd [] [] w3 w3.drew := (Upd.refl _ _).drew
  have hcv : (convert 26 9 (.slice (some ⟨w3.heap.size, 0, none⟩) 1 1)).run Tryz.prog (w3.alloc (.cells #[.int .u8 (cb.toNat : Int)] 5)).drew = .ok (.string ⟨#[cb]⟩) (w3.alloc (.cells #[.int .u8 (cb.toNat : Int)] 5)).drew := byte_str w3.drew cb
  have ud1 : Upd [] [] w3 (w3.alloc (.cells #[.int .u8 (cb.toNat : Int)] 5)).drew := ((Upd.refl _ _).alloc _).drew
  refine @_root_.id ((∀ (Y : ByteArray) (W : World), Y.size ≤ 100 → Hid (Upd [] [] w3 W) → (?pj17 : ByteArray → World → Prop) Y W) → _) (fun hJ => ?mj17) ?jj17
  case mj17 =>
    refine wp_region_noPanic ?_
    refine wp_region_held_drew (S := fun wp => wp.cell? ⟨gq, 0, none⟩ = some (.int .i64 q0) ∧ wp.cell? ⟨gq, 3, none⟩ = some (.int .i64 q3) ∧ wp.cell? ⟨gq, 4, none⟩ = some (.int .i64 q4) ∧ wp.cell? ⟨gq, 5, none⟩ = some (.int .i64 q5) ∧ wp.cell? ⟨gk, z1, none⟩ = some (.string K1)) (by kernel_rfl) ?_ (fun hHeld => ?_)
    · exact HK.out _ ud0
    refine tkY 0 hHeld ?_; try simp only [fz, n1, n3, n5, fc1, fc2, fc3]
    refine tkY 1 hHeld ?_; try simp only [fz, n1, n3, n5, fc1, fc2, fc3]
    refine tkY 2 hHeld ?_; try simp only [fz, n1, n3, n5, fc1, fc2, fc3]
    refine tkY 3 hHeld ?_; try simp only [fz, n1, n3, n5, fc1, fc2, fc3]
    refine tkY 4 hHeld ?_; try simp only [fz, n1, n3, n5, fc1, fc2, fc3]
    refine tkY 5 hHeld ?_; try simp only [fz, n1, n3, n5, fc1, fc2, fc3]
    refine tkY 6 hHeld ?_; try simp only [fz, n1, n3, n5, fc1, fc2, fc3]
    refine tkY 7 hHeld ?_; try simp only [fz, n1, n3, n5, fc1, fc2, fc3]
    refine tkY 8 hHeld ?_; try simp only [fz, n1, n3, n5, fc1, fc2, fc3]
    refine tkY 9 hHeld ?_; try simp only [fz, n1, n3, n5, fc1, fc2, fc3]
    refine tkY 10 hHeld ?_; try simp only [fz, n1, n3, n5, fc1, fc2, fc3]
    refine tkY 11 hHeld ?_; try simp only [fz, n1, n3, n5, fc1, fc2, fc3]
    refine tkY 12 hHeld ?_; try simp only [fz, n1, n3, n5, fc1, fc2, fc3]
    refine tkY 13 hHeld ?_; try simp only [fz, n1, n3, n5, fc1, fc2, fc3]
    refine tkY 14 hHeld ?_; try simp only [fz, n1, n3, n5, fc1, fc2, fc3]
    refine tkY 15 hHeld ?_; try simp only [fz, n1, n3, n5, fc1, fc2, fc3]
    refine tkY 16 hHeld ?_; try simp only [fz, n1, n3, n5, fc1, fc2, fc3]
    refine tkY 17 hHeld ?_; try simp only [fz, n1, n3, n5, fc1, fc2, fc3]
    refine tkY 18 hHeld ?_; try simp only [fz, n1, n3, n5, fc1, fc2, fc3]
    refine wpAnyH_ready (rs := [19]) (by kernel_rfl) (by simp) ?_
    refine AllReadyH.cons (by simp only [List.getElem?_toArray, List.getElem?_cons_succ, List.getElem?_cons_zero] <;> rfl) (fun K hK => ?_) ?_
    · go_simp
      refine hK.out _ _ ?_ (fun hHeld => ?_)
      · exact HK.out _ (ud0.alloc _)
      clear hK K
      try simp only [Act.put, List.setIfInBounds_toArray, List.set_cons_zero, List.set_cons_succ]; try simp only [fz, n1, n3, n5, fc1, fc2, fc3]
      refine wpAnyH_ready (rs := [20]) (by kernel_rfl) (by simp) ?_
      refine AllReadyH.cons (by simp only [List.getElem?_toArray, List.getElem?_cons_succ, List.getElem?_cons_zero] <;> rfl) (fun K hK => ?_) ?_
      · go_simp
        refine hK.out _ _ ?_ (fun hHeld => ?_)
        · exact HK.out _ ud1
        clear hK K
        try simp only [Act.put, List.setIfInBounds_toArray, List.set_cons_zero, List.set_cons_succ]; try simp only [fz, n1, n3, n5, fc1, fc2, fc3]
        refine wpAnyH_ready (rs := [21]) (by kernel_rfl) (by simp) ?_
        refine AllReadyH.cons (by simp only [List.getElem?_toArray, List.getElem?_cons_succ, List.getElem?_cons_zero] <;> rfl) (fun K hK => ?_) ?_
        · go_simp; refine (text29_any K1 (ByteArray.mk #[cb]) (b3 : Int) (b4 : Int) (by omega) (by unfold i64in; omega) (by unfold i64in; omega) (by show 1 ≤ _; omega) _).mono ?_; rintro e wv2 ⟨Y, HY, hY, rfl, hq⟩; have ud2 := ud1.trans hq; clear hq; go_wp2_with fail
          refine hK.out _ _ ?_ (fun hHeld => ?_)
          · exact HK.out _ ud2
          clear hK K
          try simp only [Act.put, List.setIfInBounds_toArray, List.set_cons_zero, List.set_cons_succ]; try simp only [fz, n1, n3, n5, fc1, fc2, fc3]
          refine tkY 22 hHeld ?_; try simp only [fz, n1, n3, n5, fc1, fc2, fc3]
          refine wpAnyH_done (by kernel_rfl) ?_ _
          refine NoPanic.normal ?_
          exact hJ Y wv2 (Nat.le_trans hY (vote_len hK1s n2 n4 (by show 1 ≤ _; omega))) (Lib.hid ud2)
        exact AllReadyH.nil
      exact AllReadyH.nil
    exact AllReadyH.nil
  intro Y w4 hY hq
  have U4 := Lib.hid (U3.out.trans hq.out)
  clear HK hk1 hK1s fz n1 n3 n5 n2 n4 n6 m3 m4 m6 mz mz3 ud0 ud1 hq RK3 U3 hcv fc1 fc2 fc3
  go_upto_region 5 with (fail)
  obtain ⟨x1, n1, n2⟩ := and_oneI q1
  obtain ⟨x2, n3, n4⟩ := and_oneI q4
  obtain ⟨x3, n5, n6⟩ := and_oneI q5
  obtain ⟨EU, hEU⟩ : ∃ E, E = (EvG.V ⟨(x1 : Int), 0, 0, 0, 0, a, zero32, 0, 0⟩).toArray := ⟨_, rfl⟩
  obtain ⟨EW, hEW⟩ : ∃ E, E = (EvG.V ⟨(x2 : Int), (x3 : Int), 0, 0, 0, b, zero32, 0, 0⟩).toArray := ⟨_, rfl⟩
  have HBU := Lib.hid (show Tryz.prog.built 33 [(0, .int .i64 (x1 : Int)), (5, .string a)] = some EU by rw [hEU]; exact built_two _ _)
  have HBW := Lib.hid (show Tryz.prog.built 33 [(0, .int .i64 (x2 : Int)), (1, .int .i64 (x3 : Int)), (5, .string b)] = some EW by rw [hEW]; exact built_three _ _ _)
  have oku : EvG.ok ⟨(x1 : Int), 0, 0, 0, 0, a, zero32, 0, 0⟩ := evq_ok x1 0 a n2 (by omega)
  have okw := evq_ok x2 x3 b n4 n6
  have HTU := Lib.hid (fun W (u : Upd [] [] wb W) => dTextG _ oku (show a.size ≤ 1000000000 by omega) W (tabB.upd u))
  have HTW := Lib.hid (fun W (u : Upd [] [] wb W) => dTextG _ okw (show b.size ≤ 1000000000 by omega) W (tabB.upd u))
  have HLU := Lib.hid (EvG.text_len oku (show a.size ≤ 1000000000 by omega))
  have HLW := Lib.hid (EvG.text_len okw (show b.size ≤ 1000000000 by omega))
  rw [← hEU] at HTU
  rw [← hEW] at HTW
  obtain ⟨TU, hTU⟩ : ∃ l, l = EvG.text ⟨(x1 : Int), 0, 0, 0, 0, a, zero32, 0, 0⟩ := ⟨_, rfl⟩
  obtain ⟨TW, hTW⟩ : ∃ l, l = EvG.text ⟨(x2 : Int), (x3 : Int), 0, 0, 0, b, zero32, 0, 0⟩ := ⟨_, rfl⟩
  have hlu : TU.length ≤ 1100000 := by rw [hTU]; exact Nat.le_trans HLU.out (show a.size + 250 ≤ 1100000 by omega)
  have hlw : TW.length ≤ 1100000 := by rw [hTW]; exact Nat.le_trans HLW.out (show b.size + 250 ≤ 1100000 by omega)
  have HTU2 : Hid (∀ W, Upd [] [] wb W → Calls Tryz.prog 6 #[.agg EU] W (MkS TU W)) := fun W u => by rw [hTU]; exact HTU.out W u
  have HTW2 : Hid (∀ W, Upd [] [] wb W → Calls Tryz.prog 6 #[.agg EW] W (MkS TW W)) := fun W u => by rw [hTW]; exact HTW.out W u
  clear HTU HTW HLU HLW hTU hTW hEU hEW oku okw
  obtain ⟨_, c1, _, _, c4, c5⟩ := HQ.out w4 U4.out
  go_wp2_with (first | (refine wpList_buildTo rfl 33 _ rfl _ rfl EU (Eq.trans (congrArg (fun z => Tryz.prog.built 33 z) (by kernel_rfl)) HBU.out) ?_))
  refine (HTU2.out w4 U4.out).mono ?_
  rintro e w5 ⟨u, _, hu, rfl, hq⟩
  have U5 := Lib.hid (U4.out.trans hq)
  have hus : u.size ≤ 1100000 := Nat.le_trans hu hlu
  clear hq hu hlu U4 c1 c4 c5 HTU2 HBU n1
  obtain ⟨_, _, _, _, c4, c5⟩ := HQ.out w5 U5.out
  go_wp2_with (first | (refine wpList_buildTo rfl 33 _ rfl _ rfl EW (Eq.trans (congrArg (fun z => Tryz.prog.built 33 z) (by kernel_rfl)) HBW.out) ?_))
  refine (HTW2.out w5 U5.out).mono ?_
  rintro e w6 ⟨v, _, hv, rfl, hq⟩
  have U6 := Lib.hid (U5.out.trans hq)
  have hvs : v.size ≤ 1100000 := Nat.le_trans hv hlw
  clear hq hv hlw U5 c4 c5 HTW2 HBW n3 n5
  obtain ⟨gA, hgA⟩ : ∃ g, w6.heap.size = g := ⟨_, rfl⟩
  obtain ⟨w7, hw7⟩ : ∃ W, w6.alloc (.cells #[.string a, .string b, .string X, .string Y, .string u, .string v] 9) = W := ⟨_, rfl⟩
  have RA := Lib.hid (show w7.heap[gA]? = some (.cells ([a, b, X, Y, u, v].map Value.string).toArray 9 (0, 0)) by rw [← hgA, ← hw7]; exact heap_alloc_new _ _)
  have U7 := Lib.hid (U6.out.trans (show Upd [] [] w6 w7 by rw [← hw7]; exact (Upd.refl _ _).alloc _))
  obtain ⟨XS, hXS⟩ : ∃ XS : List ByteArray, XS = [a, b, X, Y, u, v] := ⟨_, rfl⟩
  have HXL : Hid (XS.length = 6) := by show _ = _; rw [hXS]; rfl
  have HSZ : Hid (∀ p ∈ XS, p.size ≤ 1100000) := by
    intro p hp
    rw [hXS] at hp
    simp only [List.mem_cons, List.not_mem_nil, or_false] at hp
    rcases hp with rfl | rfl | rfl | rfl | rfl | rfl <;> omega
  have HA : Hid (∀ W, Upd [] [] w7 W → ∀ (j : Nat) (p : ByteArray), XS[j]? = some p → W.cell? ⟨gA, j, none⟩ = some (.string p)) := by
    intro W u j p hp
    rw [← hXS] at RA
    rw [cell_of_row _ gA j _ _ _ (heap_upd RA.out u), List.getElem?_toArray, List.getElem?_map, hp]
    rfl
  clear U6 hXS RA
  go_wp2_with fail
  clear hgA hw7
  go_loopw [14, 15, 16] (fun i _ _ wr => ∃ n : Nat, i = .int .i64 (n : Int) ∧ n ≤ 6 ∧ Hid (Upd [] [] w7 wr)) (fun i _ _ _ => 6 - (intOf i).toNat)
  case atStart => exact ⟨0, rfl, Nat.zero_le _, Upd.refl _ _⟩
  case round =>
    obtain ⟨n, rfl, hn, HU⟩ := hrel
    by_cases hn6 : n < 6
    · obtain ⟨p, hp⟩ : ∃ p, XS[n]? = some p := ⟨_, List.getElem?_eq_getElem (by rw [HXL.out]; exact hn6)⟩
      have hps : p.size ≤ 1100000 := HSZ.out p (List.mem_of_getElem? hp)
      have HP := Lib.hid hp
      have nn0 : (0 : Int) ≤ (n : Int) := by omega
      have nn6 : (n : Int) < 6 := by omega
      rename World => wo
      clear hp
      go_wp2_with fail
      go_loopw [15, 16] (fun j _ wi => ∃ m : Nat, j = .int .i64 (m : Int) ∧ m ≤ 6 ∧ Hid (Upd [] [] w7 wi)) (fun j _ _ => 6 - (intOf j).toNat)
      case atStart => exact ⟨0, rfl, Nat.zero_le _, HU.out⟩
      case round =>
        obtain ⟨m, rfl, hm, HI⟩ := hrel
        by_cases hm6 : m < 6
        · obtain ⟨r, hr⟩ : ∃ r, XS[m]? = some r := ⟨_, List.getElem?_eq_getElem (by rw [HXL.out]; exact hm6)⟩
          have hrs : r.size ≤ 1100000 := HSZ.out r (List.mem_of_getElem? hr)
          have HR := Lib.hid hr
          have mm0 : (0 : Int) ≤ (m : Int) := by omega
          have mm6 : (m : Int) < 6 := by omega
          have HC2 : Hid (∀ W, Upd [] [] w7 W → W.cell? ⟨gA, n, none⟩ = some (.string p) ∧ W.cell? ⟨gA, m, none⟩ = some (.string r)) := fun W u => ⟨HA.out W u n p HP.out, HA.out W u m r HR.out⟩
          have ud0 : Upd [] [] w7 wr.drew := HI.out.drew
          have HTB : Hid (∀ W, Upd [] [] w7 W → Tabs W) := fun W u => tabB.upd (U7.out.trans u)
          clear hr
          go_upto_region 14 with (fail)
          refine @_root_.id ((∀ (c : Bool) (W : World), Hid (ConR (bs p) (bs r) c) → Hid (Upd [] [] w7 W) → (?pj38 : Bool → World → Prop) c W) → _) (fun hJ => ?mj38) ?jj38
          case mj38 =>
            refine wp_region_noPanic ?_
            refine wp_region_held_drew (S := fun wp => wp.cell? ⟨gA, n, none⟩ = some (.string p) ∧ wp.cell? ⟨gA, m, none⟩ = some (.string r)) (by kernel_rfl) ?_ (fun hHeld => ?_)
            · exact HC2.out _ ud0
            refine tkY 0 hHeld ?_
            refine tkY 1 hHeld ?_
            refine tkY 2 hHeld ?_
            refine tkY 3 hHeld ?_
            refine tkY 4 hHeld ?_
            refine tkY 5 hHeld ?_
            refine tkY 6 hHeld ?_
            refine tkY 7 hHeld ?_
            refine wpAnyH_ready (rs := [8]) (by kernel_rfl) (by simp) ?_
            refine AllReadyH.cons (by simp only [List.getElem?_toArray, List.getElem?_cons_succ, List.getElem?_cons_zero] <;> rfl) (fun K hK => ?_) ?_
            · go_simp; refine (contraG p r (by omega) (by omega) _ (HTB.out _ ud0)).mono ?_; rintro e wv1 ⟨c, HC, rfl, hq⟩; have ud1 := ud0.trans hq; clear hq; go_wp2_with fail
              refine hK.out _ _ ?_ (fun hHeld => ?_)
              · exact HC2.out _ ud1
              clear hK K
              try simp only [Act.put, List.setIfInBounds_toArray, List.set_cons_zero, List.set_cons_succ]
              refine tkY 9 hHeld ?_
              refine wpAnyH_done (by kernel_rfl) ?_ _
              refine NoPanic.normal ?_
              exact hJ c wv1 HC (Lib.hid ud1)
            exact AllReadyH.nil
          intro c wc HC HUC
          have ud0 : Upd [] [] w7 wc.drew := HUC.out.drew
          have HTB : Hid (∀ W, Upd [] [] w7 W → Tabs W) := fun W u => tabB.upd (U7.out.trans u)
          go_upto_region 15 with (fail)
          by_cases hnm : n = m
          · have hpr : p = r := by
              have h1 := HP.out
              have h2 := HR.out
              rw [hnm, h2] at h1
              injection h1 with h1
              exact h1.symm
            obtain rfl : c = false := HC.out.1 (by rw [hpr])
            have fnm : ((n : Int) == (m : Int)) = true := by rw [beq_iff_eq, hnm]
            clear hnm hpr
            refine wp_region_noPanic ?_
            refine wp_region_held_drew (S := fun wp => wp.cell? ⟨gA, n, none⟩ = some (.string p) ∧ wp.cell? ⟨gA, m, none⟩ = some (.string r)) (by kernel_rfl) ?_ (fun hHeld => ?_)
            · exact HC2.out _ ud0
            refine tkY 0 hHeld ?_; try simp only [fnm, bne_self_eq_false, Bool.or_false]
            refine tkY 1 hHeld ?_; try simp only [fnm, bne_self_eq_false, Bool.or_false]
            refine tkY 2 hHeld ?_; try simp only [fnm, bne_self_eq_false, Bool.or_false]
            refine tkY 3 hHeld ?_; try simp only [fnm, bne_self_eq_false, Bool.or_false]
            refine tkY 4 hHeld ?_; try simp only [fnm, bne_self_eq_false, Bool.or_false]
            refine tkY 5 hHeld ?_; try simp only [fnm, bne_self_eq_false, Bool.or_false]
            refine tkY 6 hHeld ?_; try simp only [fnm, bne_self_eq_false, Bool.or_false]
            refine tkY 7 hHeld ?_; try simp only [fnm, bne_self_eq_false, Bool.or_false]
            refine tkY 8 hHeld ?_; try simp only [fnm, bne_self_eq_false, Bool.or_false]
            refine wpAnyH_ready (rs := [9]) (by kernel_rfl) (by simp) ?_
            refine AllReadyH.cons (by simp only [List.getElem?_toArray, List.getElem?_cons_succ, List.getElem?_cons_zero] <;> rfl) (fun K hK => ?_) ?_
            · go_simp; refine (con33_any p r (by omega) (by omega) _).mono ?_; rintro e wv1 ⟨c1, HC1, rfl, hq⟩; obtain rfl : c1 = false := HC1.out.same HC.out; have ud1 := ud0.trans hq; clear hq HC1; go_wp2_with fail
              refine hK.out _ _ ?_ (fun hHeld => ?_)
              · exact HC2.out _ ud1
              clear hK K
              try simp only [Act.put, List.setIfInBounds_toArray, List.set_cons_zero, List.set_cons_succ]; try simp only [fnm, bne_self_eq_false, Bool.or_false]
              refine tkY 10 hHeld ?_; try simp only [fnm, bne_self_eq_false, Bool.or_false]
              refine tkY 11 hHeld ?_; try simp only [fnm, bne_self_eq_false, Bool.or_false]
              refine tkY 12 hHeld ?_; try simp only [fnm, bne_self_eq_false, Bool.or_false]
              refine tkY 13 hHeld ?_; try simp only [fnm, bne_self_eq_false, Bool.or_false]
              refine tkY 14 hHeld ?_; try simp only [fnm, bne_self_eq_false, Bool.or_false]
              refine tkY 15 hHeld ?_; try simp only [fnm, bne_self_eq_false, Bool.or_false]
              refine tkY 16 hHeld ?_; try simp only [fnm, bne_self_eq_false, Bool.or_false]
              refine tkY 17 hHeld ?_; try simp only [fnm, bne_self_eq_false, Bool.or_false]
              refine tkY 18 hHeld ?_; try simp only [fnm, bne_self_eq_false, Bool.or_false]
              refine tkY 19 hHeld ?_; try simp only [fnm, bne_self_eq_false, Bool.or_false]
              refine tkY 20 hHeld ?_; try simp only [fnm, bne_self_eq_false, Bool.or_false]
              refine wpAnyH_ready (rs := [21]) (by kernel_rfl) (by simp) ?_
              refine AllReadyH.cons (by simp only [List.getElem?_toArray, List.getElem?_cons_succ, List.getElem?_cons_zero] <;> rfl) (fun K hK => ?_) ?_
              · go_simp; refine (contraG r p (by omega) (by omega) _ (HTB.out _ ud1)).mono ?_; rintro e wv2 ⟨c2, HC3, rfl, hq⟩; obtain rfl : c2 = false := HC3.out.same HC.out.symm; have ud2 := ud1.trans hq; clear hq HC3; go_wp2_with fail
                refine hK.out _ _ ?_ (fun hHeld => ?_)
                · exact HC2.out _ ud2
                clear hK K
                try simp only [Act.put, List.setIfInBounds_toArray, List.set_cons_zero, List.set_cons_succ]; try simp only [fnm, bne_self_eq_false, Bool.or_false]
                refine tkY 22 hHeld ?_; try simp only [fnm, bne_self_eq_false, Bool.or_false]
                refine tkY 23 hHeld ?_; try simp only [fnm, bne_self_eq_false, Bool.or_false]
                refine tkY 24 hHeld ?_; try simp only [fnm, bne_self_eq_false, Bool.or_false]
                refine tkY 25 hHeld ?_; try simp only [fnm, bne_self_eq_false, Bool.or_false]
                refine tkY 26 hHeld ?_; try simp only [fnm, bne_self_eq_false, Bool.or_false]
                refine tkY 27 hHeld ?_; try simp only [fnm, bne_self_eq_false, Bool.or_false]
                refine tkY 28 hHeld ?_; try simp only [fnm, bne_self_eq_false, Bool.or_false]
                refine tkY 29 hHeld ?_; try simp only [fnm, bne_self_eq_false, Bool.or_false]
                refine tkY 30 hHeld ?_; try simp only [fnm, bne_self_eq_false, Bool.or_false]
                refine tkY 31 hHeld ?_; try simp only [fnm, bne_self_eq_false, Bool.or_false]
                refine wpAnyH_done (by kernel_rfl) ?_ _
                refine NoPanic.normal ?_
                go_wp2_with fail
                exact ⟨⟨m + 1, by go_num, by omega, Lib.hid ud2⟩, by simp [intOf]; omega⟩
              exact AllReadyH.nil
            exact AllReadyH.nil
          have fnm : ((n : Int) == (m : Int)) = false := by rw [beq_eq_false_iff_ne]; omega
          clear hnm
          cases c
          · skip
            refine wp_region_noPanic ?_
            refine wp_region_held_drew (S := fun wp => wp.cell? ⟨gA, n, none⟩ = some (.string p) ∧ wp.cell? ⟨gA, m, none⟩ = some (.string r)) (by kernel_rfl) ?_ (fun hHeld => ?_)
            · exact HC2.out _ ud0
            refine tkY 0 hHeld ?_; try simp only [fnm, bne_self_eq_false, Bool.or_false]
            refine tkY 1 hHeld ?_; try simp only [fnm, bne_self_eq_false, Bool.or_false]
            refine tkY 2 hHeld ?_; try simp only [fnm, bne_self_eq_false, Bool.or_false]
            refine tkY 3 hHeld ?_; try simp only [fnm, bne_self_eq_false, Bool.or_false]
            refine tkY 4 hHeld ?_; try simp only [fnm, bne_self_eq_false, Bool.or_false]
            refine tkY 5 hHeld ?_; try simp only [fnm, bne_self_eq_false, Bool.or_false]
            refine tkY 6 hHeld ?_; try simp only [fnm, bne_self_eq_false, Bool.or_false]
            refine tkY 7 hHeld ?_; try simp only [fnm, bne_self_eq_false, Bool.or_false]
            refine tkY 8 hHeld ?_; try simp only [fnm, bne_self_eq_false, Bool.or_false]
            refine wpAnyH_ready (rs := [9]) (by kernel_rfl) (by simp) ?_
            refine AllReadyH.cons (by simp only [List.getElem?_toArray, List.getElem?_cons_succ, List.getElem?_cons_zero] <;> rfl) (fun K hK => ?_) ?_
            · go_simp; refine (con33_any p r (by omega) (by omega) _).mono ?_; rintro e wv1 ⟨c1, HC1, rfl, hq⟩; obtain rfl : c1 = false := HC1.out.same HC.out; have ud1 := ud0.trans hq; clear hq HC1; go_wp2_with fail
              refine hK.out _ _ ?_ (fun hHeld => ?_)
              · exact HC2.out _ ud1
              clear hK K
              try simp only [Act.put, List.setIfInBounds_toArray, List.set_cons_zero, List.set_cons_succ]; try simp only [fnm, bne_self_eq_false, Bool.or_false]
              refine tkY 10 hHeld ?_; try simp only [fnm, bne_self_eq_false, Bool.or_false]
              refine tkY 11 hHeld ?_; try simp only [fnm, bne_self_eq_false, Bool.or_false]
              refine tkY 12 hHeld ?_; try simp only [fnm, bne_self_eq_false, Bool.or_false]
              refine tkY 13 hHeld ?_; try simp only [fnm, bne_self_eq_false, Bool.or_false]
              refine tkY 14 hHeld ?_; try simp only [fnm, bne_self_eq_false, Bool.or_false]
              refine tkY 15 hHeld ?_; try simp only [fnm, bne_self_eq_false, Bool.or_false]
              refine tkY 16 hHeld ?_; try simp only [fnm, bne_self_eq_false, Bool.or_false]
              refine tkY 17 hHeld ?_; try simp only [fnm, bne_self_eq_false, Bool.or_false]
              refine tkY 18 hHeld ?_; try simp only [fnm, bne_self_eq_false, Bool.or_false]
              refine tkY 19 hHeld ?_; try simp only [fnm, bne_self_eq_false, Bool.or_false]
              refine tkY 20 hHeld ?_; try simp only [fnm, bne_self_eq_false, Bool.or_false]
              refine wpAnyH_ready (rs := [21]) (by kernel_rfl) (by simp) ?_
              refine AllReadyH.cons (by simp only [List.getElem?_toArray, List.getElem?_cons_succ, List.getElem?_cons_zero] <;> rfl) (fun K hK => ?_) ?_
              · go_simp; refine (contraG r p (by omega) (by omega) _ (HTB.out _ ud1)).mono ?_; rintro e wv2 ⟨c2, HC3, rfl, hq⟩; obtain rfl : c2 = false := HC3.out.same HC.out.symm; have ud2 := ud1.trans hq; clear hq HC3; go_wp2_with fail
                refine hK.out _ _ ?_ (fun hHeld => ?_)
                · exact HC2.out _ ud2
                clear hK K
                try simp only [Act.put, List.setIfInBounds_toArray, List.set_cons_zero, List.set_cons_succ]; try simp only [fnm, bne_self_eq_false, Bool.or_false]
                refine tkY 22 hHeld ?_; try simp only [fnm, bne_self_eq_false, Bool.or_false]
                refine tkY 23 hHeld ?_; try simp only [fnm, bne_self_eq_false, Bool.or_false]
                refine tkY 24 hHeld ?_; try simp only [fnm, bne_self_eq_false, Bool.or_false]
                refine tkY 25 hHeld ?_; try simp only [fnm, bne_self_eq_false, Bool.or_false]
                refine tkY 26 hHeld ?_; try simp only [fnm, bne_self_eq_false, Bool.or_false]
                refine tkY 27 hHeld ?_; try simp only [fnm, bne_self_eq_false, Bool.or_false]
                refine tkY 28 hHeld ?_; try simp only [fnm, bne_self_eq_false, Bool.or_false]
                refine tkN 29 hHeld ?_; try simp only [fnm, bne_self_eq_false, Bool.or_false]
                refine tkY 30 hHeld ?_; try simp only [fnm, bne_self_eq_false, Bool.or_false]
                refine tkY 31 hHeld ?_; try simp only [fnm, bne_self_eq_false, Bool.or_false]
                refine wpAnyH_done (by kernel_rfl) ?_ _
                refine NoPanic.normal ?_
                go_wp2_with fail
                exact ⟨⟨m + 1, by go_num, by omega, Lib.hid ud2⟩, by simp [intOf]; omega⟩
              exact AllReadyH.nil
            exact AllReadyH.nil
          · skip
            refine wp_region_noPanic ?_
            refine wp_region_held_drew (S := fun wp => wp.cell? ⟨gA, n, none⟩ = some (.string p) ∧ wp.cell? ⟨gA, m, none⟩ = some (.string r)) (by kernel_rfl) ?_ (fun hHeld => ?_)
            · exact HC2.out _ ud0
            refine tkY 0 hHeld ?_; try simp only [fnm, bne_self_eq_false, Bool.or_false]
            refine tkY 1 hHeld ?_; try simp only [fnm, bne_self_eq_false, Bool.or_false]
            refine tkY 2 hHeld ?_; try simp only [fnm, bne_self_eq_false, Bool.or_false]
            refine tkY 3 hHeld ?_; try simp only [fnm, bne_self_eq_false, Bool.or_false]
            refine tkY 4 hHeld ?_; try simp only [fnm, bne_self_eq_false, Bool.or_false]
            refine tkY 5 hHeld ?_; try simp only [fnm, bne_self_eq_false, Bool.or_false]
            refine tkY 6 hHeld ?_; try simp only [fnm, bne_self_eq_false, Bool.or_false]
            refine tkY 7 hHeld ?_; try simp only [fnm, bne_self_eq_false, Bool.or_false]
            refine tkY 8 hHeld ?_; try simp only [fnm, bne_self_eq_false, Bool.or_false]
            refine wpAnyH_ready (rs := [9]) (by kernel_rfl) (by simp) ?_
            refine AllReadyH.cons (by simp only [List.getElem?_toArray, List.getElem?_cons_succ, List.getElem?_cons_zero] <;> rfl) (fun K hK => ?_) ?_
            · go_simp; refine (con33_any p r (by omega) (by omega) _).mono ?_; rintro e wv1 ⟨c1, HC1, rfl, hq⟩; obtain rfl : c1 = true := HC1.out.same HC.out; have ud1 := ud0.trans hq; clear hq HC1; go_wp2_with fail
              refine hK.out _ _ ?_ (fun hHeld => ?_)
              · exact HC2.out _ ud1
              clear hK K
              try simp only [Act.put, List.setIfInBounds_toArray, List.set_cons_zero, List.set_cons_succ]; try simp only [fnm, bne_self_eq_false, Bool.or_false]
              refine tkY 10 hHeld ?_; try simp only [fnm, bne_self_eq_false, Bool.or_false]
              refine tkY 11 hHeld ?_; try simp only [fnm, bne_self_eq_false, Bool.or_false]
              refine tkY 12 hHeld ?_; try simp only [fnm, bne_self_eq_false, Bool.or_false]
              refine tkY 13 hHeld ?_; try simp only [fnm, bne_self_eq_false, Bool.or_false]
              refine tkY 14 hHeld ?_; try simp only [fnm, bne_self_eq_false, Bool.or_false]
              refine tkY 15 hHeld ?_; try simp only [fnm, bne_self_eq_false, Bool.or_false]
              refine tkY 16 hHeld ?_; try simp only [fnm, bne_self_eq_false, Bool.or_false]
              refine tkY 17 hHeld ?_; try simp only [fnm, bne_self_eq_false, Bool.or_false]
              refine tkY 18 hHeld ?_; try simp only [fnm, bne_self_eq_false, Bool.or_false]
              refine tkY 19 hHeld ?_; try simp only [fnm, bne_self_eq_false, Bool.or_false]
              refine tkY 20 hHeld ?_; try simp only [fnm, bne_self_eq_false, Bool.or_false]
              refine wpAnyH_ready (rs := [21]) (by kernel_rfl) (by simp) ?_
              refine AllReadyH.cons (by simp only [List.getElem?_toArray, List.getElem?_cons_succ, List.getElem?_cons_zero] <;> rfl) (fun K hK => ?_) ?_
              · go_simp; refine (contraG r p (by omega) (by omega) _ (HTB.out _ ud1)).mono ?_; rintro e wv2 ⟨c2, HC3, rfl, hq⟩; obtain rfl : c2 = true := HC3.out.same HC.out.symm; have ud2 := ud1.trans hq; clear hq HC3; go_wp2_with fail
                refine hK.out _ _ ?_ (fun hHeld => ?_)
                · exact HC2.out _ ud2
                clear hK K
                try simp only [Act.put, List.setIfInBounds_toArray, List.set_cons_zero, List.set_cons_succ]; try simp only [fnm, bne_self_eq_false, Bool.or_false]
                refine tkY 22 hHeld ?_; try simp only [fnm, bne_self_eq_false, Bool.or_false]
                refine tkY 23 hHeld ?_; try simp only [fnm, bne_self_eq_false, Bool.or_false]
                refine tkY 24 hHeld ?_; try simp only [fnm, bne_self_eq_false, Bool.or_false]
                refine tkY 25 hHeld ?_; try simp only [fnm, bne_self_eq_false, Bool.or_false]
                refine tkY 26 hHeld ?_; try simp only [fnm, bne_self_eq_false, Bool.or_false]
                refine tkY 27 hHeld ?_; try simp only [fnm, bne_self_eq_false, Bool.or_false]
                refine tkY 28 hHeld ?_; try simp only [fnm, bne_self_eq_false, Bool.or_false]
                refine tkN 29 hHeld ?_; try simp only [fnm, bne_self_eq_false, Bool.or_false]
                refine tkY 30 hHeld ?_; try simp only [fnm, bne_self_eq_false, Bool.or_false]
                refine tkY 31 hHeld ?_; try simp only [fnm, bne_self_eq_false, Bool.or_false]
                refine wpAnyH_done (by kernel_rfl) ?_ _
                refine NoPanic.normal ?_
                go_wp2_with fail
                exact ⟨⟨m + 1, by go_num, by omega, Lib.hid ud2⟩, by simp [intOf]; omega⟩
              exact AllReadyH.nil
            exact AllReadyH.nil
        · obtain rfl : m = 6 := by omega
          go_wp2_with fail
          exact ⟨⟨n + 1, by go_num, by omega, HI⟩, by simp [intOf]; omega⟩
    · obtain rfl : n = 6 := by omega
      have UR := Lib.hid (U7.out.trans HU.out)
      have HK17 : Hid (∀ W, Upd [] [] wr W → W.cell? ⟨gq, 0, none⟩ = some (.int .i64 q0) ∧ W.cell? ⟨gq, 1, none⟩ = some (.int .i64 q1) ∧ W.cell? ⟨gq, 2, none⟩ = some (.int .i64 q2) ∧ W.cell? ⟨gq, 3, none⟩ = some (.int .i64 q3)) := fun W u => by
        have h := HQ.out W (UR.out.trans u)
        exact ⟨h.1, h.2.1, h.2.2.1, h.2.2.2.1⟩
      have ud0 : Upd [] [] wr wr.drew := (Upd.refl _ _).drew
      clear HU HQ HA HSZ HXL U7
      go_upto_region 17 with (fail)
      refine @_root_.id ((∀ (F A : ByteArray) (gD : Nat) (W : World), Hid (bs F = be q2.toNat) → Hid (bs A = be q3.toNat) → Hid (W.heap[gD]? = some (.cells (dspG q0 q1 F A ⟨#[]⟩) 38 (0, 0))) → Hid (Upd [] [] wr W) → (?pj136 : ByteArray → ByteArray → Nat → World → Prop) F A gD W) → _) (fun hJ => ?mj136) ?jj136
      case mj136 =>
        refine wp_region_noPanic ?_
        refine wp_region_held_drew (S := fun wp => wp.cell? ⟨gq, 0, none⟩ = some (.int .i64 q0) ∧ wp.cell? ⟨gq, 1, none⟩ = some (.int .i64 q1) ∧ wp.cell? ⟨gq, 2, none⟩ = some (.int .i64 q2) ∧ wp.cell? ⟨gq, 3, none⟩ = some (.int .i64 q3)) (by kernel_rfl) ?_ (fun hHeld => ?_)
        · exact HK17.out _ ud0
        refine tkY 0 hHeld ?_
        refine tkY 1 hHeld ?_
        refine tkY 2 hHeld ?_
        refine tkY 3 hHeld ?_
        refine tkY 4 hHeld ?_
        refine tkY 5 hHeld ?_
        refine tkY 7 hHeld ?_
        refine tkY 8 hHeld ?_
        refine wpAnyH_ready (rs := [6, 11]) (by kernel_rfl) (by simp) ?_
        refine AllReadyH.cons (by simp only [List.getElem?_toArray, List.getElem?_cons_succ, List.getElem?_cons_zero] <;> rfl) (fun K hK => ?_) ?_
        · go_simp; refine (natOf_any q2 HII.out.2.2.1 _).mono ?_; rintro e wv1 ⟨F, HF, rfl, hq⟩; have ud1 := ud0.trans hq; clear hq; go_wp2_with fail
          refine hK.out _ _ ?_ (fun hHeld => ?_)
          · exact HK17.out _ ud1
          clear hK K
          try simp only [Act.put, List.setIfInBounds_toArray, List.set_cons_zero, List.set_cons_succ]
          refine wpAnyH_ready (rs := [9, 11]) (by kernel_rfl) (by simp) ?_
          refine AllReadyH.cons (by simp only [List.getElem?_toArray, List.getElem?_cons_succ, List.getElem?_cons_zero] <;> rfl) (fun K hK => ?_) ?_
          · go_simp; refine (natOf_any q3 HII.out.2.2.2 _).mono ?_; rintro e wv2 ⟨A, HFA, rfl, hq⟩; have ud2 := ud1.trans hq; clear hq; go_wp2_with fail
            refine hK.out _ _ ?_ (fun hHeld => ?_)
            · exact HK17.out _ ud2
            clear hK K
            try simp only [Act.put, List.setIfInBounds_toArray, List.set_cons_zero, List.set_cons_succ]
            refine tkY 10 hHeld ?_
            refine wpAnyH_ready (rs := [11]) (by kernel_rfl) (by simp) ?_
            refine AllReadyH.cons (by simp only [List.getElem?_toArray, List.getElem?_cons_succ, List.getElem?_cons_zero] <;> rfl) (fun K hK => ?_) ?_
            · go_simp; obtain ⟨gD, wv3, hgx, hwx, fD_3, hq⟩ := alloc_let (wv2) (.cells #[.int .i64 0, .int .i64 0, .string ⟨#[]⟩, .string ⟨#[]⟩, .string ⟨#[]⟩] 38); rw [← hgx, ← hwx]; have bD : wr.heap.size ≤ gD := (by have := ud2.size; omega); have ud3 := ud2.trans hq; clear hgx hwx hq
              refine hK.out _ _ ?_ (fun hHeld => ?_)
              · exact HK17.out _ ud3
              clear hK K
              try simp only [Act.put, List.setIfInBounds_toArray, List.set_cons_zero, List.set_cons_succ]
              refine wpAnyH_ready (rs := [12]) (by kernel_rfl) (by simp) ?_
              refine AllReadyH.cons (by simp only [List.getElem?_toArray, List.getElem?_cons_succ, List.getElem?_cons_zero] <;> rfl) (fun K hK => ?_) ?_
              · rw [if_pos (by rfl)]; refine wp_store_row 38 _ _ rfl gD (dspG q0 q1 F A ⟨#[]⟩) rfl rfl _ _ fD_3.out (dsp_info _ _ _ _ _) rfl (dsp_one _ _ _ _ _) ?_; obtain ⟨wv4, hwx⟩ : ∃ W' : World, W' = wv3.setRow gD (dspG q0 q1 F A ⟨#[]⟩) := ⟨_, rfl⟩; have fD_4 : Hid (wv4.heap[gD]? = some (.cells (dspG q0 q1 F A ⟨#[]⟩) 38 (0, 0))) := (by show _ = _; rw [hwx]; exact setRow_heap _ _ _ _ _ _ fD_3.out); have ud4 := ud3.setRowNew bD (dspG q0 q1 F A ⟨#[]⟩); rw [← hwx] at ud4 ⊢; clear hwx
                refine hK.out _ _ ?_ (fun hHeld => ?_)
                · exact HK17.out _ ud4
                clear hK K
                try simp only [Act.put]
                refine wpAnyH_done (by kernel_rfl) ?_ _
                refine NoPanic.normal ?_
                exact hJ F A gD wv4 HF HFA fD_4 (Lib.hid ud4)
              exact AllReadyH.nil
            exact AllReadyH.nil
          refine AllReadyH.cons (by simp only [List.getElem?_toArray, List.getElem?_cons_succ, List.getElem?_cons_zero] <;> rfl) (fun K hK => ?_) ?_
          · go_simp; obtain ⟨gD, wv2, hgx, hwx, fD_2, hq⟩ := alloc_let (wv1) (.cells #[.int .i64 0, .int .i64 0, .string ⟨#[]⟩, .string ⟨#[]⟩, .string ⟨#[]⟩] 38); rw [← hgx, ← hwx]; have bD : wr.heap.size ≤ gD := (by have := ud1.size; omega); have ud2 := ud1.trans hq; clear hgx hwx hq
            refine hK.out _ _ ?_ (fun hHeld => ?_)
            · exact HK17.out _ ud2
            clear hK K
            try simp only [Act.put, List.setIfInBounds_toArray, List.set_cons_zero, List.set_cons_succ]
            refine wpAnyH_ready (rs := [9]) (by kernel_rfl) (by simp) ?_
            refine AllReadyH.cons (by simp only [List.getElem?_toArray, List.getElem?_cons_succ, List.getElem?_cons_zero] <;> rfl) (fun K hK => ?_) ?_
            · go_simp; refine (natOf_any q3 HII.out.2.2.2 _).mono ?_; rintro e wv3 ⟨A, HFA, rfl, hq⟩; have ud3 := ud2.trans hq; have fD_3 := Lib.hid (row_updH fD_2.out hq); clear hq; go_wp2_with fail
              refine hK.out _ _ ?_ (fun hHeld => ?_)
              · exact HK17.out _ ud3
              clear hK K
              try simp only [Act.put, List.setIfInBounds_toArray, List.set_cons_zero, List.set_cons_succ]
              refine tkY 10 hHeld ?_
              refine wpAnyH_ready (rs := [12]) (by kernel_rfl) (by simp) ?_
              refine AllReadyH.cons (by simp only [List.getElem?_toArray, List.getElem?_cons_succ, List.getElem?_cons_zero] <;> rfl) (fun K hK => ?_) ?_
              · rw [if_pos (by rfl)]; refine wp_store_row 38 _ _ rfl gD (dspG q0 q1 F A ⟨#[]⟩) rfl rfl _ _ fD_3.out (dsp_info _ _ _ _ _) rfl (dsp_one _ _ _ _ _) ?_; obtain ⟨wv4, hwx⟩ : ∃ W' : World, W' = wv3.setRow gD (dspG q0 q1 F A ⟨#[]⟩) := ⟨_, rfl⟩; have fD_4 : Hid (wv4.heap[gD]? = some (.cells (dspG q0 q1 F A ⟨#[]⟩) 38 (0, 0))) := (by show _ = _; rw [hwx]; exact setRow_heap _ _ _ _ _ _ fD_3.out); have ud4 := ud3.setRowNew bD (dspG q0 q1 F A ⟨#[]⟩); rw [← hwx] at ud4 ⊢; clear hwx
                refine hK.out _ _ ?_ (fun hHeld => ?_)
                · exact HK17.out _ ud4
                clear hK K
                try simp only [Act.put]
                refine wpAnyH_done (by kernel_rfl) ?_ _
                refine NoPanic.normal ?_
                exact hJ F A gD wv4 HF HFA fD_4 (Lib.hid ud4)
              exact AllReadyH.nil
            exact AllReadyH.nil
          exact AllReadyH.nil
        refine AllReadyH.cons (by simp only [List.getElem?_toArray, List.getElem?_cons_succ, List.getElem?_cons_zero] <;> rfl) (fun K hK => ?_) ?_
        · go_simp; obtain ⟨gD, wv1, hgx, hwx, fD_1, hq⟩ := alloc_letD wr (.cells #[.int .i64 0, .int .i64 0, .string ⟨#[]⟩, .string ⟨#[]⟩, .string ⟨#[]⟩] 38); rw [← hgx, ← hwx]; have bD : wr.heap.size ≤ gD := (by omega); have ud1 := hq; clear hgx hwx hq
          refine hK.out _ _ ?_ (fun hHeld => ?_)
          · exact HK17.out _ ud1
          clear hK K
          try simp only [Act.put, List.setIfInBounds_toArray, List.set_cons_zero, List.set_cons_succ]
          refine wpAnyH_ready (rs := [6]) (by kernel_rfl) (by simp) ?_
          refine AllReadyH.cons (by simp only [List.getElem?_toArray, List.getElem?_cons_succ, List.getElem?_cons_zero] <;> rfl) (fun K hK => ?_) ?_
          · go_simp; refine (natOf_any q2 HII.out.2.2.1 _).mono ?_; rintro e wv2 ⟨F, HF, rfl, hq⟩; have ud2 := ud1.trans hq; have fD_2 := Lib.hid (row_updH fD_1.out hq); clear hq; go_wp2_with fail
            refine hK.out _ _ ?_ (fun hHeld => ?_)
            · exact HK17.out _ ud2
            clear hK K
            try simp only [Act.put, List.setIfInBounds_toArray, List.set_cons_zero, List.set_cons_succ]
            refine wpAnyH_ready (rs := [9]) (by kernel_rfl) (by simp) ?_
            refine AllReadyH.cons (by simp only [List.getElem?_toArray, List.getElem?_cons_succ, List.getElem?_cons_zero] <;> rfl) (fun K hK => ?_) ?_
            · go_simp; refine (natOf_any q3 HII.out.2.2.2 _).mono ?_; rintro e wv3 ⟨A, HFA, rfl, hq⟩; have ud3 := ud2.trans hq; have fD_3 := Lib.hid (row_updH fD_2.out hq); clear hq; go_wp2_with fail
              refine hK.out _ _ ?_ (fun hHeld => ?_)
              · exact HK17.out _ ud3
              clear hK K
              try simp only [Act.put, List.setIfInBounds_toArray, List.set_cons_zero, List.set_cons_succ]
              refine tkY 10 hHeld ?_
              refine wpAnyH_ready (rs := [12]) (by kernel_rfl) (by simp) ?_
              refine AllReadyH.cons (by simp only [List.getElem?_toArray, List.getElem?_cons_succ, List.getElem?_cons_zero] <;> rfl) (fun K hK => ?_) ?_
              · rw [if_pos (by rfl)]; refine wp_store_row 38 _ _ rfl gD (dspG q0 q1 F A ⟨#[]⟩) rfl rfl _ _ fD_3.out (dsp_info _ _ _ _ _) rfl (dsp_one _ _ _ _ _) ?_; obtain ⟨wv4, hwx⟩ : ∃ W' : World, W' = wv3.setRow gD (dspG q0 q1 F A ⟨#[]⟩) := ⟨_, rfl⟩; have fD_4 : Hid (wv4.heap[gD]? = some (.cells (dspG q0 q1 F A ⟨#[]⟩) 38 (0, 0))) := (by show _ = _; rw [hwx]; exact setRow_heap _ _ _ _ _ _ fD_3.out); have ud4 := ud3.setRowNew bD (dspG q0 q1 F A ⟨#[]⟩); rw [← hwx] at ud4 ⊢; clear hwx
                refine hK.out _ _ ?_ (fun hHeld => ?_)
                · exact HK17.out _ ud4
                clear hK K
                try simp only [Act.put]
                refine wpAnyH_done (by kernel_rfl) ?_ _
                refine NoPanic.normal ?_
                exact hJ F A gD wv4 HF HFA fD_4 (Lib.hid ud4)
              exact AllReadyH.nil
            exact AllReadyH.nil
          exact AllReadyH.nil
        exact AllReadyH.nil
      intro F A gD wd HF HFA RD hq
      have UD := Lib.hid (UR.out.trans hq.out)
      clear hq UR HK17 ud0
      go_upto_region 18 with (fail)
      obtain ⟨DV, hDV⟩ : ∃ DV, DV = dspG q0 q1 F A ⟨#[]⟩ := ⟨_, rfl⟩
      have HKD : Hid (∀ W, Upd [] [] wd W → (Instr.loadAt 38 (.pointer (some ⟨gD, 0, none⟩))).run Tryz.prog W = .ok (.agg DV) W) := by
        intro W u
        rw [hDV]
        refine run_loadAt_mid W gD 0 38 [.int .i64 q0, .int .i64 q1, .string F, .string A, .string ⟨#[]⟩] _ (fun j v hv => ?_) Tryz.underlying38 rfl (by kernel_rfl)
        rw [Nat.zero_add, cell_of_row _ gD j _ _ _ (heap_upd RD.out u)]
        show (#[.int .i64 q0, .int .i64 q1, .string F, .string A, .string ⟨#[]⟩] : Array Value)[j]? = _
        rw [List.getElem?_toArray]
        exact hv
      have hx2 : q2.toNat < 9223372036854775808 := by have := HII.out.2.2.1; unfold i64in at this; omega
      have hx3 : q3.toNat < 9223372036854775808 := by have := HII.out.2.2.2; unfold i64in at this; omega
      have HC1 : Hid (∀ W, Upd [] [] wd W → Calls Tryz.prog 10 #[.agg DV] W (MkS (claimGL q0 q1 q2.toNat q3.toNat) W)) := fun W u => by
        rw [hDV]
        exact claimG q0 q1 F A ⟨#[]⟩ _ _ HII.out.1 HII.out.2.1 HF.out HFA.out hx2 hx3 W (tabB.upd (UD.out.trans u))
      have HC2 : Hid (∀ W, Calls Tryz.prog 11 #[.agg DV] W (MkS (claimGL q0 q1 q2.toNat q3.toNat) W)) := fun W => by
        rw [hDV]
        exact claim33_any q0 q1 F A ⟨#[]⟩ _ _ HII.out.1 HII.out.2.1 HF.out HFA.out hx2 hx3 W
      have ud0 : Upd [] [] wd wd.drew := (Upd.refl _ _).drew
      clear hx2 hx3 HF HFA RD hDV
      refine wp_region_noPanic ?_
      refine wp_region_held_drew (S := fun wp => (Instr.loadAt 38 (.pointer (some ⟨gD, 0, none⟩))).run Tryz.prog wp = .ok (.agg DV) wp) (by kernel_rfl) ?_ (fun hHeld => ?_)
      · exact HKD.out _ ud0
      refine tkY 0 hHeld ?_
      refine tkY 1 hHeld ?_
      refine tkL 2 hHeld DV (fun w hSw => hSw) ?_
      refine tkL 4 hHeld DV (fun w hSw => hSw) ?_
      refine wpAnyH_ready (rs := [3]) (by kernel_rfl) (by simp) ?_
      refine AllReadyH.cons (by simp only [List.getElem?_toArray, List.getElem?_cons_succ, List.getElem?_cons_zero] <;> rfl) (fun K hK => ?_) ?_
      · go_simp; refine (HC1.out _ ud0).mono ?_; rintro e wv1 ⟨y1, HY1, _, rfl, hq⟩; have ud1 := ud0.trans hq; clear hq; go_wp2_with fail
        refine hK.out _ _ ?_ (fun hHeld => ?_)
        · exact HKD.out _ ud1
        clear hK K
        try simp only [Act.put, List.setIfInBounds_toArray, List.set_cons_zero, List.set_cons_succ]
        refine wpAnyH_ready (rs := [5]) (by kernel_rfl) (by simp) ?_
        refine AllReadyH.cons (by simp only [List.getElem?_toArray, List.getElem?_cons_succ, List.getElem?_cons_zero] <;> rfl) (fun K hK => ?_) ?_
        · go_simp; refine (HC2.out _).mono ?_; rintro e wv2 ⟨y2, HY2, _, rfl, hq⟩; have ud2 := ud1.trans hq; clear hq; go_wp2_with fail
          refine hK.out _ _ ?_ (fun hHeld => ?_)
          · exact HKD.out _ ud2
          clear hK K
          try simp only [Act.put, List.setIfInBounds_toArray, List.set_cons_zero, List.set_cons_succ]
          refine tkY 6 hHeld ?_
          refine tkY 7 hHeld ?_
          refine tkY 8 hHeld ?_
          refine wpAnyH_done (by kernel_rfl) ?_ _
          refine NoPanic.normal ?_
          have hyd : (y1.toList == y2.toList) = true := eq_beq.2 (HY1.out.trans HY2.out.symm)
          try simp only [hyd]
          go_wp2_with fail
          go_ret
          exact ⟨rfl, UB.out.trans (UD.out.trans ud2)⟩
        exact AllReadyH.nil
      exact AllReadyH.nil
end Go.Proofs.YtcimcodljjcmgaaGreatDoor
