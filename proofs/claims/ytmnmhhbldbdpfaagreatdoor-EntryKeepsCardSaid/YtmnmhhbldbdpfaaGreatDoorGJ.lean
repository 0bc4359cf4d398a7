/- sortesref22.Decimal. sortesref22.Body, sortesref22.Text. sortesref22.Text, sortesref22.Hash. sortesref22.Signed, sortesref22.Print. sortesref22.Print. sortesref04.Member. sortesref05.Verify. sortesref22.Verify, Secret, Public. sortesref22.BatchText. Receipts and hashes compared. -/
import Derived.Test.YtmnmhhbldbdpfaaGreatDoorGI
import Derived.Test.YtmnmhhbldbdpfaaGreatDoorGC
import Derived.Test.YtmnmhhbldbdpfaaGreatDoorGF
import Derived.Test.YtmnmhhbldbdpfaaGreatDoorGE
import Derived.Test.YtmnmhhbldbdpfaaGreatDoorGG
import Derived.Test.YtmnmhhbldbdpfaaGreatDoorGD
import Derived.Test.YtmnmhhbldbdpfaaGreatDoorGB
import Derived.Test.YtmnmhhbldbdpfaaGreatDoorGH
import Derived.ChangeKeysEq
namespace Go.Proofs.YtmnmhhbldbdpfaaGreatDoor
open Go.RowKit
set_option maxRecDepth 100000

theorem dec_short (u : Nat) (h : u ≤ 9223372036854775808) : (Lib.decDigits u).length ≤ 1000000000 := Nat.le_trans (dec_le19 h) (by omega)
theorem be_short (u : Nat) (h : u < 9223372036854775808) : (be u).length ≤ 8 := be_len_le 8 u (Nat.lt_trans h (by decide))
/-- The text of a number. -/
theorem text_of (u : Nat) (w : World) (a : ByteArray) (ha : bs a = be u) (h : u < 9223372036854775808) : Calls Tryz.prog 84 #[.string a] w (MkS (Lib.decDigits u) w) :=
  text_big a u w (by rw [ha, natB_be]) (by rw [size_of_be ha]; exact Nat.le_trans (be_short u h) (by omega)) (dec_short u (by omega))
theorem itoa_of_neg {n : Int} (h : n < 0) : Lib.itoa n = [45] ++ Lib.decDigits n.natAbs := by
  unfold Lib.itoa
  rw [if_pos h]
  rfl
theorem itoa_of_nat (u : Nat) : Lib.itoa (u : Int) = Lib.decDigits u := by
  unfold Lib.itoa
  rw [if_neg (by omega), Int.toNat_natCast]
theorem itoa_min : Lib.itoa (-9223372036854775808) = [45, 57, 50, 50, 51, 51, 55, 50, 48, 51, 54, 56, 53, 52, 55, 55, 53, 56, 48, 56] := by decide +kernel

set_option maxHeartbeats 1000000 in
theorem decimal22_any (n : Int) (w : World) (hn : i64in n) : Calls Tryz.prog 57 #[.int .i64 n] w (MkS (Lib.itoa n) w) := by
  have hn1 := hn.1
  have hn2 := hn.2
  by_cases h0 : 0 ≤ n
  · obtain ⟨u, rfl⟩ := Int.eq_ofNat_of_zero_le h0
    go_enter Tryz.func57, Tryz.ntmps57
    go_wp2_with fail
    refine (of_int u w (by omega)).mono ?_
    rintro e w1 ⟨a, HA, rfl, hu1⟩
    go_wp2_with fail
    refine (text_of u w1 a HA.out (by omega)).mono ?_
    rintro e w2 ⟨y, HY, hy, rfl, hu2⟩
    go_wp2_with fail
    go_ret
    rw [itoa_of_nat]
    exact ⟨y, HY.out, hy, rfl, hu1.trans hu2⟩
  · by_cases hm : n = -9223372036854775808
    · subst hm
      go_enter Tryz.func57, Tryz.ntmps57
      go_wp2_with fail
      go_ret
      refine ⟨_, ?_, ?_, rfl, Upd.refl _ _⟩
      · show _ = _
        rw [itoa_min]
        rfl
      · rw [itoa_min]
        decide
    · obtain ⟨u, hu⟩ : ∃ u : Nat, n = -(u : Int) := ⟨n.natAbs, by omega⟩
      have hneg : IntKind.i64.wrap (-n) = (u : Int) := by rw [IntWalk.i64_in _ (by omega)]; omega
      have hb : (n == -9223372036854775808) = false := by rw [beq_eq_false_iff_ne]; exact hm
      have hna : n.natAbs = u := by omega
      have HI : Hid (Lib.itoa n = [45] ++ Lib.decDigits u) := by show _ = _; rw [itoa_of_neg (by omega), hna]
      have hu63 : u < 9223372036854775808 := by omega
      have HU := Lib.hid hu
      clear hu hna
      go_enter Tryz.func57, Tryz.ntmps57
      go_wp2_with fail
      refine (of_int u w hu63).mono ?_
      rintro e w1 ⟨a, HA, rfl, hu1⟩
      go_wp2_with fail
      refine (text_of u w1 a HA.out hu63).mono ?_
      rintro e w2 ⟨y, HY, hy, rfl, hu2⟩
      have ly := dec_le19 (u := u) (by omega)
      have t1 : ¬ 9223372036854775807 < 1 + y.size := by omega
      go_wp2_with fail
      go_ret
      refine ⟨ByteArray.mk #[45] ++ y, ?_, ?_, rfl, hu1.trans hu2⟩
      · show _ = _
        rw [HI.out, bs_append, HY.out]
        rfl
      · rw [HI.out, ByteArray.size_append, List.length_append]
        show 1 + y.size ≤ 1 + _
        omega
end Go.Proofs.YtmnmhhbldbdpfaaGreatDoor

namespace Go.Proofs.YtmnmhhbldbdpfaaGreatDoor
open Go.RowKit
set_option maxRecDepth 100000

set_option maxHeartbeats 4000000 in
theorem rbody22_any (x : Rc) (hx : x.ok) (hd : x.draw.size ≤ 1000000000) (w : World) : Calls Tryz.prog 60 #[.agg (rcV x).toArray] w (MkS (bodyL x) w) := by
  have r0 := (rc_box w x _ rfl).upd (Upd.refl _ _).drew
  have u0 : Upd [] [] w (w.alloc (.cells (rcV x).toArray 33)).drew := ((Upd.refl _ _).alloc _).drew
  obtain ⟨C, hC⟩ : ∃ C, C = (rcV x).toArray := ⟨_, rfl⟩
  rw [← hC] at r0 u0 ⊢
  clear hC
  obtain ⟨h1, h2, h3, h4, h5, h6, _, _⟩ := id hx
  have l1 := itoa_len _ h1
  have l2 := itoa_len _ h2
  have l3 := itoa_len _ h3
  have hu24 : Tryz.prog.underlying 24 = some (.array 32 5) := Tryz.underlying24
  have i1 := hashLen h4
  have i2 := hashLen h5
  have i3 := hashLen h6
  have x1 := hexL_len x.out
  have x2 := hexL_len x.hash
  have x3 := hexL_len x.prev
  obtain ⟨k0, k1, k2, k3, _, _, _⟩ := r0.s hx
  have HH := Lib.hid (fun (W : World) (r : RcAt W w.heap.size x) => (⟨r.head.1, r.head.2.1, r.head.2.2.2⟩ : W.cell? ⟨w.heap.size, 0, none⟩ = some (.int .i64 x.kiosk) ∧ W.cell? ⟨w.heap.size, 1, none⟩ = some (.int .i64 x.serial) ∧ W.cell? ⟨w.heap.size, 3, none⟩ = some (.int .i64 x.seen)))
  have HK := Lib.hid (fun (W : World) (r : RcAt W w.heap.size x) => (⟨r.head.2.2.1, (r.ranges hx).1, (r.ranges hx).2.1, (r.ranges hx).2.2⟩ : W.cell? ⟨w.heap.size, 2, none⟩ = some (.string x.draw) ∧ W.rangeAt w.heap.size 4 (byteVals x.out) ∧ W.rangeAt w.heap.size 36 (byteVals x.hash) ∧ W.rangeAt w.heap.size 68 (byteVals x.prev)))
  go_enter Tryz.func60, Tryz.ntmps60
  go_wp2_with fail
  go_region_held3 (fun wp => wp.cell? ⟨w.heap.size, 0, none⟩ = some (.int .i64 x.kiosk) ∧ wp.cell? ⟨w.heap.size, 1, none⟩ = some (.int .i64 x.serial) ∧ wp.cell? ⟨w.heap.size, 3, none⟩ = some (.int .i64 x.seen)) (first | with_reducible exact HH.out _ r0 | with_reducible assumption)
    (first
      | (go_at_call 57; ((with_reducible refine (decimal22_any x.kiosk _ h1).mono ?_); rintro e w1 ⟨y1, HY1, hy1, rfl, hq⟩; have r1 := r0.upd hq; have u1 := u0.trans hq; have kq := HH.out _ r1; have t1 : ¬ 9223372036854775807 < 8 + y1.size := (by omega); have t2 : ¬ 9223372036854775807 < 8 + y1.size + 1 := (by omega); clear hq))
      | (go_at_call 57; ((with_reducible refine (decimal22_any x.serial _ h2).mono ?_); rintro e w2 ⟨y2, HY2, hy2, rfl, hq⟩; have r2 := r1.upd hq; have u2 := u1.trans hq; have kq := HH.out _ r2; have t3 : ¬ 9223372036854775807 < 8 + y1.size + 1 + y2.size := (by omega); have t4 : ¬ 9223372036854775807 < 8 + y1.size + 1 + y2.size + 1 := (by omega); clear hq))
      | (go_at_call 57; ((with_reducible refine (decimal22_any x.seen _ h3).mono ?_); rintro e w3 ⟨y3, HY3, hy3, rfl, hq⟩; have r3 := r2.upd hq; have u3 := u2.trans hq; have kq := HH.out _ r3; have t5 : ¬ 9223372036854775807 < 8 + y1.size + 1 + y2.size + 1 + y3.size := (by omega); clear hq)))
  go_upto_region 2 with (fail)
  obtain ⟨U, hU⟩ : ∃ U : ByteArray, U = ByteArray.mk #[114, 101, 99, 101, 105, 112, 116, 32] ++ y1 ++ ByteArray.mk #[32] ++ y2 ++ ByteArray.mk #[32] ++ y3 := ⟨_, rfl⟩
  have hUb : bs U = wRc ++ 32 :: (Lib.itoa x.kiosk ++ 32 :: (Lib.itoa x.serial ++ 32 :: Lib.itoa x.seen)) := by
    rw [hU, bs_append, bs_append, bs_append, bs_append, bs_append, HY1.out, HY2.out, HY3.out]
    simp [wRc, bs]
  have hUs : U.size ≤ 100 := by
    rw [hU]
    simp only [ByteArray.size_append]
    show 8 + y1.size + 1 + y2.size + 1 + y3.size ≤ _
    omega
  rw [← hU]
  have HUB := Lib.hid hUb
  have s1 : ¬ 9223372036854775807 < U.size + 1 := by omega
  clear hU hUb
  have r3d := r3.upd (Upd.refl [] w3).drew
  have u3d := u3.trans (Upd.refl [] w3).drew

  refine wp_region_noPanic ?_
  refine wp_region_held_drew (S := fun wp => wp.cell? ⟨w.heap.size, 2, none⟩ = some (.string x.draw) ∧ wp.rangeAt w.heap.size 4 (byteVals x.out) ∧ wp.rangeAt w.heap.size 36 (byteVals x.hash) ∧ wp.rangeAt w.heap.size 68 (byteVals x.prev)) (by kernel_rfl) ?_ (fun hHeld => ?_)
  · exact HK.out _ r3d
  refine wpAnyH_take (i := 0) (v := ?v101) (by simp only [List.getElem?_toArray, List.getElem?_cons_zero] <;> rfl) (by kernel_rfl) (by kernel_rfl) (by kernel_rfl) (fun _ _ _ h => h) (Or.inl ⟨by rfl, ?y101⟩) hHeld ?r101
  case y101 => (intro w hSw; (try dsimp only at hSw); go_simp; first | done | with_reducible rfl | rfl)
  try simp only [Act.put, List.setIfInBounds_toArray, List.set_cons_zero, List.set_cons_succ]
  refine wpAnyH_take (i := 1) (v := ?v102) (by simp only [List.getElem?_toArray, List.getElem?_cons_succ, List.getElem?_cons_zero] <;> rfl) (by kernel_rfl) (by kernel_rfl) (by kernel_rfl) (fun _ _ _ h => h) (Or.inl ⟨by rfl, ?y102⟩) hHeld ?r102
  case y102 => (intro w hSw; (try dsimp only at hSw); go_simp; first | done | with_reducible rfl | rfl)
  try simp only [Act.put, List.setIfInBounds_toArray, List.set_cons_zero, List.set_cons_succ]
  refine wpAnyH_take (i := 2) (v := ?v103) (by simp only [List.getElem?_toArray, List.getElem?_cons_succ, List.getElem?_cons_zero] <;> rfl) (by kernel_rfl) (by kernel_rfl) (by kernel_rfl) (fun _ _ _ h => h) (Or.inl ⟨by rfl, ?y103⟩) hHeld ?r103
  case y103 => (intro w hSw; (try dsimp only at hSw); go_simp; first | done | with_reducible rfl | rfl)
  try simp only [Act.put, List.setIfInBounds_toArray, List.set_cons_zero, List.set_cons_succ]
  refine wpAnyH_take (i := 3) (v := .agg (byteVals x.out).toArray) (by simp only [List.getElem?_toArray, List.getElem?_cons_succ, List.getElem?_cons_zero] <;> rfl) (by kernel_rfl) (by kernel_rfl) (by kernel_rfl) (fun _ _ _ h => h) (yieldsIf_load_mid (by rfl) _ _ rfl _ _ rfl (byteVals x.out) _ (fun w hSw => hSw.2.1) hu24 rfl i1) hHeld ?_
  try simp only [Act.put, List.setIfInBounds_toArray, List.set_cons_zero, List.set_cons_succ]
  refine wpAnyH_take (i := 7) (v := ?v104) (by simp only [List.getElem?_toArray, List.getElem?_cons_succ, List.getElem?_cons_zero] <;> rfl) (by kernel_rfl) (by kernel_rfl) (by kernel_rfl) (fun _ _ _ h => h) (Or.inl ⟨by rfl, ?y104⟩) hHeld ?r104
  case y104 => (intro w hSw; (try dsimp only at hSw); go_simp; first | done | with_reducible rfl | rfl)
  try simp only [Act.put, List.setIfInBounds_toArray, List.set_cons_zero, List.set_cons_succ]
  refine wpAnyH_take (i := 8) (v := .agg (byteVals x.hash).toArray) (by simp only [List.getElem?_toArray, List.getElem?_cons_succ, List.getElem?_cons_zero] <;> rfl) (by kernel_rfl) (by kernel_rfl) (by kernel_rfl) (fun _ _ _ h => h) (yieldsIf_load_mid (by rfl) _ _ rfl _ _ rfl (byteVals x.hash) _ (fun w hSw => hSw.2.2.1) hu24 rfl i2) hHeld ?_
  try simp only [Act.put, List.setIfInBounds_toArray, List.set_cons_zero, List.set_cons_succ]
  refine wpAnyH_take (i := 12) (v := ?v105) (by simp only [List.getElem?_toArray, List.getElem?_cons_succ, List.getElem?_cons_zero] <;> rfl) (by kernel_rfl) (by kernel_rfl) (by kernel_rfl) (fun _ _ _ h => h) (Or.inl ⟨by rfl, ?y105⟩) hHeld ?r105
  case y105 => (intro w hSw; (try dsimp only at hSw); go_simp; first | done | with_reducible rfl | rfl)
  try simp only [Act.put, List.setIfInBounds_toArray, List.set_cons_zero, List.set_cons_succ]
  refine wpAnyH_take (i := 13) (v := .agg (byteVals x.prev).toArray) (by simp only [List.getElem?_toArray, List.getElem?_cons_succ, List.getElem?_cons_zero] <;> rfl) (by kernel_rfl) (by kernel_rfl) (by kernel_rfl) (fun _ _ _ h => h) (yieldsIf_load_mid (by rfl) _ _ rfl _ _ rfl (byteVals x.prev) _ (fun w hSw => hSw.2.2.2) hu24 rfl i3) hHeld ?_
  try simp only [Act.put, List.setIfInBounds_toArray, List.set_cons_zero, List.set_cons_succ]
  refine wpAnyH_take (i := 17) (v := ?v106) (by simp only [List.getElem?_toArray, List.getElem?_cons_succ, List.getElem?_cons_zero] <;> rfl) (by kernel_rfl) (by kernel_rfl) (by kernel_rfl) (fun _ _ _ h => h) (Or.inl ⟨by rfl, ?y106⟩) hHeld ?r106
  case y106 => (intro w hSw; (try dsimp only at hSw); go_simp; first | done | with_reducible rfl | rfl)
  try simp only [Act.put, List.setIfInBounds_toArray, List.set_cons_zero, List.set_cons_succ]
  refine wpAnyH_take (i := 18) (v := ?v107) (by simp only [List.getElem?_toArray, List.getElem?_cons_succ, List.getElem?_cons_zero] <;> rfl) (by kernel_rfl) (by kernel_rfl) (by kernel_rfl) (fun _ _ _ h => h) (Or.inl ⟨by rfl, ?y107⟩) hHeld ?r107
  case y107 => (intro w hSw; (try dsimp only at hSw); go_simp; first | done | with_reducible rfl | rfl)
  try simp only [Act.put, List.setIfInBounds_toArray, List.set_cons_zero, List.set_cons_succ]
  refine wpAnyH_ready (rs := [4]) (by kernel_rfl) (by simp) ?_
  refine AllReadyH.cons (by simp only [List.getElem?_toArray, List.getElem?_cons_succ, List.getElem?_cons_zero] <;> rfl) (fun K hK => ?_) ?_
  · go_simp; refine (rhexText_any x.out h4 _).mono ?_; rintro e w4 ⟨y4, HY4, hy4, rfl, hq⟩; have r4 := r3d.upd hq; have u4 := u3d.trans hq; have t1 : ¬ 9223372036854775807 < U.size + 1 + y4.size := (by omega); have t2 : ¬ 9223372036854775807 < U.size + 1 + y4.size + 1 := (by omega); clear hq; go_wp2_with fail
    refine hK.out _ _ ?_ (fun hHeld => ?_)
    · exact HK.out _ r4
    clear hK K
    try simp only [Act.put, List.setIfInBounds_toArray, List.set_cons_zero, List.set_cons_succ]
    refine wpAnyH_take (i := 5) (v := ?v108) (by simp only [List.getElem?_toArray, List.getElem?_cons_succ, List.getElem?_cons_zero] <;> rfl) (by kernel_rfl) (by kernel_rfl) (by kernel_rfl) (fun _ _ _ h => h) (Or.inl ⟨by rfl, ?y108⟩) hHeld ?r108
    case y108 => (intro w hSw; (try dsimp only at hSw); go_simp; first | done | with_reducible rfl | rfl)
    try simp only [Act.put, List.setIfInBounds_toArray, List.set_cons_zero, List.set_cons_succ]
    refine wpAnyH_take (i := 6) (v := ?v109) (by simp only [List.getElem?_toArray, List.getElem?_cons_succ, List.getElem?_cons_zero] <;> rfl) (by kernel_rfl) (by kernel_rfl) (by kernel_rfl) (fun _ _ _ h => h) (Or.inl ⟨by rfl, ?y109⟩) hHeld ?r109
    case y109 => (intro w hSw; (try dsimp only at hSw); go_simp; first | done | with_reducible rfl | rfl)
    try simp only [Act.put, List.setIfInBounds_toArray, List.set_cons_zero, List.set_cons_succ]
    refine wpAnyH_ready (rs := [9]) (by kernel_rfl) (by simp) ?_
    refine AllReadyH.cons (by simp only [List.getElem?_toArray, List.getElem?_cons_succ, List.getElem?_cons_zero] <;> rfl) (fun K hK => ?_) ?_
    · go_simp; refine (rhexText_any x.hash h5 _).mono ?_; rintro e w5 ⟨y5, HY5, hy5, rfl, hq⟩; have r5 := r4.upd hq; have u5 := u4.trans hq; have t3 : ¬ 9223372036854775807 < U.size + 1 + y4.size + 1 + y5.size := (by omega); have t4 : ¬ 9223372036854775807 < U.size + 1 + y4.size + 1 + y5.size + 1 := (by omega); clear hq; go_wp2_with fail
      refine hK.out _ _ ?_ (fun hHeld => ?_)
      · exact HK.out _ r5
      clear hK K
      try simp only [Act.put, List.setIfInBounds_toArray, List.set_cons_zero, List.set_cons_succ]
      refine wpAnyH_take (i := 10) (v := ?v110) (by simp only [List.getElem?_toArray, List.getElem?_cons_succ, List.getElem?_cons_zero] <;> rfl) (by kernel_rfl) (by kernel_rfl) (by kernel_rfl) (fun _ _ _ h => h) (Or.inl ⟨by rfl, ?y110⟩) hHeld ?r110
      case y110 => (intro w hSw; (try dsimp only at hSw); go_simp; first | done | with_reducible rfl | rfl)
      try simp only [Act.put, List.setIfInBounds_toArray, List.set_cons_zero, List.set_cons_succ]
      refine wpAnyH_take (i := 11) (v := ?v111) (by simp only [List.getElem?_toArray, List.getElem?_cons_succ, List.getElem?_cons_zero] <;> rfl) (by kernel_rfl) (by kernel_rfl) (by kernel_rfl) (fun _ _ _ h => h) (Or.inl ⟨by rfl, ?y111⟩) hHeld ?r111
      case y111 => (intro w hSw; (try dsimp only at hSw); go_simp; first | done | with_reducible rfl | rfl)
      try simp only [Act.put, List.setIfInBounds_toArray, List.set_cons_zero, List.set_cons_succ]
      refine wpAnyH_ready (rs := [14]) (by kernel_rfl) (by simp) ?_
      refine AllReadyH.cons (by simp only [List.getElem?_toArray, List.getElem?_cons_succ, List.getElem?_cons_zero] <;> rfl) (fun K hK => ?_) ?_
      · go_simp; refine (rhexText_any x.prev h6 _).mono ?_; rintro e w6 ⟨y6, HY6, hy6, rfl, hq⟩; have r6 := r5.upd hq; have u6 := u5.trans hq; have t5 : ¬ 9223372036854775807 < U.size + 1 + y4.size + 1 + y5.size + 1 + y6.size := (by omega); have t6 : ¬ 9223372036854775807 < U.size + 1 + y4.size + 1 + y5.size + 1 + y6.size + 1 := (by omega); have t7 : ¬ 9223372036854775807 < U.size + 1 + y4.size + 1 + y5.size + 1 + y6.size + 1 + x.draw.size := (by omega); clear hq; go_wp2_with fail
        refine hK.out _ _ ?_ (fun hHeld => ?_)
        · exact HK.out _ r6
        clear hK K
        try simp only [Act.put, List.setIfInBounds_toArray, List.set_cons_zero, List.set_cons_succ]
        refine wpAnyH_take (i := 15) (v := ?v112) (by simp only [List.getElem?_toArray, List.getElem?_cons_succ, List.getElem?_cons_zero] <;> rfl) (by kernel_rfl) (by kernel_rfl) (by kernel_rfl) (fun _ _ _ h => h) (Or.inl ⟨by rfl, ?y112⟩) hHeld ?r112
        case y112 => (intro w hSw; (try dsimp only at hSw); go_simp; first | done | with_reducible rfl | rfl)
        try simp only [Act.put, List.setIfInBounds_toArray, List.set_cons_zero, List.set_cons_succ]
        refine wpAnyH_take (i := 16) (v := ?v113) (by simp only [List.getElem?_toArray, List.getElem?_cons_succ, List.getElem?_cons_zero] <;> rfl) (by kernel_rfl) (by kernel_rfl) (by kernel_rfl) (fun _ _ _ h => h) (Or.inl ⟨by rfl, ?y113⟩) hHeld ?r113
        case y113 => (intro w hSw; (try dsimp only at hSw); go_simp; first | done | with_reducible rfl | rfl)
        try simp only [Act.put, List.setIfInBounds_toArray, List.set_cons_zero, List.set_cons_succ]
        refine wpAnyH_take (i := 19) (v := ?v114) (by simp only [List.getElem?_toArray, List.getElem?_cons_succ, List.getElem?_cons_zero] <;> rfl) (by kernel_rfl) (by kernel_rfl) (by kernel_rfl) (fun _ _ _ h => h) (Or.inl ⟨by rfl, ?y114⟩) hHeld ?r114
        case y114 => (intro w hSw; (try dsimp only at hSw); go_simp; first | done | with_reducible rfl | rfl)
        try simp only [Act.put, List.setIfInBounds_toArray, List.set_cons_zero, List.set_cons_succ]
        refine wpAnyH_take (i := 20) (v := ?v115) (by simp only [List.getElem?_toArray, List.getElem?_cons_succ, List.getElem?_cons_zero] <;> rfl) (by kernel_rfl) (by kernel_rfl) (by kernel_rfl) (fun _ _ _ h => h) (Or.inl ⟨by rfl, ?y115⟩) hHeld ?r115
        case y115 => (intro w hSw; (try dsimp only at hSw); go_simp; first | done | with_reducible rfl | rfl)
        try simp only [Act.put, List.setIfInBounds_toArray, List.set_cons_zero, List.set_cons_succ]
        refine wpAnyH_done (by kernel_rfl) ?_ _
        refine NoPanic.normal ?_
        go_wp2_with fail
        go_ret
        refine ⟨U ++ ByteArray.mk #[32] ++ y4 ++ ByteArray.mk #[32] ++ y5 ++ ByteArray.mk #[32] ++ y6 ++ ByteArray.mk #[32] ++ x.draw, ?_, ?_, rfl, u6⟩
        · show _ = _
          simp only [bs_append, HUB.out, HY4.out, HY5.out, HY6.out, bodyL]
          simp [bs]
        · have e : bs (U ++ ByteArray.mk #[32] ++ y4 ++ ByteArray.mk #[32] ++ y5 ++ ByteArray.mk #[32] ++ y6 ++ ByteArray.mk #[32] ++ x.draw) = bodyL x := by
            simp only [bs_append, HUB.out, HY4.out, HY5.out, HY6.out, bodyL]
            simp [bs]
          rw [← e, bs_length]
          exact Nat.le_refl _
      exact AllReadyH.nil
    exact AllReadyH.nil
  exact AllReadyH.nil

end Go.Proofs.YtmnmhhbldbdpfaaGreatDoor

namespace Go.Proofs.YtmnmhhbldbdpfaaGreatDoor
open Go.RowKit
set_option maxRecDepth 100000

set_option maxHeartbeats 4000000 in
theorem rtext22_any (x : Rc) (hx : x.ok) (hd : x.draw.size ≤ 1000000000) (w : World) : Calls Tryz.prog 28 #[.agg (rcV x).toArray] w (MkS (textL x) w) := by
  have r0 := (rc_box w x _ rfl).upd (Upd.refl _ _).drew
  have u0 : Upd [] [] w (w.alloc (.cells (rcV x).toArray 33)).drew := ((Upd.refl _ _).alloc _).drew
  obtain ⟨C, hC⟩ : ∃ C, C = (rcV x).toArray := ⟨_, rfl⟩
  rw [← hC] at r0 u0 ⊢
  clear hC
  obtain ⟨_, _, _, _, _, _, h7, h8⟩ := id hx
  have hi := rcInfo hx
  have hu33 := Tryz.underlying33
  have HK := Lib.hid (fun (W : World) (r : RcAt W w.heap.size x) => r.two hx)
  obtain ⟨k0, k1, k2⟩ := r0.two hx
  have lb := bodyL_len hx
  have lp := pairL_len (a := x.r) (b := x.s) h7 h8
  go_enter Tryz.func28, Tryz.ntmps28
  go_wp2_with fail
  refine wp_region_noPanic ?_
  refine wp_region_held_drew (S := fun wp => wp.cell? ⟨w.heap.size, 100, none⟩ = some (.int .i64 x.r) ∧ wp.cell? ⟨w.heap.size, 101, none⟩ = some (.int .i64 x.s) ∧ wp.rangeAt w.heap.size 0 (rcV x)) (by kernel_rfl) ?_ (fun hHeld => ?_)
  · exact HK.out _ r0
  refine wpAnyH_take (i := 0) (v := ?v1) (by simp only [List.getElem?_toArray, List.getElem?_cons_zero] <;> rfl) (by kernel_rfl) (by kernel_rfl) (by kernel_rfl) (fun _ _ _ h => h) (Or.inl ⟨by rfl, ?y1⟩) hHeld ?r1
  case y1 => (intro w hSw; (try dsimp only at hSw); go_simp; first | done | with_reducible rfl | rfl)
  try simp only [Act.put, List.setIfInBounds_toArray, List.set_cons_zero, List.set_cons_succ]
  refine wpAnyH_take (i := 1) (v := ?v2) (by simp only [List.getElem?_toArray, List.getElem?_cons_succ, List.getElem?_cons_zero] <;> rfl) (by kernel_rfl) (by kernel_rfl) (by kernel_rfl) (fun _ _ _ h => h) (Or.inl ⟨by rfl, ?y2⟩) hHeld ?r2
  case y2 => (intro w hSw; (try dsimp only at hSw); go_simp; first | done | with_reducible rfl | rfl)
  try simp only [Act.put, List.setIfInBounds_toArray, List.set_cons_zero, List.set_cons_succ]
  refine wpAnyH_take (i := 4) (v := .agg (rcV x).toArray) (by simp only [List.getElem?_toArray, List.getElem?_cons_succ, List.getElem?_cons_zero] <;> rfl) (by kernel_rfl) (by kernel_rfl) (by kernel_rfl) (fun _ _ _ h => h) (yieldsIf_load_mid (by rfl) _ _ rfl _ _ rfl (rcV x) _ (fun w hSw => hSw.2.2) hu33 rfl hi) hHeld ?_
  try simp only [Act.put, List.setIfInBounds_toArray, List.set_cons_zero, List.set_cons_succ]
  refine wpAnyH_ready (rs := [2]) (by kernel_rfl) (by simp) ?_
  refine AllReadyH.cons (by simp only [List.getElem?_toArray, List.getElem?_cons_succ, List.getElem?_cons_zero] <;> rfl) (fun K hK => ?_) ?_
  · go_simp; refine (rtext_any x.r x.s _ h7 h8).mono ?_; rintro e w1 ⟨y1, HY1, hy1, rfl, hq⟩; have r1 := r0.upd hq; have u1 := u0.trans hq; have t1 : ¬ 9223372036854775807 < y1.size + 1 := (by omega); clear hq; go_wp2_with fail
    refine hK.out _ _ ?_ (fun hHeld => ?_)
    · exact HK.out _ r1
    clear hK K
    try simp only [Act.put, List.setIfInBounds_toArray, List.set_cons_zero, List.set_cons_succ]
    refine wpAnyH_take (i := 3) (v := ?v3) (by simp only [List.getElem?_toArray, List.getElem?_cons_succ, List.getElem?_cons_zero] <;> rfl) (by kernel_rfl) (by kernel_rfl) (by kernel_rfl) (fun _ _ _ h => h) (Or.inl ⟨by rfl, ?y3⟩) hHeld ?r3
    case y3 => (intro w hSw; (try dsimp only at hSw); go_simp; first | done | with_reducible rfl | rfl)
    try simp only [Act.put, List.setIfInBounds_toArray, List.set_cons_zero, List.set_cons_succ]
    refine wpAnyH_ready (rs := [5]) (by kernel_rfl) (by simp) ?_
    refine AllReadyH.cons (by simp only [List.getElem?_toArray, List.getElem?_cons_succ, List.getElem?_cons_zero] <;> rfl) (fun K hK => ?_) ?_
    · go_simp; refine (rbody22_any x hx hd _).mono ?_; rintro e w2 ⟨y2, HY2, hy2, rfl, hq⟩; have r2 := r1.upd hq; have u2 := u1.trans hq; have t2 : ¬ 9223372036854775807 < y1.size + 1 + y2.size := (by omega); clear hq; go_wp2_with fail
      refine hK.out _ _ ?_ (fun hHeld => ?_)
      · exact HK.out _ r2
      clear hK K
      try simp only [Act.put, List.setIfInBounds_toArray, List.set_cons_zero, List.set_cons_succ]
      refine wpAnyH_take (i := 6) (v := ?v4) (by simp only [List.getElem?_toArray, List.getElem?_cons_succ, List.getElem?_cons_zero] <;> rfl) (by kernel_rfl) (by kernel_rfl) (by kernel_rfl) (fun _ _ _ h => h) (Or.inl ⟨by rfl, ?y4⟩) hHeld ?r4
      case y4 => (intro w hSw; (try dsimp only at hSw); go_simp; first | done | with_reducible rfl | rfl)
      try simp only [Act.put, List.setIfInBounds_toArray, List.set_cons_zero, List.set_cons_succ]
      refine wpAnyH_take (i := 7) (v := ?v5) (by simp only [List.getElem?_toArray, List.getElem?_cons_succ, List.getElem?_cons_zero] <;> rfl) (by kernel_rfl) (by kernel_rfl) (by kernel_rfl) (fun _ _ _ h => h) (Or.inl ⟨by rfl, ?y5⟩) hHeld ?r5
      case y5 => (intro w hSw; (try dsimp only at hSw); go_simp; first | done | with_reducible rfl | rfl)
      try simp only [Act.put, List.setIfInBounds_toArray, List.set_cons_zero, List.set_cons_succ]
      refine wpAnyH_done (by kernel_rfl) ?_ _
      refine NoPanic.normal ?_
      go_wp2_with fail
      go_ret
      have hb : bs (y1 ++ ByteArray.mk #[32] ++ y2) = textL x := by
        rw [bs_append, bs_append, HY1.out, HY2.out, textL]
        simp [bs]
      exact ⟨_, hb, by rw [← hb, bs_length]; exact Nat.le_refl _, rfl, u2⟩
    exact AllReadyH.nil
  exact AllReadyH.nil

set_option maxHeartbeats 2000000 in
theorem rhash22_any (x : Rc) (hx : x.ok) (hd : x.draw.size ≤ 1000000000) (w : World) : Calls Tryz.prog 30 #[.agg (rcV x).toArray] w (Mk (.agg (byteVals (sha (textL x))).toArray) w) := by
  have r0 : RcAt ((w.alloc (.cells (rcV x).toArray 33)).alloc (.cells (byteVals zero32).toArray 24)) w.heap.size x := (rc_box w x _ rfl).upd ((Upd.refl _ _).alloc _)
  have s0 : AB 24 ((w.alloc (.cells (rcV x).toArray 33)).alloc (.cells (byteVals zero32).toArray 24)) (w.heap.size + 1) zero32 := by
    have h := heap_alloc_new (w.alloc (.cells (rcV x).toArray 33)) (.cells (byteVals zero32).toArray 24)
    rw [World.size_alloc] at h
    exact h
  have u0 : Upd [] [] w ((w.alloc (.cells (rcV x).toArray 33)).alloc (.cells (byteVals zero32).toArray 24)) := ((Upd.refl _ _).alloc _).alloc _
  have HS := Lib.hid (rcSz hx)
  have HCT := Lib.hid (rtext22_any x hx hd ((w.alloc (.cells (rcV x).toArray 33)).alloc (.cells (byteVals zero32).toArray 24)))
  have lb := textL_len hx
  obtain ⟨C, hC⟩ : ∃ C, C = (rcV x).toArray := ⟨_, rfl⟩
  rw [← hC] at r0 u0 s0 HS HCT ⊢
  have HR : Hid (((w.alloc (.cells C 33)).alloc (.cells (byteVals zero32).toArray 24)).heap[w.heap.size]? = some (.cells C 33 (0, 0))) := by
    show _ = _
    rw [hC] at r0 ⊢
    exact r0
  clear hC
  have HZ := Lib.hid s0
  clear r0 s0
  go_enter Tryz.func30, Tryz.ntmps30
  go_wp2_with (first | (refine wpList_load_row rfl 33 _ rfl w.heap.size rfl _ C _ _ HR.out Tryz.underlying33 rfl HS.out ?_))
  refine HCT.out.mono ?_
  rintro e w1 ⟨y, HY, hy, rfl, hq⟩
  have u1 := u0.trans hq
  have HZ1 := Lib.hid (HZ.out.upd hq)
  clear hq HCT HR
  go_wp2_with fail
  refine (rsum_any y w1 (by omega)).mono ?_
  rintro e w2 ⟨rfl, hq⟩
  have u2 := u1.trans hq
  have HZ2 := Lib.hid (HZ1.out.upd hq)
  obtain ⟨D, hD⟩ : ∃ D, D = sha (bs y) := ⟨_, rfl⟩
  have hDl : D.length = 32 := by rw [hD]; exact sha_len _
  have HDL := Lib.hid hDl
  have HDE := Lib.hid hD
  rw [← hD]
  clear hq hD hDl
  go_wp2_with (first | (refine wpList_store_row rfl 24 _ _ rfl (w.heap.size + 1) (byteVals D).toArray rfl rfl _ _ HZ2.out (hashInfo HDL.out) (by simp [byteVals, HDL.out, zero32]) (hashOne _) ?_))
  refine bodyPost_ret (results_cell_row rfl _ _ (w.heap.size + 1) _ (byteVals D).toArray _ _ rfl (HZ2.out.setRow D) Tryz.underlying24 rfl (hashInfo HDL.out)) rfl ⟨?_, u2.setRowNew (by omega) _⟩
  rw [HDE.out, HY.out]

end Go.Proofs.YtmnmhhbldbdpfaaGreatDoor

namespace Go.Proofs.YtmnmhhbldbdpfaaGreatDoor
open Go.RowKit
set_option maxRecDepth 100000

/-- The receipt, signed. -/
def signR (X : Rc) (x : Int) : Rc := { X with r := (gP (nonceN (expN x) (bodyL X)) : Int), s := (sWith (expN x) (nonceN (expN x) (bodyL X)) (bodyL X) : Int) }

set_option maxHeartbeats 4000000 in
theorem signed22_any (x : Int) (X : Rc) (hx : i64in x) (hXo : X.ok) (hXd : X.draw.size ≤ 1000000000) (w : World) :
    Calls Tryz.prog 73 #[.int .i64 x, .agg (rcV X).toArray] w (Mk (.agg (rcV (signR X x)).toArray) w) := by
  obtain ⟨R, hR⟩ : ∃ R, R = (rcV X).toArray := ⟨_, rfl⟩
  obtain ⟨Z, hZ⟩ : ∃ Z, Z = Tryz.zeroCells33 := ⟨_, rfl⟩
  have hZr : Z = (rcV Rc.zero).toArray := by rw [hZ]; rfl
  have r1 : RcAt ((w.alloc (.cells R 33)).alloc (.cells Z 33)) w.heap.size X := (rc_box w X R hR).upd ((Upd.refl _ _).alloc _)
  have z1 : ((w.alloc (.cells R 33)).alloc (.cells Z 33)).heap[w.heap.size + 1]? = some (.cells Z 33 (0, 0)) := by
    have h := heap_alloc_new (w.alloc (.cells R 33)) (.cells Z 33)
    rw [World.size_alloc] at h
    exact h
  have u1 : Upd [] [] w ((w.alloc (.cells R 33)).alloc (.cells Z 33)) := ((Upd.refl _ _).alloc _).alloc _
  have hs1 : ((w.alloc (.cells R 33)).alloc (.cells Z 33)).heap.size = w.heap.size + 1 + 1 := by simp
  obtain ⟨w4, hw4⟩ : ∃ w4, (w.alloc (.cells R 33)).alloc (.cells Z 33) = w4 := ⟨_, rfl⟩
  rw [hw4] at r1 z1 u1 hs1
  have RZ := Lib.hid z1
  have RB : Hid (w4.heap[w.heap.size]? = some (.cells R 33 (0, 0))) := by show _ = _; rw [hR]; exact r1
  have rz5 : Hid ((w4.alloc (.cells Z 33)).heap[w4.heap.size]? = some (.cells Z 33 (0, 0))) := heap_alloc_new w4 (.cells Z 33)
  have u6 : Upd [] [] w4 ((w4.alloc (.cells Z 33)).setRow w4.heap.size R) := ((Upd.refl _ _).alloc _).setRowNew (Nat.le_refl _) _
  have R6 : Hid (((w4.alloc (.cells Z 33)).setRow w4.heap.size R).heap[w.heap.size]? = some (.cells R 33 (0, 0))) := row_updH RB.out u6
  have r6 : RcAt ((w4.alloc (.cells Z 33)).setRow w4.heap.size R) w4.heap.size X := by
    rw [hR]
    exact setRow_heap _ _ _ _ _ _ rz5.out
  have HBC : Hid (∀ W, Calls Tryz.prog 60 #[.agg R] W (MkS (bodyL X) W)) := by
    intro W
    rw [hR]
    exact rbody22_any X hXo hXd W
  have lbX := bodyL_len hXo
  have HRS : Hid ((Tryz.prog.info? 33).map (·.size) = some R.size) := by show _ = _; rw [hR]; exact rcSz hXo
  have HRZ : Hid (Z.size = R.size) := by show _ = _; rw [hR, hZr]; simp [rcV_len hXo, rcV_len Rc.zero_ok]
  have HR1 : Hid (R.all (·.oneCell') = true) := by show _ = _; rw [hR]; exact rcOne _
  have HZE := Lib.hid hZr
  rw [← hR]
  have u6' := u1.trans u6
  subst hZ
  have HS1 := Lib.hid hs1
  clear hZr z1 r1 hR hs1
  go_enter Tryz.func73, Tryz.ntmps73
  go_wp2_with (first | (refine wpList_load_row rfl 33 _ rfl w.heap.size rfl _ R _ _ RB.out Tryz.underlying33 rfl HRS.out ?_) | (refine wpList_store_row rfl 33 _ _ rfl w4.heap.size R rfl rfl _ _ rz5.out HRS.out HRZ.out HR1.out ?_) | (refine wpList_load_row rfl 33 _ rfl w.heap.size rfl _ R _ _ R6.out Tryz.underlying33 rfl HRS.out ?_))
  refine (HBC.out _).mono ?_
  rintro e w7 ⟨y, HY, hy, rfl, hq⟩
  have r7 := r6.upd hq
  have u7 := u6'.trans hq
  have RZ7 := Lib.hid (row_updH RZ.out (u6.trans hq))
  have RZ4 := RZ
  clear hq r6 R6 rz5 u6 u6' RZ RB
  go_wp2_with fail
  refine (rsign_any x y w7 (by unfold i64in at hx; omega) (by omega)).mono ?_
  rintro e w8 ⟨g1, g2, HG1, HG2, hg1, hg2, rfl, hq⟩
  have r8 := r7.upd hq
  have u8 := u7.trans hq
  have RZ8 := Lib.hid (row_updH RZ7.out hq)
  clear hq RZ7
  obtain ⟨c0, c1⟩ := r8.sig hXo
  have f0 := r8.frozen 100
  have f1 := r8.frozen 101
  obtain ⟨Y, hY⟩ : ∃ Y : Rc, Y = { X with r := (g1 : Int), s := (g2 : Int) } := ⟨_, rfl⟩
  have hYo : Y.ok := by
    rw [hY]
    obtain ⟨o1, o2, o3, o4, o5, o6, _, _⟩ := hXo
    exact ⟨o1, o2, o3, o4, o5, o6, ⟨show (-9223372036854775808 : Int) ≤ (g1 : Int) by omega, show (g1 : Int) ≤ 9223372036854775807 by omega⟩, ⟨show (-9223372036854775808 : Int) ≤ (g2 : Int) by omega, show (g2 : Int) ≤ 9223372036854775807 by omega⟩⟩
  have r9 := r8.sigs hXo (g1 : Int) (g2 : Int)
  rw [← hY] at r9
  have hYE : rcV (signR X x) = rcV Y := by
    rw [signR, hY, HG1.out, HG2.out, HY.out]
  obtain ⟨M, hM⟩ : ∃ M, M = (rcV Y).toArray := ⟨_, rfl⟩
  have HYE : Hid (M = (rcV (signR X x)).toArray) := by show _ = _; rw [hM, hYE]
  have hMs : (Tryz.prog.info? 33).map (·.size) = some M.size := by rw [hM]; exact rcSz hYo
  have hMo : M.all (·.oneCell') = true := by rw [hM]; exact rcOne _
  have hMz : (Tryz.zeroCells33).size = M.size := by rw [hM, HZE.out]; simp [rcV_len hYo, rcV_len Rc.zero_ok]
  have hle := u1.size
  have hne : w.heap.size + 1 ≠ w4.heap.size := by rw [HS1.out]; omega
  have R9 : Hid (((w8.setCell ⟨w4.heap.size, 100, none⟩ (.int .i64 (g1 : Int))).setCell ⟨w4.heap.size, 101, none⟩ (.int .i64 (g2 : Int))).heap[w4.heap.size]? = some (.cells M 33 (0, 0))) := by rw [hM]; exact r9
  have RZ9 : Hid (((w8.setCell ⟨w4.heap.size, 100, none⟩ (.int .i64 (g1 : Int))).setCell ⟨w4.heap.size, 101, none⟩ (.int .i64 (g2 : Int))).heap[w.heap.size + 1]? = some (.cells Tryz.zeroCells33 33 (0, 0))) := row_otherE (row_otherE RZ8.out hne _) hne _
  have u9 := (u8.setNew (p := ⟨w4.heap.size, 100, none⟩) hle (.int .i64 (g1 : Int))).setNew (p := ⟨w4.heap.size, 101, none⟩) hle (.int .i64 (g2 : Int))
  have HMS := Lib.hid hMs
  have HMO := Lib.hid hMo
  have HMZ := Lib.hid hMz
  have RFH := Lib.hid (setRow_heap _ _ _ M _ _ RZ9.out)
  clear hMs hMo hMz hM hYE r8 r9 RZ8 hY HG1 HG2 r7 HBC
  go_wp2_with (first | (refine wpList_load_row rfl 33 _ rfl w4.heap.size rfl _ M _ _ R9.out Tryz.underlying33 rfl HMS.out ?_) | (refine wpList_store_row rfl 33 _ _ rfl (w.heap.size + 1) M rfl rfl _ _ RZ9.out HMS.out HMZ.out HMO.out ?_))
  refine bodyPost_ret (results_cell_row rfl _ _ (w.heap.size + 1) _ M _ _ rfl RFH.out Tryz.underlying33 rfl HMS.out) rfl ⟨by rw [HYE.out], u9.setRowNew (by omega) _⟩
end Go.Proofs.YtmnmhhbldbdpfaaGreatDoor

namespace Go.Proofs.YtmnmhhbldbdpfaaGreatDoor
open Go.RowKit
set_option maxRecDepth 100000

set_option maxHeartbeats 4000000 in
theorem rprint22_any (k x s n : Int) (d : ByteArray) (a b c : List UInt8) (hk : i64in k) (hx : i64in x) (hs : i64in s) (hn : i64in n) (hd : d.size ≤ 1000000000) (ha : a.length = 32) (hb : b.length = 32) (hc : c.length = 32) (w : World) :
    Calls Tryz.prog 41 #[.int .i64 k, .int .i64 x, .int .i64 s, .string d, .int .i64 n, .agg (byteVals a).toArray, .agg (byteVals b).toArray, .agg (byteVals c).toArray] w (Mk (.agg (rcV (printR k s n d a b c x)).toArray) w) := by
  obtain ⟨X, hX⟩ : ∃ X : Rc, X = ⟨k, s, n, d, a, b, c, 0, 0⟩ := ⟨_, rfl⟩
  have hXo : X.ok := by rw [hX]; exact ⟨hk, hs, hn, ha, hb, hc, ⟨show (-9223372036854775808 : Int) ≤ 0 by decide, show (0 : Int) ≤ 9223372036854775807 by decide⟩, ⟨show (-9223372036854775808 : Int) ≤ 0 by decide, show (0 : Int) ≤ 9223372036854775807 by decide⟩⟩
  have hXd : X.draw.size ≤ 1000000000 := by rw [hX]; exact hd
  have hP : printR k s n d a b c x = signR X x := by rw [hX]; rfl
  have HP := Lib.hid hP
  clear hP
  have hbd := built_print k s n d a b c ha hb hc
  rw [← hX] at hbd
  obtain ⟨A, hA⟩ : ∃ A, A = (byteVals a).toArray := ⟨_, rfl⟩
  obtain ⟨B, hB⟩ : ∃ B, B = (byteVals b).toArray := ⟨_, rfl⟩
  obtain ⟨C, hC⟩ : ∃ C, C = (byteVals c).toArray := ⟨_, rfl⟩
  have hA0 : A.size = 32 := by rw [hA]; simp [byteVals, ha]
  have hB0 : B.size = 32 := by rw [hB]; simp [byteVals, hb]
  have hC0 : C.size = 32 := by rw [hC]; simp [byteVals, hc]
  rw [← hA, ← hB, ← hC] at hbd ⊢
  clear hA hB hC hX
  have IA : Hid ((Tryz.prog.info? 24).map (·.size) = some A.size) := by show _ = _; rw [hA0]; kernel_rfl
  have IB : Hid ((Tryz.prog.info? 24).map (·.size) = some B.size) := by show _ = _; rw [hB0]; kernel_rfl
  have IC : Hid ((Tryz.prog.info? 24).map (·.size) = some C.size) := by show _ = _; rw [hC0]; kernel_rfl
  clear hA0 hB0 hC0
  obtain ⟨Z, hZ⟩ : ∃ Z, Z = Tryz.zeroCells33 := ⟨_, rfl⟩
  have hZr : Z = (rcV Rc.zero).toArray := by rw [hZ]; rfl
  have ra : ((((w.alloc (.cells A 24)).alloc (.cells B 24)).alloc (.cells C 24)).alloc (.cells Z 33)).heap[w.heap.size]? = some (.cells A 24 (0, 0)) :=
    row_updH (heap_alloc_new w (.cells A 24)) ((((Upd.refl [] _).alloc _).alloc _).alloc _)
  have rb : ((((w.alloc (.cells A 24)).alloc (.cells B 24)).alloc (.cells C 24)).alloc (.cells Z 33)).heap[w.heap.size + 1]? = some (.cells B 24 (0, 0)) := by
    have h := row_updH (heap_alloc_new (w.alloc (.cells A 24)) (.cells B 24)) (((Upd.refl [] _).alloc (.cells C 24)).alloc (.cells Z 33))
    rw [World.size_alloc] at h
    exact h
  have rc : ((((w.alloc (.cells A 24)).alloc (.cells B 24)).alloc (.cells C 24)).alloc (.cells Z 33)).heap[w.heap.size + 1 + 1]? = some (.cells C 24 (0, 0)) := by
    have h := row_updH (heap_alloc_new ((w.alloc (.cells A 24)).alloc (.cells B 24)) (.cells C 24)) ((Upd.refl [] _).alloc (.cells Z 33))
    rw [World.size_alloc, World.size_alloc] at h
    exact h
  have rz : ((((w.alloc (.cells A 24)).alloc (.cells B 24)).alloc (.cells C 24)).alloc (.cells Z 33)).heap[w.heap.size + 1 + 1 + 1]? = some (.cells Z 33 (0, 0)) := by
    have h := heap_alloc_new (((w.alloc (.cells A 24)).alloc (.cells B 24)).alloc (.cells C 24)) (.cells Z 33)
    rw [World.size_alloc, World.size_alloc, World.size_alloc] at h
    exact h
  have u4 : Upd [] [] w ((((w.alloc (.cells A 24)).alloc (.cells B 24)).alloc (.cells C 24)).alloc (.cells Z 33)) := (((((Upd.refl _ _).alloc _).alloc _).alloc _).alloc _)
  have hs4 : ((((w.alloc (.cells A 24)).alloc (.cells B 24)).alloc (.cells C 24)).alloc (.cells Z 33)).heap.size = w.heap.size + 1 + 1 + 1 + 1 := by simp
  obtain ⟨w4, hw4⟩ : ∃ w4, ((((w.alloc (.cells A 24)).alloc (.cells B 24)).alloc (.cells C 24)).alloc (.cells Z 33)) = w4 := ⟨_, rfl⟩
  rw [hw4] at ra rb rc rz u4 hs4
  have RA := Lib.hid ra
  have RB := Lib.hid rb
  have RC := Lib.hid rc
  have RZ := Lib.hid rz
  clear ra rb rc rz
  obtain ⟨R, hR⟩ : ∃ R, R = (rcV X).toArray := ⟨_, rfl⟩
  rw [← hR] at hbd
  have HBD := Lib.hid hbd
  clear hbd
  have HR := Lib.hid hR
  clear hR
  have HRS : Hid ((Tryz.prog.info? 33).map (·.size) = some R.size) := by show _ = _; rw [HR.out]; exact rcSz hXo
  have hSo : (signR X x).ok := by
    obtain ⟨o1, o2, o3, o4, o5, o6, _, _⟩ := hXo
    have g1 := gP_lt (nonceN (expN x) (bodyL X))
    have g2 := sWith_lt (expN x) (nonceN (expN x) (bodyL X)) (bodyL X)
    have p1 : Pn = 2305843009213691579 := rfl
    have p2 : Qn = 1152921504606845789 := rfl
    exact ⟨o1, o2, o3, o4, o5, o6, ⟨show (-9223372036854775808 : Int) ≤ (gP (nonceN (expN x) (bodyL X)) : Int) by omega, show (gP (nonceN (expN x) (bodyL X)) : Int) ≤ 9223372036854775807 by omega⟩, ⟨show (-9223372036854775808 : Int) ≤ (sWith (expN x) (nonceN (expN x) (bodyL X)) (bodyL X) : Int) by omega, show (sWith (expN x) (nonceN (expN x) (bodyL X)) (bodyL X) : Int) ≤ 9223372036854775807 by omega⟩⟩
  have HSC : Hid (∀ W, Calls Tryz.prog 73 #[.int .i64 x, .agg R] W (Mk (.agg (rcV (signR X x)).toArray) W)) := by
    intro W
    rw [HR.out]
    exact signed22_any x X hx hXo hXd W
  obtain ⟨M, hM⟩ : ∃ M, M = (rcV (signR X x)).toArray := ⟨_, rfl⟩
  rw [← hM] at HSC
  have HMS : Hid ((Tryz.prog.info? 33).map (·.size) = some M.size) := by show _ = _; rw [hM]; exact rcSz hSo
  have HMO : Hid (M.all (·.oneCell') = true) := by show _ = _; rw [hM]; exact rcOne _
  have HMZ : Hid (Z.size = M.size) := by show _ = _; rw [hM, hZr]; simp [rcV_len hSo, rcV_len Rc.zero_ok]
  have HYE : Hid (M = (rcV (printR k s n d a b c x)).toArray) := by show _ = _; rw [hM, HP.out]
  subst hZ
  clear hZr hs4 hM
  go_enter Tryz.func41, Tryz.ntmps41
  go_wp2_with (first | (refine wpList_buildTo rfl 33 _ rfl _ rfl R (Eq.trans (congrArg (fun z => Tryz.prog.built 33 z) (by kernel_rfl)) HBD.out) ?_) | (refine wpList_load_row rfl 24 _ rfl w.heap.size rfl _ A _ _ RA.out Tryz.underlying24 rfl IA.out ?_) | (refine wpList_load_row rfl 24 _ rfl (w.heap.size + 1) rfl _ B _ _ RB.out Tryz.underlying24 rfl IB.out ?_) | (refine wpList_load_row rfl 24 _ rfl (w.heap.size + 1 + 1) rfl _ C _ _ RC.out Tryz.underlying24 rfl IC.out ?_))
  refine (HSC.out _).mono ?_
  rintro e w7 ⟨rfl, hq⟩
  have u7 := u4.trans hq
  have RZ7 := Lib.hid (row_updH RZ.out hq)
  have RFH := Lib.hid (setRow_heap _ _ _ M _ _ RZ7.out)
  clear hq RZ RA RB RC HSC HP HR
  go_wp2_with (first | (refine wpList_store_row rfl 33 _ _ rfl (w.heap.size + 1 + 1 + 1) M rfl rfl _ _ RZ7.out HMS.out HMZ.out HMO.out ?_))
  refine bodyPost_ret (results_cell_row rfl _ _ (w.heap.size + 1 + 1 + 1) _ M _ _ rfl RFH.out Tryz.underlying33 rfl HMS.out) rfl ⟨by rw [HYE.out], u7.setRowNew (by omega) _⟩
end Go.Proofs.YtmnmhhbldbdpfaaGreatDoor

namespace Go.Proofs.YtmnmhhbldbdpfaaGreatDoor
open Go.RowKit
set_option maxRecDepth 100000

theorem rpow_at (a n m : Int) (N : Nat) (hN : n = (N : Int)) (w : World) (ha : -9223372036854775808 ≤ a ∧ a ≤ 9223372036854775807) (hn : n ≤ 9223372036854775807) (hm : 1 ≤ m ∧ m ≤ 9223372036854775807) :
    Calls Tryz.prog 61 #[.int .i64 a, .int .i64 n, .int .i64 m] w (RetZ .i64 m (powZ a N m) w) := by
  subst hN
  exact rPow_any a m N w ha (by omega) hm
theorem rmember_any (a : Int) (w : World) (ha : -9223372036854775808 ≤ a ∧ a ≤ 9223372036854775807) :
    Calls Tryz.prog 91 #[.int .i64 a] w (RetB (memB a) w) := by
  by_cases h1 : 1 ≤ a
  · by_cases h2 : a < 2305843009213691579
    · have HM := Lib.hid (memB_mid h1 (by omega))
      go_enter Tryz.func91, Tryz.ntmps91
      go_wp2_with (go_at_call 61; ((with_reducible refine (rpow_at a _ _ 1152921504606845789 qCast _ (by omega) (by omega) (by omega)).mono ?_); rintro e w' ⟨r, HR, r0, r1, rfl, rfl⟩))
      go_ret
      refine ⟨_, ?_, rfl, rfl⟩
      show _ = _
      rw [HM.out, ← HR.out]
      rfl
    · have h3 : 2305843009213691579 ≤ a := by omega
      have HM := Lib.hid (memB_high (a := a) (by omega))
      clear h2
      go_enter Tryz.func91, Tryz.ntmps91
      go_wp2_with fail
      go_ret
      exact ⟨_, HM.out.symm, rfl, rfl⟩
  · have h3 : a < 1 := by omega
    have HM := Lib.hid (memB_low h3)
    clear h1
    go_enter Tryz.func91, Tryz.ntmps91
    go_wp2_with fail
    go_ret
    exact ⟨_, HM.out.symm, rfl, rfl⟩
theorem rmember_is (a : Int) (b : Bool) (w : World) (ha : i64in a) (h : memB a = b) : Calls Tryz.prog 91 #[.int .i64 a] w (fun e w' => e = .returned (.bool b) ∧ w = w') := by
  refine (rmember_any a w ha).mono ?_
  rintro e w' ⟨r, HR, rfl, rfl⟩
  exact ⟨by rw [HR.out, h], rfl⟩

theorem rMulP_n (a b : Nat) (w : World) (ha : a ≤ 9223372036854775807) (hb : b ≤ 9223372036854775807) :
    Calls Tryz.prog 93 #[.int .i64 (a : Int), .int .i64 (b : Int), .int .i64 2305843009213691579] w (fun e w' => ∃ r : Nat, Hid (r = a * b % Pn) ∧ r < 2305843009213691579 ∧ e = .returned (.int .i64 (r : Int)) ∧ w = w') := by
  refine (rMul_any a b 2305843009213691579 w (by omega) (by omega) (by omega)).mono ?_
  rintro e w1 ⟨r, HR, r0, r1, rfl, rfl⟩
  obtain ⟨m, rfl⟩ : ∃ m : Nat, r = (m : Int) := ⟨r.toNat, by omega⟩
  refine ⟨m, ?_, by omega, rfl, rfl⟩
  show _ = _
  have h : ((m : Nat) : Int) = ((a * b % Pn : Nat) : Int) := by rw [HR.out]; simp [Pn]
  omega
end Go.Proofs.YtmnmhhbldbdpfaaGreatDoor

namespace Go.Proofs.YtmnmhhbldbdpfaaGreatDoor
open Go.RowKit
set_option maxRecDepth 100000

theorem rpow4_any (n : Nat) (w : World) (hn : n ≤ 9223372036854775807) :
    Calls Tryz.prog 61 #[.int .i64 4, .int .i64 (n : Int), .int .i64 2305843009213691579] w (fun e w' => ∃ r : Nat, Hid (r = 4 ^ n % Pn) ∧ r < 2305843009213691579 ∧ e = .returned (.int .i64 (r : Int)) ∧ w = w') := rPow_n 4 n _ w (by omega) hn rfl
set_option maxHeartbeats 2000000 in
theorem rverify5_any (p : Int) (t : ByteArray) (r s : Int) (w : World) (hp0 : -9223372036854775808 ≤ p ∧ p ≤ 9223372036854775807) (hr0 : -9223372036854775808 ≤ r ∧ r ≤ 9223372036854775807) (hs : -9223372036854775808 ≤ s ∧ s ≤ 9223372036854775807) (ht : t.size ≤ 140737488355000) :
    Calls Tryz.prog 59 #[.int .i64 p, .string t, .agg #[.int .i64 r, .int .i64 s]] w (MkB (verB p (bs t) r s) w) := by
  have hp : i64in p := hp0
  have hr : i64in r := hr0
  clear hp0 hr0
  have h0 := SigAt.start w r s
  obtain ⟨a, ha⟩ : ∃ a, memB p = a := ⟨_, rfl⟩
  obtain ⟨b, hb⟩ : ∃ b, memB r = b := ⟨_, rfl⟩
  have HA := Lib.hid ha
  have HB := Lib.hid hb
  by_cases hab : a = true ∧ b = true
  case neg =>
    have HV : Hid (verB p (bs t) r s = false) := by
      show _ = _
      cases a <;> cases b <;> simp_all [verB]
    have hab2 : a = false ∨ (a = true ∧ b = false) := by cases a <;> cases b <;> simp_all
    clear ha hb hab
    obtain ⟨k0, k1⟩ := h0.cells
    rcases hab2 with rfl | ⟨rfl, rfl⟩
    all_goals
      go_enter Tryz.func59, Tryz.ntmps59
      go_wp2_with fail
      refine (rmember_is p _ _ hp HA.out).mono ?_
      rintro e w1 ⟨rfl, rfl⟩
      go_wp2_with fail
      refine (rmember_is r _ _ hr HB.out).mono ?_
      rintro e w1 ⟨rfl, rfl⟩
      go_wp2_with fail
      go_ret
      exact ⟨_, HV.out.symm, rfl, h0.up⟩
  case pos =>
    obtain ⟨rfl, rfl⟩ := hab
    obtain ⟨P, rfl, hP⟩ := memB_pos ha
    obtain ⟨R, rfl, hR⟩ := memB_pos hb
    have hP2 : P < 2305843009213691579 := hP.2.1
    have hR2 : R < 2305843009213691579 := hR.2.1
    clear ha hb hP hR
    obtain ⟨k0, k1⟩ := h0.cells
    by_cases hs0 : s < 0
    · have HV : Hid (verB (P : Int) (bs t) (R : Int) s = false) := by
        show _ = _
        have : decide (0 ≤ s) = false := by rw [decide_eq_false_iff_not]; omega
        simp [verB, this]
      go_enter Tryz.func59, Tryz.ntmps59
      go_wp2_with fail
      refine (rmember_is P _ _ hp HA.out).mono ?_
      rintro e w1 ⟨rfl, rfl⟩
      go_wp2_with fail
      refine (rmember_is R _ _ hr HB.out).mono ?_
      rintro e w1 ⟨rfl, rfl⟩
      go_wp2_with fail
      go_ret
      exact ⟨_, HV.out.symm, rfl, h0.up⟩
    by_cases hs1 : 1152921504606845789 ≤ s
    · have HV : Hid (verB (P : Int) (bs t) (R : Int) s = false) := by
        show _ = _
        have : decide (s < 1152921504606845789) = false := by rw [decide_eq_false_iff_not]; omega
        simp [verB, this]
      go_enter Tryz.func59, Tryz.ntmps59
      go_wp2_with fail
      refine (rmember_is P _ _ hp HA.out).mono ?_
      rintro e w1 ⟨rfl, rfl⟩
      go_wp2_with fail
      refine (rmember_is R _ _ hr HB.out).mono ?_
      rintro e w1 ⟨rfl, rfl⟩
      go_wp2_with fail
      go_ret
      exact ⟨_, HV.out.symm, rfl, h0.up⟩
    go_enter Tryz.func59, Tryz.ntmps59
    go_wp2_with fail
    refine (rmember_is P _ _ hp HA.out).mono ?_
    rintro e w1 ⟨rfl, rfl⟩
    go_wp2_with fail
    refine (rmember_is R _ _ hr HB.out).mono ?_
    rintro e w1 ⟨rfl, rfl⟩
    go_wp2_with fail
    obtain ⟨T, rfl⟩ : ∃ T : Nat, s = (T : Int) := ⟨s.toNat, by omega⟩
    have HS1 := Lib.hid hs1
    have HSS := Lib.hid hs
    clear hs hs1 hs0
    refine (rchallenge_any R P t _ (by omega) (by omega) ht).mono ?_
    rintro e w3 ⟨c, HC, hc, rfl, hu3⟩
    have h4 := (h0.upd hu3).upd (Upd.refl _ _).drew
    have k4 := h4.cells
    have hTb : T ≤ 9223372036854775807 := by have := HSS.out.2; omega
    clear h0 k0 k1
    go_wp2_with fail
    go_region_held3 (fun wp => wp.cell? ⟨w.heap.size, 0, none⟩ = some (.int .i64 (R : Int)) ∧ wp.cell? ⟨w.heap.size, 1, none⟩ = some (.int .i64 (T : Int))) (first | exact k4 | assumption)
      (first
        | (go_at_call 61; ((with_reducible refine (rpow4_any T _ hTb).mono ?_); rintro e wq ⟨y1, HY1, hy1, rfl, rfl⟩))
        | (go_at_call 61; ((with_reducible refine (rPow_n P c _ _ (by omega) (by omega) rfl).mono ?_); rintro e wq ⟨y2, HY2, hy2, rfl, rfl⟩))
        | (go_at_call 93; ((with_reducible refine (rMulP_n R y2 _ (by omega) (by omega)).mono ?_); rintro e wq ⟨y3, HY3, hy3, rfl, rfl⟩)))
    go_wp2_with fail
    go_ret
    refine ⟨_, ?_, rfl, h4.up⟩
    show _ = _
    have e1 : y1 = gP T := HY1.out
    have e3 : y3 = R * P ^ chalN R P (bs t) % Pn := by rw [HY3.out, HY2.out, HC.out, Nat.mul_mod_mod]
    have mP : memN P := (memB_cast P).1 HA.out
    have mR : memN R := (memB_cast R).1 HB.out
    have hT : T < Qn := by
      have : Qn = 1152921504606845789 := rfl
      have := HS1.out
      omega
    show ((y1 : Int) == (y3 : Int)) = _
    rw [Bool.eq_iff_iff, verB_cast, beq_iff_eq, ← e1, ← e3]
    exact ⟨fun h => ⟨mP, mR, hT, by omega⟩, fun h => by have := h.2.2.2; omega⟩
theorem rverify5_is (p : Int) (t : ByteArray) (r s : Int) (b : Bool) (w : World) (hp : i64in p) (hr : i64in r) (hs : i64in s) (ht : t.size ≤ 140737488355000) (h : verB p (bs t) r s = b) :
    Calls Tryz.prog 59 #[.int .i64 p, .string t, .agg #[.int .i64 r, .int .i64 s]] w (fun e w' => e = .returned (.bool b) ∧ Upd [] [] w w') := by
  refine (rverify5_any p t r s w hp hr hs ht).mono ?_
  rintro e w' ⟨x, HX, rfl, hu⟩
  exact ⟨by rw [HX.out, h], hu⟩
end Go.Proofs.YtmnmhhbldbdpfaaGreatDoor

namespace Go.Proofs.YtmnmhhbldbdpfaaGreatDoor
open Go.RowKit
set_option maxRecDepth 100000

set_option maxHeartbeats 4000000 in
theorem rverify22_any (p : Int) (x : Rc) (hp : i64in p) (hx : x.ok) (hd : x.draw.size ≤ 1000000000) (w : World) : Calls Tryz.prog 26 #[.int .i64 p, .agg (rcV x).toArray] w (fun e w' => e = .returned (.bool (verB p (bodyL x) x.r x.s)) ∧ Upd [] [] w w') := by
  have r0 := (rc_box w x _ rfl).upd (Upd.refl _ _).drew
  have u0 : Upd [] [] w (w.alloc (.cells (rcV x).toArray 33)).drew := ((Upd.refl _ _).alloc _).drew
  obtain ⟨C, hC⟩ : ∃ C, C = (rcV x).toArray := ⟨_, rfl⟩
  rw [← hC] at r0 u0 ⊢
  clear hC
  obtain ⟨_, _, _, _, _, _, h7, h8⟩ := id hx
  have hi := rcInfo hx
  have hu33 := Tryz.underlying33
  have HK := Lib.hid (fun (W : World) (r : RcAt W w.heap.size x) => r.two hx)
  obtain ⟨k0, k1, k2⟩ := r0.two hx
  have lb := bodyL_len hx
  go_enter Tryz.func26, Tryz.ntmps26
  go_wp2_with fail
  refine wp_region_noPanic ?_
  refine wp_region_held_drew (S := fun wp => wp.cell? ⟨w.heap.size, 100, none⟩ = some (.int .i64 x.r) ∧ wp.cell? ⟨w.heap.size, 101, none⟩ = some (.int .i64 x.s) ∧ wp.rangeAt w.heap.size 0 (rcV x)) (by kernel_rfl) ?_ (fun hHeld => ?_)
  · exact HK.out _ r0
  refine wpAnyH_take (i := 0) (v := ?v1) (by simp only [List.getElem?_toArray, List.getElem?_cons_zero] <;> rfl) (by kernel_rfl) (by kernel_rfl) (by kernel_rfl) (fun _ _ _ h => h) (Or.inl ⟨by rfl, ?y1⟩) hHeld ?r1
  case y1 => (intro w hSw; (try dsimp only at hSw); go_simp; first | done | with_reducible rfl | rfl)
  try simp only [Act.put, List.setIfInBounds_toArray, List.set_cons_zero, List.set_cons_succ]
  refine wpAnyH_take (i := 1) (v := .agg (rcV x).toArray) (by simp only [List.getElem?_toArray, List.getElem?_cons_succ, List.getElem?_cons_zero] <;> rfl) (by kernel_rfl) (by kernel_rfl) (by kernel_rfl) (fun _ _ _ h => h) (yieldsIf_load_mid (by rfl) _ _ rfl _ _ rfl (rcV x) _ (fun w hSw => hSw.2.2) hu33 rfl hi) hHeld ?_
  try simp only [Act.put, List.setIfInBounds_toArray, List.set_cons_zero, List.set_cons_succ]
  refine wpAnyH_take (i := 3) (v := ?v2) (by simp only [List.getElem?_toArray, List.getElem?_cons_succ, List.getElem?_cons_zero] <;> rfl) (by kernel_rfl) (by kernel_rfl) (by kernel_rfl) (fun _ _ _ h => h) (Or.inl ⟨by rfl, ?y2⟩) hHeld ?r2
  case y2 => (intro w hSw; (try dsimp only at hSw); go_simp; first | done | with_reducible rfl | rfl)
  try simp only [Act.put, List.setIfInBounds_toArray, List.set_cons_zero, List.set_cons_succ]
  refine wpAnyH_take (i := 4) (v := ?v3) (by simp only [List.getElem?_toArray, List.getElem?_cons_succ, List.getElem?_cons_zero] <;> rfl) (by kernel_rfl) (by kernel_rfl) (by kernel_rfl) (fun _ _ _ h => h) (Or.inl ⟨by rfl, ?y3⟩) hHeld ?r3
  case y3 => (intro w hSw; (try dsimp only at hSw); go_simp; first | done | with_reducible rfl | rfl)
  try simp only [Act.put, List.setIfInBounds_toArray, List.set_cons_zero, List.set_cons_succ]
  refine wpAnyH_ready (rs := [2]) (by kernel_rfl) (by simp) ?_
  refine AllReadyH.cons (by simp only [List.getElem?_toArray, List.getElem?_cons_succ, List.getElem?_cons_zero] <;> rfl) (fun K hK => ?_) ?_
  · go_simp; refine (rbody22_any x hx hd _).mono ?_; rintro e w1 ⟨y1, HY1, hy1, rfl, hq⟩; have r1 := r0.upd hq; have u1 := u0.trans hq; clear hq; go_wp2_with fail
    refine hK.out _ _ ?_ (fun hHeld => ?_)
    · exact HK.out _ r1
    clear hK K
    try simp only [Act.put, List.setIfInBounds_toArray, List.set_cons_zero, List.set_cons_succ]
    refine wpAnyH_ready (rs := [5]) (by kernel_rfl) (by simp) ?_
    refine AllReadyH.cons (by simp only [List.getElem?_toArray, List.getElem?_cons_succ, List.getElem?_cons_zero] <;> rfl) (fun K hK => ?_) ?_
    · go_simp; refine (rverify5_is p y1 x.r x.s _ _ hp h7 h8 (by omega) rfl).mono ?_; rintro e w2 ⟨rfl, hq⟩; have r2 := r1.upd hq; have u2 := u1.trans hq; clear hq; go_wp2_with fail
      refine hK.out _ _ ?_ (fun hHeld => ?_)
      · exact HK.out _ r2
      clear hK K
      try simp only [Act.put, List.setIfInBounds_toArray, List.set_cons_zero, List.set_cons_succ]
      refine wpAnyH_take (i := 6) (v := ?v4) (by simp only [List.getElem?_toArray, List.getElem?_cons_succ, List.getElem?_cons_zero] <;> rfl) (by kernel_rfl) (by kernel_rfl) (by kernel_rfl) (fun _ _ _ h => h) (Or.inl ⟨by rfl, ?y4⟩) hHeld ?r4
      case y4 => (intro w hSw; (try dsimp only at hSw); go_simp; first | done | with_reducible rfl | rfl)
      try simp only [Act.put, List.setIfInBounds_toArray, List.set_cons_zero, List.set_cons_succ]
      refine wpAnyH_done (by kernel_rfl) ?_ _
      refine NoPanic.normal ?_
      go_wp2_with fail
      go_ret
      exact ⟨by rw [HY1.out]; rfl, u2⟩
    exact AllReadyH.nil
  exact AllReadyH.nil

theorem secret22_any (k : Int) (w : World) (hk : 0 ≤ k ∧ k ≤ 1000) : Calls Tryz.prog 23 #[.int .i64 k] w (fun e w' => e = .returned (.int .i64 (5000 + 3 * k)) ∧ w' = w) := by
  have z1 : IntKind.i64.wrap (3 * k) = 3 * k := IntWalk.i64_in _ (by omega)
  have z2 : IntKind.i64.wrap (5000 + 3 * k) = 5000 + 3 * k := IntWalk.i64_in _ (by omega)
  go_enter Tryz.func23, Tryz.ntmps23
  go_wp2_with fail
  go_ret
  exact ⟨rfl, rfl⟩
theorem public22_any (k : Int) (w : World) (hk : 0 ≤ k ∧ k ≤ 1000) : Calls Tryz.prog 24 #[.int .i64 k] w (fun e w' => ∃ r : Nat, Hid (r = gP (expN (5000 + 3 * k))) ∧ r < 2305843009213691579 ∧ e = .returned (.int .i64 (r : Int)) ∧ w = w') := by
  go_enter Tryz.func24, Tryz.ntmps24
  go_wp2_with fail
  refine (secret22_any k w hk).mono ?_
  rintro e w1 ⟨rfl, rfl⟩
  go_wp2_with fail
  refine (public_any (5000 + 3 * k) w1 (by omega)).mono ?_
  rintro e w2 ⟨r, HR, hr, rfl, rfl⟩
  go_wp2_with fail
  go_ret
  exact ⟨r, HR, hr, rfl, rfl⟩

end Go.Proofs.YtmnmhhbldbdpfaaGreatDoor

namespace Go.Proofs.YtmnmhhbldbdpfaaGreatDoor
open Go.RowKit
set_option maxRecDepth 100000

set_option maxHeartbeats 4000000 in
theorem rbatchText_any (k : Int) (l : List Rc) (ao : Option Addr) (cap : Nat) (w : World) (hk : i64in k) (hl : l.length ≤ 6000) (hc : l.length ≤ cap) (hm : RcsIn w ao l) :
    Calls Tryz.prog 19 #[.agg #[.int .i64 k, .slice ao l.length cap]] w (MkS (batchL k l) w) := by
  obtain ⟨n, hn⟩ : ∃ n, n = l.length := ⟨_, rfl⟩
  have hall := hm.mem
  have HACC := Lib.hid (fun j => accT_len (k := k) (l := l) (j := j) hk hl hall)
  rw [← hn] at hl hc ⊢
  have HN := Lib.hid hn
  clear hn
  obtain ⟨W0, hW0⟩ : ∃ W0, w.alloc (.cells #[.int .i64 k, .slice ao n cap] 46) = W0 := ⟨_, rfl⟩
  have hbox : W0.heap[w.heap.size]? = some (.cells #[.int .i64 k, .slice ao n cap] 46 (0, 0)) := by rw [← hW0]; exact heap_alloc_new _ _
  have uw : Upd [] [] w W0 := by rw [← hW0]; exact (Upd.refl _ _).alloc _
  have HK : Hid (∀ W, Upd [] [] W0 W → W.cell? ⟨w.heap.size, 0, none⟩ = some (.int .i64 k) ∧ W.cell? ⟨w.heap.size, 1, none⟩ = some (.slice ao n cap)) := by
    intro W u
    have h := row_updH hbox u
    exact ⟨by rw [cell_of_row _ _ _ _ _ _ h]; rfl, by rw [cell_of_row _ _ _ _ _ _ h]; rfl⟩
  have HM := Lib.hid (hm.upd uw)
  have b0 : Upd [] [] W0 W0.drew := (Upd.refl _ _).drew
  have k0 := HK.out _ b0
  have li := itoa_len k hk
  have li2 := itoa_len (n : Int) (by unfold i64in; omega)
  clear hbox hm
  go_enter Tryz.func19, Tryz.ntmps19
  go_wp2_with fail
  go_region_held3 (fun wp => wp.cell? ⟨w.heap.size, 0, none⟩ = some (.int .i64 k) ∧ wp.cell? ⟨w.heap.size, 1, none⟩ = some (.slice ao n cap)) (first | with_reducible exact k0 | with_reducible assumption)
    (first
      | (go_at_call 57; ((with_reducible refine (decimal22_any k _ hk).mono ?_); rintro e w1 ⟨y1, HY1, hy1, rfl, hq⟩; have b1 := b0.trans hq; have kq := HK.out _ b1; have t1 : ¬ 9223372036854775807 < 6 + y1.size := (by omega); have t2 : ¬ 9223372036854775807 < 6 + y1.size + 1 := (by omega); clear hq))
      | (go_at_call 57; ((with_reducible refine (decimal22_any (n : Int) _ (by unfold i64in; omega)).mono ?_); rintro e w2 ⟨y2, HY2, hy2, rfl, hq⟩; have b2 := b1.trans hq; have kq := HK.out _ b2; have t3 : ¬ 9223372036854775807 < 6 + y1.size + 1 + y2.size := (by omega); clear hq)))
  obtain ⟨U, hU⟩ : ∃ U : ByteArray, U = ByteArray.mk #[98, 97, 116, 99, 104, 32] ++ y1 ++ ByteArray.mk #[32] ++ y2 := ⟨_, rfl⟩
  have HUB : Hid (bs U = accT k l 0) := by
    show _ = _
    rw [hU, bs_append, bs_append, bs_append, HY1.out, HY2.out]
    unfold accT
    rw [List.take_zero, recsT, ← HN.out]
    simp [wBa, bs]
  rw [← hU]
  have HU2 := Lib.hid b2
  clear hU b0 b1 b2 k0 kq hW0 HY1 HY2
  go_wp2_with fail
  go_loopw [3, 4, 5] (fun sv i _ wr => ∃ (j : Nat) (acc : ByteArray), sv = .string acc ∧ i = .int .i64 (j : Int) ∧ j ≤ n ∧ Hid (bs acc = accT k l j) ∧ Hid (Upd [] [] W0 wr)) (fun _ i _ _ => n - (intOf i).toNat)
  case atStart => exact ⟨0, U, rfl, rfl, Nat.zero_le _, HUB, HU2⟩
  case round =>
    obtain ⟨j, acc, rfl, rfl, hj, HA, HB⟩ := hrel
    obtain ⟨q0, q1⟩ := HK.out _ HB.out
    by_cases hlt : j < n
    · obtain ⟨x, hx⟩ : ∃ x, l[j]? = some x := ⟨_, List.getElem?_eq_getElem (by rw [← HN.out]; exact hlt)⟩
      obtain ⟨ho, hd, g, o, rfl, hg, hr⟩ := (HM.out.upd HB.out) j x hx
      have i0 : (0 : Int) ≤ (j : Int) := by omega
      have i1 : (j : Int) < (n : Int) := by omega
      have HX := Lib.hid hx
      obtain ⟨C, hC⟩ : ∃ C, C = (rcV x).toArray := ⟨_, rfl⟩
      have HCT := Lib.hid (rtext22_any x ho (by omega) wr)
      have tl := textL_len ho
      rw [← hC] at HCT
      have HLD := Lib.hid (run_loadAt_mid (P := Tryz.prog) wr g (o + j * 102) 33 (rcV x) _ hr Tryz.underlying33 rfl (rcInfo ho))
      rw [← hC] at HLD
      have hal := HACC.out j
      have has : acc.size ≤ 6100000000 := by rw [bs_size HA.out]; exact hal
      clear hr ho hx hC
      go_wp2_with (first | (refine wpList_load_atW (by rfl) 33 _ rfl g (o + j * 102) rfl C HLD.out ?_))
      refine HCT.out.mono ?_
      rintro e w6 ⟨t, HTX, ht, rfl, hq⟩
      have HB6 := Lib.hid (HB.out.trans hq)
      have hts : t.size ≤ 1000400 := by omega
      have s0 : ¬ 9223372036854775807 < acc.size + 1 := by omega
      clear hq HCT HLD q0 q1
      go_wp2_with fail
      refine (decimal22_any (t.size : Int) w6 (by unfold i64in; omega)).mono ?_
      rintro e w7 ⟨y, HY, hy, rfl, hq⟩
      have HB7 := Lib.hid (HB6.out.trans hq)
      have hys : y.size ≤ 20 := Nat.le_trans hy (itoa_len _ (by unfold i64in; omega))
      have s1 : ¬ 9223372036854775807 < acc.size + 1 + y.size := by omega
      have s2 : ¬ 9223372036854775807 < acc.size + 1 + y.size + 1 := by omega
      have s3 : ¬ 9223372036854775807 < acc.size + 1 + y.size + 1 + t.size := by omega
      have hacc : Hid (bs (acc ++ ByteArray.mk #[32] ++ y ++ ByteArray.mk #[58] ++ t) = accT k l (j + 1)) := by
        show _ = _
        have : t.size = (textL x).length := by rw [← HTX.out, bs_length]
        rw [bs_append, bs_append, bs_append, bs_append, HA.out, HY.out, HTX.out, this]
        unfold accT
        rw [List.take_add_one, HX.out]
        show _ = _ ++ recsT (l.take j ++ [x])
        rw [recsT_app]
        simp [recsT, bs]
      clear hq hy
      go_wp2_with fail
      exact ⟨⟨j + 1, _, rfl, by go_num, by omega, hacc, HB7⟩, by simp [intOf]; omega⟩
    · obtain rfl : j = n := by omega
      have hbat : batchL k l = accT k l j := by
        unfold batchL accT
        rw [List.take_of_length_le (by rw [← HN.out]; exact Nat.le_refl _)]
        simp
      have HBT := Lib.hid hbat
      clear hbat
      go_wp2_with fail
      go_ret
      refine ⟨acc, by show _ = _; rw [HBT.out]; exact HA.out, ?_, rfl, uw.trans HB.out⟩
      rw [HBT.out, ← HA.out, bs_length]
      exact Nat.le_refl _
end Go.Proofs.YtmnmhhbldbdpfaaGreatDoor

namespace Go.Proofs.YtmnmhhbldbdpfaaGreatDoor
open Go.RowKit
set_option maxRecDepth 100000

theorem eq_byte (d : Nat) (a b : UInt8) (w : World) : (Op.equalIn (d + 1) 5 (byteV a) (byteV b)).run Tryz.prog w = .ok (decide (a = b)) w := by
  unfold byteV
  rw [run_equalIn_int w d 5 .u8 .u8 _ _ Tryz.underlying5]
  congr 1
  by_cases h : a = b
  · rw [h]; simp
  · have : ¬ (a.toNat : Int) = b.toNat := fun e => h (UInt8.toNat_inj.1 (by omega))
    simp [h, this]
theorem eqItems_bytes (d : Nat) (l m : List UInt8) (w : World) (hl : l.length = m.length) : ∀ n k, k + n = l.length → (Op.eqItems (d + 1) 5 1 (byteVals l).toArray (byteVals m).toArray (List.range' k n)).run Tryz.prog w = .ok (decide (l.drop k = m.drop k)) w
  | 0, k, h => by
    have e1 : l.drop k = [] := List.drop_eq_nil_of_le (by omega)
    have e2 : m.drop k = [] := List.drop_eq_nil_of_le (by omega)
    simp [Op.eqItems, e1, e2]
  | n + 1, k, h => by
    have hk : k < l.length := by omega
    have hk' : k < m.length := by omega
    have p : ∀ (z : List UInt8) (hz : k < z.length), (part 5 (byteVals z).toArray (k * 1)).run Tryz.prog w = .ok (byteV z[k]) w := by
      intro z hz
      refine run_part_plain w (by kernel_rfl) ?_
      rw [Nat.mul_one, List.getElem?_toArray, byteVals, List.getElem?_map, List.getElem?_eq_getElem hz]
      rfl
    rw [List.range'_succ]
    simp only [Op.eqItems, Sem.run_bind, p l hk, p m hk', Result.andThen_ok, eq_byte]
    have h2 : (l.drop k = m.drop k) ↔ (l[k] = m[k] ∧ l.drop (k + 1) = m.drop (k + 1)) := by
      rw [List.drop_eq_getElem_cons hk, List.drop_eq_getElem_cons hk', List.cons.injEq]
    rw [show decide (l.drop k = m.drop k) = (decide (l[k] = m[k]) && decide (l.drop (k + 1) = m.drop (k + 1))) from by rw [Bool.eq_iff_iff]; simp only [decide_eq_true_eq, Bool.and_eq_true]; exact h2]
    have ih := eqItems_bytes d l m w hl n (k + 1) (by omega)
    cases decide (l[k] = m[k])
    · rfl
    · exact ih
/-- One field of a comparison. -/
theorem eqF_step (d : Nat) (xs ys : Array Value) (f : Field) (fs : List Field) (w : World) (a b : Value) (r rest : Bool) (hn : f.name ≠ "_") (ha : (part f.type xs f.offset).run Tryz.prog w = .ok a w) (hb : (part f.type ys f.offset).run Tryz.prog w = .ok b w)
    (hr : (Op.equalIn d f.type a b).run Tryz.prog w = .ok r w) (hq : (Op.eqFields d xs ys fs).run Tryz.prog w = .ok rest w) : (Op.eqFields d xs ys (f :: fs)).run Tryz.prog w = .ok (r && rest) w := by
  rw [Op.eqFields, if_pos hn]
  simp only [Sem.run_bind, ha, hb, hr, Result.andThen_ok]
  cases r
  · rfl
  · exact hq
theorem eqHash_run (d : Nat) (l m : List UInt8) (w : World) (hl : l.length = 32) (hm : m.length = 32) : (Op.equalIn (d + 2) 24 (.agg (byteVals l).toArray) (.agg (byteVals m).toArray)).run Tryz.prog w = .ok (decide (l = m)) w := by
  obtain ⟨i, hi⟩ : ∃ i, Tryz.prog.info? 5 = some i := by
    have h : (Tryz.prog.info? 5).isSome = true := by kernel_rfl
    exact Option.isSome_iff_exists.1 h
  have hc : Tryz.prog.cellsOf 5 = 1 := by kernel_rfl
  rw [run_equalIn_array w (d + 1) _ _ Tryz.underlying24 hi, hc, List.range_eq_range', eqItems_bytes d l m w (by omega) 32 0 (by omega)]
  simp
theorem eqSig_run (d : Nat) (a b a' b' : Int) (w : World) : (Op.equalIn (d + 2) 31 (.agg #[.int .i64 a, .int .i64 b]) (.agg #[.int .i64 a', .int .i64 b'])).run Tryz.prog w = .ok (decide (a = a' ∧ b = b')) w := by
  have hS : Tryz.prog.underlying 31 = some (.struct (Tryz.prog.fieldsOf 31)) := by kernel_rfl
  have p : ∀ (z : Array Value) (j : Nat) (v : Value), z[j]? = some v → (part 3 z j).run Tryz.prog w = .ok v w := fun z j v h => run_part_plain w (by kernel_rfl) h
  have q : ∀ (a b : Int), (Op.equalIn (d + 1) 3 (.int .i64 a) (.int .i64 b)).run Tryz.prog w = .ok (a == b) w := fun a b => run_equalIn_int w d 3 .i64 .i64 a b Tryz.underlying3
  rw [run_equalIn_struct w (d + 1) 31 _ _ hS (by kernel_rfl)]
  simp only [Program.fieldsOf, Tryz.underlying31]
  have e : decide (a = a' ∧ b = b') = ((a == a') && ((b == b') && true)) := by
    by_cases h1 : a = a' <;> by_cases h2 : b = b' <;> simp [h1, h2]
  rw [e]
  exact eqF_step (d + 1) #[.int .i64 a, .int .i64 b] #[.int .i64 a', .int .i64 b'] _ _ w _ _ _ _ (by simp) (p #[.int .i64 a, .int .i64 b] 0 (.int .i64 a) rfl) (p #[.int .i64 a', .int .i64 b'] 0 (.int .i64 a') rfl) (q a a') (eqF_step (d + 1) #[.int .i64 a, .int .i64 b] #[.int .i64 a', .int .i64 b'] _ _ w _ _ _ true (by simp) (p #[.int .i64 a, .int .i64 b] 1 (.int .i64 b) rfl) (p #[.int .i64 a', .int .i64 b'] 1 (.int .i64 b') rfl) (q b b') rfl)

/-- Two receipts are equal. -/
def eqRc (x y : Rc) : Bool := decide (x.kiosk = y.kiosk) && (decide (x.serial = y.serial) && ((x.draw.toList == y.draw.toList) && (decide (x.seen = y.seen) && (decide (x.out = y.out) && (decide (x.hash = y.hash) && (decide (x.prev = y.prev) && decide (x.r = y.r ∧ x.s = y.s)))))))
theorem eqRc_iff (x y : Rc) : eqRc x y = true ↔ x = y := by
  unfold eqRc
  simp only [Bool.and_eq_true, decide_eq_true_eq, beq_iff_eq]
  constructor
  · rintro ⟨e1, e2, e3, e4, e5, e6, e7, e8, e9⟩
    have e3' : x.draw = y.draw := bs_injE (by rw [ByteArray.toList_eq, ByteArray.toList_eq] at e3; exact e3)
    cases x; cases y
    simp only at e1 e2 e3' e4 e5 e6 e7 e8 e9
    subst e1 e2 e3' e4 e5 e6 e7 e8 e9
    rfl
  · rintro rfl
    exact ⟨rfl, rfl, rfl, rfl, rfl, rfl, rfl, rfl, rfl⟩
theorem eqRc_refl (x : Rc) : eqRc x x = true := (eqRc_iff x x).2 rfl
theorem eqRc_ne {x y : Rc} (h : x ≠ y) : eqRc x y = false := by
  cases e : eqRc x y
  · rfl
  · exact absurd ((eqRc_iff x y).1 e) h
theorem ext_mid {A B C : List Value} {o n : Nat} (hA : A.length = o) (hB : B.length = n) : (A ++ (B ++ C)).toArray.extract o (o + n) = B.toArray := by
  apply Array.ext'
  rw [Array.toList_extract]
  subst hA hB
  simp [List.extract]
theorem rc_parts {x : Rc} (hx : x.ok) : (rcV x).toArray.extract 4 (4 + 32) = (byteVals x.out).toArray ∧ (rcV x).toArray.extract 36 (36 + 32) = (byteVals x.hash).toArray ∧ (rcV x).toArray.extract 68 (68 + 32) = (byteVals x.prev).toArray ∧ (rcV x).toArray.extract 100 (100 + 2) = #[.int .i64 x.r, .int .i64 x.s] ∧ (rcV x).toArray[0]? = some (.int .i64 x.kiosk) ∧ (rcV x).toArray[1]? = some (.int .i64 x.serial) ∧ (rcV x).toArray[2]? = some (.string x.draw) ∧ (rcV x).toArray[3]? = some (.int .i64 x.seen) := by
  obtain ⟨_, _, _, h1, h2, h3, _⟩ := hx
  have l1 : (byteVals x.out).length = 32 := by rw [byteVals_length, h1]
  have l2 : (byteVals x.hash).length = 32 := by rw [byteVals_length, h2]
  have l3 : (byteVals x.prev).length = 32 := by rw [byteVals_length, h3]
  refine ⟨ext_mid (A := [.int .i64 x.kiosk, .int .i64 x.serial, .string x.draw, .int .i64 x.seen]) rfl l1, ?_, ?_, ?_, rfl, rfl, rfl, rfl⟩
  · have e : rcV x = ([.int .i64 x.kiosk, .int .i64 x.serial, .string x.draw, .int .i64 x.seen] ++ byteVals x.out) ++ (byteVals x.hash ++ (byteVals x.prev ++ [.int .i64 x.r, .int .i64 x.s])) := by simp [rcV]
    rw [e]
    exact ext_mid (by simp [l1]) l2
  · have e : rcV x = ([.int .i64 x.kiosk, .int .i64 x.serial, .string x.draw, .int .i64 x.seen] ++ byteVals x.out ++ byteVals x.hash) ++ (byteVals x.prev ++ [.int .i64 x.r, .int .i64 x.s]) := by simp [rcV]
    rw [e]
    exact ext_mid (by simp [l1, l2]) l3
  · have e : rcV x = ([.int .i64 x.kiosk, .int .i64 x.serial, .string x.draw, .int .i64 x.seen] ++ byteVals x.out ++ byteVals x.hash ++ byteVals x.prev) ++ ([.int .i64 x.r, .int .i64 x.s] ++ []) := by simp [rcV]
    rw [e]
    exact ext_mid (by simp [l1, l2, l3]) rfl
theorem eqRc_run (d : Nat) (x y : Rc) (hx : x.ok) (hy : y.ok) (w : World) : (Op.equalIn (d + 3) 33 (.agg (rcV x).toArray) (.agg (rcV y).toArray)).run Tryz.prog w = .ok (eqRc x y) w := by
  have hS : Tryz.prog.underlying 33 = some (.struct (Tryz.prog.fieldsOf 33)) := by kernel_rfl
  obtain ⟨x4, x36, x68, x100, x0, x1, x2, x3⟩ := rc_parts hx
  obtain ⟨y4, y36, y68, y100, y0, y1, y2, y3⟩ := rc_parts hy
  obtain ⟨_, _, _, hx1, hx2, hx3, _⟩ := hx
  obtain ⟨_, _, _, hy1, hy2, hy3, _⟩ := hy
  have p : ∀ (z : Array Value) (j : Nat) (v : Value), z[j]? = some v → (part 3 z j).run Tryz.prog w = .ok v w := fun z j v h => run_part_plain w (by kernel_rfl) h
  have ps : ∀ (z : Array Value) (j : Nat) (v : Value), z[j]? = some v → (part 9 z j).run Tryz.prog w = .ok v w := fun z j v h => run_part_plain w (by kernel_rfl) h
  have q : ∀ (a b : Int), (Op.equalIn (d + 2) 3 (.int .i64 a) (.int .i64 b)).run Tryz.prog w = .ok (decide (a = b)) w := fun a b => by
    rw [run_equalIn_int w (d + 1) 3 .i64 .i64 a b Tryz.underlying3]; congr 1
  have qs : ∀ (a b : ByteArray), (Op.equalIn (d + 2) 9 (.string a) (.string b)).run Tryz.prog w = .ok (a.toList == b.toList) w := fun a b => run_equalIn_string w (d + 1) 9 a b Tryz.underlying9
  have pH : ∀ (z : Array Value) (j : Nat), (part 24 z j).run Tryz.prog w = .ok (.agg (z.extract j (j + 32))) w := fun z j => by
    simp [part, isAgg, run_underlying Tryz.underlying24]
  have pS : ∀ (z : Array Value) (j : Nat), (part 31 z j).run Tryz.prog w = .ok (.agg (z.extract j (j + 2))) w := fun z j => by
    simp [part, isAgg, run_underlying Tryz.underlying31]
  rw [run_equalIn_struct w (d + 2) 33 _ _ hS (by kernel_rfl)]
  simp only [Program.fieldsOf, Tryz.underlying33]
  generalize (rcV x).toArray = C at *
  generalize (rcV y).toArray = D at *
  have z4 : (part 24 C 4).run Tryz.prog w = .ok (.agg (byteVals x.out).toArray) w := by rw [pH, x4]
  have z4' : (part 24 D 4).run Tryz.prog w = .ok (.agg (byteVals y.out).toArray) w := by rw [pH, y4]
  have z36 : (part 24 C 36).run Tryz.prog w = .ok (.agg (byteVals x.hash).toArray) w := by rw [pH, x36]
  have z36' : (part 24 D 36).run Tryz.prog w = .ok (.agg (byteVals y.hash).toArray) w := by rw [pH, y36]
  have z68 : (part 24 C 68).run Tryz.prog w = .ok (.agg (byteVals x.prev).toArray) w := by rw [pH, x68]
  have z68' : (part 24 D 68).run Tryz.prog w = .ok (.agg (byteVals y.prev).toArray) w := by rw [pH, y68]
  have z100 : (part 31 C 100).run Tryz.prog w = .ok (.agg #[.int .i64 x.r, .int .i64 x.s]) w := by rw [pS, x100]
  have z100' : (part 31 D 100).run Tryz.prog w = .ok (.agg #[.int .i64 y.r, .int .i64 y.s]) w := by rw [pS, y100]
  have h8 : ∀ f, f.name ≠ "_" → f.type = 31 → f.offset = 100 → (Op.eqFields (d + 2) C D [f]).run Tryz.prog w = .ok (decide (x.r = y.r ∧ x.s = y.s)) w := by
    rintro f hn ht ho
    have := eqF_step (d + 2) C D f [] w _ _ _ true hn (by rw [ht, ho]; exact z100) (by rw [ht, ho]; exact z100') (by rw [ht]; exact eqSig_run d _ _ _ _ w) rfl
    rw [Bool.and_true] at this
    exact this
  exact eqF_step (d + 2) C D _ _ w _ _ _ _ (by simp) (p C 0 _ x0) (p D 0 _ y0) (q _ _)
    (eqF_step (d + 2) C D _ _ w _ _ _ _ (by simp) (p C 1 _ x1) (p D 1 _ y1) (q _ _)
    (eqF_step (d + 2) C D _ _ w _ _ _ _ (by simp) (ps C 2 _ x2) (ps D 2 _ y2) (qs _ _)
    (eqF_step (d + 2) C D _ _ w _ _ _ _ (by simp) (p C 3 _ x3) (p D 3 _ y3) (q _ _)
    (eqF_step (d + 2) C D _ _ w _ _ _ _ (by simp) z4 z4' (eqHash_run d _ _ w hx1 hy1)
    (eqF_step (d + 2) C D _ _ w _ _ _ _ (by simp) z36 z36' (eqHash_run d _ _ w hx2 hy2)
    (eqF_step (d + 2) C D _ _ w _ _ _ _ (by simp) z68 z68' (eqHash_run d _ _ w hx3 hy3)
    (h8 _ (by simp) rfl rfl)))))))
end Go.Proofs.YtmnmhhbldbdpfaaGreatDoor
