/- sortesref13: the texts of entrants. -/
import Derived.Test.YtmnmhhbldbdpfaaGreatDoorXSealC
import Derived.Test.YtmnmhhbldbdpfaaGreatDoorGJ
namespace Go.Proofs.YtmnmhhbldbdpfaaGreatDoor
open Go.RowKit
set_option maxRecDepth 100000

theorem small13_any (n : Int) (w : World) : Calls Tryz.prog 67 #[.int .i64 n] w (RetB (smallB n) w) := by
  by_cases h0 : 0 ≤ n
  · by_cases h1 : n ≤ 1000000000
    · have HB : Hid (true = smallB n) := (smallB_iff.2 ⟨h0, h1⟩).symm
      go_enter Tryz.func67, Tryz.ntmps67
      go_wp2_with fail
      go_ret
      exact ⟨true, HB, rfl, rfl⟩
    · have HB : Hid (false = smallB n) := by show _ = _; unfold smallB; rw [decide_eq_false h1, Bool.and_false]
      have h2 : 1000000000 < n := by omega
      go_enter Tryz.func67, Tryz.ntmps67
      go_wp2_with fail
      go_ret
      exact ⟨false, HB, by first | rfl | simp [h1], rfl⟩
  · have HB : Hid (false = smallB n) := by show _ = _; unfold smallB; rw [decide_eq_false h0, Bool.false_and]
    have h2 : n < 0 := by omega
    go_enter Tryz.func67, Tryz.ntmps67
    go_wp2_with fail
    go_ret
    exact ⟨false, HB, rfl, rfl⟩
theorem decimal13_any (u : Nat) (w : World) (hu : u < 9223372036854775808) : Calls Tryz.prog 68 #[.int .i64 (u : Int)] w (MkS (Lib.itoa (u : Int)) w) := by
  go_enter Tryz.func68, Tryz.ntmps68
  go_wp2_with fail
  refine (of_int u w hu).mono ?_
  rintro e w1 ⟨a, HA, rfl, hu1⟩
  go_wp2_with fail
  refine (text_of u w1 a HA.out hu).mono ?_
  rintro e w2 ⟨y, HY, hy, rfl, hu2⟩
  go_wp2_with fail
  go_ret
  rw [itoa_of_nat]
  exact ⟨y, HY.out, hy, rfl, hu1.trans hu2⟩
theorem decimal13_is (n : Int) (w : World) (h0 : 0 ≤ n) (h1 : n < 9223372036854775808) : Calls Tryz.prog 68 #[.int .i64 n] w (MkS (Lib.itoa n) w) := by
  obtain ⟨u, rfl⟩ := Int.eq_ofNat_of_zero_le h0
  exact decimal13_any u w (by omega)
theorem names13_nil (w : World) : Calls Tryz.prog 69 #[.slice none 0 0] w (fun e w' => e = .returned (.tuple #[.string (ByteArray.mk #[32, 48]), .bool true]) ∧ Upd [] [] w w') := by
  have HD := Lib.hid (decimal13_any 0 w (by omega))
  go_enter Tryz.func69, Tryz.ntmps69
  go_wp2_with fail
  refine HD.out.mono ?_
  rintro e w1 ⟨y, HY, hy, rfl, hq⟩
  have hy0 : y = ByteArray.mk #[48] := bs_injE (by rw [HY.out]; show Lib.itoa 0 = _; rw [itoa_zero]; rfl)
  subst hy0
  clear HY hy HD
  go_wp2_with fail
  refine wp_loop_rounds 1 ?_
  rw [rounds_succ]
  go_wp2_with fail
  go_ret2
  exact ⟨rfl, hq⟩

theorem entOk_false {a b c : Int} {l : List Int} (h : entOk a b c l = false) : entL a b c l = [] := by
  unfold entL
  rw [h]
  rfl

set_option maxHeartbeats 1000000 in
theorem rprintEnt_any (a b c : Int) (l : List Int) (ao : Option Addr) (cap : Nat) (w : World) (_ha : i64in a) (_hb : i64in b) (_hc : i64in c) (hl : l.length ≤ 1000) (h : IntsSl w ao l) :
    Calls Tryz.prog 36 #[.agg (entV a b c (.slice ao l.length cap))] w (MkS (entL a b c l) w) := by
  obtain ⟨n, hn⟩ : ∃ n, n = l.length := ⟨_, rfl⟩
  have e0 : EntAt (w.alloc (.cells (entV a b c (.slice ao l.length cap)) 71)) w.heap.size a b c (.slice ao l.length cap) := heap_alloc_new w _
  have u0 : Upd [] [] w (w.alloc (.cells (entV a b c (.slice ao l.length cap)) 71)) := (Upd.refl _ _).alloc _
  have H := Lib.hid (h.upd u0)
  rw [← hn] at e0 u0 H ⊢
  have HN := Lib.hid hn
  have hn1 : n ≤ 1000 := by omega
  have hEO : entOk a b c l = (smallB a && (smallB b && (smallB c && (l.all smallB && decide (n ≤ 60))))) := by unfold entOk; rw [hn]
  have HEO := Lib.hid hEO
  obtain ⟨w0, hw0⟩ : ∃ w0, w.alloc (.cells (entV a b c (.slice ao n cap)) 71) = w0 := ⟨_, rfl⟩
  obtain ⟨g, hg⟩ : ∃ g, g = w.heap.size := ⟨_, rfl⟩
  rw [hw0, ← hg] at e0
  rw [hw0] at u0 H
  have E0 := Lib.hid e0
  have HW := Lib.hid hw0
  have HG := Lib.hid hg
  obtain ⟨k0, k1, k2, k3, k4, k5⟩ := e0.cells
  clear hn h e0 hEO hl hw0 hg
  go_enter Tryz.func36, Tryz.ntmps36
  go_upto_region 1 with (fail)
  rw [HW.out, ← HG.out]
  clear HW HG
  go_wp2_with fail
  refine (small13_any a w0).mono ?_
  rintro e w1 ⟨r, HA, rfl, rfl⟩
  cases r
  · have HE : Hid (bs (ByteArray.mk #[]) = entL a b c l) := by show _ = _; rw [entOk_false (by rw [HEO.out, ← HA.out]; rfl)]; rfl
    go_wp2_with fail
    go_ret
    exact ⟨_, HE, by rw [← HE.out]; exact Nat.zero_le _, rfl, u0⟩
  go_wp2_with fail
  refine (small13_any b _).mono ?_
  rintro e w1 ⟨r, HB, rfl, rfl⟩
  cases r
  · have HE : Hid (bs (ByteArray.mk #[]) = entL a b c l) := by show _ = _; rw [entOk_false (by rw [HEO.out, ← HA.out, ← HB.out]; rfl)]; rfl
    go_wp2_with fail
    go_ret
    exact ⟨_, HE, by rw [← HE.out]; exact Nat.zero_le _, rfl, u0⟩
  go_wp2_with fail
  refine (small13_any c _).mono ?_
  rintro e w1 ⟨r, HC, rfl, rfl⟩
  cases r
  · have HE : Hid (bs (ByteArray.mk #[]) = entL a b c l) := by show _ = _; rw [entOk_false (by rw [HEO.out, ← HA.out, ← HB.out, ← HC.out]; rfl)]; rfl
    go_wp2_with fail
    go_ret
    exact ⟨_, HE, by rw [← HE.out]; exact Nat.zero_le _, rfl, u0⟩
  by_cases h60 : n ≤ 60
  case neg =>
    have h61 : (60 : Int) < (n : Int) := by omega
    have HE : Hid (bs (ByteArray.mk #[]) = entL a b c l) := by show _ = _; rw [entOk_false (by rw [HEO.out, decide_eq_false h60]; simp)]; rfl
    go_wp2_with fail
    go_ret
    exact ⟨_, HE, by rw [← HE.out]; exact Nat.zero_le _, rfl, u0⟩
  have h61 : ¬ (60 : Int) < (n : Int) := by omega
  obtain ⟨a0, a1⟩ := smallB_iff.1 HA.out.symm
  obtain ⟨b0, b1⟩ := smallB_iff.1 HB.out.symm
  obtain ⟨c0, c1⟩ := smallB_iff.1 HC.out.symm
  have HEO2 : Hid (entOk a b c l = l.all smallB) := by show _ = _; rw [HEO.out, ← HA.out, ← HB.out, ← HC.out, decide_eq_true h60]; simp
  clear HA HB HC HEO
  go_upto_region 3 with (fail)
  have ud0 : Upd [] [] w0 w0.drew := (Upd.refl _ _).drew
  have HK : Hid (∀ W, Upd [] [] w0 W → W.cell? ⟨g, 0, none⟩ = some (.int .i64 a) ∧ W.cell? ⟨g, 1, none⟩ = some (.int .i64 b) ∧ W.cell? ⟨g, 2, none⟩ = some (.int .i64 c) ∧ W.cell? ⟨g, 3, none⟩ = some (.slice ao n cap)) := by
    intro W u
    obtain ⟨h0, h1, h2, h3, _⟩ := (E0.out.upd u).cells
    exact ⟨h0, h1, h2, h3⟩
  clear k0 k1 k2 k3 k4 k5 h61
  refine @id ((∀ (y1 y2 y3 y4 : ByteArray) (W : World), Hid (bs y1 = Lib.itoa a) → Hid (bs y2 = Lib.itoa b) → Hid (bs y3 = Lib.itoa c) → Hid (bs y4 = Lib.itoa (n : Int)) → y1.size ≤ 20 → y2.size ≤ 20 → y3.size ≤ 20 → y4.size ≤ 20 → Upd [] [] w0 W → (?pj1 : ByteArray → ByteArray → ByteArray → ByteArray → World → Prop) y1 y2 y3 y4 W) → _) (fun hJ => ?mj1) ?jj1
  case mj1 =>
    refine wp_region_noPanic ?_
    refine wp_region_held_drew (S := fun wp => wp.cell? ⟨g, 0, none⟩ = some (.int .i64 a) ∧ wp.cell? ⟨g, 1, none⟩ = some (.int .i64 b) ∧ wp.cell? ⟨g, 2, none⟩ = some (.int .i64 c) ∧ wp.cell? ⟨g, 3, none⟩ = some (.slice ao n cap)) (by kernel_rfl) ?_ (fun hHeld => ?_)
    · exact HK.out _ ud0
    refine wpAnyH_take (i := 0) (v := ?v2) (by simp only [List.getElem?_toArray, List.getElem?_cons_zero] <;> rfl) (by kernel_rfl) (by kernel_rfl) (by kernel_rfl) (fun _ _ _ h => h) (Or.inl ⟨by rfl, ?y2⟩) hHeld ?r2
    case y2 => (intro w hSw; (try dsimp only at hSw); go_simp; first | done | with_reducible rfl | rfl)
    try simp only [Act.put, List.setIfInBounds_toArray, List.set_cons_zero, List.set_cons_succ]
    refine wpAnyH_take (i := 1) (v := ?v3) (by simp only [List.getElem?_toArray, List.getElem?_cons_succ, List.getElem?_cons_zero] <;> rfl) (by kernel_rfl) (by kernel_rfl) (by kernel_rfl) (fun _ _ _ h => h) (Or.inl ⟨by rfl, ?y3⟩) hHeld ?r3
    case y3 => (intro w hSw; (try dsimp only at hSw); go_simp; first | done | with_reducible rfl | rfl)
    try simp only [Act.put, List.setIfInBounds_toArray, List.set_cons_zero, List.set_cons_succ]
    refine wpAnyH_take (i := 5) (v := ?v4) (by simp only [List.getElem?_toArray, List.getElem?_cons_succ, List.getElem?_cons_zero] <;> rfl) (by kernel_rfl) (by kernel_rfl) (by kernel_rfl) (fun _ _ _ h => h) (Or.inl ⟨by rfl, ?y4⟩) hHeld ?r4
    case y4 => (intro w hSw; (try dsimp only at hSw); go_simp; first | done | with_reducible rfl | rfl)
    try simp only [Act.put, List.setIfInBounds_toArray, List.set_cons_zero, List.set_cons_succ]
    refine wpAnyH_take (i := 6) (v := ?v5) (by simp only [List.getElem?_toArray, List.getElem?_cons_succ, List.getElem?_cons_zero] <;> rfl) (by kernel_rfl) (by kernel_rfl) (by kernel_rfl) (fun _ _ _ h => h) (Or.inl ⟨by rfl, ?y5⟩) hHeld ?r5
    case y5 => (intro w hSw; (try dsimp only at hSw); go_simp; first | done | with_reducible rfl | rfl)
    try simp only [Act.put, List.setIfInBounds_toArray, List.set_cons_zero, List.set_cons_succ]
    refine wpAnyH_take (i := 10) (v := ?v6) (by simp only [List.getElem?_toArray, List.getElem?_cons_succ, List.getElem?_cons_zero] <;> rfl) (by kernel_rfl) (by kernel_rfl) (by kernel_rfl) (fun _ _ _ h => h) (Or.inl ⟨by rfl, ?y6⟩) hHeld ?r6
    case y6 => (intro w hSw; (try dsimp only at hSw); go_simp; first | done | with_reducible rfl | rfl)
    try simp only [Act.put, List.setIfInBounds_toArray, List.set_cons_zero, List.set_cons_succ]
    refine wpAnyH_take (i := 11) (v := ?v7) (by simp only [List.getElem?_toArray, List.getElem?_cons_succ, List.getElem?_cons_zero] <;> rfl) (by kernel_rfl) (by kernel_rfl) (by kernel_rfl) (fun _ _ _ h => h) (Or.inl ⟨by rfl, ?y7⟩) hHeld ?r7
    case y7 => (intro w hSw; (try dsimp only at hSw); go_simp; first | done | with_reducible rfl | rfl)
    try simp only [Act.put, List.setIfInBounds_toArray, List.set_cons_zero, List.set_cons_succ]
    refine wpAnyH_take (i := 15) (v := ?v8) (by simp only [List.getElem?_toArray, List.getElem?_cons_succ, List.getElem?_cons_zero] <;> rfl) (by kernel_rfl) (by kernel_rfl) (by kernel_rfl) (fun _ _ _ h => h) (Or.inl ⟨by rfl, ?y8⟩) hHeld ?r8
    case y8 => (intro w hSw; (try dsimp only at hSw); go_simp; first | done | with_reducible rfl | rfl)
    try simp only [Act.put, List.setIfInBounds_toArray, List.set_cons_zero, List.set_cons_succ]
    refine wpAnyH_take (i := 16) (v := ?v9) (by simp only [List.getElem?_toArray, List.getElem?_cons_succ, List.getElem?_cons_zero] <;> rfl) (by kernel_rfl) (by kernel_rfl) (by kernel_rfl) (fun _ _ _ h => h) (Or.inl ⟨by rfl, ?y9⟩) hHeld ?r9
    case y9 => (intro w hSw; (try dsimp only at hSw); go_simp; first | done | with_reducible rfl | rfl)
    try simp only [Act.put, List.setIfInBounds_toArray, List.set_cons_zero, List.set_cons_succ]
    refine wpAnyH_take (i := 17) (v := ?v10) (by simp only [List.getElem?_toArray, List.getElem?_cons_succ, List.getElem?_cons_zero] <;> rfl) (by kernel_rfl) (by kernel_rfl) (by kernel_rfl) (fun _ _ _ h => h) (Or.inl ⟨by rfl, ?y10⟩) hHeld ?r10
    case y10 => (intro w hSw; (try dsimp only at hSw); go_simp; first | done | with_reducible rfl | rfl)
    try simp only [Act.put, List.setIfInBounds_toArray, List.set_cons_zero, List.set_cons_succ]
    refine wpAnyH_ready (rs := [2]) (by kernel_rfl) (by simp) ?_
    refine AllReadyH.cons (by simp only [List.getElem?_toArray, List.getElem?_cons_succ, List.getElem?_cons_zero] <;> rfl) (fun K hK => ?_) ?_
    · go_simp; refine (decimal13_is a _ (by omega) (by omega)).mono ?_; rintro e wv1 ⟨y1, HY1, hy1, rfl, hq⟩; have hs1 : y1.size ≤ 20 := (Nat.le_trans hy1 (itoa_len _ (by unfold i64in; omega))); have ud1 := ud0.trans hq; clear hq hy1; have sa1 : ¬ 9223372036854775807 < 8 + y1.size := (by omega); have sb1 : ¬ 9223372036854775807 < 8 + y1.size + 1 := (by omega); go_wp2_with fail
      refine hK.out _ _ ?_ (fun hHeld => ?_)
      · exact HK.out _ ud1
      clear hK K
      try simp only [Act.put, List.setIfInBounds_toArray, List.set_cons_zero, List.set_cons_succ]
      refine wpAnyH_take (i := 3) (v := ?v11) (by simp only [List.getElem?_toArray, List.getElem?_cons_succ, List.getElem?_cons_zero] <;> rfl) (by kernel_rfl) (by kernel_rfl) (by kernel_rfl) (fun _ _ _ h => h) (Or.inl ⟨by rfl, ?y11⟩) hHeld ?r11
      case y11 => (intro w hSw; (try dsimp only at hSw); go_simp; first | done | with_reducible rfl | rfl)
      try simp only [Act.put, List.setIfInBounds_toArray, List.set_cons_zero, List.set_cons_succ]
      refine wpAnyH_take (i := 4) (v := ?v12) (by simp only [List.getElem?_toArray, List.getElem?_cons_succ, List.getElem?_cons_zero] <;> rfl) (by kernel_rfl) (by kernel_rfl) (by kernel_rfl) (fun _ _ _ h => h) (Or.inl ⟨by rfl, ?y12⟩) hHeld ?r12
      case y12 => (intro w hSw; (try dsimp only at hSw); go_simp; first | done | with_reducible rfl | rfl)
      try simp only [Act.put, List.setIfInBounds_toArray, List.set_cons_zero, List.set_cons_succ]
      refine wpAnyH_ready (rs := [7]) (by kernel_rfl) (by simp) ?_
      refine AllReadyH.cons (by simp only [List.getElem?_toArray, List.getElem?_cons_succ, List.getElem?_cons_zero] <;> rfl) (fun K hK => ?_) ?_
      · go_simp; refine (decimal13_is b _ (by omega) (by omega)).mono ?_; rintro e wv2 ⟨y2, HY2, hy2, rfl, hq⟩; have hs2 : y2.size ≤ 20 := (Nat.le_trans hy2 (itoa_len _ (by unfold i64in; omega))); have ud2 := ud1.trans hq; clear hq hy2; have sa2 : ¬ 9223372036854775807 < 8 + y1.size + 1 + y2.size := (by omega); have sb2 : ¬ 9223372036854775807 < 8 + y1.size + 1 + y2.size + 1 := (by omega); go_wp2_with fail
        refine hK.out _ _ ?_ (fun hHeld => ?_)
        · exact HK.out _ ud2
        clear hK K
        try simp only [Act.put, List.setIfInBounds_toArray, List.set_cons_zero, List.set_cons_succ]
        refine wpAnyH_take (i := 8) (v := ?v13) (by simp only [List.getElem?_toArray, List.getElem?_cons_succ, List.getElem?_cons_zero] <;> rfl) (by kernel_rfl) (by kernel_rfl) (by kernel_rfl) (fun _ _ _ h => h) (Or.inl ⟨by rfl, ?y13⟩) hHeld ?r13
        case y13 => (intro w hSw; (try dsimp only at hSw); go_simp; first | done | with_reducible rfl | rfl)
        try simp only [Act.put, List.setIfInBounds_toArray, List.set_cons_zero, List.set_cons_succ]
        refine wpAnyH_take (i := 9) (v := ?v14) (by simp only [List.getElem?_toArray, List.getElem?_cons_succ, List.getElem?_cons_zero] <;> rfl) (by kernel_rfl) (by kernel_rfl) (by kernel_rfl) (fun _ _ _ h => h) (Or.inl ⟨by rfl, ?y14⟩) hHeld ?r14
        case y14 => (intro w hSw; (try dsimp only at hSw); go_simp; first | done | with_reducible rfl | rfl)
        try simp only [Act.put, List.setIfInBounds_toArray, List.set_cons_zero, List.set_cons_succ]
        refine wpAnyH_ready (rs := [12]) (by kernel_rfl) (by simp) ?_
        refine AllReadyH.cons (by simp only [List.getElem?_toArray, List.getElem?_cons_succ, List.getElem?_cons_zero] <;> rfl) (fun K hK => ?_) ?_
        · go_simp; refine (decimal13_is c _ (by omega) (by omega)).mono ?_; rintro e wv3 ⟨y3, HY3, hy3, rfl, hq⟩; have hs3 : y3.size ≤ 20 := (Nat.le_trans hy3 (itoa_len _ (by unfold i64in; omega))); have ud3 := ud2.trans hq; clear hq hy3; have sa3 : ¬ 9223372036854775807 < 8 + y1.size + 1 + y2.size + 1 + y3.size := (by omega); have sb3 : ¬ 9223372036854775807 < 8 + y1.size + 1 + y2.size + 1 + y3.size + 1 := (by omega); go_wp2_with fail
          refine hK.out _ _ ?_ (fun hHeld => ?_)
          · exact HK.out _ ud3
          clear hK K
          try simp only [Act.put, List.setIfInBounds_toArray, List.set_cons_zero, List.set_cons_succ]
          refine wpAnyH_take (i := 13) (v := ?v15) (by simp only [List.getElem?_toArray, List.getElem?_cons_succ, List.getElem?_cons_zero] <;> rfl) (by kernel_rfl) (by kernel_rfl) (by kernel_rfl) (fun _ _ _ h => h) (Or.inl ⟨by rfl, ?y15⟩) hHeld ?r15
          case y15 => (intro w hSw; (try dsimp only at hSw); go_simp; first | done | with_reducible rfl | rfl)
          try simp only [Act.put, List.setIfInBounds_toArray, List.set_cons_zero, List.set_cons_succ]
          refine wpAnyH_take (i := 14) (v := ?v16) (by simp only [List.getElem?_toArray, List.getElem?_cons_succ, List.getElem?_cons_zero] <;> rfl) (by kernel_rfl) (by kernel_rfl) (by kernel_rfl) (fun _ _ _ h => h) (Or.inl ⟨by rfl, ?y16⟩) hHeld ?r16
          case y16 => (intro w hSw; (try dsimp only at hSw); go_simp; first | done | with_reducible rfl | rfl)
          try simp only [Act.put, List.setIfInBounds_toArray, List.set_cons_zero, List.set_cons_succ]
          refine wpAnyH_ready (rs := [18]) (by kernel_rfl) (by simp) ?_
          refine AllReadyH.cons (by simp only [List.getElem?_toArray, List.getElem?_cons_succ, List.getElem?_cons_zero] <;> rfl) (fun K hK => ?_) ?_
          · go_simp; refine (decimal13_is (n : Int) _ (by omega) (by omega)).mono ?_; rintro e wv4 ⟨y4, HY4, hy4, rfl, hq⟩; have hs4 : y4.size ≤ 20 := (Nat.le_trans hy4 (itoa_len _ (by unfold i64in; omega))); have ud4 := ud3.trans hq; clear hq hy4; have sa4 : ¬ 9223372036854775807 < 8 + y1.size + 1 + y2.size + 1 + y3.size + 1 + y4.size := (by omega); go_wp2_with fail
            refine hK.out _ _ ?_ (fun hHeld => ?_)
            · exact HK.out _ ud4
            clear hK K
            try simp only [Act.put, List.setIfInBounds_toArray, List.set_cons_zero, List.set_cons_succ]
            refine wpAnyH_take (i := 19) (v := ?v17) (by simp only [List.getElem?_toArray, List.getElem?_cons_succ, List.getElem?_cons_zero] <;> rfl) (by kernel_rfl) (by kernel_rfl) (by kernel_rfl) (fun _ _ _ h => h) (Or.inl ⟨by rfl, ?y17⟩) hHeld ?r17
            case y17 => (intro w hSw; (try dsimp only at hSw); go_simp; first | done | with_reducible rfl | rfl)
            try simp only [Act.put, List.setIfInBounds_toArray, List.set_cons_zero, List.set_cons_succ]
            refine wpAnyH_take (i := 20) (v := ?v18) (by simp only [List.getElem?_toArray, List.getElem?_cons_succ, List.getElem?_cons_zero] <;> rfl) (by kernel_rfl) (by kernel_rfl) (by kernel_rfl) (fun _ _ _ h => h) (Or.inl ⟨by rfl, ?y18⟩) hHeld ?r18
            case y18 => (intro w hSw; (try dsimp only at hSw); go_simp; first | done | with_reducible rfl | rfl)
            try simp only [Act.put, List.setIfInBounds_toArray, List.set_cons_zero, List.set_cons_succ]
            refine wpAnyH_done (by kernel_rfl) ?_ _
            refine NoPanic.normal ?_
            exact hJ y1 y2 y3 y4 wv4 HY1 HY2 HY3 HY4 hs1 hs2 hs3 hs4 ud4
          exact AllReadyH.nil
        exact AllReadyH.nil
      exact AllReadyH.nil
    exact AllReadyH.nil
  intro y1 y2 y3 y4 wv4 HY1 HY2 HY3 HY4 hs1 hs2 hs3 hs4 ud4
  obtain ⟨Y0, hY0⟩ : ∃ Y0 : ByteArray, Y0 = ByteArray.mk #[101, 110, 116, 114, 97, 110, 116, 32] ++ y1 ++ ByteArray.mk #[32] ++ y2 ++ ByteArray.mk #[32] ++ y3 ++ ByteArray.mk #[32] ++ y4 := ⟨_, rfl⟩
  rw [← hY0]
  obtain ⟨T0, hT0⟩ : ∃ T0, T0 = wEn ++ numsT [a, b, c, (n : Int)] := ⟨_, rfl⟩
  have HB0 : Hid (bs Y0 = T0 ++ numsT (l.take 0)) := by
    show _ = _
    rw [hY0, hT0]
    simp only [bs_append, HY1.out, HY2.out, HY3.out, HY4.out, numsT, List.take_zero, List.append_nil]
    simp [bs, wEn]
  have hT0l : T0.length ≤ 111 := by
    have h := congrArg List.length HB0.out
    rw [bs_length, List.take_zero, numsT, List.append_nil] at h
    rw [← h, hY0]
    simp only [ByteArray.size_append]
    show 8 + y1.size + 1 + y2.size + 1 + y3.size + 1 + y4.size ≤ 111
    omega
  have HT0 := Lib.hid hT0
  have HTL := Lib.hid (fun j => numsT_len (l.take j) (fun x hx => H.out.mem x (List.mem_of_mem_take hx)))
  clear hY0 hT0 hs1 hs2 hs3 hs4 HY1 HY2 HY3 HY4
  have I0 := Lib.hid ud4
  go_wp2_with fail
  go_loopw [3, 4] (fun s i wr => ∃ (j : Nat) (y : ByteArray), i = .int .i64 (j : Int) ∧ j ≤ n ∧ s = .string y ∧ Hid (bs y = T0 ++ numsT (l.take j)) ∧ Hid ((l.take j).all smallB = true) ∧ Hid (Upd [] [] w0 wr)) (fun _ i _ => n - (intOf i).toNat)
  case atStart => exact ⟨0, Y0, rfl, Nat.zero_le _, rfl, HB0, rfl, I0⟩
  case round =>
    obtain ⟨j, y, rfl, hj, rfl, HY, HA, HU⟩ := hrel
    obtain ⟨k0, k1, k2, k3, k4, k5⟩ := (E0.out.upd HU.out).cells
    by_cases hlt : j < n
    · obtain ⟨x, hx⟩ : ∃ x, l[j]? = some x := ⟨_, List.getElem?_eq_getElem (by rw [← HN.out]; exact hlt)⟩
      obtain ⟨hxi, g', o, rfl, hg', hc'⟩ := (H.out.upd HU.out) j x hx
      have i0 : (0 : Int) ≤ (j : Int) := by omega
      have i1 : (j : Int) < (n : Int) := by omega
      have hTN : (l.take (j + 1)).all smallB = smallB x := by
        rw [List.take_add_one, hx, List.all_append, HA.out]
        simp
      have HTN := Lib.hid hTN
      have HF : Hid (smallB x = false → l.all smallB = false) := by
        intro hf
        rw [List.all_eq_false]
        exact ⟨x, List.mem_of_getElem? hx, by rw [hf]; decide⟩
      have HX := Lib.hid hx
      have hys : y.size ≤ 1400 := by
        have h1 := congrArg List.length HY.out
        have h2 := HTL.out j
        rw [bs_length, List.length_append] at h1
        rw [List.length_take] at h2
        omega
      clear hx hTN
      go_wp2_with fail
      refine (small13_any x wr).mono ?_
      rintro e w2 ⟨r, HR, rfl, hw2⟩
      subst hw2
      cases r
      · have HE : Hid (bs (ByteArray.mk #[]) = entL a b c l) := by show _ = _; rw [entOk_false (by rw [HEO2.out]; exact HF.out HR.out.symm)]; rfl
        go_wp2_with fail
        go_ret
        exact ⟨_, HE, by rw [← HE.out]; exact Nat.zero_le _, rfl, u0.trans HU.out⟩
      obtain ⟨x0, x1⟩ := smallB_iff.1 HR.out.symm
      have HA2 : Hid ((l.take (j + 1)).all smallB = true) := by show _ = _; rw [HTN.out]; exact HR.out.symm
      have s0 : ¬ 9223372036854775807 < y.size + 1 := by omega
      go_wp2_with fail
      refine (decimal13_is x wr (by omega) (by omega)).mono ?_
      rintro e w2 ⟨z, HZ, hz, rfl, hq⟩
      have hzs : z.size ≤ 20 := Nat.le_trans hz (itoa_len _ hxi)
      have s2 : ¬ 9223372036854775807 < y.size + 1 + z.size := by omega
      have HU2 := Lib.hid (HU.out.trans hq)
      obtain ⟨Y, hY⟩ : ∃ Y, Y = y ++ ByteArray.mk #[32] ++ z := ⟨_, rfl⟩
      have HYY : Hid (bs Y = T0 ++ numsT (l.take (j + 1))) := by
        show _ = _
        rw [hY, bs_append, bs_append, HY.out, HZ.out, numsT_take HX.out]
        simp [bs]
      have hY' := hY.symm
      clear hY hq hz k0 k1 k2 k3 k4 k5
      go_wp2_with fail
      exact ⟨⟨j + 1, Y, by go_num, by omega, by first | rfl | (rw [hY']), HYY, HA2, HU2⟩, by simp [intOf]; omega⟩
    · obtain rfl : j = n := by omega
      have hall : l.all smallB = true := by
        have h := HA.out
        rw [List.take_of_length_le (by rw [← HN.out]; exact Nat.le_refl _)] at h
        exact h
      have HE : Hid (bs (y ++ ByteArray.mk #[32, 48] ++ ByteArray.mk #[32, 48]) = entL a b c l) := by
        show _ = _
        rw [bs_append, bs_append, HY.out, List.take_of_length_le (by rw [← HN.out]; exact Nat.le_refl _), HT0.out]
        unfold entL
        rw [HEO2.out, hall, if_pos rfl, ← HN.out]
        simp [bs]
      have hys : y.size ≤ 1400 := by
        have h1 := congrArg List.length HY.out
        have h2 := HTL.out j
        rw [bs_length, List.length_append] at h1
        rw [List.length_take] at h2
        omega
      have s0 : ¬ 9223372036854775807 < y.size + 2 := by omega
      have s1 : ¬ 9223372036854775807 < y.size + 2 + 2 := by omega
      clear hlt hj hall
      go_wp2_with fail
      refine (names13_nil wr).mono ?_
      rintro e w2 ⟨rfl, hq⟩
      have u2 := HU.out.trans hq
      clear k0 k1 k2 k3 k4 k5 hq
      obtain ⟨k0, k1, k2, k3, k4, k5⟩ := (E0.out.upd u2).cells
      go_wp2_with fail
      refine (names13_nil w2).mono ?_
      rintro e w3 ⟨rfl, hq⟩
      have u3 := u2.trans hq
      clear k0 k1 k2 k3 k4 k5 hq
      go_wp2_with fail
      go_ret
      exact ⟨_, HE, by rw [← HE.out, bs_length]; exact Nat.le_refl _, rfl, u0.trans u3⟩
end Go.Proofs.YtmnmhhbldbdpfaaGreatDoor
