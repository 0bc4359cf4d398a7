/- Seals: sortesref22.Sealed, sortesref22.Seal. -/
import Derived.Test.YtmnmhhbldbdpfaaGreatDoorXSealE
namespace Go.Proofs.YtmnmhhbldbdpfaaGreatDoor
open Go.RowKit
set_option maxRecDepth 100000

set_option maxHeartbeats 1000000 in
theorem sealed22_any (a b c : Int) (l : List Int) (ao : Option Addr) (cap : Nat) (s : ByteArray) (w : World) (ha : i64in a) (hb : i64in b) (hc : i64in c) (hl : l.length ≤ 1000) (h : IntsSl w ao l) (hs : s.size ≤ 100000) :
    Calls Tryz.prog 37 #[.agg (entV a b c (.slice ao l.length cap)), .string s] w (MkS (sealL (bs s) (entL a b c l)) w) := by
  have e0 : EntAt (w.alloc (.cells (entV a b c (.slice ao l.length cap)) 71)) w.heap.size a b c (.slice ao l.length cap) := heap_alloc_new w _
  have u0 : Upd [] [] w (w.alloc (.cells (entV a b c (.slice ao l.length cap)) 71)) := (Upd.refl _ _).alloc _
  have hel := entL_len ha hb hc h.mem
  obtain ⟨n, hn⟩ : ∃ n, n = l.length := ⟨_, rfl⟩
  have HP := Lib.hid (fun W (u : Upd [] [] w W) => rprintEnt_any a b c l ao cap W ha hb hc hl (h.upd u))
  rw [← hn] at e0 u0 HP ⊢
  obtain ⟨w0, hw0⟩ : ∃ w0, w.alloc (.cells (entV a b c (.slice ao n cap)) 71) = w0 := ⟨_, rfl⟩
  rw [hw0] at e0 u0
  have HW := Lib.hid hw0
  have E0 := Lib.hid e0
  have HU0 := Lib.hid u0
  have HK : Hid (∀ W, Upd [] [] w0 W → W.cell? ⟨w.heap.size, 0, none⟩ = some (.int .i64 a) ∧ W.cell? ⟨w.heap.size, 1, none⟩ = some (.int .i64 b) ∧ W.cell? ⟨w.heap.size, 2, none⟩ = some (.int .i64 c) ∧ W.cell? ⟨w.heap.size, 3, none⟩ = some (.slice ao n cap) ∧ W.cell? ⟨w.heap.size, 4, none⟩ = some (.slice none 0 0) ∧ W.cell? ⟨w.heap.size, 5, none⟩ = some (.slice none 0 0)) := fun W u => (E0.out.upd u).cells
  clear hw0 e0 hn h hl
  go_enter Tryz.func37, Tryz.ntmps37
  go_upto_region 1 with (fail)
  rw [HW.out]
  have ud0 : Upd [] [] w0 w0.drew := (Upd.refl _ _).drew
  clear HW E0 u0
  refine wp_region_noPanic ?_
  refine wp_region_held_drew (S := fun wp => wp.cell? ⟨w.heap.size, 0, none⟩ = some (.int .i64 a) ∧ wp.cell? ⟨w.heap.size, 1, none⟩ = some (.int .i64 b) ∧ wp.cell? ⟨w.heap.size, 2, none⟩ = some (.int .i64 c) ∧ wp.cell? ⟨w.heap.size, 3, none⟩ = some (.slice ao n cap) ∧ wp.cell? ⟨w.heap.size, 4, none⟩ = some (.slice none 0 0) ∧ wp.cell? ⟨w.heap.size, 5, none⟩ = some (.slice none 0 0)) (by kernel_rfl) ?_ (fun hHeld => ?_)
  · exact HK.out _ ud0
  refine wpAnyH_take (i := 0) (v := ?v1) (by simp only [List.getElem?_toArray, List.getElem?_cons_zero] <;> rfl) (by kernel_rfl) (by kernel_rfl) (by kernel_rfl) (fun _ _ _ h => h) (Or.inl ⟨by rfl, ?y1⟩) hHeld ?r1
  case y1 => (intro w hSw; (try dsimp only at hSw); go_simp; first | done | with_reducible rfl | rfl)
  try simp only [Act.put, List.setIfInBounds_toArray, List.set_cons_zero, List.set_cons_succ]
  refine wpAnyH_take (i := 1) (v := ?v2) (by simp only [List.getElem?_toArray, List.getElem?_cons_succ, List.getElem?_cons_zero] <;> rfl) (by kernel_rfl) (by kernel_rfl) (by kernel_rfl) (fun _ _ _ h => h) (Or.inl ⟨by rfl, ?y2⟩) hHeld ?r2
  case y2 => (intro w hSw; (try dsimp only at hSw); go_simp; first | done | with_reducible rfl | rfl)
  try simp only [Act.put, List.setIfInBounds_toArray, List.set_cons_zero, List.set_cons_succ]
  refine wpAnyH_take (i := 5) (v := ?v3) (by simp only [List.getElem?_toArray, List.getElem?_cons_succ, List.getElem?_cons_zero] <;> rfl) (by kernel_rfl) (by kernel_rfl) (by kernel_rfl) (fun _ _ _ h => h) (Or.inl ⟨by rfl, ?y3⟩) hHeld ?r3
  case y3 => (intro w hSw; (try dsimp only at hSw); go_simp; first | done | with_reducible rfl | rfl)
  try simp only [Act.put, List.setIfInBounds_toArray, List.set_cons_zero, List.set_cons_succ]
  refine wpAnyH_take (i := 8) (v := ?v4) (by simp only [List.getElem?_toArray, List.getElem?_cons_succ, List.getElem?_cons_zero] <;> rfl) (by kernel_rfl) (by kernel_rfl) (by kernel_rfl) (fun _ _ _ h => h) (Or.inl ⟨by rfl, ?y4⟩) hHeld ?r4
  case y4 => (intro w hSw; (try dsimp only at hSw); go_simp; first | done | with_reducible rfl | rfl)
  try simp only [Act.put, List.setIfInBounds_toArray, List.set_cons_zero, List.set_cons_succ]
  refine wpAnyH_ready (rs := [2]) (by kernel_rfl) (by simp) ?_
  refine AllReadyH.cons (by simp only [List.getElem?_toArray, List.getElem?_cons_succ, List.getElem?_cons_zero] <;> rfl) (fun K hK => ?_) ?_
  · go_simp; refine (decimal22_any (s.size : Int) _ (by unfold i64in; omega)).mono ?_; rintro e wv1 ⟨y, HY, hy, rfl, hq⟩; have hys : y.size ≤ 20 := (Nat.le_trans hy (itoa_len _ (by unfold i64in; omega))); clear hy; have ud1 := ud0.trans hq; clear hq; have s1 : ¬ 9223372036854775807 < 5 + y.size := (by omega); have s2 : ¬ 9223372036854775807 < 5 + y.size + 1 := (by omega); have s3 : ¬ 9223372036854775807 < 5 + y.size + 1 + s.size := (by omega); have s4 : ¬ 9223372036854775807 < 5 + y.size + 1 + s.size + 1 := (by omega); go_wp2_with fail
    refine hK.out _ _ ?_ (fun hHeld => ?_)
    · exact HK.out _ ud1
    clear hK K
    try simp only [Act.put, List.setIfInBounds_toArray, List.set_cons_zero, List.set_cons_succ]
    refine wpAnyH_take (i := 3) (v := ?v5) (by simp only [List.getElem?_toArray, List.getElem?_cons_succ, List.getElem?_cons_zero] <;> rfl) (by kernel_rfl) (by kernel_rfl) (by kernel_rfl) (fun _ _ _ h => h) (Or.inl ⟨by rfl, ?y5⟩) hHeld ?r5
    case y5 => (intro w hSw; (try dsimp only at hSw); go_simp; first | done | with_reducible rfl | rfl)
    try simp only [Act.put, List.setIfInBounds_toArray, List.set_cons_zero, List.set_cons_succ]
    refine wpAnyH_take (i := 4) (v := ?v6) (by simp only [List.getElem?_toArray, List.getElem?_cons_succ, List.getElem?_cons_zero] <;> rfl) (by kernel_rfl) (by kernel_rfl) (by kernel_rfl) (fun _ _ _ h => h) (Or.inl ⟨by rfl, ?y6⟩) hHeld ?r6
    case y6 => (intro w hSw; (try dsimp only at hSw); go_simp; first | done | with_reducible rfl | rfl)
    try simp only [Act.put, List.setIfInBounds_toArray, List.set_cons_zero, List.set_cons_succ]
    refine wpAnyH_take (i := 6) (v := ?v7) (by simp only [List.getElem?_toArray, List.getElem?_cons_succ, List.getElem?_cons_zero] <;> rfl) (by kernel_rfl) (by kernel_rfl) (by kernel_rfl) (fun _ _ _ h => h) (Or.inl ⟨by rfl, ?y7⟩) hHeld ?r7
    case y7 => (intro w hSw; (try dsimp only at hSw); go_simp; first | done | with_reducible rfl | rfl)
    try simp only [Act.put, List.setIfInBounds_toArray, List.set_cons_zero, List.set_cons_succ]
    refine wpAnyH_take (i := 7) (v := ?v8) (by simp only [List.getElem?_toArray, List.getElem?_cons_succ, List.getElem?_cons_zero] <;> rfl) (by kernel_rfl) (by kernel_rfl) (by kernel_rfl) (fun _ _ _ h => h) (Or.inl ⟨by rfl, ?y8⟩) hHeld ?r8
    case y8 => (intro w hSw; (try dsimp only at hSw); go_simp; first | done | with_reducible rfl | rfl)
    try simp only [Act.put, List.setIfInBounds_toArray, List.set_cons_zero, List.set_cons_succ]
    refine wpAnyH_ready (rs := [9]) (by kernel_rfl) (by simp) ?_
    refine AllReadyH.cons (by simp only [List.getElem?_toArray, List.getElem?_cons_succ, List.getElem?_cons_zero] <;> rfl) (fun K hK => ?_) ?_
    · go_simp; refine (HP.out _ (HU0.out.trans ud1)).mono ?_; rintro e wv2 ⟨z, HZ, hz, rfl, hq⟩; have hzs : z.size ≤ 1400 := (by omega); clear hz; have ud2 := ud1.trans hq; clear hq; have s5 : ¬ 9223372036854775807 < 5 + y.size + 1 + s.size + 1 + z.size := (by omega); obtain ⟨r, hr⟩ : ∃ r : ByteArray, ByteArray.mk #[115, 101, 97, 108, 47] ++ y ++ ByteArray.mk #[47] ++ s ++ ByteArray.mk #[47] ++ z = r := ⟨_, rfl⟩; have HRB := Lib.hid (sealL_of HY.out HZ.out hr.symm); go_wp2_with fail
      refine hK.out _ _ ?_ (fun hHeld => ?_)
      · exact HK.out _ ud2
      clear hK K
      try simp only [Act.put, List.setIfInBounds_toArray, List.set_cons_zero, List.set_cons_succ]
      refine wpAnyH_take (i := 10) (v := ?v9) (by simp only [List.getElem?_toArray, List.getElem?_cons_succ, List.getElem?_cons_zero] <;> rfl) (by kernel_rfl) (by kernel_rfl) (by kernel_rfl) (fun _ _ _ h => h) (Or.inl ⟨by rfl, ?y9⟩) hHeld ?r9
      case y9 => (intro w hSw; (try dsimp only at hSw); go_simp; first | done | with_reducible rfl | rfl)
      try simp only [Act.put, List.setIfInBounds_toArray, List.set_cons_zero, List.set_cons_succ]
      refine wpAnyH_take (i := 11) (v := ?v10) (by simp only [List.getElem?_toArray, List.getElem?_cons_succ, List.getElem?_cons_zero] <;> rfl) (by kernel_rfl) (by kernel_rfl) (by kernel_rfl) (fun _ _ _ h => h) (Or.inl ⟨by rfl, ?y10⟩) hHeld ?r10
      case y10 => (intro w hSw; (try dsimp only at hSw); go_simp; first | done | with_reducible rfl | rfl)
      try simp only [Act.put, List.setIfInBounds_toArray, List.set_cons_zero, List.set_cons_succ]
      refine wpAnyH_done (by kernel_rfl) ?_ _
      refine NoPanic.normal ?_
      go_wp2_with fail
      go_ret
      exact ⟨r, HRB.out, by rw [← HRB.out, bs_length]; exact Nat.le_refl _, rfl, HU0.out.trans ud2⟩
    exact AllReadyH.nil
  exact AllReadyH.nil
theorem sealL_len (s t : List UInt8) (h : s.length ≤ 9223372036854775807) : (sealL s t).length ≤ s.length + t.length + 30 := by
  have h1 := itoa_len (s.length : Int) (by unfold i64in; omega)
  unfold sealL
  simp only [List.length_append, List.length_cons, wSe, List.length_nil]
  omega

set_option maxHeartbeats 1000000 in
theorem rseal22_any (a b c : Int) (l : List Int) (ao : Option Addr) (cap : Nat) (s : ByteArray) (w : World) (ha : i64in a) (hb : i64in b) (hc : i64in c) (hl : l.length ≤ 1000) (h : IntsSl w ao l) (hs : s.size ≤ 100000) :
    Calls Tryz.prog 35 #[.agg (entV a b c (.slice ao l.length cap)), .string s] w (Mk (.agg (byteVals (sha (sealL (bs s) (entL a b c l)))).toArray) w) := by
  have e0 : EntAt ((w.alloc (.cells (entV a b c (.slice ao l.length cap)) 71)).alloc (.cells (byteVals zero32).toArray 24)) w.heap.size a b c (.slice ao l.length cap) := row_updH (heap_alloc_new w _) ((Upd.refl [] _).alloc _)
  have z0 := heap_alloc_new (w.alloc (.cells (entV a b c (.slice ao l.length cap)) 71)) (.cells (byteVals zero32).toArray 24)
  rw [World.size_alloc] at z0
  have u0 : Upd [] [] w ((w.alloc (.cells (entV a b c (.slice ao l.length cap)) 71)).alloc (.cells (byteVals zero32).toArray 24)) := ((Upd.refl _ _).alloc _).alloc _
  have hel := entL_len ha hb hc h.mem
  obtain ⟨n, hn⟩ : ∃ n, n = l.length := ⟨_, rfl⟩
  have HP := Lib.hid (fun W (u : Upd [] [] w W) => sealed22_any a b c l ao cap s W ha hb hc hl (h.upd u) hs)
  have HSL := Lib.hid (sealL_len (bs s) (entL a b c l) (by rw [bs_length]; omega))
  rw [← hn] at e0 z0 u0 HP ⊢
  obtain ⟨w0, hw0⟩ : ∃ w0, (w.alloc (.cells (entV a b c (.slice ao n cap)) 71)).alloc (.cells (byteVals zero32).toArray 24) = w0 := ⟨_, rfl⟩
  rw [hw0] at e0 z0 u0
  have HW := Lib.hid hw0
  have Z0 := Lib.hid z0
  have HU0 := Lib.hid u0
  obtain ⟨k0, k1, k2, k3, k4, k5⟩ := e0.cells
  clear hw0 e0 z0 hn h hl
  go_enter Tryz.func35, Tryz.ntmps35
  go_upto_region 1 with (fail)
  rw [show (#[.int .u8 0, .int .u8 0, .int .u8 0, .int .u8 0, .int .u8 0, .int .u8 0, .int .u8 0, .int .u8 0, .int .u8 0, .int .u8 0, .int .u8 0, .int .u8 0, .int .u8 0, .int .u8 0, .int .u8 0, .int .u8 0, .int .u8 0, .int .u8 0, .int .u8 0, .int .u8 0, .int .u8 0, .int .u8 0, .int .u8 0, .int .u8 0, .int .u8 0, .int .u8 0, .int .u8 0, .int .u8 0, .int .u8 0, .int .u8 0, .int .u8 0, .int .u8 0] : Array Value) = (byteVals zero32).toArray from rfl, HW.out]
  have hg1 : w.heap.size ≤ w.heap.size + 1 := by omega
  obtain ⟨GH, hGH⟩ : ∃ GH, GH = w.heap.size + 1 := ⟨_, rfl⟩
  rw [← hGH] at Z0 hg1 ⊢
  clear HW u0 hGH
  go_wp2_with fail
  refine (HP.out _ HU0.out).mono ?_
  rintro e w1 ⟨r, HR, hr, rfl, hq⟩
  have u1 := HU0.out.trans hq
  have Z1 := Lib.hid (row_updH Z0.out hq)
  have hrs : r.size ≤ 200000 := by have := HSL.out; rw [bs_length] at this; omega
  clear hq hr k0 k1 k2 k3 k4 k5 HP Z0
  go_wp2_with fail
  refine (rsum_any r w1 (by omega)).mono ?_
  rintro e w2 ⟨rfl, hq⟩
  have u2 := u1.trans hq
  have Z2 := Lib.hid (row_updH Z1.out hq)
  rw [HR.out]
  obtain ⟨D, hD⟩ : ∃ D, D = sha (sealL (bs s) (entL a b c l)) := ⟨_, rfl⟩
  have HDL : Hid (D.length = 32) := by show _ = _; rw [hD]; exact sha_len _
  have HDE := Lib.hid hD
  rw [← hD]
  clear hq hD
  have Z3 := setRow_heap _ _ _ (byteVals D).toArray _ _ Z2.out
  go_wp2_with (first | (refine wpList_store_row rfl 24 _ _ rfl GH (byteVals D).toArray rfl rfl _ _ Z2.out (hashInfo HDL.out) (by simp [byteVals, HDL.out, zero32]) (hashOne _) ?_))
  refine bodyPost_ret (results_cell_row rfl _ _ GH _ (byteVals D).toArray _ _ rfl Z3 Tryz.underlying24 rfl (hashInfo HDL.out)) rfl ⟨?_, u2.setRowNew hg1 _⟩
  rw [HDE.out]
end Go.Proofs.YtmnmhhbldbdpfaaGreatDoor
