/- Seals: entry.Seal, sortesref22.Sealed, sortesref22.Seal. -/
import Derived.Test.YtmnmhhbldbdpfaaGreatDoorXSealD
import Derived.Test.YtmnmhhbldbdpfaaGreatDoorGF
import Derived.Test.YtmnmhhbldbdpfaaGreatDoorXChain
namespace Go.Proofs.YtmnmhhbldbdpfaaGreatDoor
open Go.RowKit
set_option maxRecDepth 100000

theorem entL_len {a b c : Int} {l : List Int} (ha : i64in a) (hb : i64in b) (hc : i64in c) (hl : ∀ x ∈ l, i64in x) : (entL a b c l).length ≤ 1400 := by
  unfold entL
  split
  · rename_i h
    have h60 := (entOk_small h).2.2
    have h1 := numsT_len l hl
    have h2 := numsT_len [a, b, c, (l.length : Int)] (by
      intro x hx
      simp only [List.mem_cons, List.not_mem_nil, or_false] at hx
      rcases hx with rfl | rfl | rfl | rfl
      · assumption
      · assumption
      · assumption
      · unfold i64in; omega)
    simp only [List.length_append, List.length_cons, List.length_nil, wEn] at h2 ⊢
    omega
  · simp
theorem sealL_of {s y z r : ByteArray} {t : List UInt8} (hy : bs y = Lib.itoa (s.size : Int)) (hz : bs z = t) (hr : r = ByteArray.mk #[115, 101, 97, 108, 47] ++ y ++ ByteArray.mk #[47] ++ s ++ ByteArray.mk #[47] ++ z) : bs r = sealL (bs s) t := by
  rw [hr]
  simp only [bs_append, hy, hz]
  unfold sealL
  rw [bs_length]
  simp [bs, wSe]

set_option maxHeartbeats 1000000 in
theorem seal22_any (a b c : Int) (l : List Int) (ao : Option Addr) (cap : Nat) (s : ByteArray) (w : World) (ha : i64in a) (hb : i64in b) (hc : i64in c) (hl : l.length ≤ 1000) (h : IntsSl w ao l) (hs : s.size ≤ 100000) (htab : Tabs w) :
    Calls Tryz.prog 34 #[.agg (entV a b c (.slice ao l.length cap)), .string s] w (Mk (.agg (byteVals (sha (sealL (bs s) (entL a b c l)))).toArray) w) := by
  have e0 : EntAt ((w.alloc (.cells (entV a b c (.slice ao l.length cap)) 71)).alloc (.cells (byteVals zero32).toArray 24)) w.heap.size a b c (.slice ao l.length cap) := row_updH (heap_alloc_new w _) ((Upd.refl [] _).alloc _)
  have z0 := heap_alloc_new (w.alloc (.cells (entV a b c (.slice ao l.length cap)) 71)) (.cells (byteVals zero32).toArray 24)
  rw [World.size_alloc] at z0
  have u0 : Upd [] [] w ((w.alloc (.cells (entV a b c (.slice ao l.length cap)) 71)).alloc (.cells (byteVals zero32).toArray 24)) := ((Upd.refl _ _).alloc _).alloc _
  have H := Lib.hid (h.upd u0)
  have hel := entL_len ha hb hc h.mem
  obtain ⟨n, hn⟩ : ∃ n, n = l.length := ⟨_, rfl⟩
  have HP := Lib.hid (fun W (u : Upd [] [] w W) => printEnt_any a b c l ao cap W ha hb hc hl (h.upd u) (htab.upd u))
  rw [← hn] at e0 z0 u0 HP H ⊢
  obtain ⟨w0, hw0⟩ : ∃ w0, (w.alloc (.cells (entV a b c (.slice ao n cap)) 71)).alloc (.cells (byteVals zero32).toArray 24) = w0 := ⟨_, rfl⟩
  rw [hw0] at e0 z0 u0 H
  have HW := Lib.hid hw0
  have E0 := Lib.hid e0
  have Z0 := Lib.hid z0
  have HU0 := Lib.hid u0
  have HK : Hid (∀ W, Upd [] [] w0 W → W.cell? ⟨w.heap.size, 0, none⟩ = some (.int .i64 a) ∧ W.cell? ⟨w.heap.size, 1, none⟩ = some (.int .i64 b) ∧ W.cell? ⟨w.heap.size, 2, none⟩ = some (.int .i64 c) ∧ W.cell? ⟨w.heap.size, 3, none⟩ = some (.slice ao n cap) ∧ W.cell? ⟨w.heap.size, 4, none⟩ = some (.slice none 0 0) ∧ W.cell? ⟨w.heap.size, 5, none⟩ = some (.slice none 0 0)) := fun W u => (E0.out.upd u).cells
  clear hw0 e0 z0 hn h hl
  go_enter Tryz.func34, Tryz.ntmps34
  go_upto_region 1 with (fail)
  rw [show (#[.int .u8 0, .int .u8 0, .int .u8 0, .int .u8 0, .int .u8 0, .int .u8 0, .int .u8 0, .int .u8 0, .int .u8 0, .int .u8 0, .int .u8 0, .int .u8 0, .int .u8 0, .int .u8 0, .int .u8 0, .int .u8 0, .int .u8 0, .int .u8 0, .int .u8 0, .int .u8 0, .int .u8 0, .int .u8 0, .int .u8 0, .int .u8 0, .int .u8 0, .int .u8 0, .int .u8 0, .int .u8 0, .int .u8 0, .int .u8 0, .int .u8 0, .int .u8 0] : Array Value) = (byteVals zero32).toArray from rfl, HW.out]
  have ud0 : Upd [] [] w0 w0.drew := (Upd.refl _ _).drew
  have hg1 : w.heap.size ≤ w.heap.size + 1 := by omega
  obtain ⟨GH, hGH⟩ : ∃ GH, GH = w.heap.size + 1 := ⟨_, rfl⟩
  have hne : w.heap.size ≠ GH := by omega
  rw [← hGH] at Z0 hg1 ⊢
  clear HW u0 hGH
  refine wp_region_noPanic ?_
  refine wp_region_held_drew (S := fun wp => wp.cell? ⟨w.heap.size, 0, none⟩ = some (.int .i64 a) ∧ wp.cell? ⟨w.heap.size, 1, none⟩ = some (.int .i64 b) ∧ wp.cell? ⟨w.heap.size, 2, none⟩ = some (.int .i64 c) ∧ wp.cell? ⟨w.heap.size, 3, none⟩ = some (.slice ao n cap) ∧ wp.cell? ⟨w.heap.size, 4, none⟩ = some (.slice none 0 0) ∧ wp.cell? ⟨w.heap.size, 5, none⟩ = some (.slice none 0 0)) (by kernel_rfl) ?_ (fun hHeld => ?_)
  · exact HK.out _ ud0
  refine wpAnyH_take (i := 0) (v := ?v1) (by simp only [List.getElem?_toArray, List.getElem?_cons_zero] <;> rfl) (by kernel_rfl) (by kernel_rfl) (by kernel_rfl) (fun _ _ _ h => h) (Or.inl ⟨by rfl, ?y1⟩) hHeld ?r1
  case y1 => (intro w hSw; (try dsimp only at hSw); go_simp; first | done | with_reducible rfl | rfl)
  try simp only [Act.put, List.setIfInBounds_toArray, List.set_cons_zero, List.set_cons_succ]
  refine wpAnyH_take (i := 1) (v := ?v2) (by simp only [List.getElem?_toArray, List.getElem?_cons_succ, List.getElem?_cons_zero] <;> rfl) (by kernel_rfl) (by kernel_rfl) (by kernel_rfl) (fun _ _ _ h => h) (Or.inl ⟨by rfl, ?y2⟩) hHeld ?r2
  case y2 => (intro w hSw; (try dsimp only at hSw); go_simp; first | done | with_reducible rfl | rfl)
  try simp only [Act.put, List.setIfInBounds_toArray, List.set_cons_zero, List.set_cons_succ]
  refine wpAnyH_take (i := 5) (v := ?v3) (by simp only [List.getElem?_toArray, List.getElem?_cons_succ, List.getElem?_cons_zero] <;> rfl) (by kernel_rfl) (by kernel_rfl) (by kernel_rfl) (fun _ _ _ h => h) (Or.inl ⟨by rfl, ?y3⟩) hHeld ?r3
  case y3 => (intro w hSw; (try dsimp only at hSw); go_simp; first | done | with_reducible rfl | rfl)
  try simp only [Act.put, List.setIfInBounds_toArray, List.set_cons_zero, List.set_cons_succ]
  refine wpAnyH_take (i := 8) (v := ?v4) (by simp only [List.getElem?_toArray, List.getElem?_cons_succ, List.getElem?_cons_zero] <;> rfl) (by kernel_rfl) (by kernel_rfl) (by kernel_rfl) (fun _ _ _ h => h) (Or.inl ⟨by rfl, ?y4⟩) hHeld ?r4
  case y4 => (intro w hSw; (try dsimp only at hSw); go_simp; first | done | with_reducible rfl | rfl)
  try simp only [Act.put, List.setIfInBounds_toArray, List.set_cons_zero, List.set_cons_succ]
  refine wpAnyH_ready (rs := [2]) (by kernel_rfl) (by simp) ?_
  refine AllReadyH.cons (by simp only [List.getElem?_toArray, List.getElem?_cons_succ, List.getElem?_cons_zero] <;> rfl) (fun K hK => ?_) ?_
  · go_simp; refine (itoa_any (s.size : Int) _ (by unfold i64in; omega) (htab.upd (HU0.out.trans ud0))).mono ?_; rintro e wv1 ⟨y, HY, hy, rfl, hq⟩; have hys : y.size ≤ 20 := (Nat.le_trans hy (itoa_len _ (by unfold i64in; omega))); clear hy; have ud1 := ud0.trans hq; clear hq; have s1 : ¬ 9223372036854775807 < 5 + y.size := (by omega); have s2 : ¬ 9223372036854775807 < 5 + y.size + 1 := (by omega); have s3 : ¬ 9223372036854775807 < 5 + y.size + 1 + s.size := (by omega); have s4 : ¬ 9223372036854775807 < 5 + y.size + 1 + s.size + 1 := (by omega); go_wp2_with fail
    refine hK.out _ _ ?_ (fun hHeld => ?_)
    · exact HK.out _ ud1
    clear hK K
    try simp only [Act.put, List.setIfInBounds_toArray, List.set_cons_zero, List.set_cons_succ]
    refine wpAnyH_take (i := 3) (v := ?v5) (by simp only [List.getElem?_toArray, List.getElem?_cons_succ, List.getElem?_cons_zero] <;> rfl) (by kernel_rfl) (by kernel_rfl) (by kernel_rfl) (fun _ _ _ h => h) (Or.inl ⟨by rfl, ?y5⟩) hHeld ?r5
    case y5 => (intro w hSw; (try dsimp only at hSw); go_simp; first | done | with_reducible rfl | rfl)
    try simp only [Act.put, List.setIfInBounds_toArray, List.set_cons_zero, List.set_cons_succ]
    refine wpAnyH_take (i := 4) (v := ?v6) (by simp only [List.getElem?_toArray, List.getElem?_cons_succ, List.getElem?_cons_zero] <;> rfl) (by kernel_rfl) (by kernel_rfl) (by kernel_rfl) (fun _ _ _ h => h) (Or.inl ⟨by rfl, ?y6⟩) hHeld ?r6
    case y6 => (intro w hSw; (try dsimp only at hSw); go_simp; first | done | with_reducible rfl | rfl)
    try simp only [Act.put, List.setIfInBounds_toArray, List.set_cons_zero, List.set_cons_succ]
    refine wpAnyH_take (i := 6) (v := ?v7) (by simp only [List.getElem?_toArray, List.getElem?_cons_succ, List.getElem?_cons_zero] <;> rfl) (by kernel_rfl) (by kernel_rfl) (by kernel_rfl) (fun _ _ _ h => h) (Or.inl ⟨by rfl, ?y7⟩) hHeld ?r7
    case y7 => (intro w hSw; (try dsimp only at hSw); go_simp; first | done | with_reducible rfl | rfl)
    try simp only [Act.put, List.setIfInBounds_toArray, List.set_cons_zero, List.set_cons_succ]
    refine wpAnyH_take (i := 7) (v := ?v8) (by simp only [List.getElem?_toArray, List.getElem?_cons_succ, List.getElem?_cons_zero] <;> rfl) (by kernel_rfl) (by kernel_rfl) (by kernel_rfl) (fun _ _ _ h => h) (Or.inl ⟨by rfl, ?y8⟩) hHeld ?r8
    case y8 => (intro w hSw; (try dsimp only at hSw); go_simp; first | done | with_reducible rfl | rfl)
    try simp only [Act.put, List.setIfInBounds_toArray, List.set_cons_zero, List.set_cons_succ]
    refine wpAnyH_ready (rs := [9]) (by kernel_rfl) (by simp) ?_
    refine AllReadyH.cons (by simp only [List.getElem?_toArray, List.getElem?_cons_succ, List.getElem?_cons_zero] <;> rfl) (fun K hK => ?_) ?_
    · go_simp; refine (HP.out _ (HU0.out.trans ud1)).mono ?_; rintro e wv2 ⟨z, HZ, hz, rfl, hq⟩; have hzs : z.size ≤ 1400 := (by omega); clear hz; have ud2 := ud1.trans hq; clear hq; have s5 : ¬ 9223372036854775807 < 5 + y.size + 1 + s.size + 1 + z.size := (by omega); obtain ⟨r, hr⟩ : ∃ r : ByteArray, ByteArray.mk #[115, 101, 97, 108, 47] ++ y ++ ByteArray.mk #[47] ++ s ++ ByteArray.mk #[47] ++ z = r := ⟨_, rfl⟩; have HRB := Lib.hid (sealL_of HY.out HZ.out hr.symm); have hrs : r.size ≤ 200000 := (by rw [← hr]; simp only [ByteArray.size_append]; show 5 + y.size + 1 + s.size + 1 + z.size ≤ _; omega); go_wp2_with fail
      refine hK.out _ _ ?_ (fun hHeld => ?_)
      · exact HK.out _ ud2
      clear hK K
      try simp only [Act.put, List.setIfInBounds_toArray, List.set_cons_zero, List.set_cons_succ]
      refine wpAnyH_take (i := 10) (v := ?v9) (by simp only [List.getElem?_toArray, List.getElem?_cons_succ, List.getElem?_cons_zero] <;> rfl) (by kernel_rfl) (by kernel_rfl) (by kernel_rfl) (fun _ _ _ h => h) (Or.inl ⟨by rfl, ?y9⟩) hHeld ?r9
      case y9 => (intro w hSw; (try dsimp only at hSw); go_simp; first | done | with_reducible rfl | rfl)
      try simp only [Act.put, List.setIfInBounds_toArray, List.set_cons_zero, List.set_cons_succ]
      refine wpAnyH_ready (rs := [11]) (by kernel_rfl) (by simp) ?_
      refine AllReadyH.cons (by simp only [List.getElem?_toArray, List.getElem?_cons_succ, List.getElem?_cons_zero] <;> rfl) (fun K hK => ?_) ?_
      · go_simp; refine (sum_any r _ (by omega) (htab.upd (HU0.out.trans ud2))).mono ?_; rintro e wv3 ⟨rfl, hq⟩; have z3 := row_updH Z0.out (ud2.trans hq); have ud3 := ud2.trans hq; clear hq; rw [HRB.out]; obtain ⟨D, hD⟩ : ∃ D, D = sha (sealL (bs s) (entL a b c l)) := ⟨_, rfl⟩; have HDL : Hid (D.length = 32) := (by show _ = _; rw [hD]; exact sha_len _); rw [← hD]; have HDE := Lib.hid hD; clear hD; go_wp2_with fail
        refine hK.out _ _ ?_ (fun hHeld => ?_)
        · exact HK.out _ ud3
        clear hK K
        try simp only [Act.put, List.setIfInBounds_toArray, List.set_cons_zero, List.set_cons_succ]
        refine wpAnyH_ready (rs := [12]) (by kernel_rfl) (by simp) ?_
        refine AllReadyH.cons (by simp only [List.getElem?_toArray, List.getElem?_cons_succ, List.getElem?_cons_zero] <;> rfl) (fun K hK => ?_) ?_
        · rw [if_pos (by rfl)]; refine wp_store_row 24 _ _ rfl GH (byteVals D).toArray rfl rfl _ _ z3 (hashInfo HDL.out) (by simp [byteVals, HDL.out, zero32]) (hashOne _) ?_; obtain ⟨wv4, hwx⟩ : ∃ W' : World, W' = wv3.setRow GH (byteVals D).toArray := ⟨_, rfl⟩; have z4 : Hid (wv4.heap[GH]? = some (.cells (byteVals D).toArray 24 (0, 0))) := (by show _ = _; rw [hwx]; exact setRow_heap _ _ _ _ _ _ z3); have uw4 := (HU0.out.trans ud3).setRowNew hg1 (byteVals D).toArray; have hk4 := EntAt.cells (show EntAt (wv3.setRow GH (byteVals D).toArray) w.heap.size a b c (.slice ao n cap) from row_setRowO (E0.out.upd ud3) hne _); rw [← hwx] at uw4 hk4 ⊢; clear z3
          refine hK.out _ _ ?_ (fun hHeld => ?_)
          · exact hk4
          clear hK K
          try simp only [Act.put]
          refine wpAnyH_done (by kernel_rfl) ?_ _
          refine NoPanic.normal ?_
          go_wp2_with fail
          refine bodyPost_ret (results_cell_row rfl _ _ GH _ (byteVals D).toArray _ _ rfl z4.out Tryz.underlying24 rfl (hashInfo HDL.out)) rfl ⟨?_, uw4⟩
          rw [HDE.out]
        exact AllReadyH.nil
      exact AllReadyH.nil
    exact AllReadyH.nil
  exact AllReadyH.nil
end Go.Proofs.YtmnmhhbldbdpfaaGreatDoor
