/- rules.PrintEntrant. -/
import Derived.Test.YtmnmhhbldbdpfaaGreatDoorXSealB
namespace Go.Proofs.YtmnmhhbldbdpfaaGreatDoor
open Go.RowKit
set_option maxRecDepth 100000

theorem entOk_small {a b c : Int} {l : List Int} (h : entOk a b c l = true) : (smallB a = true ∧ smallB b = true ∧ smallB c = true) ∧ l.all smallB = true ∧ l.length ≤ 60 := by
  unfold entOk at h
  simp only [Bool.and_eq_true, decide_eq_true_eq] at h
  exact ⟨⟨h.1, h.2.1, h.2.2.1⟩, h.2.2.2.1, h.2.2.2.2⟩
theorem numsT_one (n : Int) : numsT [n] = 32 :: Lib.itoa n := by simp [numsT]

set_option maxHeartbeats 1000000 in
theorem printEnt_any (a b c : Int) (l : List Int) (ao : Option Addr) (cap : Nat) (w : World) (ha : i64in a) (hb : i64in b) (hc : i64in c) (hl : l.length ≤ 1000) (h : IntsSl w ao l) (htab : Tabs w) :
    Calls Tryz.prog 66 #[.agg (entV a b c (.slice ao l.length cap))] w (MkS (entL a b c l) w) := by
  obtain ⟨n, hn⟩ : ∃ n, n = l.length := ⟨_, rfl⟩
  have e0 : EntAt (w.alloc (.cells (entV a b c (.slice ao l.length cap)) 71)) w.heap.size a b c (.slice ao l.length cap) := heap_alloc_new w _
  have u0 : Upd [] [] w (w.alloc (.cells (entV a b c (.slice ao l.length cap)) 71)) := (Upd.refl _ _).alloc _
  have H := Lib.hid (h.upd u0)
  have HR := Lib.hid (rightEnt_any a b c l ao cap (w.alloc (.cells (entV a b c (.slice ao l.length cap)) 71)) ha hb hc hl H.out)
  rw [← hn] at e0 u0 HR H ⊢
  have HN := Lib.hid hn
  have E0 := Lib.hid e0
  obtain ⟨k0, k1, k2, k3, k4, k5⟩ := e0.cells
  clear hn h e0
  go_enter Tryz.func66, Tryz.ntmps66
  go_wp2_with fail
  refine HR.out.mono ?_
  rintro e w1 ⟨r, HB, rfl, hq⟩
  have u1 := u0.trans hq
  have E1 := Lib.hid (E0.out.upd hq)
  have H1 := Lib.hid (H.out.upd hq)
  clear k0 k1 k2 k3 k4 k5 E0 H HR hq u0
  obtain ⟨k0, k1, k2, k3, k4, k5⟩ := E1.out.cells
  cases r
  · have HE : Hid (bs (ByteArray.mk #[]) = entL a b c l) := by
      show _ = _
      unfold entL
      rw [← HB.out]
      rfl
    go_wp2_with fail
    go_ret
    exact ⟨_, HE, by rw [← HE.out]; exact Nat.zero_le _, rfl, u1⟩
  have hEB : entOk a b c l = true := HB.out.symm
  have h60 := (entOk_small hEB).2.2
  have HEB := Lib.hid hEB
  clear HB hEB
  have hm : ∀ x ∈ [a, b, c, (n : Int)], i64in x := by
    intro x hx
    simp only [List.mem_cons, List.not_mem_nil, or_false] at hx
    have := HN.out
    rcases hx with rfl | rfl | rfl | rfl
    · assumption
    · assumption
    · assumption
    · unfold i64in; omega
  have hI : IntsSl (w1.alloc (.cells #[.int .i64 a, .int .i64 b, .int .i64 c, .int .i64 (n : Int)] 3)) (some ⟨w1.heap.size, 0, none⟩) [a, b, c, (n : Int)] := intsSl_new (l := [a, b, c, (n : Int)]) (heap_alloc_new w1 _) hm
  have uA : Upd [] [] w1 (w1.alloc (.cells #[.int .i64 a, .int .i64 b, .int .i64 c, .int .i64 (n : Int)] 3)) := (Upd.refl _ _).alloc _
  have HT := Lib.hid (text13_any (ByteArray.mk #[101, 110, 116, 114, 97, 110, 116]) [a, b, c, (n : Int)] (some ⟨w1.heap.size, 0, none⟩) 4 _ (by show 7 ≤ 100000; omega) (by simp) hI (htab.upd (u1.trans uA)))
  have HTL := Lib.hid (numsT_len [a, b, c, (n : Int)] hm)
  clear hm hI
  go_wp2_with fail
  refine HT.out.mono ?_
  rintro e w2 ⟨y1, HY1, hy1, rfl, hq⟩
  have u2 := u1.trans (uA.trans hq)
  have E2 := Lib.hid (E1.out.upd (uA.trans hq))
  have H2 := Lib.hid (H1.out.upd (uA.trans hq))
  have hs1 : y1.size ≤ 100 := by
    have h := congrArg List.length HY1.out
    have h2 := HTL.out
    rw [bs_length, List.length_append] at h
    have h3 : (bs (ByteArray.mk #[101, 110, 116, 114, 97, 110, 116])).length = 7 := rfl
    simp only [List.length_cons, List.length_nil] at h2
    omega
  clear k0 k1 k2 k3 k4 k5 E1 H1 hq uA HT HTL u1 hy1
  obtain ⟨k0, k1, k2, k3, k4, k5⟩ := E2.out.cells
  have HT := Lib.hid (text13_any y1 l ao cap w2 (by omega) (by omega) H2.out (htab.upd u2))
  rw [← HN.out] at HT
  have HTL := Lib.hid (numsT_len l H2.out.mem)
  go_wp2_with fail
  refine HT.out.mono ?_
  rintro e w3 ⟨y2, HY2, hy2, rfl, hq⟩
  have u3 := u2.trans hq
  have E3 := Lib.hid (E2.out.upd hq)
  have hs2 : y2.size ≤ 1400 := by
    have h := congrArg List.length HY2.out
    have h2 := HTL.out
    rw [bs_length, List.length_append, bs_length] at h
    omega
  clear k0 k1 k2 k3 k4 k5 E2 H2 hq HT HTL u2 hy2 hs1
  obtain ⟨k0, k1, k2, k3, k4, k5⟩ := E3.out.cells
  have LS : ∀ W : World, W.heap[w3.heap.size]? = some (.cells #[.slice none 0 0, .slice none 0 0] 41 (0, 0)) → W.cell? ⟨w3.heap.size, 0, none⟩ = some (.slice none 0 0) ∧ W.cell? ⟨w3.heap.size, 1, none⟩ = some (.slice none 0 0) := fun W h =>
    ⟨by rw [cell_of_row _ _ _ _ _ _ h]; rfl, by rw [cell_of_row _ _ _ _ _ _ h]; rfl⟩
  have LSH := Lib.hid LS
  clear LS
  have ZT : Hid (∀ (y : ByteArray) (W : World), y.size ≤ 2000 → Tabs W → Calls Tryz.prog 102 #[.string y, .slice (some ⟨W.heap.size, 0, none⟩) 1 1] (W.alloc (.cells #[.int .i64 0] 3)) (MkS (bs y ++ [32, 48]) (W.alloc (.cells #[.int .i64 0] 3)))) := by
    intro y W hy hW
    have h := text13_any y [0] (some ⟨W.heap.size, 0, none⟩) 1 (W.alloc (.cells #[.int .i64 0] 3)) (by omega) (by simp) (intsSl_new (l := [0]) (heap_alloc_new W _) (by simp [i64in])) (hW.upd ((Upd.refl _ _).alloc _))
    rw [numsT_one, itoa_zero] at h
    exact h
  go_wp2_with fail
  refine wp_loop_rounds 3 ?_
  rw [rounds_succ]
  have l3 := heap_alloc_new w3 (.cells #[.slice none 0 0, .slice none 0 0] 41)
  have u3' := u3.alloc (.cells #[.slice none 0 0, .slice none 0 0] 41)
  obtain ⟨w4, hw4⟩ : ∃ w4, w3.alloc (.cells #[.slice none 0 0, .slice none 0 0] 41) = w4 := ⟨_, rfl⟩
  rw [hw4] at l3 u3' ⊢
  have L4 := Lib.hid l3
  obtain ⟨m0, m1⟩ := LSH.out _ L4.out
  clear hw4 l3 k0 k1 k2 k3 k4 k5 u3
  go_wp2_with fail
  refine (ZT.out y2 w4 (by omega) (htab.upd u3')).mono ?_
  rintro e w5 ⟨y3, HY3, hy3, rfl, hq⟩
  have hq5 := Upd.fore hq
  have u5 := u3'.trans hq5
  have L5 := Lib.hid (row_updH L4.out hq5)
  have hs3 : y3.size ≤ 1410 := by
    have h := congrArg List.length HY3.out
    rw [bs_length, List.length_append, bs_length] at h
    simp only [List.length_cons, List.length_nil] at h
    omega
  clear hq hq5 m0 m1 L4 u3' hy3
  obtain ⟨m0, m1⟩ := LSH.out _ L5.out
  go_wp2_with fail
  refine wp_loop_rounds 1 ?_
  rw [rounds_succ]
  go_wp2_with fail
  rw [rounds_succ]
  go_wp2_with fail
  refine (ZT.out y3 w5 (by omega) (htab.upd u5)).mono ?_
  rintro e w6 ⟨y4, HY4, hy4, rfl, hq⟩
  have u6 := u5.trans (Upd.fore hq)
  clear hq m0 m1 L5 hy4
  go_wp2_with fail
  refine wp_loop_rounds 1 ?_
  rw [rounds_succ]
  go_wp2_with fail
  rw [rounds_succ]
  go_wp2_with fail
  go_ret
  have HE : bs y4 = entL a b c l := by
    rw [HY4.out, HY3.out, HY2.out, HY1.out]
    unfold entL
    rw [HEB.out, if_pos rfl, ← HN.out, List.append_assoc, List.append_assoc, List.append_assoc]
    rfl
  exact ⟨y4, HE, by rw [← HE, bs_length]; exact Nat.le_refl _, rfl, u6⟩
end Go.Proofs.YtmnmhhbldbdpfaaGreatDoor
