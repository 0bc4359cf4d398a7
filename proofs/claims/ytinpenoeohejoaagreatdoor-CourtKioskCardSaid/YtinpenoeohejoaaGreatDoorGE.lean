/- Receipts in blocks; entry.join, entry.body. entry.body. Receipts built out of their parts. entry.Text, entry.Verify, entry.Hash, entry.Print. entry.Hash, entry.Print. entry.Print. -/
import Derived.Test.YtinpenoeohejoaaGreatDoorGD
import Derived.Test.YtinpenoeohejoaaGreatDoorGZ
import Derived.Great.BuildSlice
namespace Go.Proofs.YtinpenoeohejoaaGreatDoor
open Go.RowKit
set_option maxRecDepth 100000

def RcAt (w : World) (g : Nat) (x : Rc) : Prop := w.heap[g]? = some (.cells (rcV x).toArray 41 (0, 0))
theorem RcAt.upd {w w' : World} {g : Nat} {x : Rc} (h : RcAt w g x) (u : Upd [] [] w w') : RcAt w' g x := row_updH h u
theorem RcAt.lt {w : World} {g : Nat} {x : Rc} (h : RcAt w g x) : g < w.heap.size := (Array.getElem?_eq_some_iff.1 h).1
theorem RcAt.cell {w : World} {g : Nat} {x : Rc} (h : RcAt w g x) (j : Nat) : w.cell? ⟨g, j, none⟩ = (rcV x)[j]? := by
  rw [cell_of_row w g j _ _ _ h, List.getElem?_toArray]
theorem RcAt.all {w : World} {g : Nat} {x : Rc} (h : RcAt w g x) : w.rangeAt g 0 (rcV x) := by
  intro j v hv
  rw [h.cell, Nat.zero_add]
  exact hv
theorem RcAt.head {w : World} {g : Nat} {x : Rc} (h : RcAt w g x) : w.cell? ⟨g, 0, none⟩ = some (.int .i64 x.kiosk) ∧ w.cell? ⟨g, 1, none⟩ = some (.int .i64 x.serial) ∧ w.cell? ⟨g, 2, none⟩ = some (.string x.draw) ∧ w.cell? ⟨g, 3, none⟩ = some (.int .i64 x.seen) :=
  ⟨h.cell 0, h.cell 1, h.cell 2, h.cell 3⟩
theorem mid_get {A B C : List Value} {o j : Nat} {v : Value} (ho : A.length = o) (h : B[j]? = some v) : (A ++ (B ++ C))[o + j]? = some v := by
  have hj := (List.getElem?_eq_some_iff.1 h).1
  rw [List.getElem?_append_right (by omega), show o + j - A.length = j by omega, List.getElem?_append_left hj]
  exact h
theorem RcAt.ranges {w : World} {g : Nat} {x : Rc} (h : RcAt w g x) (hx : x.ok) : w.rangeAt g 4 (byteVals x.out) ∧ w.rangeAt g 36 (byteVals x.hash) ∧ w.rangeAt g 68 (byteVals x.prev) := by
  obtain ⟨_, _, _, h1, h2, h3, _⟩ := hx
  refine ⟨fun j v hv => ?_, fun j v hv => ?_, fun j v hv => ?_⟩
  · rw [h.cell]
    exact mid_get rfl hv
  · rw [h.cell]
    have := mid_get (A := [.int .i64 x.kiosk, .int .i64 x.serial, .string x.draw, .int .i64 x.seen] ++ byteVals x.out) (C := byteVals x.prev ++ [.int .i64 x.r, .int .i64 x.s]) (o := 36) (by simp [byteVals_length, h1]) hv
    rw [List.append_assoc] at this
    exact this
  · rw [h.cell]
    have := mid_get (A := [.int .i64 x.kiosk, .int .i64 x.serial, .string x.draw, .int .i64 x.seen] ++ (byteVals x.out ++ byteVals x.hash)) (C := [.int .i64 x.r, .int .i64 x.s]) (o := 68) (by simp [byteVals_length, h1, h2]) hv
    rw [List.append_assoc, List.append_assoc] at this
    exact this
theorem RcAt.sig {w : World} {g : Nat} {x : Rc} (h : RcAt w g x) (hx : x.ok) : w.cell? ⟨g, 100, none⟩ = some (.int .i64 x.r) ∧ w.cell? ⟨g, 101, none⟩ = some (.int .i64 x.s) := by
  obtain ⟨_, _, _, h1, h2, h3, _⟩ := hx
  have key : ∀ j v, ([.int .i64 x.r, .int .i64 x.s] : List Value)[j]? = some v → (rcV x)[100 + j]? = some v := by
    intro j v hv
    have := mid_get (A := [.int .i64 x.kiosk, .int .i64 x.serial, .string x.draw, .int .i64 x.seen] ++ (byteVals x.out ++ (byteVals x.hash ++ byteVals x.prev))) (C := []) (o := 100) (by simp [byteVals_length, h1, h2, h3]) hv
    rw [List.append_nil, List.append_assoc, List.append_assoc, List.append_assoc] at this
    exact this
  exact ⟨(h.cell 100).trans (key 0 _ rfl), (h.cell 101).trans (key 1 _ rfl)⟩
theorem rcInfo {x : Rc} (h : x.ok) : (Tryz.prog.info? 41).map (·.size) = some (rcV x).length := by
  rw [rcV_len h]
  kernel_rfl
theorem rcOne (x : Rc) : (rcV x).toArray.all (·.oneCell') = true := by
  rw [Array.all_eq_true_iff_forall_mem]
  intro v hv
  exact rcV_one _ v (by simpa using hv)

theorem join_any (g c : Nat) (xs : List ByteArray) (w : World) (hx : StrsIn w g xs) (hc : xs.length ≤ c) (hN : xs.length ≤ 1000) (hl : (Lib.join (xs.map bs) [32]).length ≤ 140737488355328) :
    Calls Tryz.prog 38 #[.slice (some ⟨g, 0, none⟩) xs.length c] w (MkS (Lib.join (xs.map bs) [32]) w) := by
  have hj : Lib.join (xs.map (·.data.toList)) (ByteArray.mk #[32]).data.toList = Lib.join (xs.map bs) [32] := rfl
  have HJ := Lib.hid hj
  have HX := Lib.hid hx
  clear hj hx
  go_enter Tryz.func38, Tryz.ntmps38
  go_wp2_with fail
  refine (Tryz.strings_Join g 0 c xs ⟨#[32]⟩ w HX.out.2 HX.out.1 (by omega) hc (by rw [HJ.out]; omega)).mono ?_
  rintro e w1 ⟨rfl, hb⟩
  have hu := upd_of_below hb
  clear hb
  rw [HJ.out]
  obtain ⟨T, hT⟩ : ∃ T : ByteArray, T = ⟨(Lib.join (xs.map bs) [32]).toArray⟩ := ⟨_, rfl⟩
  rw [← hT]
  have hTb : bs T = Lib.join (xs.map bs) [32] := by rw [hT, bs_mk]
  have HTB := Lib.hid hTb
  clear hT hTb
  go_wp2_with fail
  go_ret
  exact ⟨T, HTB, by rw [← HTB.out, bs_length]; exact Nat.le_refl _, rfl, hu⟩
end Go.Proofs.YtinpenoeohejoaaGreatDoor

namespace Go.Proofs.YtinpenoeohejoaaGreatDoor
open Go.RowKit
set_option maxRecDepth 100000

def rcS (g : Nat) (x : Rc) (w : World) : Prop := w.cell? ⟨g, 0, none⟩ = some (.int .i64 x.kiosk) ∧ w.cell? ⟨g, 1, none⟩ = some (.int .i64 x.serial) ∧ w.cell? ⟨g, 2, none⟩ = some (.string x.draw) ∧ w.cell? ⟨g, 3, none⟩ = some (.int .i64 x.seen) ∧ w.rangeAt g 4 (byteVals x.out) ∧ w.rangeAt g 36 (byteVals x.hash) ∧ w.rangeAt g 68 (byteVals x.prev)
theorem RcAt.s {w : World} {g : Nat} {x : Rc} (h : RcAt w g x) (hx : x.ok) : rcS g x w := ⟨h.head.1, h.head.2.1, h.head.2.2.1, h.head.2.2.2, (h.ranges hx).1, (h.ranges hx).2.1, (h.ranges hx).2.2⟩
theorem hashLen {l : List UInt8} (h : l.length = 32) : (Tryz.prog.info? 37).map (·.size) = some (byteVals l).length := by
  rw [byteVals_length, h]
  kernel_rfl
theorem join_body (x : Rc) (k s n a b c : ByteArray) (hk : bs k = Lib.itoa x.kiosk) (hs : bs s = Lib.itoa x.serial) (hn : bs n = Lib.itoa x.seen) (ha : bs a = hexL x.out) (hb : bs b = hexL x.hash) (hc : bs c = hexL x.prev) : Lib.join ([ByteArray.mk #[114, 101, 99, 101, 105, 112, 116], k, s, n, a, b, c, x.draw].map bs) [32] = bodyL x := by
  simp only [List.map_cons, List.map_nil, hk, hs, hn, ha, hb, hc, Lib.join, bodyL]
  simp [List.intercalate, wRc, bs]
theorem bodyL_len {x : Rc} (hx : x.ok) : (bodyL x).length ≤ 300 + x.draw.size := by
  obtain ⟨h1, h2, h3, h4, h5, h6, _⟩ := hx
  have l1 := itoa_len _ h1
  have l2 := itoa_len _ h2
  have l3 := itoa_len _ h3
  unfold bodyL
  simp only [List.length_append, List.length_cons, hexL_len, h4, h5, h6, bs_length]
  have : wRc.length = 7 := rfl
  omega

theorem strsIn_new (w : World) (xs : List ByteArray) (T : TypeId) : StrsIn (w.alloc (.cells (xs.map Value.string).toArray T)) w.heap.size xs := by
  refine ⟨by rw [World.size_alloc]; omega, fun j x hx => ?_⟩
  rw [cell_of_row _ _ _ _ _ _ (heap_alloc_new w _), List.getElem?_toArray, Nat.zero_add, List.getElem?_map, hx]
  rfl

set_option maxHeartbeats 4000000 in
theorem body_any (x : Rc) (hx : x.ok) (hd : x.draw.size ≤ 1000000000) (w : World) (htab : Tabs w) : Calls Tryz.prog 40 #[.agg (rcV x).toArray] w (MkS (bodyL x) w) := by
  obtain ⟨C, hC⟩ : ∃ C, C = (rcV x).toArray := ⟨_, rfl⟩
  have r0 : RcAt (w.alloc (.cells C 41)).drew w.heap.size x := by
    rw [hC]
    exact RcAt.upd (heap_alloc_new w _) (Upd.refl _ _).drew
  rw [← hC]
  clear hC
  have u0 : Upd [] [] w (w.alloc (.cells C 41)).drew := ((Upd.refl _ _).alloc _).drew
  have hx' := hx
  obtain ⟨h1, h2, h3, h4, h5, h6, _, _⟩ := hx'
  have l1 := itoa_len _ h1
  have l2 := itoa_len _ h2
  have l3 := itoa_len _ h3
  have hu24 : Tryz.prog.underlying 37 = some (.array 32 5) := Tryz.underlying37
  have i1 := hashLen h4
  have i2 := hashLen h5
  have i3 := hashLen h6
  obtain ⟨k0, k1, k2, k3, k4, k5, k6⟩ := r0.s hx
  have kk : ∀ W, RcAt W w.heap.size x → (W.cell? ⟨w.heap.size, 0, none⟩ = some (.int .i64 x.kiosk) ∧ W.cell? ⟨w.heap.size, 1, none⟩ = some (.int .i64 x.serial) ∧ W.cell? ⟨w.heap.size, 2, none⟩ = some (.string x.draw) ∧ W.cell? ⟨w.heap.size, 3, none⟩ = some (.int .i64 x.seen) ∧ W.rangeAt w.heap.size 4 (byteVals x.out) ∧ W.rangeAt w.heap.size 36 (byteVals x.hash) ∧ W.rangeAt w.heap.size 68 (byteVals x.prev)) := fun W r => r.s hx
  have HK := Lib.hid kk
  clear kk
  go_enter Tryz.func40, Tryz.ntmps40
  go_wp2_with fail
  refine wp_region_noPanic ?_
  refine wp_region_held_drew (S := fun wp => wp.cell? ⟨w.heap.size, 0, none⟩ = some (.int .i64 x.kiosk) ∧ wp.cell? ⟨w.heap.size, 1, none⟩ = some (.int .i64 x.serial) ∧ wp.cell? ⟨w.heap.size, 2, none⟩ = some (.string x.draw) ∧ wp.cell? ⟨w.heap.size, 3, none⟩ = some (.int .i64 x.seen) ∧ wp.rangeAt w.heap.size 4 (byteVals x.out) ∧ wp.rangeAt w.heap.size 36 (byteVals x.hash) ∧ wp.rangeAt w.heap.size 68 (byteVals x.prev)) (by kernel_rfl) ?_ (fun hHeld => ?_)
  · exact HK.out _ r0
  refine tkY 0 hHeld ?_
  refine tkY 1 hHeld ?_
  refine tkY 3 hHeld ?_
  refine tkY 4 hHeld ?_
  refine tkY 6 hHeld ?_
  refine tkY 7 hHeld ?_
  refine tkY 9 hHeld ?_
  refine wpAnyH_take (i := 10) (v := .agg (byteVals x.out).toArray) (by simp only [List.getElem?_toArray, List.getElem?_cons_succ, List.getElem?_cons_zero] <;> rfl) (by kernel_rfl) (by kernel_rfl) (by kernel_rfl) (fun _ _ _ h => h) (yieldsIf_load_mid (by rfl) _ _ rfl _ _ rfl (byteVals x.out) _ (fun w hSw => hSw.2.2.2.2.1) hu24 rfl i1) hHeld ?_
  try simp only [Act.put, List.setIfInBounds_toArray, List.set_cons_zero, List.set_cons_succ]
  refine tkY 12 hHeld ?_
  refine wpAnyH_take (i := 13) (v := .agg (byteVals x.hash).toArray) (by simp only [List.getElem?_toArray, List.getElem?_cons_succ, List.getElem?_cons_zero] <;> rfl) (by kernel_rfl) (by kernel_rfl) (by kernel_rfl) (fun _ _ _ h => h) (yieldsIf_load_mid (by rfl) _ _ rfl _ _ rfl (byteVals x.hash) _ (fun w hSw => hSw.2.2.2.2.2.1) hu24 rfl i2) hHeld ?_
  try simp only [Act.put, List.setIfInBounds_toArray, List.set_cons_zero, List.set_cons_succ]
  refine tkY 15 hHeld ?_
  refine wpAnyH_take (i := 16) (v := .agg (byteVals x.prev).toArray) (by simp only [List.getElem?_toArray, List.getElem?_cons_succ, List.getElem?_cons_zero] <;> rfl) (by kernel_rfl) (by kernel_rfl) (by kernel_rfl) (fun _ _ _ h => h) (yieldsIf_load_mid (by rfl) _ _ rfl _ _ rfl (byteVals x.prev) _ (fun w hSw => hSw.2.2.2.2.2.2) hu24 rfl i3) hHeld ?_
  try simp only [Act.put, List.setIfInBounds_toArray, List.set_cons_zero, List.set_cons_succ]
  refine tkY 18 hHeld ?_
  refine tkY 19 hHeld ?_
  refine wpAnyH_ready (rs := [2]) (by kernel_rfl) (by simp) ?_
  refine AllReadyH.cons (by simp only [List.getElem?_toArray, List.getElem?_cons_succ, List.getElem?_cons_zero] <;> rfl) (fun K hK => ?_) ?_
  · go_simp; refine (itoa_any x.kiosk _ h1 (htab.upd u0)).mono ?_; rintro e w1 ⟨y1, HY1, hy1, rfl, hq⟩; have r1 := r0.upd hq; have u1 := u0.trans hq; clear hq; go_wp2_with fail
    refine hK.out _ _ ?_ (fun hHeld => ?_)
    · exact HK.out _ r1
    clear hK K
    try simp only [Act.put, List.setIfInBounds_toArray, List.set_cons_zero, List.set_cons_succ]
    refine wpAnyH_ready (rs := [5]) (by kernel_rfl) (by simp) ?_
    refine AllReadyH.cons (by simp only [List.getElem?_toArray, List.getElem?_cons_succ, List.getElem?_cons_zero] <;> rfl) (fun K hK => ?_) ?_
    · go_simp; refine (itoa_any x.serial _ h2 (htab.upd u1)).mono ?_; rintro e w2 ⟨y2, HY2, hy2, rfl, hq⟩; have r2 := r1.upd hq; have u2 := u1.trans hq; clear hq; go_wp2_with fail
      refine hK.out _ _ ?_ (fun hHeld => ?_)
      · exact HK.out _ r2
      clear hK K
      try simp only [Act.put, List.setIfInBounds_toArray, List.set_cons_zero, List.set_cons_succ]
      refine wpAnyH_ready (rs := [8]) (by kernel_rfl) (by simp) ?_
      refine AllReadyH.cons (by simp only [List.getElem?_toArray, List.getElem?_cons_succ, List.getElem?_cons_zero] <;> rfl) (fun K hK => ?_) ?_
      · go_simp; refine (itoa_any x.seen _ h3 (htab.upd u2)).mono ?_; rintro e w3 ⟨y3, HY3, hy3, rfl, hq⟩; have r3 := r2.upd hq; have u3 := u2.trans hq; clear hq; go_wp2_with fail
        refine hK.out _ _ ?_ (fun hHeld => ?_)
        · exact HK.out _ r3
        clear hK K
        try simp only [Act.put, List.setIfInBounds_toArray, List.set_cons_zero, List.set_cons_succ]
        refine wpAnyH_ready (rs := [11]) (by kernel_rfl) (by simp) ?_
        refine AllReadyH.cons (by simp only [List.getElem?_toArray, List.getElem?_cons_succ, List.getElem?_cons_zero] <;> rfl) (fun K hK => ?_) ?_
        · go_simp; refine (hexText_any x.out h4 _).mono ?_; rintro e w4 ⟨y4, HY4, hy4, rfl, hq⟩; have r4 := r3.upd hq; have u4 := u3.trans hq; clear hq; go_wp2_with fail
          refine hK.out _ _ ?_ (fun hHeld => ?_)
          · exact HK.out _ r4
          clear hK K
          try simp only [Act.put, List.setIfInBounds_toArray, List.set_cons_zero, List.set_cons_succ]
          refine wpAnyH_ready (rs := [14]) (by kernel_rfl) (by simp) ?_
          refine AllReadyH.cons (by simp only [List.getElem?_toArray, List.getElem?_cons_succ, List.getElem?_cons_zero] <;> rfl) (fun K hK => ?_) ?_
          · go_simp; refine (hexText_any x.hash h5 _).mono ?_; rintro e w5 ⟨y5, HY5, hy5, rfl, hq⟩; have r5 := r4.upd hq; have u5 := u4.trans hq; clear hq; go_wp2_with fail
            refine hK.out _ _ ?_ (fun hHeld => ?_)
            · exact HK.out _ r5
            clear hK K
            try simp only [Act.put, List.setIfInBounds_toArray, List.set_cons_zero, List.set_cons_succ]
            refine wpAnyH_ready (rs := [17]) (by kernel_rfl) (by simp) ?_
            refine AllReadyH.cons (by simp only [List.getElem?_toArray, List.getElem?_cons_succ, List.getElem?_cons_zero] <;> rfl) (fun K hK => ?_) ?_
            · go_simp; refine (hexText_any x.prev h6 _).mono ?_; rintro e w6 ⟨y6, HY6, hy6, rfl, hq⟩; have r6 := r5.upd hq; have u6 := u5.trans hq; clear hq; go_wp2_with fail
              refine hK.out _ _ ?_ (fun hHeld => ?_)
              · exact HK.out _ r6
              clear hK K
              try simp only [Act.put, List.setIfInBounds_toArray, List.set_cons_zero, List.set_cons_succ]
              refine wpAnyH_ready (rs := [20]) (by kernel_rfl) (by simp) ?_
              refine AllReadyH.cons (by simp only [List.getElem?_toArray, List.getElem?_cons_succ, List.getElem?_cons_zero] <;> rfl) (fun K hK => ?_) ?_
              · go_simp
                refine hK.out _ _ ?_ (fun hHeld => ?_)
                · exact HK.out _ (r6.upd ((Upd.refl [] _).alloc _))
                clear hK K
                try simp only [Act.put, List.setIfInBounds_toArray, List.set_cons_zero, List.set_cons_succ]
                refine wpAnyH_ready (rs := [21]) (by kernel_rfl) (by simp) ?_
                refine AllReadyH.cons (by simp only [List.getElem?_toArray, List.getElem?_cons_succ, List.getElem?_cons_zero] <;> rfl) (fun K hK => ?_) ?_
                · go_simp; refine (join_any _ 8 [ByteArray.mk #[114, 101, 99, 101, 105, 112, 116], y1, y2, y3, y4, y5, y6, x.draw] _ (strsIn_new w6 [ByteArray.mk #[114, 101, 99, 101, 105, 112, 116], y1, y2, y3, y4, y5, y6, x.draw] 9) (Nat.le_refl 8) (by show 8 ≤ 1000; omega) (by rw [join_body x y1 y2 y3 y4 y5 y6 HY1.out HY2.out HY3.out HY4.out HY5.out HY6.out]; exact Nat.le_trans (bodyL_len hx) (by omega))).mono ?_; rintro e w7 ⟨z, HZ, hz, rfl, hq⟩; have r7 := r6.upd (((Upd.refl [] _).alloc _).trans hq); have u7 := u6.trans (((Upd.refl [] _).alloc _).trans hq); clear hq; go_wp2_with fail
                  refine hK.out _ _ ?_ (fun hHeld => ?_)
                  · exact HK.out _ r7
                  clear hK K
                  try simp only [Act.put, List.setIfInBounds_toArray, List.set_cons_zero, List.set_cons_succ]
                  refine tkY 22 hHeld ?_
                  refine wpAnyH_done (by kernel_rfl) ?_ _
                  refine NoPanic.normal ?_
                  go_wp2_with fail
                  go_ret
                  have hz2 := HZ.out
                  rw [join_body x y1 y2 y3 y4 y5 y6 HY1.out HY2.out HY3.out HY4.out HY5.out HY6.out] at hz2 hz
                  exact ⟨z, hz2, hz, rfl, u7⟩
                exact AllReadyH.nil
              exact AllReadyH.nil
            exact AllReadyH.nil
          exact AllReadyH.nil
        exact AllReadyH.nil
      exact AllReadyH.nil
    exact AllReadyH.nil
  exact AllReadyH.nil
end Go.Proofs.YtinpenoeohejoaaGreatDoor

namespace Go.Proofs.YtinpenoeohejoaaGreatDoor
open Go.RowKit
set_option maxRecDepth 100000

theorem fold_set (off : Nat) : ∀ (V : List Value) (s : Nat) (A B C : List Value), A.length = off + s → B.length = V.length → (V.zipIdx s).foldl (fun (cs : Array Value) (p : Value × Nat) => cs.setIfInBounds (off + p.2) p.1) (A ++ (B ++ C)).toArray = (A ++ (V ++ C)).toArray
  | [], s, A, B, C, hA, hB => by
    have : B = [] := List.eq_nil_of_length_eq_zero (by simpa using hB)
    subst this
    rfl
  | v :: V, s, A, [], C, hA, hB => by simp at hB
  | v :: V, s, A, b :: B, C, hA, hB => by
    rw [List.zipIdx_cons, List.foldl_cons]
    have e : ((A ++ (b :: B ++ C)).toArray.setIfInBounds (off + s) v) = ((A ++ [v]) ++ (B ++ C)).toArray := by
      apply Array.ext'
      rw [Array.toList_setIfInBounds]
      show (A ++ (b :: B ++ C)).set (off + s) v = (A ++ [v]) ++ (B ++ C)
      rw [List.set_append_right _ _ (by omega), ← hA, Nat.sub_self]
      simp
    show (V.zipIdx (s + 1)).foldl _ ((A ++ (b :: B ++ C)).toArray.setIfInBounds (off + s) v) = _
    rw [e, fold_set off V (s + 1) (A ++ [v]) B C (by simp; omega) (by simpa using hB)]
    simp
theorem fold_arr (off : Nat) (V A B C : List Value) (hA : A.length = off) (hB : B.length = V.length) : V.toArray.zipIdx.foldl (fun (cs : Array Value) (p : Value × Nat) => cs.setIfInBounds (off + p.2) p.1) (A ++ (B ++ C)).toArray = (A ++ (V ++ C)).toArray := by
  have h := fold_set off V 0 A B C (by omega) hB
  rw [← Array.foldl_toList, Array.toList_zipIdx]
  exact h
def rcPl : Array (Nat × Nat) := #[(0, 1), (1, 1), (2, 1), (3, 1), (4, 32), (36, 32), (68, 32), (100, 2)]
theorem built_rc (ps : List (Nat × Value)) : Tryz.prog.built 41 ps = Instr.fill (rcPl[·]?) (rcV Rc.zero).toArray ps := by kernel_rfl
theorem fill_mid {pl : Nat → Option (Nat × Nat)} {i off n : Nat} {v : Value} {V A B C : List Value} {r : List (Nat × Value)} (hp : pl i = some (off, n)) (hv : v.cells = V.toArray) (hV : V.length = n) (hA : A.length = off) (hB : B.length = n) : Instr.fill pl (A ++ (B ++ C)).toArray ((i, v) :: r) = Instr.fill pl (A ++ (V ++ C)).toArray r := by
  rw [Instr.fill, hp]
  have hs : v.cells.size = n := by rw [hv]; simpa using hV
  have hc : ¬ (decide (v.cells.size ≠ n) || decide (off + v.cells.size > (A ++ (B ++ C)).toArray.size)) = true := by
    rw [hs]
    simp
    omega
  show (if (decide (v.cells.size ≠ n) || decide (off + v.cells.size > (A ++ (B ++ C)).toArray.size)) = true then none else _) = _
  rw [if_neg hc, hv]
  exact congrArg (fun z => Instr.fill pl z r) (fold_arr off V A B C hA (by omega))
theorem built_print (k s n : Int) (d : ByteArray) (a b c : List UInt8) (ha : a.length = 32) (hb : b.length = 32) (hc : c.length = 32) :
    Tryz.prog.built 41 [(0, .int .i64 k), (1, .int .i64 s), (2, .string d), (3, .int .i64 n), (4, .agg (byteVals a).toArray), (5, .agg (byteVals b).toArray), (6, .agg (byteVals c).toArray)] = some (rcV ⟨k, s, n, d, a, b, c, 0, 0⟩).toArray := by
  rw [built_rc]
  have z32 : (byteVals zero32).length = 32 := by simp [byteVals_length, zero32]
  have la : (byteVals a).length = 32 := by rw [byteVals_length, ha]
  have lb : (byteVals b).length = 32 := by rw [byteVals_length, hb]
  have lc : (byteVals c).length = 32 := by rw [byteVals_length, hc]
  have e0 : (rcV Rc.zero).toArray = ([] ++ ([Value.int .i64 0] ++ ([Value.int .i64 0, Value.string ByteArray.empty, Value.int .i64 0] ++ (byteVals zero32 ++ (byteVals zero32 ++ (byteVals zero32 ++ [Value.int .i64 0, Value.int .i64 0])))))).toArray := rfl
  rw [e0, fill_mid (off := 0) (n := 1) (V := [Value.int .i64 k]) rfl rfl rfl rfl rfl]
  rw [show ([] ++ ([Value.int .i64 k] ++ ([Value.int .i64 0, Value.string ByteArray.empty, Value.int .i64 0] ++ (byteVals zero32 ++ (byteVals zero32 ++ (byteVals zero32 ++ [Value.int .i64 0, Value.int .i64 0]))))) : List Value) = [Value.int .i64 k] ++ ([Value.int .i64 0] ++ ([Value.string ByteArray.empty, Value.int .i64 0] ++ (byteVals zero32 ++ (byteVals zero32 ++ (byteVals zero32 ++ [Value.int .i64 0, Value.int .i64 0]))))) from rfl, fill_mid (off := 1) (n := 1) (V := [Value.int .i64 s]) rfl rfl rfl rfl rfl]
  rw [show ([Value.int .i64 k] ++ ([Value.int .i64 s] ++ ([Value.string ByteArray.empty, Value.int .i64 0] ++ (byteVals zero32 ++ (byteVals zero32 ++ (byteVals zero32 ++ [Value.int .i64 0, Value.int .i64 0]))))) : List Value) = [Value.int .i64 k, Value.int .i64 s] ++ ([Value.string ByteArray.empty] ++ ([Value.int .i64 0] ++ (byteVals zero32 ++ (byteVals zero32 ++ (byteVals zero32 ++ [Value.int .i64 0, Value.int .i64 0]))))) from rfl, fill_mid (off := 2) (n := 1) (V := [Value.string d]) rfl rfl rfl rfl rfl]
  rw [show ([Value.int .i64 k, Value.int .i64 s] ++ ([Value.string d] ++ ([Value.int .i64 0] ++ (byteVals zero32 ++ (byteVals zero32 ++ (byteVals zero32 ++ [Value.int .i64 0, Value.int .i64 0]))))) : List Value) = [Value.int .i64 k, Value.int .i64 s, Value.string d] ++ ([Value.int .i64 0] ++ (byteVals zero32 ++ (byteVals zero32 ++ (byteVals zero32 ++ [Value.int .i64 0, Value.int .i64 0])))) from rfl, fill_mid (off := 3) (n := 1) (V := [Value.int .i64 n]) rfl rfl rfl rfl rfl]
  rw [show ([Value.int .i64 k, Value.int .i64 s, Value.string d] ++ ([Value.int .i64 n] ++ (byteVals zero32 ++ (byteVals zero32 ++ (byteVals zero32 ++ [Value.int .i64 0, Value.int .i64 0])))) : List Value) = [Value.int .i64 k, Value.int .i64 s, Value.string d, Value.int .i64 n] ++ (byteVals zero32 ++ (byteVals zero32 ++ (byteVals zero32 ++ [Value.int .i64 0, Value.int .i64 0]))) from rfl, fill_mid (off := 4) (n := 32) (V := byteVals a) rfl rfl la rfl z32]
  rw [← List.append_assoc, fill_mid (off := 36) (n := 32) (V := byteVals b) rfl rfl lb (by simp [la]) z32]
  rw [← List.append_assoc, fill_mid (off := 68) (n := 32) (V := byteVals c) rfl rfl lc (by simp [la, lb]) z32]
  rw [Instr.fill]
  simp [rcV]
end Go.Proofs.YtinpenoeohejoaaGreatDoor

namespace Go.Proofs.YtinpenoeohejoaaGreatDoor
open Go.RowKit
set_option maxRecDepth 100000

theorem textL_len {x : Rc} (hx : x.ok) : (textL x).length ≤ 400 + x.draw.size := by
  have h := bodyL_len hx
  have hp := pairL_len (a := x.r) (b := x.s) hx.2.2.2.2.2.2.1 hx.2.2.2.2.2.2.2
  unfold textL
  rw [List.length_append, List.length_cons]
  omega
theorem join_text (x : Rc) (a b : ByteArray) (ha : bs a = pairL x.r x.s) (hb : bs b = bodyL x) : Lib.join ([a, b].map bs) [32] = textL x := by
  simp only [List.map_cons, List.map_nil, ha, hb, Lib.join, textL]
  simp [List.intercalate]
theorem RcAt.two {w : World} {g : Nat} {x : Rc} (h : RcAt w g x) (hx : x.ok) : w.cell? ⟨g, 100, none⟩ = some (.int .i64 x.r) ∧ w.cell? ⟨g, 101, none⟩ = some (.int .i64 x.s) ∧ w.rangeAt g 0 (rcV x) := ⟨(h.sig hx).1, (h.sig hx).2, h.all⟩
theorem rc_box (w : World) (x : Rc) (C : Array Value) (hC : C = (rcV x).toArray) : RcAt (w.alloc (.cells C 41)) w.heap.size x := by
  rw [hC]
  exact heap_alloc_new w _

set_option maxHeartbeats 4000000 in
theorem text22_any (x : Rc) (hx : x.ok) (hd : x.draw.size ≤ 1000000000) (w : World) (htab : Tabs w) : Calls Tryz.prog 14 #[.agg (rcV x).toArray] w (MkS (textL x) w) := by
  have r0 := (rc_box w x _ rfl).upd (Upd.refl _ _).drew
  have u0 : Upd [] [] w (w.alloc (.cells (rcV x).toArray 41)).drew := ((Upd.refl _ _).alloc _).drew
  obtain ⟨C, hC⟩ : ∃ C, C = (rcV x).toArray := ⟨_, rfl⟩
  rw [← hC] at r0 u0 ⊢
  clear hC
  obtain ⟨_, _, _, _, _, _, h7, h8⟩ := id hx
  have hi := rcInfo hx
  have hu33 := Tryz.underlying41
  have HK := Lib.hid (fun (W : World) (r : RcAt W w.heap.size x) => r.two hx)
  obtain ⟨k0, k1, k2⟩ := r0.two hx
  have lb := bodyL_len hx
  go_enter Tryz.func14, Tryz.ntmps14
  go_wp2_with fail
  refine wp_region_noPanic ?_
  refine wp_region_held_drew (S := fun wp => wp.cell? ⟨w.heap.size, 100, none⟩ = some (.int .i64 x.r) ∧ wp.cell? ⟨w.heap.size, 101, none⟩ = some (.int .i64 x.s) ∧ wp.rangeAt w.heap.size 0 (rcV x)) (by kernel_rfl) ?_ (fun hHeld => ?_)
  · exact HK.out _ r0
  refine tkY 0 hHeld ?_
  refine tkY 1 hHeld ?_
  refine wpAnyH_take (i := 3) (v := .agg (rcV x).toArray) (by simp only [List.getElem?_toArray, List.getElem?_cons_succ, List.getElem?_cons_zero] <;> rfl) (by kernel_rfl) (by kernel_rfl) (by kernel_rfl) (fun _ _ _ h => h) (yieldsIf_load_mid (by rfl) _ _ rfl _ _ rfl (rcV x) _ (fun w hSw => hSw.2.2) hu33 rfl hi) hHeld ?_
  try simp only [Act.put, List.setIfInBounds_toArray, List.set_cons_zero, List.set_cons_succ]
  refine wpAnyH_ready (rs := [2]) (by kernel_rfl) (by simp) ?_
  refine AllReadyH.cons (by simp only [List.getElem?_toArray, List.getElem?_cons_succ, List.getElem?_cons_zero] <;> rfl) (fun K hK => ?_) ?_
  · go_simp; refine (text_any x.r x.s _ h7 h8 (htab.upd u0)).mono ?_; rintro e w1 ⟨y1, HY1, hy1, rfl, hq⟩; have r1 := r0.upd hq; have u1 := u0.trans hq; clear hq; go_wp2_with fail
    refine hK.out _ _ ?_ (fun hHeld => ?_)
    · exact HK.out _ r1
    clear hK K
    try simp only [Act.put, List.setIfInBounds_toArray, List.set_cons_zero, List.set_cons_succ]
    refine wpAnyH_ready (rs := [4]) (by kernel_rfl) (by simp) ?_
    refine AllReadyH.cons (by simp only [List.getElem?_toArray, List.getElem?_cons_succ, List.getElem?_cons_zero] <;> rfl) (fun K hK => ?_) ?_
    · go_simp; refine (body_any x hx hd _ (htab.upd u1)).mono ?_; rintro e w2 ⟨y2, HY2, hy2, rfl, hq⟩; have r2 := r1.upd hq; have u2 := u1.trans hq; clear hq; go_wp2_with fail
      refine hK.out _ _ ?_ (fun hHeld => ?_)
      · exact HK.out _ r2
      clear hK K
      try simp only [Act.put, List.setIfInBounds_toArray, List.set_cons_zero, List.set_cons_succ]
      refine wpAnyH_ready (rs := [5]) (by kernel_rfl) (by simp) ?_
      refine AllReadyH.cons (by simp only [List.getElem?_toArray, List.getElem?_cons_succ, List.getElem?_cons_zero] <;> rfl) (fun K hK => ?_) ?_
      · go_simp
        refine hK.out _ _ ?_ (fun hHeld => ?_)
        · exact HK.out _ (r2.upd ((Upd.refl [] _).alloc _))
        clear hK K
        try simp only [Act.put, List.setIfInBounds_toArray, List.set_cons_zero, List.set_cons_succ]
        refine wpAnyH_ready (rs := [6]) (by kernel_rfl) (by simp) ?_
        refine AllReadyH.cons (by simp only [List.getElem?_toArray, List.getElem?_cons_succ, List.getElem?_cons_zero] <;> rfl) (fun K hK => ?_) ?_
        · go_simp; refine (join_any _ 2 [y1, y2] _ (strsIn_new w2 [y1, y2] 9) (Nat.le_refl 2) (by show 2 ≤ 1000; omega) (by rw [join_text x y1 y2 HY1.out HY2.out]; exact Nat.le_trans (textL_len hx) (by omega))).mono ?_; rintro e w3 ⟨z, HZ, hz, rfl, hq⟩; have r3 := r2.upd (((Upd.refl [] _).alloc _).trans hq); have u3 := u2.trans (((Upd.refl [] _).alloc _).trans hq); clear hq; go_wp2_with fail
          refine hK.out _ _ ?_ (fun hHeld => ?_)
          · exact HK.out _ r3
          clear hK K
          try simp only [Act.put, List.setIfInBounds_toArray, List.set_cons_zero, List.set_cons_succ]
          refine tkY 7 hHeld ?_
          refine wpAnyH_done (by kernel_rfl) ?_ _
          refine NoPanic.normal ?_
          go_wp2_with fail
          go_ret
          have hz2 := HZ.out
          rw [join_text x y1 y2 HY1.out HY2.out] at hz2 hz
          exact ⟨z, hz2, hz, rfl, u3⟩
        exact AllReadyH.nil
      exact AllReadyH.nil
    exact AllReadyH.nil
  exact AllReadyH.nil

set_option maxHeartbeats 4000000 in
theorem verify22_any (p : Int) (x : Rc) (hp : i64in p) (hx : x.ok) (hd : x.draw.size ≤ 1000000000) (w : World) (htab : Tabs w) : Calls Tryz.prog 131 #[.int .i64 p, .agg (rcV x).toArray] w (fun e w' => e = .returned (.bool (verB p (bodyL x) x.r x.s)) ∧ Upd [] [] w w') := by
  have r0 := (rc_box w x _ rfl).upd (Upd.refl _ _).drew
  have u0 : Upd [] [] w (w.alloc (.cells (rcV x).toArray 41)).drew := ((Upd.refl _ _).alloc _).drew
  obtain ⟨C, hC⟩ : ∃ C, C = (rcV x).toArray := ⟨_, rfl⟩
  rw [← hC] at r0 u0 ⊢
  clear hC
  obtain ⟨_, _, _, _, _, _, h7, h8⟩ := id hx
  have hi := rcInfo hx
  have hu33 := Tryz.underlying41
  have HK := Lib.hid (fun (W : World) (r : RcAt W w.heap.size x) => r.two hx)
  obtain ⟨k0, k1, k2⟩ := r0.two hx
  have lb := bodyL_len hx
  go_enter Tryz.func131, Tryz.ntmps131
  go_wp2_with fail
  refine wp_region_noPanic ?_
  refine wp_region_held_drew (S := fun wp => wp.cell? ⟨w.heap.size, 100, none⟩ = some (.int .i64 x.r) ∧ wp.cell? ⟨w.heap.size, 101, none⟩ = some (.int .i64 x.s) ∧ wp.rangeAt w.heap.size 0 (rcV x)) (by kernel_rfl) ?_ (fun hHeld => ?_)
  · exact HK.out _ r0
  refine tkY 0 hHeld ?_
  refine wpAnyH_take (i := 1) (v := .agg (rcV x).toArray) (by simp only [List.getElem?_toArray, List.getElem?_cons_succ, List.getElem?_cons_zero] <;> rfl) (by kernel_rfl) (by kernel_rfl) (by kernel_rfl) (fun _ _ _ h => h) (yieldsIf_load_mid (by rfl) _ _ rfl _ _ rfl (rcV x) _ (fun w hSw => hSw.2.2) hu33 rfl hi) hHeld ?_
  try simp only [Act.put, List.setIfInBounds_toArray, List.set_cons_zero, List.set_cons_succ]
  refine tkY 3 hHeld ?_
  refine tkY 4 hHeld ?_
  refine wpAnyH_ready (rs := [2]) (by kernel_rfl) (by simp) ?_
  refine AllReadyH.cons (by simp only [List.getElem?_toArray, List.getElem?_cons_succ, List.getElem?_cons_zero] <;> rfl) (fun K hK => ?_) ?_
  · go_simp; refine (body_any x hx hd _ (htab.upd u0)).mono ?_; rintro e w1 ⟨y1, HY1, hy1, rfl, hq⟩; have r1 := r0.upd hq; have u1 := u0.trans hq; clear hq; go_wp2_with fail
    refine hK.out _ _ ?_ (fun hHeld => ?_)
    · exact HK.out _ r1
    clear hK K
    try simp only [Act.put, List.setIfInBounds_toArray, List.set_cons_zero, List.set_cons_succ]
    refine wpAnyH_ready (rs := [5]) (by kernel_rfl) (by simp) ?_
    refine AllReadyH.cons (by simp only [List.getElem?_toArray, List.getElem?_cons_succ, List.getElem?_cons_zero] <;> rfl) (fun K hK => ?_) ?_
    · go_simp; refine (verify_is p y1 x.r x.s _ _ hp h7 h8 (by omega) (htab.upd u1) rfl).mono ?_; rintro e w2 ⟨rfl, hq⟩; have r2 := r1.upd hq; have u2 := u1.trans hq; clear hq; go_wp2_with fail
      refine hK.out _ _ ?_ (fun hHeld => ?_)
      · exact HK.out _ r2
      clear hK K
      try simp only [Act.put, List.setIfInBounds_toArray, List.set_cons_zero, List.set_cons_succ]
      refine tkY 6 hHeld ?_
      refine wpAnyH_done (by kernel_rfl) ?_ _
      refine NoPanic.normal ?_
      go_wp2_with fail
      go_ret
      exact ⟨by rw [HY1.out]; rfl, u2⟩
    exact AllReadyH.nil
  exact AllReadyH.nil

end Go.Proofs.YtinpenoeohejoaaGreatDoor

namespace Go.Proofs.YtinpenoeohejoaaGreatDoor
open Go.RowKit
set_option maxRecDepth 100000

theorem rcSz {x : Rc} (h : x.ok) : (Tryz.prog.info? 41).map (·.size) = some (rcV x).toArray.size := by
  rw [rcInfo h]
  simp
theorem sha_len (s : List UInt8) : (sha s).length = 32 := by unfold sha; rw [outS_length]

set_option maxHeartbeats 2000000 in
theorem hash22_any (x : Rc) (hx : x.ok) (hd : x.draw.size ≤ 1000000000) (w : World) (htab : Tabs w) : Calls Tryz.prog 68 #[.agg (rcV x).toArray] w (Mk (.agg (byteVals (sha (textL x))).toArray) w) := by
  have r0 : RcAt ((w.alloc (.cells (rcV x).toArray 41)).alloc (.cells (byteVals zero32).toArray 37)) w.heap.size x := (rc_box w x _ rfl).upd ((Upd.refl _ _).alloc _)
  have s0 : AB 37 ((w.alloc (.cells (rcV x).toArray 41)).alloc (.cells (byteVals zero32).toArray 37)) (w.heap.size + 1) zero32 := by
    have h := heap_alloc_new (w.alloc (.cells (rcV x).toArray 41)) (.cells (byteVals zero32).toArray 37)
    rw [World.size_alloc] at h
    exact h
  have u0 : Upd [] [] w ((w.alloc (.cells (rcV x).toArray 41)).alloc (.cells (byteVals zero32).toArray 37)) := ((Upd.refl _ _).alloc _).alloc _
  have HS := Lib.hid (rcSz hx)
  have HCT := Lib.hid (text22_any x hx hd _ (htab.upd u0))
  have lb := textL_len hx
  obtain ⟨C, hC⟩ : ∃ C, C = (rcV x).toArray := ⟨_, rfl⟩
  rw [← hC] at r0 u0 s0 HS HCT ⊢
  have HR : Hid (((w.alloc (.cells C 41)).alloc (.cells (byteVals zero32).toArray 37)).heap[w.heap.size]? = some (.cells C 41 (0, 0))) := by
    show _ = _
    rw [hC] at r0 ⊢
    exact r0
  clear hC
  have HZ := Lib.hid s0
  clear r0 s0
  go_enter Tryz.func68, Tryz.ntmps68
  go_wp2_with (first | (refine wpList_load_row rfl 41 _ rfl w.heap.size rfl _ C _ _ HR.out Tryz.underlying41 rfl HS.out ?_))
  refine HCT.out.mono ?_
  rintro e w1 ⟨y, HY, hy, rfl, hq⟩
  have u1 := u0.trans hq
  have HZ1 := Lib.hid (HZ.out.upd hq)
  clear hq HCT HR
  go_wp2_with fail
  refine (sum_any y w1 (by omega) (htab.upd u1)).mono ?_
  rintro e w2 ⟨rfl, hq⟩
  have u2 := u1.trans hq
  have HZ2 := Lib.hid (HZ1.out.upd hq)
  obtain ⟨D, hD⟩ : ∃ D, D = sha (bs y) := ⟨_, rfl⟩
  have hDl : D.length = 32 := by rw [hD]; exact sha_len _
  have HDL := Lib.hid hDl
  have HDE := Lib.hid hD
  rw [← hD]
  clear hq hD hDl
  go_wp2_with (first | (refine wpList_store_row rfl 37 _ _ rfl (w.heap.size + 1) (byteVals D).toArray rfl rfl _ _ HZ2.out (hashInfo HDL.out) (by simp [byteVals, HDL.out, zero32]) (hashOne _) ?_))
  refine bodyPost_ret (results_cell_row rfl _ _ (w.heap.size + 1) _ (byteVals D).toArray _ _ rfl (HZ2.out.setRow D) Tryz.underlying37 rfl (hashInfo HDL.out)) rfl ⟨?_, u2.setRowNew (by omega) _⟩
  rw [HDE.out, HY.out]
end Go.Proofs.YtinpenoeohejoaaGreatDoor

namespace Go.Proofs.YtinpenoeohejoaaGreatDoor
open Go.RowKit
set_option maxRecDepth 100000

theorem rcV_sig {x : Rc} (h : x.ok) (r s : Int) : ((rcV x).set 100 (.int .i64 r)).set 101 (.int .i64 s) = rcV { x with r := r, s := s } := by
  obtain ⟨_, _, _, h1, h2, h3, _⟩ := h
  have l1 : (byteVals x.out).length = 32 := by rw [byteVals_length, h1]
  have l2 : (byteVals x.hash).length = 32 := by rw [byteVals_length, h2]
  have l3 : (byteVals x.prev).length = 32 := by rw [byteVals_length, h3]
  have e : ∀ (r s : Int), rcV { x with r := r, s := s } = ([.int .i64 x.kiosk, .int .i64 x.serial, .string x.draw, .int .i64 x.seen] ++ byteVals x.out ++ byteVals x.hash ++ byteVals x.prev) ++ [.int .i64 r, .int .i64 s] := by
    intro r s
    simp [rcV]
  have hl : ([.int .i64 x.kiosk, .int .i64 x.serial, .string x.draw, .int .i64 x.seen] ++ byteVals x.out ++ byteVals x.hash ++ byteVals x.prev : List Value).length = 100 := by simp [l1, l2, l3]
  have e0 := e x.r x.s
  rw [show ({ x with r := x.r, s := x.s } : Rc) = x from rfl] at e0
  rw [e0, e r s, List.set_append_right _ _ (by omega), hl, List.set_append_right _ _ (by omega), hl]
  rfl
def printR (k s n : Int) (d : ByteArray) (a b c : List UInt8) (x : Int) : Rc :=
  ⟨k, s, n, d, a, b, c, (gP (nonceN (expN x) (bodyL ⟨k, s, n, d, a, b, c, 0, 0⟩)) : Int), (sWith (expN x) (nonceN (expN x) (bodyL ⟨k, s, n, d, a, b, c, 0, 0⟩)) (bodyL ⟨k, s, n, d, a, b, c, 0, 0⟩) : Int)⟩
theorem RcAt.sigs {w : World} {g : Nat} {x : Rc} (h : RcAt w g x) (hx : x.ok) (r s : Int) : RcAt ((w.setCell ⟨g, 100, none⟩ (.int .i64 r)).setCell ⟨g, 101, none⟩ (.int .i64 s)) g { x with r := r, s := s } := by
  have h1 := heap_setCell_same _ g 101 _ _ (.int .i64 s) (heap_setCell_same w g 100 _ _ (.int .i64 r) h)
  unfold RcAt
  rw [h1, ← rcV_sig hx r s]
  simp
theorem RcAt.frozen {w : World} {g : Nat} {x : Rc} (h : RcAt w g x) (j : Nat) : w.frozen? ⟨g, j, none⟩ = false := frozen_of_row _ _ _ _ _ h
theorem RcAt.setRow {w : World} {g : Nat} {x : Rc} (h : RcAt w g x) (y : Rc) : RcAt (w.setRow g (rcV y).toArray) g y := setRow_heap w g _ _ _ _ h

theorem row_otherE {w : World} {g L j : Nat} {o : Obj} (h : w.heap[g]? = some o) (n : g ≠ L) (v : Value) : (w.setCell ⟨L, j, none⟩ v).heap[g]? = some o := by
  rw [((Upd.refl [L] w).setCell (p := ⟨L, j, none⟩) (by simp) v).block g (Array.getElem?_eq_some_iff.1 h).1 (by simpa using n)]
  exact h

set_option maxHeartbeats 4000000 in
theorem print22_any (k x s n : Int) (d : ByteArray) (a b c : List UInt8) (hk : i64in k) (hx : i64in x) (hs : i64in s) (hn : i64in n) (hd : d.size ≤ 1000000000) (ha : a.length = 32) (hb : b.length = 32) (hc : c.length = 32) (w : World) (htab : Tabs w) :
    Calls Tryz.prog 69 #[.int .i64 k, .int .i64 x, .int .i64 s, .string d, .int .i64 n, .agg (byteVals a).toArray, .agg (byteVals b).toArray, .agg (byteVals c).toArray] w (Mk (.agg (rcV (printR k s n d a b c x)).toArray) w) := by
  obtain ⟨X, hX⟩ : ∃ X : Rc, X = ⟨k, s, n, d, a, b, c, 0, 0⟩ := ⟨_, rfl⟩
  have hXo : X.ok := by rw [hX]; exact ⟨hk, hs, hn, ha, hb, hc, ⟨show (-9223372036854775808 : Int) ≤ 0 by decide, show (0 : Int) ≤ 9223372036854775807 by decide⟩, ⟨show (-9223372036854775808 : Int) ≤ 0 by decide, show (0 : Int) ≤ 9223372036854775807 by decide⟩⟩
  have hXd : X.draw.size ≤ 1000000000 := by rw [hX]; exact hd
  have hP : printR k s n d a b c x = { X with r := (gP (nonceN (expN x) (bodyL X)) : Int), s := (sWith (expN x) (nonceN (expN x) (bodyL X)) (bodyL X) : Int) } := by rw [hX]; rfl
  have HP := Lib.hid hP
  clear hP
  have hbd := built_print k s n d a b c ha hb hc
  rw [← hX] at hbd
  obtain ⟨A, hA⟩ : ∃ A, A = (byteVals a).toArray := ⟨_, rfl⟩
  obtain ⟨B, hB⟩ : ∃ B, B = (byteVals b).toArray := ⟨_, rfl⟩
  obtain ⟨C, hC⟩ : ∃ C, C = (byteVals c).toArray := ⟨_, rfl⟩
  have hA0 : A.size = 32 := by rw [hA]; simp [byteVals, ha]
  have hB0 : B.size = 32 := by rw [hB]; simp [byteVals, hb]
  have hC0 : C.size = 32 := by rw [hC]; simp [byteVals, hc]
  rw [← hA, ← hB, ← hC] at hbd ⊢
  clear hA hB hC hX
  have IA : Hid ((Tryz.prog.info? 37).map (·.size) = some A.size) := by show _ = _; rw [hA0]; kernel_rfl
  have IB : Hid ((Tryz.prog.info? 37).map (·.size) = some B.size) := by show _ = _; rw [hB0]; kernel_rfl
  have IC : Hid ((Tryz.prog.info? 37).map (·.size) = some C.size) := by show _ = _; rw [hC0]; kernel_rfl
  clear hA0 hB0 hC0
  obtain ⟨Z, hZ⟩ : ∃ Z, Z = Tryz.zeroCells41 := ⟨_, rfl⟩
  have hZr : Z = (rcV Rc.zero).toArray := by rw [hZ]; rfl
  have ra : ((((w.alloc (.cells A 37)).alloc (.cells B 37)).alloc (.cells C 37)).alloc (.cells Z 41)).heap[w.heap.size]? = some (.cells A 37 (0, 0)) :=
    row_updH (heap_alloc_new w (.cells A 37)) ((((Upd.refl [] _).alloc _).alloc _).alloc _)
  have rb : ((((w.alloc (.cells A 37)).alloc (.cells B 37)).alloc (.cells C 37)).alloc (.cells Z 41)).heap[w.heap.size + 1]? = some (.cells B 37 (0, 0)) := by
    have h := row_updH (heap_alloc_new (w.alloc (.cells A 37)) (.cells B 37)) (((Upd.refl [] _).alloc (.cells C 37)).alloc (.cells Z 41))
    rw [World.size_alloc] at h
    exact h
  have rc : ((((w.alloc (.cells A 37)).alloc (.cells B 37)).alloc (.cells C 37)).alloc (.cells Z 41)).heap[w.heap.size + 1 + 1]? = some (.cells C 37 (0, 0)) := by
    have h := row_updH (heap_alloc_new ((w.alloc (.cells A 37)).alloc (.cells B 37)) (.cells C 37)) ((Upd.refl [] _).alloc (.cells Z 41))
    rw [World.size_alloc, World.size_alloc] at h
    exact h
  have rz : ((((w.alloc (.cells A 37)).alloc (.cells B 37)).alloc (.cells C 37)).alloc (.cells Z 41)).heap[w.heap.size + 1 + 1 + 1]? = some (.cells Z 41 (0, 0)) := by
    have h := heap_alloc_new (((w.alloc (.cells A 37)).alloc (.cells B 37)).alloc (.cells C 37)) (.cells Z 41)
    rw [World.size_alloc, World.size_alloc, World.size_alloc] at h
    exact h
  have u4 : Upd [] [] w ((((w.alloc (.cells A 37)).alloc (.cells B 37)).alloc (.cells C 37)).alloc (.cells Z 41)) := (((((Upd.refl _ _).alloc _).alloc _).alloc _).alloc _)
  have hs4 : ((((w.alloc (.cells A 37)).alloc (.cells B 37)).alloc (.cells C 37)).alloc (.cells Z 41)).heap.size = w.heap.size + 1 + 1 + 1 + 1 := by simp
  obtain ⟨w4, hw4⟩ : ∃ w4, ((((w.alloc (.cells A 37)).alloc (.cells B 37)).alloc (.cells C 37)).alloc (.cells Z 41)) = w4 := ⟨_, rfl⟩
  rw [hw4] at ra rb rc rz u4 hs4
  have RA := Lib.hid ra
  have RB := Lib.hid rb
  have RC := Lib.hid rc
  have RZ := Lib.hid rz
  clear ra rb rc rz
  obtain ⟨R, hR⟩ : ∃ R, R = (rcV X).toArray := ⟨_, rfl⟩
  rw [← hR] at hbd
  have HBD := Lib.hid hbd
  clear hbd
  have HR := Lib.hid hR
  clear hR
  have rz5 : Hid ((w4.alloc (.cells Z 41)).heap[w4.heap.size]? = some (.cells Z 41 (0, 0))) := heap_alloc_new w4 (.cells Z 41)
  have r6 : RcAt ((w4.alloc (.cells Z 41)).setRow w4.heap.size R) w4.heap.size X := by
    rw [HR.out]
    exact setRow_heap _ _ _ _ _ _ rz5.out
  have R6 : Hid (((w4.alloc (.cells Z 41)).setRow w4.heap.size R).heap[w4.heap.size]? = some (.cells R 41 (0, 0))) := setRow_heap _ _ _ _ _ _ rz5.out
  have u6 : Upd [] [] w4 ((w4.alloc (.cells Z 41)).setRow w4.heap.size R) := ((Upd.refl _ _).alloc _).setRowNew (Nat.le_refl _) _
  have HBC : Hid (∀ W, Tabs W → Calls Tryz.prog 40 #[.agg R] W (MkS (bodyL X) W)) := by
    intro W hW
    rw [HR.out]
    exact body_any X hXo hXd W hW
  have lbX := bodyL_len hXo
  have HRS : Hid ((Tryz.prog.info? 41).map (·.size) = some R.size) := by show _ = _; rw [HR.out]; exact rcSz hXo
  have HRZ : Hid (Z.size = R.size) := by show _ = _; rw [HR.out, hZr]; simp [rcV_len hXo, rcV_len Rc.zero_ok]
  have HR1 : Hid (R.all (·.oneCell') = true) := by show _ = _; rw [HR.out]; exact rcOne _
  have HZE := Lib.hid hZr
  subst hZ
  clear hZr hs4
  go_enter Tryz.func69, Tryz.ntmps69
  go_wp2_with (first | (refine wpList_buildTo rfl 41 _ rfl _ rfl R (Eq.trans (congrArg (fun z => Tryz.prog.built 41 z) (by kernel_rfl)) HBD.out) ?_) | (refine wpList_load_row rfl 37 _ rfl w.heap.size rfl _ A _ _ RA.out Tryz.underlying37 rfl IA.out ?_) | (refine wpList_load_row rfl 37 _ rfl (w.heap.size + 1) rfl _ B _ _ RB.out Tryz.underlying37 rfl IB.out ?_) | (refine wpList_load_row rfl 37 _ rfl (w.heap.size + 1 + 1) rfl _ C _ _ RC.out Tryz.underlying37 rfl IC.out ?_) | (refine wpList_store_row rfl 41 _ _ rfl w4.heap.size R rfl rfl _ _ rz5.out HRS.out HRZ.out HR1.out ?_) | (refine wpList_load_row rfl 41 _ rfl w4.heap.size rfl _ R _ _ R6.out Tryz.underlying41 rfl HRS.out ?_))
  have u6' := u4.trans u6
  refine (HBC.out _ (htab.upd u6')).mono ?_
  rintro e w7 ⟨y, HY, hy, rfl, hq⟩
  have r7 := r6.upd hq
  have u7 := u6'.trans hq
  have RZ7 := Lib.hid (row_updH RZ.out (u6.trans hq))
  have RZ4 := RZ
  have z7 : w4.heap.size < w7.heap.size := r7.lt
  clear hq r6 R6 rz5 u6 u6' RZ RA RB RC
  go_wp2_with fail
  refine (sign_any x y w7 (by unfold i64in at hx; omega) (by omega) (htab.upd u7)).mono ?_
  rintro e w8 ⟨g1, g2, HG1, HG2, hg1, hg2, rfl, hq⟩
  have r8 := r7.upd hq
  have u8 := u7.trans hq
  have RZ8 := Lib.hid (row_updH RZ7.out hq)
  clear hq RZ7
  obtain ⟨c0, c1⟩ := r8.sig hXo
  have f0 := r8.frozen 100
  have f1 := r8.frozen 101
  obtain ⟨Y, hY⟩ : ∃ Y : Rc, Y = { X with r := (g1 : Int), s := (g2 : Int) } := ⟨_, rfl⟩
  have hYo : Y.ok := by
    rw [hY]
    obtain ⟨o1, o2, o3, o4, o5, o6, _, _⟩ := hXo
    exact ⟨o1, o2, o3, o4, o5, o6, ⟨show (-9223372036854775808 : Int) ≤ (g1 : Int) by omega, show (g1 : Int) ≤ 9223372036854775807 by omega⟩, ⟨show (-9223372036854775808 : Int) ≤ (g2 : Int) by omega, show (g2 : Int) ≤ 9223372036854775807 by omega⟩⟩
  have r9 := r8.sigs hXo (g1 : Int) (g2 : Int)
  rw [← hY] at r9
  have hYE : rcV (printR k s n d a b c x) = rcV Y := by
    rw [HP.out, hY, HG1.out, HG2.out, HY.out]
  obtain ⟨M, hM⟩ : ∃ M, M = (rcV Y).toArray := ⟨_, rfl⟩
  have HYE : Hid (M = (rcV (printR k s n d a b c x)).toArray) := by show _ = _; rw [hM, hYE]
  have hMs : (Tryz.prog.info? 41).map (·.size) = some M.size := by rw [hM]; exact rcSz hYo
  have hMo : M.all (·.oneCell') = true := by rw [hM]; exact rcOne _
  have hMz : (Tryz.zeroCells41).size = M.size := by rw [hM, HZE.out]; simp [rcV_len hYo, rcV_len Rc.zero_ok]
  have hle := u4.size
  have hne : w.heap.size + 1 + 1 + 1 ≠ w4.heap.size := by
    have := (Array.getElem?_eq_some_iff.1 RZ4.out).1
    omega
  have R9 : Hid (((w8.setCell ⟨w4.heap.size, 100, none⟩ (.int .i64 (g1 : Int))).setCell ⟨w4.heap.size, 101, none⟩ (.int .i64 (g2 : Int))).heap[w4.heap.size]? = some (.cells M 41 (0, 0))) := by rw [hM]; exact r9
  have RZ9 : Hid (((w8.setCell ⟨w4.heap.size, 100, none⟩ (.int .i64 (g1 : Int))).setCell ⟨w4.heap.size, 101, none⟩ (.int .i64 (g2 : Int))).heap[w.heap.size + 1 + 1 + 1]? = some (.cells Tryz.zeroCells41 41 (0, 0))) := row_otherE (row_otherE RZ8.out hne _) hne _
  have u9 := (u8.setNew (p := ⟨w4.heap.size, 100, none⟩) hle (.int .i64 (g1 : Int))).setNew (p := ⟨w4.heap.size, 101, none⟩) hle (.int .i64 (g2 : Int))
  have HMS := Lib.hid hMs
  have HMO := Lib.hid hMo
  have HMZ := Lib.hid hMz
  have RF := setRow_heap _ _ _ M _ _ RZ9.out
  have RFH := Lib.hid RF
  clear hMs hMo hMz RF hM hYE r8 r9 RZ8 HP hY HG1 HG2 r7 HBC
  go_wp2_with (first | (refine wpList_load_row rfl 41 _ rfl w4.heap.size rfl _ M _ _ R9.out Tryz.underlying41 rfl HMS.out ?_) | (refine wpList_store_row rfl 41 _ _ rfl (w.heap.size + 1 + 1 + 1) M rfl rfl _ _ RZ9.out HMS.out HMZ.out HMO.out ?_))
  refine bodyPost_ret (results_cell_row rfl _ _ (w.heap.size + 1 + 1 + 1) _ M _ _ rfl RFH.out Tryz.underlying41 rfl HMS.out) rfl ⟨by rw [HYE.out], u9.setRowNew (by omega) _⟩
end Go.Proofs.YtinpenoeohejoaaGreatDoor
