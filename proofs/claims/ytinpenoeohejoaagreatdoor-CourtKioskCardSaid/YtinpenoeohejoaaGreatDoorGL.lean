/- kiosk.Batch. kiosk.Open on a disk without records. A kiosk whose power does not fail: contracts for the laws. -/
import Derived.Test.YtinpenoeohejoaaGreatDoorGZ
import Derived.Test.YtinpenoeohejoaaGreatDoorGK
import Derived.Lib.SliceRun
namespace Go.Proofs.YtinpenoeohejoaaGreatDoor
open Go.RowKit
set_option maxRecDepth 100000

section
variable {w0 wp w1 : World} {B kb jb b : Nat} {m m' : KM} {v : Value} {br : Bool} {D : DiskM} {F G : List UInt8} {rs : List (List UInt8)} {S S' T T' : List Nat}
def MkRow (l : List Rc) (w : World) (e : Ending) (w' : World) : Prop := ∃ (ao : Option Addr) (cap : Nat), Hid (RcsIn w' ao l) ∧ l.length ≤ cap ∧ e = .returned (.slice ao l.length cap) ∧ Upd [] [] w w'
def MkBat (k : Int) (l : List Rc) (w : World) (e : Ending) (w' : World) : Prop := ∃ (ao : Option Addr) (cap : Nat), Hid (RcsIn w' ao l) ∧ l.length ≤ cap ∧ e = .returned (.agg #[.int .i64 k, .slice ao l.length cap]) ∧ Upd [] [] w w'
theorem clone_nil (w : World) : Calls Tryz.prog 37 #[.slice none 0 0] w (MkRow [] w) := by
  have q := Lib.run_eql_slice_nil (P := Tryz.prog) w 33 41 none 0 0 0 0 Tryz.underlying33
  go_enter Tryz.func37, Tryz.ntmps37
  go_wp2_with fail
  go_ret
  exact ⟨none, 0, fun k x h => by simp at h, Nat.le_refl _, rfl, Upd.refl _ _⟩
theorem clone_any (g o : Nat) (l : List Rc) (cap : Nat) (w : World) (hl : l.length ≤ 1000000) (h : RcsIn w (some ⟨g, o, none⟩) l) : Calls Tryz.prog 37 #[.slice (some ⟨g, o, none⟩) l.length cap] w (MkRow l w) := by
  have HBE := Lib.hid (rcs_empty w)
  have uE : Upd [] [] w (w.alloc (.cells #[] 41)) := (Upd.refl _ _).alloc _
  obtain ⟨ao7, cap7, w7, HRN, HB7, hc7, hq7⟩ := rcs_copy (w.alloc (.cells #[] 41)) w.heap.size l (some ⟨g, o, none⟩) cap hl (h.upd uE)
  obtain ⟨n, hn⟩ : ∃ n, n = l.length := ⟨_, rfl⟩
  have HN := Lib.hid hn
  have HU := Lib.hid (uE.trans hq7)
  rw [← hn] at HRN hc7 ⊢
  clear hn uE hq7 h hl
  have q := Lib.run_eql_slice_nil (P := Tryz.prog) w 33 41 (some ⟨g, o, none⟩) n cap 0 0 Tryz.underlying33
  go_enter Tryz.func37, Tryz.ntmps37
  go_wp2_with (first | (refine wpList_buildRun rfl 33 0 _ rfl _ _ (Eq.trans (congrArg (fun z => (Instr.buildSlice 33 0 z).run Tryz.prog w) (by kernel_rfl)) HBE.out) ?_) | (refine wpList_append_run _ rfl _ _ _ _ rfl _ _ (.slice ao7 n cap7) w7 rfl rfl HRN.out ?_))
  go_ret
  exact ⟨ao7, cap7, HB7, by have := HN.out; omega, by rw [HN.out]; rfl, HU.out⟩
theorem rcsIn_drop {w : World} {g o : Nat} {l : List Rc} (h : RcsIn w (some ⟨g, o, none⟩) l) (k : Nat) : RcsIn w (some ⟨g, o + k * 102, none⟩) (l.drop k) := by
  intro j x hj
  rw [List.getElem?_drop] at hj
  obtain ⟨h1, h2, g', o', e, h3, h4⟩ := h (k + j) x hj
  injection e with e
  injection e with e1 e2
  subst e1 e2
  refine ⟨h1, h2, g, o + k * 102, rfl, h3, ?_⟩
  rw [show o + k * 102 + j * 102 = o + (k + j) * 102 by rw [Nat.add_mul]; omega]
  exact h4
theorem rcsIn_off {w : World} {g : Nat} {ao : Option Addr} {l : List Rc} {a c : Value} {T : TypeId} (h : RcsIn w ao l) (hg : w.heap[g]? = some (.cells #[a, c] T (0, 0))) (C : Array Value) : RcsIn (w.setRow g C) ao l := by
  intro k x hx
  obtain ⟨h1, h2, g', o, e, h3, h4⟩ := h k x hx
  refine ⟨h1, h2, g', o, e, by simpa using h3, ?_⟩
  have hne : g' ≠ g := by
    intro e
    subst e
    have hs : (rcV x)[3]? = some (.int .i64 x.seen) := by have := (rc_parts h1).2.2.2.2.2.2.2; rwa [List.getElem?_toArray] at this
    have := h4 3 _ hs
    rw [cell_of_row _ _ _ _ _ _ hg] at this
    simp at this
  intro j v hv
  rw [← h4 j v hv]
  exact World.cell?_of_block (a := ⟨g', o + k * 102 + j, none⟩) (setRow_other _ _ _ _ hne)
theorem bat_new (wp : World) : ∃ w1, wp.alloc (.cells #[.int .i64 0, .slice none 0 0] 50) = w1 ∧ Upd [] [] wp w1 ∧ w1.heap[wp.heap.size]? = some (.cells #[.int .i64 0, .slice none 0 0] 50 (0, 0)) := ⟨_, rfl, (Upd.refl _ _).alloc _, heap_alloc_new _ _⟩
set_option maxHeartbeats 2000000 in
theorem Batch_any (h : KBody wp kb jb m v br) (fr : Int) (k : Nat) (hfr : i64in fr) (hk : k ≤ m.rs.length) (hk1 : fr ≤ 1 → k = 0) (hk2 : 1 < fr → fr = (k : Int) + 1) : Calls Tryz.prog 13 #[.pointer (some ⟨kb, 0, none⟩), .int .i64 fr] wp (MkBat m.id (m.rs.drop k) wp) := by
  obtain ⟨w1, hw1, u1, r1⟩ := bat_new wp
  have h1 := h.quiet u1
  have hO := Lib.hid (isOpen_any h1)
  have hm := h.ok.many
  have hfr1 := hfr.1
  have hfr2 := hfr.2
  obtain ⟨n, hn⟩ : ∃ n, n = m.rs.length := ⟨_, rfl⟩
  rw [← hn] at hm hk
  have hkk : min (max fr 1 - 1) (n : Int) = (k : Int) := by
    by_cases e : fr ≤ 1
    · rw [hk1 e]; omega
    · rw [hk2 (by omega)]; omega
  have hmx : IntKind.i64.wrap (max fr 1 - 1) = max fr 1 - 1 := wrap_in (by omega) (by omega)
  have HKK := Lib.hid hkk
  have HN := Lib.hid hn
  have HW1 := Lib.hid hw1
  have HU1 := Lib.hid u1
  have R1 := Lib.hid r1
  have H0 := Lib.hid h
  have BI : Hid ((Tryz.prog.info? 50).map (·.size) = some 2) := by show _ = _; kernel_rfl
  obtain ⟨I, hI⟩ : ∃ I, I = m.id := ⟨_, rfl⟩
  have c1 := h1.c1
  have c3 := h1.c3
  rw [← hI] at c1 ⊢
  rcases h.own.2 with ⟨rfl, hn0⟩ | ⟨g, cap, cur, rfl, _, _, hcap, _⟩
  · obtain rfl : n = 0 := by omega
    obtain rfl : k = 0 := by omega
    have hnil : m.rs = [] := List.eq_nil_of_length_eq_zero hn0
    rw [hnil]
    have HC : Hid (∀ W, Calls Tryz.prog 37 #[.slice none 0 0] W (MkRow [] W)) := clone_nil
    have HK : Hid (∀ W : World, Upd [] [] wp W → W.cell? ⟨kb, 1, none⟩ = some (.int .i64 I) ∧ W.cell? ⟨kb, 3, none⟩ = some (.slice none 0 0)) := fun W u => ⟨by rw [hI]; exact (H0.out.quiet u).c1, (H0.out.quiet u).c3⟩
    clear hw1 u1 r1 h h1 hn hI hkk hk1 hk2 hnil hn0
    go_enter Tryz.func13, Tryz.ntmps13
    go_upto_region 1 with (fail)
    rw [HW1.out]
    go_upto_region 4 with (go_at_call 30; ((with_reducible refine hO.out.mono ?_); rintro e w' ⟨rfl, rfl⟩))
    rw [show min (max fr 1 - 1) (0 : Int) = 0 from HKK.out]
    clear c1 c3 hmx HKK
    have ud0 : Upd [] [] wp w1.drew := HU1.out.drew
    refine wp_region_noPanic ?_
    refine wp_region_held_drew (S := fun wp' => wp'.cell? ⟨kb, 1, none⟩ = some (.int .i64 I) ∧ wp'.cell? ⟨kb, 3, none⟩ = some (.slice none 0 0)) (by kernel_rfl) ?_ (fun hHeld => ?_)
    · exact HK.out _ ud0
    refine tkY 0 hHeld ?_
    refine tkY 1 hHeld ?_
    refine tkY 2 hHeld ?_
    refine tkY 3 hHeld ?_
    refine tkY 4 hHeld ?_
    refine tkY 5 hHeld ?_
    refine tkY 6 hHeld ?_
    refine tkY 7 hHeld ?_
    refine tkY 8 hHeld ?_
    refine tkY 9 hHeld ?_
    refine wpAnyH_ready (rs := [10]) (by kernel_rfl) (by simp) ?_
    refine AllReadyH.cons (by simp only [List.getElem?_toArray, List.getElem?_cons_succ, List.getElem?_cons_zero] <;> rfl) (fun K hK => ?_) ?_
    · go_simp; refine (HC.out _).mono ?_; rintro e w2 ⟨ao, cap2, HR, hc2, rfl, hq⟩; have hq' := (Upd.refl [] w1).drew.trans hq; have R2 := Lib.hid (row_updH R1.out hq'); have HU2 := Lib.hid (HU1.out.trans hq'); clear hq hq'; go_wp2_with fail
      refine hK.out _ _ ?_ (fun hHeld => ?_)
      · exact HK.out _ HU2.out
      clear hK K
      try simp only [Act.put, List.setIfInBounds_toArray, List.set_cons_zero, List.set_cons_succ]
      refine tkY 11 hHeld ?_
      refine wpAnyH_ready (rs := [12]) (by kernel_rfl) (by simp) ?_
      refine AllReadyH.cons (by simp only [List.getElem?_toArray, List.getElem?_cons_succ, List.getElem?_cons_zero] <;> rfl) (fun K hK => ?_) ?_
      · rw [if_pos (by rfl)]; refine wp_store_row 50 _ _ rfl wp.heap.size #[.int .i64 I, .slice ao 0 cap2] rfl rfl _ _ R2.out BI.out rfl (by simp [Value.oneCell']) ?_
        refine hK.out _ _ ?_ (fun hHeld => ?_)
        · exact HK.out _ (HU2.out.setRowNew (Nat.le_refl _) _)
        clear hK K
        try simp only [Act.put]
        refine wpAnyH_done (by kernel_rfl) ?_ _
        refine NoPanic.normal ?_
        go_wp2_with fail
        refine bodyPost_ret (results_cell_row rfl _ _ wp.heap.size _ #[.int .i64 I, .slice ao 0 cap2] _ _ rfl (setRow_heap _ _ _ _ _ _ R2.out) Tryz.underlying50 rfl BI.out) rfl ⟨ao, cap2, fun k x hx => by simp at hx, Nat.zero_le _, rfl, HU2.out.setRowNew (Nat.le_refl _) _⟩
      exact AllReadyH.nil
    exact AllReadyH.nil
  · have hcap2 : n ≤ cap := by omega
    have hin : RcsIn wp (some ⟨g, 0, none⟩) m.rs := by
      obtain ⟨ao, cap', hv, _, hi⟩ := h.slice
      injection hv with e1 e2 e3
      rw [e1]
      exact hi
    have hdl : (m.rs.drop k).length = n - k := by rw [List.length_drop, hn]
    have HC : Hid (∀ W, Upd [] [] wp W → Calls Tryz.prog 37 #[.slice (if cap = k then some ⟨g, 0, none⟩ else some ⟨g, k * 102, none⟩) (n - k) (cap - k)] W (MkRow (m.rs.drop k) W)) := by
      intro W u
      have hd := rcsIn_drop (hin.upd u) k
      rw [Nat.zero_add] at hd
      have this := clone_any g (k * 102) (m.rs.drop k) (cap - k) W (by rw [hdl]; omega) hd
      rw [hdl] at this
      by_cases e : cap = k
      · rw [if_pos e]
        have h0 : m.rs.drop k = [] := List.eq_nil_of_length_eq_zero (by rw [hdl]; omega)
        have that := clone_any g 0 (m.rs.drop k) (cap - k) W (by rw [hdl]; omega) (by rw [h0]; intro j x hx; simp at hx)
        rw [hdl] at that
        exact that
      · rw [if_neg e]
        exact this
    have HDL := Lib.hid hdl
    have HK : Hid (∀ W : World, Upd [] [] wp W → W.cell? ⟨kb, 1, none⟩ = some (.int .i64 I) ∧ W.cell? ⟨kb, 3, none⟩ = some (.slice (some ⟨g, 0, none⟩) n cap)) := fun W u => ⟨by rw [hI]; exact (H0.out.quiet u).c1, by rw [hn]; exact (H0.out.quiet u).c3⟩
    have k0 : (0 : Int) ≤ (k : Int) := by omega
    have k1 : (k : Int) ≤ (n : Int) := by omega
    have hl := Lib.hid hdl
    rw [← hn] at c3
    clear hw1 u1 r1 h h1 hn hI hkk hk1 hk2 hdl hin hcap
    by_cases hck : cap = k
    · rw [if_pos hck, show cap - k = 0 by omega] at HC
      go_enter Tryz.func13, Tryz.ntmps13
      go_upto_region 1 with (fail)
      rw [HW1.out]
      go_upto_region 4 with (go_at_call 30; ((with_reducible refine hO.out.mono ?_); rintro e w' ⟨rfl, rfl⟩))
      rw [show min (max fr 1 - 1) (n : Int) = (k : Int) from HKK.out]
      clear c1 c3 hmx HKK
      have ud0 : Upd [] [] wp w1.drew := HU1.out.drew
      refine wp_region_noPanic ?_
      refine wp_region_held_drew (S := fun wp' => wp'.cell? ⟨kb, 1, none⟩ = some (.int .i64 I) ∧ wp'.cell? ⟨kb, 3, none⟩ = some (.slice (some ⟨g, 0, none⟩) n cap)) (by kernel_rfl) ?_ (fun hHeld => ?_)
      · exact HK.out _ ud0
      refine tkY 0 hHeld ?_
      refine tkY 1 hHeld ?_
      refine tkY 2 hHeld ?_
      refine tkY 3 hHeld ?_
      refine tkY 4 hHeld ?_
      refine tkY 5 hHeld ?_
      refine tkY 6 hHeld ?_
      refine tkY 7 hHeld ?_
      refine tkY 8 hHeld ?_
      refine tkY 9 hHeld ?_
      refine wpAnyH_ready (rs := [10]) (by kernel_rfl) (by simp) ?_
      refine AllReadyH.cons (by simp only [List.getElem?_toArray, List.getElem?_cons_succ, List.getElem?_cons_zero] <;> rfl) (fun K hK => ?_) ?_
      · go_simp; refine (HC.out _ ud0).mono ?_; rintro e w2 ⟨ao, cap2, HR, hc2, rfl, hq⟩; rw [HDL.out] at hc2 ⊢; have hq' := (Upd.refl [] w1).drew.trans hq; have R2 := Lib.hid (row_updH R1.out hq'); have HU2 := Lib.hid (HU1.out.trans hq'); clear hq; go_wp2_with fail
        refine hK.out _ _ ?_ (fun hHeld => ?_)
        · exact HK.out _ HU2.out
        clear hK K
        try simp only [Act.put, List.setIfInBounds_toArray, List.set_cons_zero, List.set_cons_succ]
        refine tkY 11 hHeld ?_
        refine wpAnyH_ready (rs := [12]) (by kernel_rfl) (by simp) ?_
        refine AllReadyH.cons (by simp only [List.getElem?_toArray, List.getElem?_cons_succ, List.getElem?_cons_zero] <;> rfl) (fun K hK => ?_) ?_
        · rw [if_pos (by rfl)]; refine wp_store_row 50 _ _ rfl wp.heap.size #[.int .i64 I, .slice ao (n - k) cap2] rfl rfl _ _ R2.out BI.out rfl (by simp [Value.oneCell']) ?_
          refine hK.out _ _ ?_ (fun hHeld => ?_)
          · exact HK.out _ (HU2.out.setRowNew (Nat.le_refl _) _)
          clear hK K
          try simp only [Act.put]
          refine wpAnyH_done (by kernel_rfl) ?_ _
          refine NoPanic.normal ?_
          go_wp2_with fail
          refine bodyPost_ret (results_cell_row rfl _ _ wp.heap.size _ #[.int .i64 I, .slice ao (n - k) cap2] _ _ rfl (setRow_heap _ _ _ _ _ _ R2.out) Tryz.underlying50 rfl BI.out) rfl ⟨ao, cap2, ?_, by rw [HDL.out]; exact hc2, by rw [HDL.out], HU2.out.setRowNew (Nat.le_refl _) _⟩
          exact rcsIn_off HR.out R2.out _
        exact AllReadyH.nil
      exact AllReadyH.nil
    · rw [if_neg hck] at HC
      go_enter Tryz.func13, Tryz.ntmps13
      go_upto_region 1 with (fail)
      rw [HW1.out]
      go_upto_region 4 with (go_at_call 30; ((with_reducible refine hO.out.mono ?_); rintro e w' ⟨rfl, rfl⟩))
      rw [show min (max fr 1 - 1) (n : Int) = (k : Int) from HKK.out]
      clear c1 c3 hmx HKK
      have ud0 : Upd [] [] wp w1.drew := HU1.out.drew
      refine wp_region_noPanic ?_
      refine wp_region_held_drew (S := fun wp' => wp'.cell? ⟨kb, 1, none⟩ = some (.int .i64 I) ∧ wp'.cell? ⟨kb, 3, none⟩ = some (.slice (some ⟨g, 0, none⟩) n cap)) (by kernel_rfl) ?_ (fun hHeld => ?_)
      · exact HK.out _ ud0
      refine tkY 0 hHeld ?_
      refine tkY 1 hHeld ?_
      refine tkY 2 hHeld ?_
      refine tkY 3 hHeld ?_
      refine tkY 4 hHeld ?_
      refine tkY 5 hHeld ?_
      refine tkY 6 hHeld ?_
      refine tkY 7 hHeld ?_
      refine tkY 8 hHeld ?_
      refine tkY 9 hHeld ?_
      refine wpAnyH_ready (rs := [10]) (by kernel_rfl) (by simp) ?_
      refine AllReadyH.cons (by simp only [List.getElem?_toArray, List.getElem?_cons_succ, List.getElem?_cons_zero] <;> rfl) (fun K hK => ?_) ?_
      · go_simp; refine (HC.out _ ud0).mono ?_; rintro e w2 ⟨ao, cap2, HR, hc2, rfl, hq⟩; rw [HDL.out] at hc2 ⊢; have hq' := (Upd.refl [] w1).drew.trans hq; have R2 := Lib.hid (row_updH R1.out hq'); have HU2 := Lib.hid (HU1.out.trans hq'); clear hq; go_wp2_with fail
        refine hK.out _ _ ?_ (fun hHeld => ?_)
        · exact HK.out _ HU2.out
        clear hK K
        try simp only [Act.put, List.setIfInBounds_toArray, List.set_cons_zero, List.set_cons_succ]
        refine tkY 11 hHeld ?_
        refine wpAnyH_ready (rs := [12]) (by kernel_rfl) (by simp) ?_
        refine AllReadyH.cons (by simp only [List.getElem?_toArray, List.getElem?_cons_succ, List.getElem?_cons_zero] <;> rfl) (fun K hK => ?_) ?_
        · rw [if_pos (by rfl)]; refine wp_store_row 50 _ _ rfl wp.heap.size #[.int .i64 I, .slice ao (n - k) cap2] rfl rfl _ _ R2.out BI.out rfl (by simp [Value.oneCell']) ?_
          refine hK.out _ _ ?_ (fun hHeld => ?_)
          · exact HK.out _ (HU2.out.setRowNew (Nat.le_refl _) _)
          clear hK K
          try simp only [Act.put]
          refine wpAnyH_done (by kernel_rfl) ?_ _
          refine NoPanic.normal ?_
          go_wp2_with fail
          refine bodyPost_ret (results_cell_row rfl _ _ wp.heap.size _ #[.int .i64 I, .slice ao (n - k) cap2] _ _ rfl (setRow_heap _ _ _ _ _ _ R2.out) Tryz.underlying50 rfl BI.out) rfl ⟨ao, cap2, ?_, by rw [HDL.out]; exact hc2, by rw [HDL.out], HU2.out.setRowNew (Nat.le_refl _) _⟩
          exact rcsIn_off HR.out R2.out _
        exact AllReadyH.nil
      exact AllReadyH.nil
end
end Go.Proofs.YtinpenoeohejoaaGreatDoor

namespace Go.Proofs.YtinpenoeohejoaaGreatDoor
open Go.RowKit
set_option maxRecDepth 100000

section
variable {w0 wp w1 : World} {B kb jb b : Nat} {m m' : KM} {v : Value} {br : Bool} {D : DiskM} {F G : List UInt8} {rs : List (List UInt8)} {S S' T T' : List Nat}
def OpenK (w0 : World) (B b : Nat) (D : DiskM) (F : List UInt8) (rs : List (List UInt8)) (S : List Nat) (m : KM) (n : Nat) (w : World) (e : Ending) (w' : World) : Prop :=
  ∃ kb jb S' v D', e = .returned (.tuple #[.pointer (some ⟨kb, 0, none⟩), .int .i64 0]) ∧ KSt w0 B kb jb b D' F rs S' m v w' ∧ Upd S (kF kb jb v S') w w' ∧ D'.failing = false ∧ D'.calls ≤ D.calls + n
theorem kq_built (jb : Nat) (id sec : Int) : Tryz.prog.built 97 [(0, .pointer (some ⟨jb, 0, none⟩)), (1, .int .i64 id), (2, .int .i64 sec)] = some (kqV jb (KM.new id sec 0) (.slice none 0 0) false).toArray := by kernel_rfl
theorem kst_new (id sec : Int) (hid : i64in id) (hsec : i64in sec) (h : JSt w0 B jb b D F rs S wp) : ∃ w1, wp.alloc (.cells (kqV jb (KM.new id sec 0) (.slice none 0 0) false).toArray 97) = w1 ∧ KSt w0 B wp.heap.size jb b D F rs S (KM.new id sec 0) (.slice none 0 0) w1 ∧ Upd (jb :: S) (kF wp.heap.size jb (.slice none 0 0) S) wp w1 := by
  have u : Upd [] [] wp (wp.alloc (.cells (kqV jb (KM.new id sec 0) (.slice none 0 0) false).toArray 97)) := (Upd.refl _ _).alloc _
  refine ⟨_, rfl, ⟨⟨heap_alloc_new _ _, World.ownsRow_nil _ _ _ _, by simp [foot, Value.ownBlock], KM.ok_new hid hsec (by decide)⟩, h.quiet u, fun hm => absurd (h.lt _ hm) (Nat.lt_irrefl _), fun x hx => by simp [foot, Value.ownBlock] at hx, h.size, fun x hx => by simp [foot, Value.ownBlock] at hx⟩, ?_⟩
  refine ⟨u.os, u.tape, u.output, u.size, fun k hk _ => u.block k hk (by simp), fun k hk => ?_⟩
  simp only [kF, foot, Value.ownBlock, Option.toList, List.nil_append, List.mem_cons] at hk
  rcases hk with rfl | hk
  · exact .inr (Nat.le_refl _)
  · exact .inl (by simpa using hk)
set_option maxHeartbeats 4000000 in
theorem Open_new (id sec : Int) (p : Nat) (hid : i64in id) (hsec : i64in sec) (hp : p ≤ 1000000000) (hd : DiskOk w0 B b D S wp) (hcl : JClean D []) (hf : D.failing = false) (hc : D.calls + 6 ≤ 65536) (_hu0 : Upd [] [] w0 wp) (htab : Tabs w0) (hB : B = w0.heap.size) :
    Calls Tryz.prog 7 #[.int .i64 id, .int .i64 sec, .int .i64 (p : Int), .pointer (some ⟨b, 0, none⟩)] wp (OpenK w0 B b D (frameL (recP p)) [recP p] S (KM.new id sec p) 5 wp) := by
  subst hB
  have i5 : i64in (p : Int) := by unfold i64in; omega
  have hoff : D.off = false := DiskM.off_of hf
  have HO := Lib.hid (Open_fine hd.at_ hcl (recsL_nil [] rfl) hoff (by omega) hd.above hd.below hd.size)
  have HF := Lib.hid hf
  have HC := Lib.hid hc
  have HI := Lib.hid hid
  have HS := Lib.hid hsec
  clear hd hcl hoff hc hf hid hsec
  go_enter Tryz.func7, Tryz.ntmps7
  go_wp2_with fail
  refine HO.out.mono ?_
  rintro e w2 ⟨jb, v, S2, rfl, st2, hv, hu2, hn2⟩
  obtain ⟨ao, cap, rfl, _, _⟩ := row_slice hv
  obtain ⟨w3, hw3, st3, hu3⟩ := kst_new id sec HI.out HS.out st2
  have HB := Lib.hid (kq_built jb id sec)
  obtain ⟨K, hK⟩ : ∃ K, K = (kqV jb (KM.new id sec 0) (.slice none 0 0) false).toArray := ⟨_, rfl⟩
  rw [← hK] at HB hw3
  have HW3 := Lib.hid hw3
  obtain ⟨kb, hkb⟩ : ∃ kb, kb = w2.heap.size := ⟨_, rfl⟩
  rw [← hkb] at st3 hu3
  have HK := Lib.hid hkb
  have ht3 := htab.upd st3.up
  have hIt : Hid (Calls Tryz.prog 27 #[.int .i64 (p : Int)] w3 (MkS (Lib.itoa (p : Int)) w3)) := itoa_any (p : Int) w3 i5 ht3
  have hKp : Hid (∀ (W : World) (y1 : ByteArray), Upd [] [] w3 W → bs y1 = Lib.itoa (p : Int) → Calls Tryz.prog 26 #[.pointer (some ⟨kb, 0, none⟩), .string (ByteArray.mk #[112, 97, 112, 101, 114, 32] ++ y1)] W (KeepTo w0 w0.heap.size kb jb b D.synced1.count [] [] (recP p) S2 (KM.new id sec 0) (.slice none 0 0) W)) := by
    intro W y1 u e1
    have k1 : y1.size ≤ 20 := by rw [← bs_length, e1]; exact itoa_len _ i5
    have e3 : bs (ByteArray.mk #[112, 97, 112, 101, 114, 32] ++ y1) = recP p := by
      rw [dBs_append, e1]
      rfl
    have k3 : (ByteArray.mk #[112, 97, 112, 101, 114, 32] ++ y1).size ≤ 100 := by
      simp only [ByteArray.size_append]
      show 6 + y1.size ≤ _
      omega
    have k4 := keep_any (st3.quiet u) (ByteArray.mk #[112, 97, 112, 101, 114, 32] ++ y1) (by have := HC.out; show D.calls + 1 + 4 ≤ _; omega) (by show 0 + (ByteArray.mk #[112, 97, 112, 101, 114, 32] ++ y1).size + 16 + 256 ≤ _; omega)
    rw [e3] at k4
    exact k4
  have HU3 : Hid (Upd S (kF kb jb (.slice none 0 0) S2) wp w3) := by
    show Upd _ _ _ _
    refine hu2.trans (hu3.mono (fun k hk => ?_) (fun k hk => .inl hk))
    simp only [List.mem_cons, List.mem_append] at hk ⊢
    rcases hk with hk | hk
    · exact .inl hk
    · exact .inr (.inr hk)
  clear st2 hv hu2 hn2 hw3 hK hkb st3 hu3 ht3 HO
  go_upto_region 8 with (first | (refine wpList_buildTo rfl 97 _ rfl _ rfl K (Eq.trans (congrArg (fun z => Tryz.prog.built 97 z) (by kernel_rfl)) HB.out) ?_))
  rw [HW3.out, ← HK.out]
  clear HW3 HB HK
  go_wp2_with fail
  refine hIt.out.mono ?_
  rintro e w4 ⟨y1, HY1, hy1, rfl, hq⟩
  have hs1 : y1.size ≤ 20 := Nat.le_trans hy1 (itoa_len _ i5)
  have HQ := Lib.hid hq
  clear hy1 hq hIt i5
  go_wp2_with fail
  refine (hKp.out w4 y1 HQ.out HY1.out).mono ?_
  rintro e w5 hpost
  rcases hpost with ⟨rfl, D', S', hst, hup, hf, hc'⟩ | ⟨rfl, D', S', _, _, hf, _⟩
  · have hst6 := hst.set (KM.new id sec p) 4 (.int .i64 (p : Int)) (KM.ok_new HI.out HS.out hp) rfl rfl
    have hfr := hst.body.free 4
    obtain ⟨cv4, hc4⟩ : ∃ cv4, w5.cell? ⟨kb, 4, none⟩ = some cv4 := ⟨_, hst.body.c4⟩
    have HFIN : Hid (OpenK w0 w0.heap.size b D (frameL (recP p)) [recP p] S (KM.new id sec p) 5 wp (.returned (.tuple #[.pointer (some ⟨kb, 0, none⟩), .int .i64 0])) (w5.setCell ⟨kb, 4, none⟩ (.int .i64 (p : Int)))) := by
      refine ⟨kb, jb, S', .slice none 0 0, D', rfl, hst6, ?_, hf.trans HF.out, by have : D.synced1.count.calls = D.calls + 1 := rfl; omega⟩
      have hset : Upd (kF kb jb (.slice none 0 0) S') (kF kb jb (.slice none 0 0) S') w5 (w5.setCell ⟨kb, 4, none⟩ (.int .i64 (p : Int))) := (Upd.refl _ _).setCell (p := ⟨kb, 4, none⟩) (by simp [kF]) _
      exact HU3.out.trans ((HQ.out.quiet (T := kF kb jb (.slice none 0 0) S2)).trans (hup.trans hset))
    clear hst hst6 hup hf hc' hKp HU3 HQ
    go_wp2_with fail
    go_ret2
    exact HFIN.out
  · exact absurd (hf.symm.trans (show D.synced1.count.failing = false from HF.out)) (by simp)
end
end Go.Proofs.YtinpenoeohejoaaGreatDoor

namespace Go.Proofs.YtinpenoeohejoaaGreatDoor
open Go.RowKit
set_option maxRecDepth 100000

structure Blk (w : World) (K : List Nat) (X : Nat) (o : Obj) : Prop where
  at_ : w.heap[X]? = some o
  off : X ∉ K
theorem Blk.upd {w w' : World} {K K' : List Nat} {X : Nat} {o : Obj} (h : Blk w K X o) (u : Upd K K' w w') : Blk w' K' X o :=
  ⟨(u.block X (blk_lt h.at_) h.off).trans h.at_, fun hm => by
    rcases u.new X hm with g | g
    · exact h.off g
    · have := blk_lt h.at_; omega⟩
theorem Blk.quiet {w w' : World} {K : List Nat} {X : Nat} {o : Obj} (h : Blk w K X o) (u : Upd [] [] w w') : Blk w' K X o := ⟨row_updH h.at_ u, h.off⟩
theorem Blk.nil {w : World} {X : Nat} {o : Obj} (h : w.heap[X]? = some o) : Blk w [] X o := ⟨h, by simp⟩
theorem Blk.ne {w : World} {K : List Nat} {X Y : Nat} {o : Obj} (h : Blk w K X o) (hy : Y ∈ K) : X ≠ Y := fun e => h.off (e ▸ hy)
structure KIn (w0 : World) (kb b : Nat) (m : KM) (n : Nat) (K : List Nat) (wp : World) : Prop where
  ex : ∃ jb D F rs S v, K = kF kb jb v S ∧ KSt w0 w0.heap.size kb jb b D F rs S m v wp ∧ D.failing = false ∧ D.calls ≤ 10 + 4 * n ∧ spaceL rs ≤ 500 * (n + 1)
section
variable {w0 wp w1 : World} {kb b n : Nat} {m : KM} {K : List Nat} {T T' : List Nat}
theorem KIn.up (h : KIn w0 kb b m n K wp) : Upd [] [] w0 wp := by
  obtain ⟨_, _, _, _, _, _, _, h, _⟩ := h.ex
  exact h.up
theorem KIn.ok (h : KIn w0 kb b m n K wp) : m.ok := by
  obtain ⟨_, _, _, _, _, _, _, h, _⟩ := h.ex
  exact h.body.ok
theorem KIn.lt (h : KIn w0 kb b m n K wp) : ∀ k, k ∈ K → k < wp.heap.size := by
  obtain ⟨_, _, _, _, _, _, rfl, h, _⟩ := h.ex
  exact h.lt
theorem KIn.above (h : KIn w0 kb b m n K wp) : Above w0.heap.size K := by
  obtain ⟨_, _, _, _, _, _, rfl, h, _⟩ := h.ex
  exact h.above
theorem KIn.mem (h : KIn w0 kb b m n K wp) : kb ∈ K := by
  obtain ⟨_, _, _, _, _, _, rfl, h, _⟩ := h.ex
  simp [kF]
theorem KIn.size (h : KIn w0 kb b m n K wp) : w0.heap.size ≤ wp.heap.size := h.up.size
theorem KIn.quiet (h : KIn w0 kb b m n K wp) (u : Upd [] [] wp w1) : KIn w0 kb b m n K w1 := by
  obtain ⟨jb, D, F, rs, S, v, hK, hs, r⟩ := h.ex
  exact ⟨⟨jb, D, F, rs, S, v, hK, hs.quiet u, r⟩⟩
theorem KIn.other (h : KIn w0 kb b m n K wp) (u : Upd T T' wp w1) (hT : Above w0.heap.size T) (hd : ∀ k, k ∈ K → k ∉ T) : KIn w0 kb b m n K w1 := by
  obtain ⟨jb, D, F, rs, S, v, rfl, hs, r⟩ := h.ex
  exact ⟨⟨jb, D, F, rs, S, v, rfl, hs.other u hT hd, r⟩⟩
theorem KIn.new {o : Obj} (h : KIn w0 kb b m n K wp) : Blk (wp.alloc o) K wp.heap.size o := ⟨heap_alloc_new _ _, fun hm => absurd (h.lt _ hm) (Nat.lt_irrefl _)⟩
theorem KIn.fresh (h : KIn w0 kb b m n K wp) {X : Nat} (hX : wp.heap.size ≤ X) : X ∉ K := fun hm => absurd (h.lt _ hm) (by omega)
theorem KIn.tabs (h : KIn w0 kb b m n K wp) (t : Tabs w0) : Tabs wp := t.upd h.up
theorem rec_sel_len {x : Rc} (hx : x.ok) (hd : x.draw.size ≤ 30) : (wSel ++ textL x).length ≤ 435 := by
  have := textL_len hx
  rw [List.length_append]
  show 5 + _ ≤ _
  omega
theorem rec_lrn_len (r : Nat) (hr : r ≤ 1000000000) (hs : List UInt8) (hl : hs.length = 32) : (recE (.lrn r hs)).length ≤ 100 := by
  have := itoa_len (r : Int) (by unfold i64in; omega)
  show (wLrn ++ (Lib.itoa (r : Int) ++ 32 :: hexL hs)).length ≤ _
  simp only [List.length_append, List.length_cons, hexL_len, hl]
  show 6 + _ ≤ _
  omega
theorem rec_pap_len (n : Nat) (hr : n ≤ 1000000000) : (recP n).length ≤ 30 := by
  have := itoa_len (n : Int) (by unfold i64in; omega)
  show (wPap ++ Lib.itoa (n : Int)).length ≤ _
  simp only [List.length_append]
  show 6 + _ ≤ _
  omega
theorem KIn.step {m' : KM} {jb : Nat} {D : DiskM} {F r : List UInt8} {rs : List (List UInt8)} {S : List Nat} {v : Value} {w' : World} (hf : D.failing = false) (hc : D.calls ≤ 10 + 4 * n) (hsp : spaceL rs ≤ 500 * (n + 1)) (hr : r.length ≤ 440)
    (h : KFine w0 w0.heap.size kb jb b D F rs r S m m' v wp w') : ∃ K', KIn w0 kb b m' (n + 1) K' w' ∧ Upd (kF kb jb v S) K' wp w' := by
  obtain ⟨D', S', v', hst, hup, hf', hc'⟩ := h
  exact ⟨_, ⟨⟨jb, D', _, _, S', v', rfl, hst, hf'.trans hf, by omega, by rw [spaceL_snoc]; omega⟩⟩, hup⟩
theorem KIn.fell {jb : Nat} {D : DiskM} {F r : List UInt8} {S : List Nat} {v : Value} {w' : World} (hf : D.failing = false) (h : KFell w0 w0.heap.size kb jb b D F r S m v wp w') : False := by
  obtain ⟨_, _, _, _, hf', _⟩ := h
  rw [hf] at hf'
  cases hf'
end
end Go.Proofs.YtinpenoeohejoaaGreatDoor
