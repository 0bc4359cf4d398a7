/- sorteslaw05.example: the weight of two votes. -/
import Derived.Test.YtkhodajdionaaaaGreatDoorWgtE
namespace Go.Proofs.YtkhodajdionaaaaGreatDoor
open Go.RowKit Go.Maps
set_option maxRecDepth 100000

theorem row_other {w : World} {g L j : Nat} {o : Obj} (h : w.heap[g]? = some o) (n : g ≠ L) (v : Value) : (w.setCell ⟨L, j, none⟩ v).heap[g]? = some o := by
  rw [((Upd.refl [L] w).setCell (p := ⟨L, j, none⟩) (by simp) v).block g (Array.getElem?_eq_some_iff.1 h).1 (by simpa using n)]
  exact h
theorem row_old {w : World} {g : Nat} {o : Obj} (h : w.heap[g]? = some o) (o' : Obj) : (w.alloc o').heap[g]? = some o := row_updW h ((Upd.refl [] w).alloc o')
/-- Members at their block. -/
theorem mems_block {w : World} {g : Nat} {l : List Mem} (h : w.heap[g]? = some (.cells (memVals l).toArray 81 (0, 0))) (ho : ∀ m ∈ l, m.ok) : MemsIn w (some ⟨g, 0, none⟩) l := by
  intro k m hk
  have cell : ∀ j, w.cell? ⟨g, k * 3 + j, none⟩ = (memVals l)[k * 3 + j]? := by
    intro j
    rw [cell_of_row _ _ _ _ _ _ h, List.getElem?_toArray]
  have at3 : ∀ (l : List Mem) (k : Nat) (m : Mem), l[k]? = some m → (memVals l)[k * 3]? = some (.int .i64 m.id) ∧ (memVals l)[k * 3 + 1]? = some (.int .i64 m.weight) ∧ (memVals l)[k * 3 + 2]? = some (.int .i64 m.pub) := by
    intro l
    clear h ho cell
    induction l with
    | nil => intro k m h; simp at h
    | cons a r ih =>
      intro k m h
      unfold memVals at ih ⊢
      rw [List.flatMap_cons]
      cases k with
      | zero => simp at h; subst h; exact ⟨rfl, rfl, rfl⟩
      | succ k =>
        have := ih k m (by simpa using h)
        rw [show (k + 1) * 3 = k * 3 + 3 from by omega]
        exact this
  obtain ⟨e0, e1, e2⟩ := at3 l k m hk
  exact ⟨ho m (List.mem_of_getElem? hk), g, rfl, (Array.getElem?_eq_some_iff.1 h).1, (cell 0).trans e0, (cell 1).trans e1, (cell 2).trans e2⟩
theorem votes_block {w : World} {g : Nat} {l : List VtV} (h : w.heap[g]? = some (.cells (voteVals l).toArray 54 (0, 0))) (ho : ∀ m ∈ l, m.ok) : VotesIn w (some ⟨g, 0, none⟩) l := by
  intro k m hk
  have cell : ∀ j, w.cell? ⟨g, k * 4 + j, none⟩ = (voteVals l)[k * 4 + j]? := by
    intro j
    rw [cell_of_row _ _ _ _ _ _ h, List.getElem?_toArray]
  have at4 : ∀ (l : List VtV) (k : Nat) (m : VtV), l[k]? = some m → (voteVals l)[k * 4]? = some (.int .i64 m.who) ∧ (voteVals l)[k * 4 + 1]? = some (.string m.text) ∧ (voteVals l)[k * 4 + 2]? = some (.int .i64 m.r) ∧ (voteVals l)[k * 4 + 3]? = some (.int .i64 m.s) := by
    intro l
    clear h ho cell
    induction l with
    | nil => intro k m h; simp at h
    | cons a r ih =>
      intro k m h
      unfold voteVals at ih ⊢
      rw [List.flatMap_cons]
      cases k with
      | zero => simp at h; subst h; exact ⟨rfl, rfl, rfl, rfl⟩
      | succ k =>
        have := ih k m (by simpa using h)
        rw [show (k + 1) * 4 = k * 4 + 4 from by omega]
        exact this
  obtain ⟨e0, e1, e2, e3⟩ := at4 l k m hk
  exact ⟨ho m (List.mem_of_getElem? hk), g, rfl, (Array.getElem?_eq_some_iff.1 h).1, (cell 0).trans e0, (cell 1).trans e1, (cell 2).trans e2, (cell 3).trans e3⟩

set_option maxHeartbeats 1000000 in
theorem example5_any (w : World) (htab : Tabs w) : Calls Tryz.prog 25 #[] w (TrueMk w) := by
  obtain ⟨w0, hw0⟩ : ∃ w0, (w.alloc (.cells #[.int .i64 1, .int .i64 3, .int .i64 0, .int .i64 2, .int .i64 5, .int .i64 0] 81)).alloc (.cells #[.int .i64 0, .int .i64 0] 28) = w0 := ⟨_, rfl⟩
  have hl0 : w0.heap[w.heap.size]? = some (.cells #[.int .i64 1, .int .i64 3, .int .i64 0, .int .i64 2, .int .i64 5, .int .i64 0] 81 (0, 0)) := by
    rw [← hw0]; exact row_old (heap_alloc_new w _) _
  have hs0 : w0.heap[w.heap.size + 1]? = some (.cells #[.int .i64 0, .int .i64 0] 28 (0, 0)) := by
    have := heap_alloc_new (w.alloc (.cells #[.int .i64 1, .int .i64 3, .int .i64 0, .int .i64 2, .int .i64 5, .int .i64 0] 81)) (.cells #[.int .i64 0, .int .i64 0] 28)
    rw [alloc_sizeW] at this
    rw [← hw0]; exact this
  have u0 : Upd [] [] w w0 := by rw [← hw0]; exact ((Upd.refl _ _).alloc _).alloc _
  go_enter Tryz.func25, Tryz.ntmps25
  go_wp2_with fail
  clear hw0
  refine (rkey_any ⟨#[97]⟩ w0 (by decide)).mono ?_
  rintro e w1 ⟨K0, Y0, HK0, HY0, hK0, hY0, rfl, hu1⟩
  have hl1 := row_updW hl0 hu1
  have hs1 := row_updW hs0 hu1
  have u1 := u0.trans hu1
  clear hl0 hs0 hu1 u0
  have f0 : w1.frozen? ⟨w.heap.size + 1, 0, none⟩ = false := frozen_of_row _ _ _ _ _ hs1
  have f1 : w1.frozen? ⟨w.heap.size, 2, none⟩ = false := frozen_of_row _ _ _ _ _ hl1
  have k0 : w1.cell? ⟨w.heap.size + 1, 0, none⟩ = some (.int .i64 0) := by rw [cell_of_row _ _ _ _ _ _ hs1]; rfl
  have k1 : w1.cell? ⟨w.heap.size, 2, none⟩ = some (.int .i64 0) := by rw [cell_of_row _ _ _ _ _ _ hl1]; rfl
  have hl2 := heap_setCell_same _ _ 2 _ _ (.int .i64 (Y0 : Int)) (row_other (j := 0) hl1 (by omega : w.heap.size ≠ w.heap.size + 1) (.int .i64 (K0 : Int)))
  have hs2 := row_other (j := 2) (heap_setCell_same _ _ 0 _ _ (.int .i64 (K0 : Int)) hs1) (by omega : w.heap.size + 1 ≠ w.heap.size) (.int .i64 (Y0 : Int))
  have u2 := (u1.setNew (p := ⟨w.heap.size + 1, 0, none⟩) (by show w.heap.size ≤ w.heap.size + 1; omega) (.int .i64 (K0 : Int))).setNew (p := ⟨w.heap.size, 2, none⟩) (Nat.le_refl _) (.int .i64 (Y0 : Int))
  clear hl1 hs1 u1
  go_wp2_with fail
  generalize (w1.setCell ⟨w.heap.size + 1, 0, none⟩ (.int .i64 (K0 : Int))).setCell ⟨w.heap.size, 2, none⟩ (.int .i64 (Y0 : Int)) = w2 at *
  refine (rkey_any ⟨#[98]⟩ w2 (by decide)).mono ?_
  rintro e w3 ⟨K1, Y1, HK1, HY1, hK1, hY1, rfl, hu3⟩
  have hl3 := row_updW hl2 hu3
  have hs3 := row_updW hs2 hu3
  have u3 := u2.trans hu3
  clear hl2 hs2 hu3 u2 f0 f1 k0 k1
  have f0 : w3.frozen? ⟨w.heap.size + 1, 1, none⟩ = false := frozen_of_row _ _ _ _ _ hs3
  have f1 : w3.frozen? ⟨w.heap.size, 5, none⟩ = false := frozen_of_row _ _ _ _ _ hl3
  have k0 : w3.cell? ⟨w.heap.size + 1, 1, none⟩ = some (.int .i64 0) := by rw [cell_of_row _ _ _ _ _ _ hs3]; rfl
  have k1 : w3.cell? ⟨w.heap.size, 5, none⟩ = some (.int .i64 0) := by rw [cell_of_row _ _ _ _ _ _ hl3]; rfl
  have hl4 := heap_setCell_same _ _ 5 _ _ (.int .i64 (Y1 : Int)) (row_other (j := 1) hl3 (by omega : w.heap.size ≠ w.heap.size + 1) (.int .i64 (K1 : Int)))
  have hs4 := row_other (j := 5) (heap_setCell_same _ _ 1 _ _ (.int .i64 (K1 : Int)) hs3) (by omega : w.heap.size + 1 ≠ w.heap.size) (.int .i64 (Y1 : Int))
  have u4 := (u3.setNew (p := ⟨w.heap.size + 1, 1, none⟩) (by show w.heap.size ≤ w.heap.size + 1; omega) (.int .i64 (K1 : Int))).setNew (p := ⟨w.heap.size, 5, none⟩) (Nat.le_refl _) (.int .i64 (Y1 : Int))
  have hl4' : (((w3.setCell ⟨w.heap.size + 1, 1, none⟩ (.int .i64 (K1 : Int))).setCell ⟨w.heap.size, 5, none⟩ (.int .i64 (Y1 : Int))).heap[w.heap.size]? = some (.cells #[.int .i64 1, .int .i64 3, .int .i64 (Y0 : Int), .int .i64 2, .int .i64 5, .int .i64 (Y1 : Int)] 81 (0, 0))) := hl4
  have hs4' : (((w3.setCell ⟨w.heap.size + 1, 1, none⟩ (.int .i64 (K1 : Int))).setCell ⟨w.heap.size, 5, none⟩ (.int .i64 (Y1 : Int))).heap[w.heap.size + 1]? = some (.cells #[.int .i64 (K0 : Int), .int .i64 (K1 : Int)] 28 (0, 0))) := hs4
  clear hl3 hs3 u3 hl4 hs4
  go_wp2_with fail
  clear f0 f1 k0 k1
  generalize (w3.setCell ⟨w.heap.size + 1, 1, none⟩ (.int .i64 (K1 : Int))).setCell ⟨w.heap.size, 5, none⟩ (.int .i64 (Y1 : Int)) = w4 at *
  have k4 : w4.drew.cell? ⟨w.heap.size + 1, 0, none⟩ = some (.int .i64 (K0 : Int)) ∧ w4.drew.cell? ⟨w.heap.size + 1, 1, none⟩ = some (.int .i64 (K1 : Int)) := by
    have h := row_updW hs4' (Upd.refl [] w4).drew
    exact ⟨by rw [cell_of_row _ _ _ _ _ _ h]; rfl, by rw [cell_of_row _ _ _ _ _ _ h]; rfl⟩
  go_region_held3 (fun wp => wp.cell? ⟨w.heap.size + 1, 0, none⟩ = some (.int .i64 (K0 : Int)) ∧ wp.cell? ⟨w.heap.size + 1, 1, none⟩ = some (.int .i64 (K1 : Int))) (first | with_reducible exact k4 | with_reducible assumption | go_keep)
    (first
      | (go_at_call 60; ((with_reducible refine (rvote_any 2 (K1 : Int) ⟨#[116]⟩ _ (by omega) (by decide)).mono ?_); rintro e wq ⟨r, s, HRS, hr, hs, rfl, hq⟩; have hq1 := (Upd.refl [] w4).drew.trans hq; have h := row_updW hs4' hq1; have kq : wq.cell? ⟨w.heap.size + 1, 0, none⟩ = some (.int .i64 (K0 : Int)) ∧ wq.cell? ⟨w.heap.size + 1, 1, none⟩ = some (.int .i64 (K1 : Int)) := ⟨by rw [cell_of_row _ _ _ _ _ _ h]; rfl, by rw [cell_of_row _ _ _ _ _ _ h]; rfl⟩; clear h hq))
      | (go_at_call 60; ((with_reducible refine (rvote_any 1 (K0 : Int) ⟨#[97, 110, 111, 116, 104, 101, 114]⟩ _ (by omega) (by decide)).mono ?_); rintro e wp ⟨r', s', HRS', hr', hs', rfl, hp⟩; have hp1 := hq1.trans hp; have h := row_updW hs4' hp1; have kp : wp.cell? ⟨w.heap.size + 1, 0, none⟩ = some (.int .i64 (K0 : Int)) ∧ wp.cell? ⟨w.heap.size + 1, 1, none⟩ = some (.int .i64 (K1 : Int)) := ⟨by rw [cell_of_row _ _ _ _ _ _ h]; rfl, by rw [cell_of_row _ _ _ _ _ _ h]; rfl⟩; clear h hp)))
  have hv : verB (Y1 : Int) (bs ⟨#[116]⟩) (r : Int) (s : Int) = true := by
    have hxe : expN (K1 : Int) = K1 := expN_of hK1
    have h := ver_with K1 (nonceN K1 (bs ⟨#[116]⟩)) (bs ⟨#[116]⟩)
    rw [HRS.out.1, HRS.out.2, hxe, HY1.out, ← HK1.out]
    exact h
  have u5 := (u4.trans hp1).alloc (.cells #[.int .i64 2, .string ⟨#[116]⟩, .int .i64 (r : Int), .int .i64 (s : Int), .int .i64 1, .string ⟨#[97, 110, 111, 116, 104, 101, 114]⟩, .int .i64 (r' : Int), .int .i64 (s' : Int)] 54)
  have hl5 := row_old (row_updW hl4' hp1) (.cells #[.int .i64 2, .string ⟨#[116]⟩, .int .i64 (r : Int), .int .i64 (s : Int), .int .i64 1, .string ⟨#[97, 110, 111, 116, 104, 101, 114]⟩, .int .i64 (r' : Int), .int .i64 (s' : Int)] 54)
  have hv5 := heap_alloc_new wp (.cells #[.int .i64 2, .string ⟨#[116]⟩, .int .i64 (r : Int), .int .i64 (s : Int), .int .i64 1, .string ⟨#[97, 110, 111, 116, 104, 101, 114]⟩, .int .i64 (r' : Int), .int .i64 (s' : Int)] 54)
  clear hl4' hs4' k4 kq kp hq1 hp1 u4
  have hm := mems_block (l := [⟨1, 3, (Y0 : Int)⟩, ⟨2, 5, (Y1 : Int)⟩]) hl5 (by
    intro m hm
    simp only [List.mem_cons, List.not_mem_nil, or_false] at hm
    rcases hm with rfl | rfl
    · refine ⟨?_, ?_, ?_⟩ <;> (unfold i64in; simp only []; omega)
    · refine ⟨?_, ?_, ?_⟩ <;> (unfold i64in; simp only []; omega))
  have hvi := votes_block (l := [⟨2, ⟨#[116]⟩, (r : Int), (s : Int)⟩, ⟨1, ⟨#[97, 110, 111, 116, 104, 101, 114]⟩, (r' : Int), (s' : Int)⟩]) hv5 (by
    intro m hm
    simp only [List.mem_cons, List.not_mem_nil, or_false] at hm
    rcases hm with rfl | rfl
    · exact ⟨by unfold i64in; simp only []; omega, show (1 : Nat) ≤ 140737488355000 by decide, by unfold i64in; simp only []; omega, by unfold i64in; simp only []; omega⟩
    · exact ⟨by unfold i64in; simp only []; omega, show (7 : Nat) ≤ 140737488355000 by decide, by unfold i64in; simp only []; omega, by unfold i64in; simp only []; omega⟩)
  have h5 : weightL [⟨1, 3, (Y0 : Int)⟩, ⟨2, 5, (Y1 : Int)⟩] (([⟨2, ⟨#[116]⟩, (r : Int), (s : Int)⟩, ⟨1, ⟨#[97, 110, 111, 116, 104, 101, 114]⟩, (r' : Int), (s' : Int)⟩] : List VtV).map VtV.plain) (bs ⟨#[116]⟩) = 5 := by
    have e1 : stepW [⟨1, 3, (Y0 : Int)⟩, ⟨2, 5, (Y1 : Int)⟩] (bs ⟨#[116]⟩) ([], 0) (VtV.plain ⟨2, ⟨#[116]⟩, (r : Int), (s : Int)⟩) = ([2], 0 + 5) :=
      stepW_good (m := ⟨2, 5, (Y1 : Int)⟩) rfl rfl rfl (by show ((bs ⟨#[116]⟩ == bs ⟨#[116]⟩) && verB (Y1 : Int) (bs ⟨#[116]⟩) (r : Int) (s : Int)) = true; rw [hv, beq_self_eq_true]; rfl)
    have e2 : stepW [⟨1, 3, (Y0 : Int)⟩, ⟨2, 5, (Y1 : Int)⟩] (bs ⟨#[116]⟩) ([2], 0 + 5) (VtV.plain ⟨1, ⟨#[97, 110, 111, 116, 104, 101, 114]⟩, (r' : Int), (s' : Int)⟩) = ([2], 0 + 5) :=
      stepW_bad (m := ⟨1, 3, (Y0 : Int)⟩) rfl (by show ((bs ⟨#[97, 110, 111, 116, 104, 101, 114]⟩ == bs ⟨#[116]⟩) && verB (Y0 : Int) (bs ⟨#[116]⟩) (r' : Int) (s' : Int)) = false; rw [show (bs ⟨#[97, 110, 111, 116, 104, 101, 114]⟩ == bs ⟨#[116]⟩) = false by decide +kernel]; rfl)
    unfold weightL
    rw [List.map_cons, List.map_cons, List.map_nil, List.foldl_cons, e1, List.foldl_cons, e2]
    rfl
  have HW := Lib.hid (weight_any [⟨1, 3, (Y0 : Int)⟩, ⟨2, 5, (Y1 : Int)⟩] [⟨2, ⟨#[116]⟩, (r : Int), (s : Int)⟩, ⟨1, ⟨#[97, 110, 111, 116, 104, 101, 114]⟩, (r' : Int), (s' : Int)⟩] ⟨#[116]⟩ _ _ 2 2 _ hm hvi (show 2 ≤ 1000 by decide) (show 2 ≤ 1000 by decide) (Nat.le_refl 2) (Nat.le_refl 2) (by decide) (htab.upd u5))
  clear hm hvi hl5 hv5 HRS HRS' HY0 HY1 HK0 HK1 hv
  have H5 := Lib.hid h5
  clear h5
  go_wp2_with fail
  refine HW.out.mono ?_
  rintro e w6 ⟨x, HX, rfl, hu6⟩
  obtain rfl : x = 5 := HX.out.trans H5.out
  go_wp2_with fail
  go_ret
  exact ⟨rfl, u5.trans hu6⟩
end Go.Proofs.YtkhodajdionaaaaGreatDoor
