/- day.Decode at the codes of court's example. strings.SplitN and strings.Split at a blank, at any text. -/
import Derived.Test.YtcimcodljjcmgaaGreatDoorGAO
namespace Go.Proofs.YtcimcodljjcmgaaGreatDoor
open Go.RowKit
set_option maxRecDepth 100000

def setAll (C : Array Value) (o : Nat) : List Value → Array Value
  | [] => C
  | v :: r => setAll (C.setIfInBounds o v) (o + 1) r
theorem heap_setCells (g : Nat) (t : TypeId) : ∀ (V : List Value) (o : Nat) (w : World) (C : Array Value), w.heap[g]? = some (.cells C t (0, 0)) → (w.setCells g o V).heap[g]? = some (.cells (setAll C o V) t (0, 0))
  | [], _, _, _, h => h
  | v :: r, o, w, C, h => heap_setCells g t r (o + 1) _ _ (by rw [heap_setCell_same w g o _ _ v h])
theorem there_of_row {w : World} {g o n : Nat} {C : Array Value} {t : TypeId} (h : w.heap[g]? = some (.cells C t (0, 0))) (hn : o + n ≤ C.size) : w.there g o n := fun j hj => ⟨by
  rw [cell_of_row _ _ _ _ _ _ h, Array.getElem?_eq_getElem (by omega)]
  rfl, frozen_of_row _ _ _ _ _ h⟩
def evZ : List Value := [.int .i64 0, .int .i64 0, .int .i64 0, .int .i64 0, .int .i64 0, .string ⟨#[]⟩] ++ (byteVals zero32 ++ [.int .i64 0, .int .i64 0])
def evN : List Value := [.int .i64 5, .int .i64 4, .int .i64 3, .int .i64 0, .int .i64 0, .string ⟨#[]⟩] ++ (byteVals zero32 ++ [.int .i64 0, .int .i64 0])
theorem zero_ev : (#[.int .i64 0, .int .i64 0, .int .i64 0, .int .i64 0, .int .i64 0, .string ⟨#[]⟩, .int .u8 0, .int .u8 0, .int .u8 0, .int .u8 0, .int .u8 0, .int .u8 0, .int .u8 0, .int .u8 0, .int .u8 0, .int .u8 0, .int .u8 0, .int .u8 0, .int .u8 0, .int .u8 0, .int .u8 0, .int .u8 0, .int .u8 0, .int .u8 0, .int .u8 0, .int .u8 0, .int .u8 0, .int .u8 0, .int .u8 0, .int .u8 0, .int .u8 0, .int .u8 0, .int .u8 0, .int .u8 0, .int .u8 0, .int .u8 0, .int .u8 0, .int .u8 0, .int .i64 0, .int .i64 0] : Array Value) = evZ.toArray := by kernel_rfl
theorem evZ_len : evZ.toArray.size = 40 := by simp [evZ, byteVals, zero32]
def ZS : ByteArray := ⟨zeros64.toArray⟩
theorem split_of {c : UInt8} {s : ByteArray} (hs : bs s = codeL c) (W W2 : World) (gP : Nat) (m : Int) (hm : W.cell? ⟨1, 0, none⟩ = some (.int .i64 m)) (hg : W.heap.size = gP) (hw : W.alloc (.cells #[.string ⟨#[48]⟩, .string ⟨#[48]⟩, .string ⟨#[101, 118, 101, 110, 116]⟩, .string ⟨#[53]⟩, .string ⟨#[52]⟩, .string ⟨#[51]⟩, .string ⟨#[48]⟩, .string ⟨#[48]⟩, .string ZS, .string ⟨#[49, 58, c]⟩] 9) = W2) :
    Calls Tryz.prog 100 #[.string s, .string ⟨#[32]⟩, .int .i64 10] W (fun e w' => e = .returned (.slice (some ⟨gP, 0, none⟩) 10 10) ∧ w' = W2) := by
  have hsz : s.size = 88 := by rw [← bs_length, hs, codeL_len]
  have hsp : Lib.splitB ⟨#[32]⟩ 0 (min 10 (s.size + 1) - 1) s = [⟨#[48]⟩, ⟨#[48]⟩, ⟨#[101, 118, 101, 110, 116]⟩, ⟨#[53]⟩, ⟨#[52]⟩, ⟨#[51]⟩, ⟨#[48]⟩, ⟨#[48]⟩, ZS, ⟨#[49, 58, c]⟩] := by
    have h := code_split c
    rw [← hs] at h
    have e := splitB_of (s := s) (sep := ⟨#[32]⟩) (k := 9) h
    rw [hsz, show min 10 (88 + 1) - 1 = 9 from rfl, e]
    simp only [List.map_cons, List.map_nil]
    rfl
  refine (Tryz.strings_SplitN s ⟨#[32]⟩ 10 m W (by omega) hm (by decide) (by omega) (by omega)).mono ?_
  rintro e w' ⟨rfl, rfl⟩
  rw [hsp, hsz, ← hg, ← hw]
  exact ⟨rfl, rfl⟩
set_option maxHeartbeats 8000000 in
theorem dDecode_any (c : UInt8) (s : ByteArray) (hs : bs s = codeL c) (w : World) (htab : Tabs w) : Calls Tryz.prog 46 #[.string s] w (fun e w' => e = .returned (.tuple #[.agg (evV c 0 0).toArray, .int .i64 0]) ∧ Upd [] [] w w') := by
  obtain ⟨g2, hg2⟩ : ∃ g, w.heap.size = g := ⟨_, rfl⟩
  obtain ⟨w1, hw1⟩ : ∃ W, w.alloc (.cells #[.int .i64 0, .int .i64 0, .int .i64 0, .int .i64 0, .int .i64 0, .string ⟨#[]⟩, .int .u8 0, .int .u8 0, .int .u8 0, .int .u8 0, .int .u8 0, .int .u8 0, .int .u8 0, .int .u8 0, .int .u8 0, .int .u8 0, .int .u8 0, .int .u8 0, .int .u8 0, .int .u8 0, .int .u8 0, .int .u8 0, .int .u8 0, .int .u8 0, .int .u8 0, .int .u8 0, .int .u8 0, .int .u8 0, .int .u8 0, .int .u8 0, .int .u8 0, .int .u8 0, .int .u8 0, .int .u8 0, .int .u8 0, .int .u8 0, .int .u8 0, .int .u8 0, .int .i64 0, .int .i64 0] 33) = W := ⟨_, rfl⟩
  have r1 : w1.heap[g2]? = some (.cells evZ.toArray 33 (0, 0)) := by rw [← hg2, ← hw1, zero_ev]; exact heap_alloc_new _ _
  have u1 : Upd [] [] w w1 := by rw [← hw1]; exact (Upd.refl _ _).alloc _
  obtain ⟨gP, hgP⟩ : ∃ g, w1.heap.size = g := ⟨_, rfl⟩
  obtain ⟨w2, hw2⟩ : ∃ W, w1.alloc (.cells #[.string ⟨#[48]⟩, .string ⟨#[48]⟩, .string ⟨#[101, 118, 101, 110, 116]⟩, .string ⟨#[53]⟩, .string ⟨#[52]⟩, .string ⟨#[51]⟩, .string ⟨#[48]⟩, .string ⟨#[48]⟩, .string ZS, .string ⟨#[49, 58, c]⟩] 9) = W := ⟨_, rfl⟩
  have r2 : w2.heap[gP]? = some (.cells #[.string ⟨#[48]⟩, .string ⟨#[48]⟩, .string ⟨#[101, 118, 101, 110, 116]⟩, .string ⟨#[53]⟩, .string ⟨#[52]⟩, .string ⟨#[51]⟩, .string ⟨#[48]⟩, .string ⟨#[48]⟩, .string ZS, .string ⟨#[49, 58, c]⟩] 9 (0, 0)) := by rw [← hgP, ← hw2]; exact heap_alloc_new _ _
  have u2 : Upd [] [] w1 w2 := by rw [← hw2]; exact (Upd.refl _ _).alloc _
  obtain ⟨gE, hgE⟩ : ∃ g, w2.heap.size = g := ⟨_, rfl⟩
  obtain ⟨w3, hw3⟩ : ∃ W, w2.alloc (.cells #[.int .i64 0, .int .i64 0, .int .i64 0, .int .i64 0, .int .i64 0, .string ⟨#[]⟩, .int .u8 0, .int .u8 0, .int .u8 0, .int .u8 0, .int .u8 0, .int .u8 0, .int .u8 0, .int .u8 0, .int .u8 0, .int .u8 0, .int .u8 0, .int .u8 0, .int .u8 0, .int .u8 0, .int .u8 0, .int .u8 0, .int .u8 0, .int .u8 0, .int .u8 0, .int .u8 0, .int .u8 0, .int .u8 0, .int .u8 0, .int .u8 0, .int .u8 0, .int .u8 0, .int .u8 0, .int .u8 0, .int .u8 0, .int .u8 0, .int .u8 0, .int .u8 0, .int .i64 0, .int .i64 0] 33) = W := ⟨_, rfl⟩
  have r3 : w3.heap[gE]? = some (.cells evZ.toArray 33 (0, 0)) := by rw [← hgE, ← hw3, zero_ev]; exact heap_alloc_new _ _
  have u3 : Upd [] [] w2 w3 := by rw [← hw3]; exact (Upd.refl _ _).alloc _
  obtain ⟨gN, hgN⟩ : ∃ g, w3.heap.size = g := ⟨_, rfl⟩
  obtain ⟨w4, hw4⟩ : ∃ W, w3.alloc (.cells #[.pointer (some ⟨gE, 38, none⟩), .pointer (some ⟨gE, 39, none⟩), .pointer none, .pointer (some ⟨gE, 0, none⟩), .pointer (some ⟨gE, 1, none⟩), .pointer (some ⟨gE, 2, none⟩), .pointer (some ⟨gE, 3, none⟩), .pointer (some ⟨gE, 4, none⟩)] 147) = W := ⟨_, rfl⟩
  have r4 : w4.heap[gN]? = some (.cells #[.pointer (some ⟨gE, 38, none⟩), .pointer (some ⟨gE, 39, none⟩), .pointer none, .pointer (some ⟨gE, 0, none⟩), .pointer (some ⟨gE, 1, none⟩), .pointer (some ⟨gE, 2, none⟩), .pointer (some ⟨gE, 3, none⟩), .pointer (some ⟨gE, 4, none⟩)] 147 (0, 0)) := by rw [← hgN, ← hw4]; exact heap_alloc_new _ _
  have u4 : Upd [] [] w3 w4 := by rw [← hw4]; exact (Upd.refl _ _).alloc _
  obtain ⟨m, hm⟩ := (htab.upd u1).m
  have HSp := Lib.hid (split_of hs w1 w2 gP m hm hgP hw2)
  have n1 : g2 < gP := by rw [← hgP, ← hg2]; exact blk_lt (by rw [hg2]; exact r1)
  have n2 : gP < gE := by rw [← hgE]; exact blk_lt r2
  have n3 : gE < gN := by rw [← hgN]; exact blk_lt r3
  have HN := Lib.hid (And.intro n1 (And.intro n2 n3))
  have HW := Lib.hid hg2
  have R2 := Lib.hid (row_updH (row_updH r2 u3) u4)
  have R1 := Lib.hid (row_updH (row_updH (row_updH r1 u2) u3) u4)
  have E0 := Lib.hid (row_updH r3 u4)
  have R4 := Lib.hid r4
  have UD0 := Lib.hid (((u1.trans u2).trans u3).trans u4)
  have e2 : gE ≠ gP := by omega
  have e3 : gE ≠ gN := by omega
  have e1 : gE ≠ g2 := by omega
  clear r1 r2 r3 r4 u1 u2 u3 u4 n1 n2 n3 hm
  go_enter Tryz.func46, Tryz.ntmps46
  go_wp2_with fail
  refine HSp.out.mono ?_
  rintro e w' ⟨rfl, rfl⟩
  clear HSp
  go_wp2_with fail
  refine wp_loop_rounds 9 ?_
  rw [rounds_succ]
  have cn := (cell_of_row _ gN 0 _ _ _ R4.out).trans (show _ = some (Value.pointer (some ⟨gE, 38, none⟩)) from rfl)
  have cp := (cell_of_row _ gP 0 _ _ _ R2.out).trans (show _ = some (Value.string ⟨#[48]⟩) from rfl)
  go_wp2_with fail
  refine (dNumber_any ⟨#[48]⟩ 0 (by unfold i64in; omega) itoa_0.symm _ (htab.upd UD0.out)).mono ?_
  rintro e y0 ⟨rfl, hq⟩
  have cE := (cell_of_row _ gE 38 _ _ _ (row_updH E0.out hq)).trans (show _ = some (Value.int .i64 0) from rfl)
  have fE := frozen_of_row _ gE 38 _ _ (row_updH E0.out hq)
  obtain ⟨z0, hz⟩ : ∃ Z, y0.setCell ⟨gE, 38, none⟩ (.int .i64 0) = Z := ⟨_, rfl⟩
  have uS : Upd [gE] [gE] y0 z0 := by rw [← hz]; exact (Upd.refl _ _).setCell (p := ⟨gE, 38, none⟩) (by simp) _
  have E1 := Lib.hid ((congrArg (fun W : World => W.heap[gE]?) hz.symm).trans (heap_setCell_same y0 gE 38 _ _ (.int .i64 0) (row_updH E0.out hq)))
  have R2_1 := Lib.hid ((uS.block gP (blk_lt (row_updH R2.out hq)) (by simp; exact fun e => e2 e.symm)).trans (row_updH R2.out hq))
  have R4_1 := Lib.hid ((uS.block gN (blk_lt (row_updH R4.out hq)) (by simp; exact fun e => e3 e.symm)).trans (row_updH R4.out hq))
  have R1_1 := Lib.hid ((uS.block g2 (blk_lt (row_updH R1.out hq)) (by simp; exact fun e => e1 e.symm)).trans (row_updH R1.out hq))
  have UD1 : Hid (Upd [] [] w z0) := by have h := (UD0.out.trans hq).setNew (p := ⟨gE, 38, none⟩) (show w.heap.size ≤ gE by have := HW.out; have := HN.out; omega) (.int .i64 0); rw [hz] at h; exact h
  clear cn cp hq uS E0 R2 R4 R1 UD0
  go_wp2_with fail
  clear cE fE hz
  rw [rounds_succ]
  have cn := (cell_of_row _ gN 1 _ _ _ R4_1.out).trans (show _ = some (Value.pointer (some ⟨gE, 39, none⟩)) from rfl)
  have cp := (cell_of_row _ gP 1 _ _ _ R2_1.out).trans (show _ = some (Value.string ⟨#[48]⟩) from rfl)
  go_wp2_with fail
  refine (dNumber_any ⟨#[48]⟩ 0 (by unfold i64in; omega) itoa_0.symm _ (htab.upd UD1.out)).mono ?_
  rintro e y1 ⟨rfl, hq⟩
  have cE := (cell_of_row _ gE 39 _ _ _ (row_updH E1.out hq)).trans (show _ = some (Value.int .i64 0) from rfl)
  have fE := frozen_of_row _ gE 39 _ _ (row_updH E1.out hq)
  obtain ⟨z1, hz⟩ : ∃ Z, y1.setCell ⟨gE, 39, none⟩ (.int .i64 0) = Z := ⟨_, rfl⟩
  have uS : Upd [gE] [gE] y1 z1 := by rw [← hz]; exact (Upd.refl _ _).setCell (p := ⟨gE, 39, none⟩) (by simp) _
  have E2 := Lib.hid ((congrArg (fun W : World => W.heap[gE]?) hz.symm).trans (heap_setCell_same y1 gE 39 _ _ (.int .i64 0) (row_updH E1.out hq)))
  have R2_2 := Lib.hid ((uS.block gP (blk_lt (row_updH R2_1.out hq)) (by simp; exact fun e => e2 e.symm)).trans (row_updH R2_1.out hq))
  have R4_2 := Lib.hid ((uS.block gN (blk_lt (row_updH R4_1.out hq)) (by simp; exact fun e => e3 e.symm)).trans (row_updH R4_1.out hq))
  have R1_2 := Lib.hid ((uS.block g2 (blk_lt (row_updH R1_1.out hq)) (by simp; exact fun e => e1 e.symm)).trans (row_updH R1_1.out hq))
  have UD2 : Hid (Upd [] [] w z1) := by have h := (UD1.out.trans hq).setNew (p := ⟨gE, 39, none⟩) (show w.heap.size ≤ gE by have := HW.out; have := HN.out; omega) (.int .i64 0); rw [hz] at h; exact h
  clear cn cp hq uS E1 R2_1 R4_1 R1_1 UD1
  go_wp2_with fail
  clear cE fE hz
  rw [rounds_succ]
  have cn := (cell_of_row _ gN 2 _ _ _ R4_2.out).trans (show _ = some (Value.pointer none) from rfl)
  go_wp2_with fail
  clear cn
  rw [rounds_succ]
  have cn := (cell_of_row _ gN 3 _ _ _ R4_2.out).trans (show _ = some (Value.pointer (some ⟨gE, 0, none⟩)) from rfl)
  have cp := (cell_of_row _ gP 3 _ _ _ R2_2.out).trans (show _ = some (Value.string ⟨#[53]⟩) from rfl)
  go_wp2_with fail
  refine (dNumber_any ⟨#[53]⟩ 5 (by unfold i64in; omega) itoa_5.symm _ (htab.upd UD2.out)).mono ?_
  rintro e y3 ⟨rfl, hq⟩
  have cE := (cell_of_row _ gE 0 _ _ _ (row_updH E2.out hq)).trans (show _ = some (Value.int .i64 0) from rfl)
  have fE := frozen_of_row _ gE 0 _ _ (row_updH E2.out hq)
  obtain ⟨z3, hz⟩ : ∃ Z, y3.setCell ⟨gE, 0, none⟩ (.int .i64 5) = Z := ⟨_, rfl⟩
  have uS : Upd [gE] [gE] y3 z3 := by rw [← hz]; exact (Upd.refl _ _).setCell (p := ⟨gE, 0, none⟩) (by simp) _
  have E4 := Lib.hid ((congrArg (fun W : World => W.heap[gE]?) hz.symm).trans (heap_setCell_same y3 gE 0 _ _ (.int .i64 5) (row_updH E2.out hq)))
  have R2_4 := Lib.hid ((uS.block gP (blk_lt (row_updH R2_2.out hq)) (by simp; exact fun e => e2 e.symm)).trans (row_updH R2_2.out hq))
  have R4_4 := Lib.hid ((uS.block gN (blk_lt (row_updH R4_2.out hq)) (by simp; exact fun e => e3 e.symm)).trans (row_updH R4_2.out hq))
  have R1_4 := Lib.hid ((uS.block g2 (blk_lt (row_updH R1_2.out hq)) (by simp; exact fun e => e1 e.symm)).trans (row_updH R1_2.out hq))
  have UD4 : Hid (Upd [] [] w z3) := by have h := (UD2.out.trans hq).setNew (p := ⟨gE, 0, none⟩) (show w.heap.size ≤ gE by have := HW.out; have := HN.out; omega) (.int .i64 5); rw [hz] at h; exact h
  clear cn cp hq uS E2 R2_2 R4_2 R1_2 UD2
  go_wp2_with fail
  clear cE fE hz
  rw [rounds_succ]
  have cn := (cell_of_row _ gN 4 _ _ _ R4_4.out).trans (show _ = some (Value.pointer (some ⟨gE, 1, none⟩)) from rfl)
  have cp := (cell_of_row _ gP 4 _ _ _ R2_4.out).trans (show _ = some (Value.string ⟨#[52]⟩) from rfl)
  go_wp2_with fail
  refine (dNumber_any ⟨#[52]⟩ 4 (by unfold i64in; omega) itoa_4.symm _ (htab.upd UD4.out)).mono ?_
  rintro e y4 ⟨rfl, hq⟩
  have cE := (cell_of_row _ gE 1 _ _ _ (row_updH E4.out hq)).trans (show _ = some (Value.int .i64 0) from rfl)
  have fE := frozen_of_row _ gE 1 _ _ (row_updH E4.out hq)
  obtain ⟨z4, hz⟩ : ∃ Z, y4.setCell ⟨gE, 1, none⟩ (.int .i64 4) = Z := ⟨_, rfl⟩
  have uS : Upd [gE] [gE] y4 z4 := by rw [← hz]; exact (Upd.refl _ _).setCell (p := ⟨gE, 1, none⟩) (by simp) _
  have E5 := Lib.hid ((congrArg (fun W : World => W.heap[gE]?) hz.symm).trans (heap_setCell_same y4 gE 1 _ _ (.int .i64 4) (row_updH E4.out hq)))
  have R2_5 := Lib.hid ((uS.block gP (blk_lt (row_updH R2_4.out hq)) (by simp; exact fun e => e2 e.symm)).trans (row_updH R2_4.out hq))
  have R4_5 := Lib.hid ((uS.block gN (blk_lt (row_updH R4_4.out hq)) (by simp; exact fun e => e3 e.symm)).trans (row_updH R4_4.out hq))
  have R1_5 := Lib.hid ((uS.block g2 (blk_lt (row_updH R1_4.out hq)) (by simp; exact fun e => e1 e.symm)).trans (row_updH R1_4.out hq))
  have UD5 : Hid (Upd [] [] w z4) := by have h := (UD4.out.trans hq).setNew (p := ⟨gE, 1, none⟩) (show w.heap.size ≤ gE by have := HW.out; have := HN.out; omega) (.int .i64 4); rw [hz] at h; exact h
  clear cn cp hq uS E4 R2_4 R4_4 R1_4 UD4
  go_wp2_with fail
  clear cE fE hz
  rw [rounds_succ]
  have cn := (cell_of_row _ gN 5 _ _ _ R4_5.out).trans (show _ = some (Value.pointer (some ⟨gE, 2, none⟩)) from rfl)
  have cp := (cell_of_row _ gP 5 _ _ _ R2_5.out).trans (show _ = some (Value.string ⟨#[51]⟩) from rfl)
  go_wp2_with fail
  refine (dNumber_any ⟨#[51]⟩ 3 (by unfold i64in; omega) itoa_3.symm _ (htab.upd UD5.out)).mono ?_
  rintro e y5 ⟨rfl, hq⟩
  have cE := (cell_of_row _ gE 2 _ _ _ (row_updH E5.out hq)).trans (show _ = some (Value.int .i64 0) from rfl)
  have fE := frozen_of_row _ gE 2 _ _ (row_updH E5.out hq)
  obtain ⟨z5, hz⟩ : ∃ Z, y5.setCell ⟨gE, 2, none⟩ (.int .i64 3) = Z := ⟨_, rfl⟩
  have uS : Upd [gE] [gE] y5 z5 := by rw [← hz]; exact (Upd.refl _ _).setCell (p := ⟨gE, 2, none⟩) (by simp) _
  have E6 := Lib.hid ((congrArg (fun W : World => W.heap[gE]?) hz.symm).trans (heap_setCell_same y5 gE 2 _ _ (.int .i64 3) (row_updH E5.out hq)))
  have R2_6 := Lib.hid ((uS.block gP (blk_lt (row_updH R2_5.out hq)) (by simp; exact fun e => e2 e.symm)).trans (row_updH R2_5.out hq))
  have R4_6 := Lib.hid ((uS.block gN (blk_lt (row_updH R4_5.out hq)) (by simp; exact fun e => e3 e.symm)).trans (row_updH R4_5.out hq))
  have R1_6 := Lib.hid ((uS.block g2 (blk_lt (row_updH R1_5.out hq)) (by simp; exact fun e => e1 e.symm)).trans (row_updH R1_5.out hq))
  have UD6 : Hid (Upd [] [] w z5) := by have h := (UD5.out.trans hq).setNew (p := ⟨gE, 2, none⟩) (show w.heap.size ≤ gE by have := HW.out; have := HN.out; omega) (.int .i64 3); rw [hz] at h; exact h
  clear cn cp hq uS E5 R2_5 R4_5 R1_5 UD5
  go_wp2_with fail
  clear cE fE hz
  rw [rounds_succ]
  have cn := (cell_of_row _ gN 6 _ _ _ R4_6.out).trans (show _ = some (Value.pointer (some ⟨gE, 3, none⟩)) from rfl)
  have cp := (cell_of_row _ gP 6 _ _ _ R2_6.out).trans (show _ = some (Value.string ⟨#[48]⟩) from rfl)
  go_wp2_with fail
  refine (dNumber_any ⟨#[48]⟩ 0 (by unfold i64in; omega) itoa_0.symm _ (htab.upd UD6.out)).mono ?_
  rintro e y6 ⟨rfl, hq⟩
  have cE := (cell_of_row _ gE 3 _ _ _ (row_updH E6.out hq)).trans (show _ = some (Value.int .i64 0) from rfl)
  have fE := frozen_of_row _ gE 3 _ _ (row_updH E6.out hq)
  obtain ⟨z6, hz⟩ : ∃ Z, y6.setCell ⟨gE, 3, none⟩ (.int .i64 0) = Z := ⟨_, rfl⟩
  have uS : Upd [gE] [gE] y6 z6 := by rw [← hz]; exact (Upd.refl _ _).setCell (p := ⟨gE, 3, none⟩) (by simp) _
  have E7 := Lib.hid ((congrArg (fun W : World => W.heap[gE]?) hz.symm).trans (heap_setCell_same y6 gE 3 _ _ (.int .i64 0) (row_updH E6.out hq)))
  have R2_7 := Lib.hid ((uS.block gP (blk_lt (row_updH R2_6.out hq)) (by simp; exact fun e => e2 e.symm)).trans (row_updH R2_6.out hq))
  have R4_7 := Lib.hid ((uS.block gN (blk_lt (row_updH R4_6.out hq)) (by simp; exact fun e => e3 e.symm)).trans (row_updH R4_6.out hq))
  have R1_7 := Lib.hid ((uS.block g2 (blk_lt (row_updH R1_6.out hq)) (by simp; exact fun e => e1 e.symm)).trans (row_updH R1_6.out hq))
  have UD7 : Hid (Upd [] [] w z6) := by have h := (UD6.out.trans hq).setNew (p := ⟨gE, 3, none⟩) (show w.heap.size ≤ gE by have := HW.out; have := HN.out; omega) (.int .i64 0); rw [hz] at h; exact h
  clear cn cp hq uS E6 R2_6 R4_6 R1_6 UD6
  go_wp2_with fail
  clear cE fE hz
  rw [rounds_succ]
  have cn := (cell_of_row _ gN 7 _ _ _ R4_7.out).trans (show _ = some (Value.pointer (some ⟨gE, 4, none⟩)) from rfl)
  have cp := (cell_of_row _ gP 7 _ _ _ R2_7.out).trans (show _ = some (Value.string ⟨#[48]⟩) from rfl)
  go_wp2_with fail
  refine (dNumber_any ⟨#[48]⟩ 0 (by unfold i64in; omega) itoa_0.symm _ (htab.upd UD7.out)).mono ?_
  rintro e y7 ⟨rfl, hq⟩
  have cE := (cell_of_row _ gE 4 _ _ _ (row_updH E7.out hq)).trans (show _ = some (Value.int .i64 0) from rfl)
  have fE := frozen_of_row _ gE 4 _ _ (row_updH E7.out hq)
  obtain ⟨z7, hz⟩ : ∃ Z, y7.setCell ⟨gE, 4, none⟩ (.int .i64 0) = Z := ⟨_, rfl⟩
  have uS : Upd [gE] [gE] y7 z7 := by rw [← hz]; exact (Upd.refl _ _).setCell (p := ⟨gE, 4, none⟩) (by simp) _
  have E8 := Lib.hid ((congrArg (fun W : World => W.heap[gE]?) hz.symm).trans (heap_setCell_same y7 gE 4 _ _ (.int .i64 0) (row_updH E7.out hq)))
  have R2_8 := Lib.hid ((uS.block gP (blk_lt (row_updH R2_7.out hq)) (by simp; exact fun e => e2 e.symm)).trans (row_updH R2_7.out hq))
  have R4_8 := Lib.hid ((uS.block gN (blk_lt (row_updH R4_7.out hq)) (by simp; exact fun e => e3 e.symm)).trans (row_updH R4_7.out hq))
  have R1_8 := Lib.hid ((uS.block g2 (blk_lt (row_updH R1_7.out hq)) (by simp; exact fun e => e1 e.symm)).trans (row_updH R1_7.out hq))
  have UD8 : Hid (Upd [] [] w z7) := by have h := (UD7.out.trans hq).setNew (p := ⟨gE, 4, none⟩) (show w.heap.size ≤ gE by have := HW.out; have := HN.out; omega) (.int .i64 0); rw [hz] at h; exact h
  clear cn cp hq uS E7 R2_7 R4_7 R1_7 UD7
  go_wp2_with fail
  clear cE fE hz
  have EE : Hid (z7.heap[gE]? = some (.cells evN.toArray 33 (0, 0))) := by have h := E8.out; exact h
  have RP := R2_8
  have RR := R1_8
  have UDN := UD8
  clear E8 R2_8 R4_8 R1_8 UD8
  rw [rounds_succ]
  have cp8 := (cell_of_row _ gP 8 _ _ _ RP.out).trans (show _ = some (Value.string ZS) from rfl)
  go_wp2_with fail
  have hzs : bs ZS = hexL zero32 := hex_zero.symm
  refine (hexRead_any ZS z7).mono ?_
  rintro e y8 ⟨h', ok, HO, rfl, hq⟩
  have ho := HO.out
  rw [hzs] at ho
  obtain ⟨rfl, rfl⟩ := hexOk_hex rfl ho
  obtain ⟨ZH, hZH⟩ : ∃ ZH, ZH = (byteVals zero32).toArray := ⟨_, rfl⟩
  rw [← hZH]
  have HZI : Hid ((Tryz.prog.info? 29).map (·.size) = some ZH.size) := by rw [hZH]; exact hashInfo rfl
  have HZO : Hid (ZH.all (·.oneCell') = true) := by rw [hZH]; exact hashOne _
  have HZS : Hid (ZH.size = 32) := by rw [hZH]; rfl
  have HZE := Lib.hid hZH
  obtain ⟨y9, Z9, W9, R9, hq9⟩ := blk_new y8 29 (#[.int .u8 0, .int .u8 0, .int .u8 0, .int .u8 0, .int .u8 0, .int .u8 0, .int .u8 0, .int .u8 0, .int .u8 0, .int .u8 0, .int .u8 0, .int .u8 0, .int .u8 0, .int .u8 0, .int .u8 0, .int .u8 0, .int .u8 0, .int .u8 0, .int .u8 0, .int .u8 0, .int .u8 0, .int .u8 0, .int .u8 0, .int .u8 0, .int .u8 0, .int .u8 0, .int .u8 0, .int .u8 0, .int .u8 0, .int .u8 0, .int .u8 0, .int .u8 0] : Array Value) ZH
  have HZZ : Hid (((#[.int .u8 0, .int .u8 0, .int .u8 0, .int .u8 0, .int .u8 0, .int .u8 0, .int .u8 0, .int .u8 0, .int .u8 0, .int .u8 0, .int .u8 0, .int .u8 0, .int .u8 0, .int .u8 0, .int .u8 0, .int .u8 0, .int .u8 0, .int .u8 0, .int .u8 0, .int .u8 0, .int .u8 0, .int .u8 0, .int .u8 0, .int .u8 0, .int .u8 0, .int .u8 0, .int .u8 0, .int .u8 0, .int .u8 0, .int .u8 0, .int .u8 0, .int .u8 0] : Array Value) : Array Value).size = ZH.size) := by show _ = _; rw [HZS.out]; rfl
  obtain ⟨gH, hgH⟩ : ∃ g, y8.heap.size = g := ⟨_, rfl⟩
  have hl8 : gE < y8.heap.size := Nat.lt_of_lt_of_le (blk_lt EE.out) hq.size
  have hgw : w.heap.size ≤ gE := by have := HW.out; have := HN.out; omega
  have hgH2 : gE < gH := by omega
  rw [hgH] at R9 Z9 W9
  have E9 := Lib.hid (row_updH (row_updH EE.out hq) hq9)
  have P9 := Lib.hid (row_updH (row_updH RP.out hq) hq9)
  have Q9 := Lib.hid (row_updH (row_updH RR.out hq) hq9)
  have UD9 := Lib.hid ((UDN.out.trans hq).trans hq9)
  have cp9 := (cell_of_row _ gP 9 _ _ _ P9.out).trans (show _ = some (Value.string ⟨#[49, 58, c]⟩) from rfl)
  have HGE := Lib.hid (And.intro hgw hgH2)
  clear ho HO hzs cp8 hq hq9 hZH EE RP RR UDN hl8 hgw hgH2
  go_wp2_with (first | (refine wpList_store_rowAs rfl 29 _ _ rfl gH ZH rfl rfl _ _ Z9.out HZI.out HZZ.out HZO.out y9 W9.out ?_))
  obtain ⟨EV, hEV⟩ : ∃ EV, EV = (evV c 0 0).toArray := ⟨_, rfl⟩
  have HEVI : Hid ((Tryz.prog.info? 33).map (·.size) = some EV.size) := by rw [hEV]; exact evInfo c 0 0
  have HEVO : Hid (EV.all (·.oneCell') = true) := by rw [hEV]; exact evOne c 0 0
  have HEVZ : Hid (evZ.toArray.size = EV.size) := by show _ = _; rw [hEV, evZ_len]; exact (evV_len c 0 0).symm
  refine (dCut_any c y9 (htab.upd UD9.out)).mono ?_
  rintro e x1 ⟨rfl, hq⟩
  have E1 := Lib.hid (row_updH E9.out hq)
  have Q1 := Lib.hid (row_updH Q9.out hq)
  have H1 := Lib.hid (row_updH R9.out hq)
  have UX1 := Lib.hid (UD9.out.trans hq)
  have TH : Hid (x1.there gE 6 ZH.size) := there_of_row E1.out (by rw [HZS.out]; simp [evN, byteVals, zero32])
  obtain ⟨x2, hx2⟩ : ∃ X, x1.setCells gE 6 ZH.toList = X := ⟨_, rfl⟩
  have E2 := heap_setCells gE _ ZH.toList 6 x1 _ E1.out
  rw [hx2] at E2
  have c5 : x2.cell? ⟨gE, 5, none⟩ = some (.string ⟨#[]⟩) := (cell_of_row _ gE 5 _ _ _ E2).trans (by rw [HZE.out]; rfl)
  have f5 := frozen_of_row _ gE 5 _ _ E2
  obtain ⟨x3, hx3⟩ : ∃ X, x2.setCell ⟨gE, 5, none⟩ (.string ⟨#[c]⟩) = X := ⟨_, rfl⟩
  have E3 := heap_setCell_same x2 gE 5 _ _ (.string ⟨#[c]⟩) E2
  rw [hx3] at E3
  have hfin : (setAll evN.toArray 6 ZH.toList).setIfInBounds 5 (.string ⟨#[c]⟩) = EV := by rw [HZE.out, hEV]; rfl
  rw [hfin] at E3
  have UX3 : Hid (Upd [] [] w x3) := by
    have h := (Upd.setCellsNew HGE.out.1 ZH.toList 6 _ UX1.out).setNew (p := ⟨gE, 5, none⟩) HGE.out.1 (.string ⟨#[c]⟩)
    rw [hx2, hx3] at h
    exact h
  have uS : Upd [gE] [gE] x1 x3 := by
    have h := (Upd.setCellsIn (g := gE) (S := [gE]) (S' := [gE]) (by simp) ZH.toList 6 _ (Upd.refl [gE] x1)).setCell (p := ⟨gE, 5, none⟩) (by simp) (.string ⟨#[c]⟩)
    rw [hx2, hx3] at h
    exact h
  have Q3 : Hid (x3.heap[g2]? = some (.cells evZ.toArray 33 (0, 0))) := (uS.block g2 (blk_lt Q1.out) (by simp; exact fun e => e1 e.symm)).trans Q1.out
  have HX2 := Lib.hid hx2
  have E3H := Lib.hid E3
  have HEVE := Lib.hid hEV
  clear hq E9 Q9 R9 UD9 E1 Q1 E2 hfin uS UX1 hx2 E3 hEV Z9 W9 cp9 hgH
  go_wp2_with (first | (refine wpList_load_row rfl 29 _ rfl gH rfl _ ZH _ _ H1.out Tryz.underlying29 rfl HZI.out ?_) | (refine wpList_store_midAs rfl 29 _ _ rfl gE 6 ZH rfl rfl TH.out HZI.out HZO.out x2 HX2.out ?_) | (refine wpList_load_row rfl 33 _ rfl gE rfl _ EV _ _ E3H.out Tryz.underlying33 rfl HEVI.out ?_))
  rw [HEVE.out]
  refine (dEncode_any c x3 (htab.upd UX3.out)).mono ?_
  rintro e x4 ⟨y, HY, _, rfl, hq⟩
  obtain rfl : y = s := bs_inj (HY.out.trans hs.symm)
  have E4 := Lib.hid (row_updH E3H.out hq)
  have Q4 := Lib.hid (row_updH Q3.out hq)
  have UX4 := Lib.hid (UX3.out.trans hq)
  obtain ⟨x5, hx5⟩ : ∃ X, x4.setRow g2 EV = X := ⟨_, rfl⟩
  have R5 : (x4.setRow g2 EV).heap[g2]? = some (.cells EV 33 (0, 0)) := setRow_heap _ _ _ _ _ _ Q4.out
  rw [hx5] at R5
  have UX5 := UX4.out.setRowNew (show w.heap.size ≤ g2 from Nat.le_of_eq HW.out) EV
  rw [hx5] at UX5
  have HX5 := Lib.hid hx5
  have HR5 := Lib.hid R5
  have HUX5 := Lib.hid UX5
  clear hq E3H Q3 UX3 HY UX4 hx5 R5 UX5 H1 TH HX2 hx3 c5 f5
  go_wp2_with (first | (refine wpList_load_row rfl 33 _ rfl gE rfl _ EV _ _ E4.out Tryz.underlying33 rfl HEVI.out ?_) | (refine wpList_store_rowAs rfl 33 _ _ rfl g2 EV rfl rfl _ _ Q4.out HEVI.out HEVZ.out HEVO.out x5 HX5.out ?_))
  refine bodyPost_ret (results_row_tmp rfl _ _ g2 _ EV _ _ rfl HR5.out Tryz.underlying33 rfl HEVI.out) rfl ⟨?_, HUX5.out⟩
  rw [HEVE.out]
  rfl
end Go.Proofs.YtcimcodljjcmgaaGreatDoor

namespace Go.Proofs.YtcimcodljjcmgaaGreatDoor
open Go.RowKit
set_option maxRecDepth 100000

theorem splitB_le (sep : ByteArray) : ∀ (k : Nat) (s : ByteArray), (Lib.splitB sep 0 k s).length ≤ k + 1
  | 0, _ => by simp [Lib.splitB]
  | k + 1, s => by
    unfold Lib.splitB
    split
    · simp
    · rw [List.length_cons]
      have := splitB_le sep k (s.extract ((Lib.indexB s sep).toNat + sep.size) s.size)
      omega
theorem splitB_size (sep : ByteArray) : ∀ (k : Nat) (s p : ByteArray), p ∈ Lib.splitB sep 0 k s → p.size ≤ s.size
  | 0, s, p, h => by
    simp only [Lib.splitB, List.mem_singleton] at h
    rw [h]
    exact Nat.le_refl _
  | k + 1, s, p, h => by
    unfold Lib.splitB at h
    split at h
    · simp only [List.mem_singleton] at h
      rw [h]
      exact Nat.le_refl _
    · rcases List.mem_cons.1 h with h | h
      · rw [h, ByteArray.size_extract]
        omega
      · have := splitB_size sep k _ p h
        rw [ByteArray.size_extract] at this
        omega
theorem split_code {s : ByteArray} {ev : EvG} (h : IsCode (bs s) ev) : (Lib.splitB ⟨#[32]⟩ 0 (min 10 (s.size + 1) - 1) s).map bs = ev.parts := by
  have hl := ev.code_len
  rw [← h.2, bs_length] at hl
  have hk : min 10 (s.size + 1) - 1 = 9 := by omega
  have e : Lib.splitK (bs ⟨#[32]⟩) 0 9 (bs s) = ev.parts := by rw [h.2]; exact ev.code_split
  rw [hk, splitB_of e, List.map_map]
  conv => rhs; rw [← List.map_id ev.parts]
  exact List.map_congr_left fun x _ => rfl
def MkTen (s : ByteArray) (W : World) (e : Ending) (w' : World) : Prop :=
  ∃ (P : List ByteArray) (cap : Nat), Hid ((∀ ev, IsCode (bs s) ev → P.map bs = ev.parts) ∧ (∀ p ∈ P, p.size ≤ s.size)) ∧ P.length ≤ cap ∧ cap ≤ 10 ∧ e = .returned (.slice (some ⟨W.heap.size, 0, none⟩) P.length cap) ∧ w' = W.alloc (.cells (Lib.cellsOf P cap) 9)
theorem splitTen (s : ByteArray) (hs : s.size ≤ 4000000000) (W : World) (htab : Tabs W) : Calls Tryz.prog 100 #[.string s, .string ⟨#[32]⟩, .int .i64 10] W (MkTen s W) := by
  obtain ⟨m, hm⟩ := htab.m
  refine (Tryz.strings_SplitN s ⟨#[32]⟩ 10 m W (by omega) hm (by decide) (by omega) (by omega)).mono ?_
  rintro e w' ⟨rfl, rfl⟩
  refine ⟨Lib.splitB ⟨#[32]⟩ 0 (min 10 (s.size + 1) - 1) s, min 10 (s.size + 1), ⟨fun ev h => split_code h, fun p hp => splitB_size _ _ _ _ hp⟩, ?_, by omega, rfl, rfl⟩
  have := splitB_le ⟨#[32]⟩ (min 10 (s.size + 1) - 1) s
  omega
theorem ten_of {P : List ByteArray} (h : P.length = 10) : ∃ a b c d e f g i j k, P = [a, b, c, d, e, f, g, i, j, k] := by
  match P, h with
  | [a, b, c, d, e, f, g, i, j, k], _ => exact ⟨a, b, c, d, e, f, g, i, j, k, rfl⟩
theorem ev_row (w : World) (g2 : Nat) (ZE : Array Value) (W : World) (hz : w.heap.size ≤ g2) (hg : W.heap[g2]? = some (.cells evZ.toArray 33 (0, 0))) (u : Upd [] [] w W) :
    ∃ X, Hid (W.setRow g2 ZE = X) ∧ Hid (X.heap[g2]? = some (.cells ZE 33 (0, 0))) ∧ Hid (Upd [] [] w X) :=
  ⟨_, rfl, setRow_heap _ _ _ _ _ _ hg, u.setRowNew hz ZE⟩
theorem code_same {e f : EvG} (h1 : Lib.itoa e.r = Lib.itoa f.r) (h2 : Lib.itoa e.s = Lib.itoa f.s) (h3 : Lib.itoa e.q = Lib.itoa f.q) (h4 : Lib.itoa e.k = Lib.itoa f.k) (h5 : Lib.itoa e.h = Lib.itoa f.h) (h6 : Lib.itoa e.t = Lib.itoa f.t) (h7 : Lib.itoa e.n = Lib.itoa f.n) (h8 : hexL e.p = hexL f.p) (h9 : wordG (bs e.x) = wordG (bs f.x)) : e.code = f.code := by
  unfold EvG.code EvG.text
  rw [h1, h2, h3, h4, h5, h6, h7, h8, h9]
theorem zeroEv_built : Tryz.prog.built 33 [] = some evZ.toArray := by kernel_rfl
theorem zeroEv_info : (Tryz.prog.info? 33).map (·.size) = some evZ.toArray.size := by
  rw [evZ_len]
  kernel_rfl
theorem zeroEv_one : evZ.toArray.all (·.oneCell') = true := by kernel_rfl
end Go.Proofs.YtcimcodljjcmgaaGreatDoor
