/- day.Decode at the codes of court's example. day.Sign, the law's vote and three; court.event. sorteslaw33.vote and three; court.event, ballot, Contradict at the texts of court's example. sorteslaw33.three; court.event, ballot, Contradict at the texts of court's example. court.event, ballot, Contradict at the texts of court's example. court.courts; a matter; theirs and the closures of courts. A matter; court's theirs and the closures of courts. -/
import Derived.Test.YtinpenoeohejoaaGreatDoorGP
import Derived.Test.YtinpenoeohejoaaGreatDoorGN
import Derived.Test.YtinpenoeohejoaaGreatDoorGB
import Derived.Test.YtinpenoeohejoaaGreatDoorGZ
namespace Go.Proofs.YtinpenoeohejoaaGreatDoor
open Go.RowKit
set_option maxRecDepth 100000

def setAll (C : Array Value) (o : Nat) : List Value → Array Value
  | [] => C
  | v :: r => setAll (C.setIfInBounds o v) (o + 1) r
theorem heap_setCells (g : Nat) (t : TypeId) : ∀ (V : List Value) (o : Nat) (w : World) (C : Array Value), w.heap[g]? = some (.cells C t (0, 0)) → (w.setCells g o V).heap[g]? = some (.cells (setAll C o V) t (0, 0))
  | [], _, _, _, h => h
  | v :: r, o, w, C, h => heap_setCells g t r (o + 1) _ _ (by rw [heap_setCell_same w g o _ _ v h])
theorem there_of_row {w : World} {g o n : Nat} {C : Array Value} {t : TypeId} (h : w.heap[g]? = some (.cells C t (0, 0))) (hn : o + n ≤ C.size) : w.there g o n := fun j hj => ⟨by
  rw [cell_of_row _ _ _ _ _ _ h, Array.getElem?_eq_getElem (by omega)]
  rfl, frozen_of_row _ _ _ _ _ h⟩
def evZ : List Value := [.int .i64 0, .int .i64 0, .int .i64 0, .int .i64 0, .int .i64 0, .string ⟨#[]⟩] ++ (byteVals zero32 ++ [.int .i64 0, .int .i64 0])
def evN : List Value := [.int .i64 5, .int .i64 4, .int .i64 3, .int .i64 0, .int .i64 0, .string ⟨#[]⟩] ++ (byteVals zero32 ++ [.int .i64 0, .int .i64 0])
theorem zero_ev : (#[.int .i64 0, .int .i64 0, .int .i64 0, .int .i64 0, .int .i64 0, .string ⟨#[]⟩, .int .u8 0, .int .u8 0, .int .u8 0, .int .u8 0, .int .u8 0, .int .u8 0, .int .u8 0, .int .u8 0, .int .u8 0, .int .u8 0, .int .u8 0, .int .u8 0, .int .u8 0, .int .u8 0, .int .u8 0, .int .u8 0, .int .u8 0, .int .u8 0, .int .u8 0, .int .u8 0, .int .u8 0, .int .u8 0, .int .u8 0, .int .u8 0, .int .u8 0, .int .u8 0, .int .u8 0, .int .u8 0, .int .u8 0, .int .u8 0, .int .u8 0, .int .u8 0, .int .i64 0, .int .i64 0] : Array Value) = evZ.toArray := by kernel_rfl
theorem evZ_len : evZ.toArray.size = 40 := by simp [evZ, byteVals, zero32]
def ZS : ByteArray := ⟨zeros64.toArray⟩
theorem split_of {c : UInt8} {s : ByteArray} (hs : bs s = codeL c) (W W2 : World) (gP : Nat) (m : Int) (hm : W.cell? ⟨2, 0, none⟩ = some (.int .i64 m)) (hg : W.heap.size = gP) (hw : W.alloc (.cells #[.string ⟨#[48]⟩, .string ⟨#[48]⟩, .string ⟨#[101, 118, 101, 110, 116]⟩, .string ⟨#[53]⟩, .string ⟨#[52]⟩, .string ⟨#[51]⟩, .string ⟨#[48]⟩, .string ⟨#[48]⟩, .string ZS, .string ⟨#[49, 58, c]⟩] 9) = W2) :
    Calls Tryz.prog 204 #[.string s, .string ⟨#[32]⟩, .int .i64 10] W (fun e w' => e = .returned (.slice (some ⟨gP, 0, none⟩) 10 10) ∧ w' = W2) := by
  have hsz : s.size = 88 := by rw [← bs_length, hs, codeL_len]
  have hsp : Lib.splitB ⟨#[32]⟩ 0 (min 10 (s.size + 1) - 1) s = [⟨#[48]⟩, ⟨#[48]⟩, ⟨#[101, 118, 101, 110, 116]⟩, ⟨#[53]⟩, ⟨#[52]⟩, ⟨#[51]⟩, ⟨#[48]⟩, ⟨#[48]⟩, ZS, ⟨#[49, 58, c]⟩] := by
    have h := code_split c
    rw [← hs] at h
    have e := splitB_of (s := s) (sep := ⟨#[32]⟩) (k := 9) h
    rw [hsz, show min 10 (88 + 1) - 1 = 9 from rfl, e]
    simp only [List.map_cons, List.map_nil]
    rfl
  refine (Tryz.strings_SplitN s ⟨#[32]⟩ 10 m W (by omega) hm (by decide) (by omega) (by omega)).mono ?_
  rintro e w' ⟨rfl, rfl⟩
  rw [hsp, hsz, ← hg, ← hw]
  exact ⟨rfl, rfl⟩
set_option maxHeartbeats 8000000 in
theorem dDecode_any (c : UInt8) (s : ByteArray) (hs : bs s = codeL c) (w : World) (htab : Tabs w) : Calls Tryz.prog 160 #[.string s] w (fun e w' => e = .returned (.tuple #[.agg (evV c 0 0).toArray, .int .i64 0]) ∧ Upd [] [] w w') := by
  obtain ⟨g2, hg2⟩ : ∃ g, w.heap.size = g := ⟨_, rfl⟩
  obtain ⟨w1, hw1⟩ : ∃ W, w.alloc (.cells #[.int .i64 0, .int .i64 0, .int .i64 0, .int .i64 0, .int .i64 0, .string ⟨#[]⟩, .int .u8 0, .int .u8 0, .int .u8 0, .int .u8 0, .int .u8 0, .int .u8 0, .int .u8 0, .int .u8 0, .int .u8 0, .int .u8 0, .int .u8 0, .int .u8 0, .int .u8 0, .int .u8 0, .int .u8 0, .int .u8 0, .int .u8 0, .int .u8 0, .int .u8 0, .int .u8 0, .int .u8 0, .int .u8 0, .int .u8 0, .int .u8 0, .int .u8 0, .int .u8 0, .int .u8 0, .int .u8 0, .int .u8 0, .int .u8 0, .int .u8 0, .int .u8 0, .int .i64 0, .int .i64 0] 78) = W := ⟨_, rfl⟩
  have r1 : w1.heap[g2]? = some (.cells evZ.toArray 78 (0, 0)) := by rw [← hg2, ← hw1, zero_ev]; exact heap_alloc_new _ _
  have u1 : Upd [] [] w w1 := by rw [← hw1]; exact (Upd.refl _ _).alloc _
  obtain ⟨gP, hgP⟩ : ∃ g, w1.heap.size = g := ⟨_, rfl⟩
  obtain ⟨w2, hw2⟩ : ∃ W, w1.alloc (.cells #[.string ⟨#[48]⟩, .string ⟨#[48]⟩, .string ⟨#[101, 118, 101, 110, 116]⟩, .string ⟨#[53]⟩, .string ⟨#[52]⟩, .string ⟨#[51]⟩, .string ⟨#[48]⟩, .string ⟨#[48]⟩, .string ZS, .string ⟨#[49, 58, c]⟩] 9) = W := ⟨_, rfl⟩
  have r2 : w2.heap[gP]? = some (.cells #[.string ⟨#[48]⟩, .string ⟨#[48]⟩, .string ⟨#[101, 118, 101, 110, 116]⟩, .string ⟨#[53]⟩, .string ⟨#[52]⟩, .string ⟨#[51]⟩, .string ⟨#[48]⟩, .string ⟨#[48]⟩, .string ZS, .string ⟨#[49, 58, c]⟩] 9 (0, 0)) := by rw [← hgP, ← hw2]; exact heap_alloc_new _ _
  have u2 : Upd [] [] w1 w2 := by rw [← hw2]; exact (Upd.refl _ _).alloc _
  obtain ⟨gE, hgE⟩ : ∃ g, w2.heap.size = g := ⟨_, rfl⟩
  obtain ⟨w3, hw3⟩ : ∃ W, w2.alloc (.cells #[.int .i64 0, .int .i64 0, .int .i64 0, .int .i64 0, .int .i64 0, .string ⟨#[]⟩, .int .u8 0, .int .u8 0, .int .u8 0, .int .u8 0, .int .u8 0, .int .u8 0, .int .u8 0, .int .u8 0, .int .u8 0, .int .u8 0, .int .u8 0, .int .u8 0, .int .u8 0, .int .u8 0, .int .u8 0, .int .u8 0, .int .u8 0, .int .u8 0, .int .u8 0, .int .u8 0, .int .u8 0, .int .u8 0, .int .u8 0, .int .u8 0, .int .u8 0, .int .u8 0, .int .u8 0, .int .u8 0, .int .u8 0, .int .u8 0, .int .u8 0, .int .u8 0, .int .i64 0, .int .i64 0] 78) = W := ⟨_, rfl⟩
  have r3 : w3.heap[gE]? = some (.cells evZ.toArray 78 (0, 0)) := by rw [← hgE, ← hw3, zero_ev]; exact heap_alloc_new _ _
  have u3 : Upd [] [] w2 w3 := by rw [← hw3]; exact (Upd.refl _ _).alloc _
  obtain ⟨gN, hgN⟩ : ∃ g, w3.heap.size = g := ⟨_, rfl⟩
  obtain ⟨w4, hw4⟩ : ∃ W, w3.alloc (.cells #[.pointer (some ⟨gE, 38, none⟩), .pointer (some ⟨gE, 39, none⟩), .pointer none, .pointer (some ⟨gE, 0, none⟩), .pointer (some ⟨gE, 1, none⟩), .pointer (some ⟨gE, 2, none⟩), .pointer (some ⟨gE, 3, none⟩), .pointer (some ⟨gE, 4, none⟩)] 278) = W := ⟨_, rfl⟩
  have r4 : w4.heap[gN]? = some (.cells #[.pointer (some ⟨gE, 38, none⟩), .pointer (some ⟨gE, 39, none⟩), .pointer none, .pointer (some ⟨gE, 0, none⟩), .pointer (some ⟨gE, 1, none⟩), .pointer (some ⟨gE, 2, none⟩), .pointer (some ⟨gE, 3, none⟩), .pointer (some ⟨gE, 4, none⟩)] 278 (0, 0)) := by rw [← hgN, ← hw4]; exact heap_alloc_new _ _
  have u4 : Upd [] [] w3 w4 := by rw [← hw4]; exact (Upd.refl _ _).alloc _
  obtain ⟨m, hm⟩ := (htab.upd u1).m
  have HSp := Lib.hid (split_of hs w1 w2 gP m hm hgP hw2)
  have n1 : g2 < gP := by rw [← hgP, ← hg2]; exact blk_lt (by rw [hg2]; exact r1)
  have n2 : gP < gE := by rw [← hgE]; exact blk_lt r2
  have n3 : gE < gN := by rw [← hgN]; exact blk_lt r3
  have HN := Lib.hid (And.intro n1 (And.intro n2 n3))
  have HW := Lib.hid hg2
  have R2 := Lib.hid (row_updH (row_updH r2 u3) u4)
  have R1 := Lib.hid (row_updH (row_updH (row_updH r1 u2) u3) u4)
  have E0 := Lib.hid (row_updH r3 u4)
  have R4 := Lib.hid r4
  have UD0 := Lib.hid (((u1.trans u2).trans u3).trans u4)
  have e2 : gE ≠ gP := by omega
  have e3 : gE ≠ gN := by omega
  have e1 : gE ≠ g2 := by omega
  clear r1 r2 r3 r4 u1 u2 u3 u4 n1 n2 n3 hm
  go_enter Tryz.func160, Tryz.ntmps160
  go_wp2_with fail
  refine HSp.out.mono ?_
  rintro e w' ⟨rfl, rfl⟩
  clear HSp
  go_wp2_with fail
  refine wp_loop_rounds 9 ?_
  rw [rounds_succ]
  have cn := (cell_of_row _ gN 0 _ _ _ R4.out).trans (show _ = some (Value.pointer (some ⟨gE, 38, none⟩)) from rfl)
  have cp := (cell_of_row _ gP 0 _ _ _ R2.out).trans (show _ = some (Value.string ⟨#[48]⟩) from rfl)
  go_wp2_with fail
  refine (dNumber_any ⟨#[48]⟩ 0 (by unfold i64in; omega) itoa_0.symm _ (htab.upd UD0.out)).mono ?_
  rintro e y0 ⟨rfl, hq⟩
  have cE := (cell_of_row _ gE 38 _ _ _ (row_updH E0.out hq)).trans (show _ = some (Value.int .i64 0) from rfl)
  have fE := frozen_of_row _ gE 38 _ _ (row_updH E0.out hq)
  obtain ⟨z0, hz⟩ : ∃ Z, y0.setCell ⟨gE, 38, none⟩ (.int .i64 0) = Z := ⟨_, rfl⟩
  have uS : Upd [gE] [gE] y0 z0 := by rw [← hz]; exact (Upd.refl _ _).setCell (p := ⟨gE, 38, none⟩) (by simp) _
  have E1 := Lib.hid ((congrArg (fun W : World => W.heap[gE]?) hz.symm).trans (heap_setCell_same y0 gE 38 _ _ (.int .i64 0) (row_updH E0.out hq)))
  have R2_1 := Lib.hid ((uS.block gP (blk_lt (row_updH R2.out hq)) (by simp; exact fun e => e2 e.symm)).trans (row_updH R2.out hq))
  have R4_1 := Lib.hid ((uS.block gN (blk_lt (row_updH R4.out hq)) (by simp; exact fun e => e3 e.symm)).trans (row_updH R4.out hq))
  have R1_1 := Lib.hid ((uS.block g2 (blk_lt (row_updH R1.out hq)) (by simp; exact fun e => e1 e.symm)).trans (row_updH R1.out hq))
  have UD1 : Hid (Upd [] [] w z0) := by have h := (UD0.out.trans hq).setNew (p := ⟨gE, 38, none⟩) (show w.heap.size ≤ gE by have := HW.out; have := HN.out; omega) (.int .i64 0); rw [hz] at h; exact h
  clear cn cp hq uS E0 R2 R4 R1 UD0
  go_wp2_with fail
  clear cE fE hz
  rw [rounds_succ]
  have cn := (cell_of_row _ gN 1 _ _ _ R4_1.out).trans (show _ = some (Value.pointer (some ⟨gE, 39, none⟩)) from rfl)
  have cp := (cell_of_row _ gP 1 _ _ _ R2_1.out).trans (show _ = some (Value.string ⟨#[48]⟩) from rfl)
  go_wp2_with fail
  refine (dNumber_any ⟨#[48]⟩ 0 (by unfold i64in; omega) itoa_0.symm _ (htab.upd UD1.out)).mono ?_
  rintro e y1 ⟨rfl, hq⟩
  have cE := (cell_of_row _ gE 39 _ _ _ (row_updH E1.out hq)).trans (show _ = some (Value.int .i64 0) from rfl)
  have fE := frozen_of_row _ gE 39 _ _ (row_updH E1.out hq)
  obtain ⟨z1, hz⟩ : ∃ Z, y1.setCell ⟨gE, 39, none⟩ (.int .i64 0) = Z := ⟨_, rfl⟩
  have uS : Upd [gE] [gE] y1 z1 := by rw [← hz]; exact (Upd.refl _ _).setCell (p := ⟨gE, 39, none⟩) (by simp) _
  have E2 := Lib.hid ((congrArg (fun W : World => W.heap[gE]?) hz.symm).trans (heap_setCell_same y1 gE 39 _ _ (.int .i64 0) (row_updH E1.out hq)))
  have R2_2 := Lib.hid ((uS.block gP (blk_lt (row_updH R2_1.out hq)) (by simp; exact fun e => e2 e.symm)).trans (row_updH R2_1.out hq))
  have R4_2 := Lib.hid ((uS.block gN (blk_lt (row_updH R4_1.out hq)) (by simp; exact fun e => e3 e.symm)).trans (row_updH R4_1.out hq))
  have R1_2 := Lib.hid ((uS.block g2 (blk_lt (row_updH R1_1.out hq)) (by simp; exact fun e => e1 e.symm)).trans (row_updH R1_1.out hq))
  have UD2 : Hid (Upd [] [] w z1) := by have h := (UD1.out.trans hq).setNew (p := ⟨gE, 39, none⟩) (show w.heap.size ≤ gE by have := HW.out; have := HN.out; omega) (.int .i64 0); rw [hz] at h; exact h
  clear cn cp hq uS E1 R2_1 R4_1 R1_1 UD1
  go_wp2_with fail
  clear cE fE hz
  rw [rounds_succ]
  have cn := (cell_of_row _ gN 2 _ _ _ R4_2.out).trans (show _ = some (Value.pointer none) from rfl)
  go_wp2_with fail
  clear cn
  rw [rounds_succ]
  have cn := (cell_of_row _ gN 3 _ _ _ R4_2.out).trans (show _ = some (Value.pointer (some ⟨gE, 0, none⟩)) from rfl)
  have cp := (cell_of_row _ gP 3 _ _ _ R2_2.out).trans (show _ = some (Value.string ⟨#[53]⟩) from rfl)
  go_wp2_with fail
  refine (dNumber_any ⟨#[53]⟩ 5 (by unfold i64in; omega) itoa_5.symm _ (htab.upd UD2.out)).mono ?_
  rintro e y3 ⟨rfl, hq⟩
  have cE := (cell_of_row _ gE 0 _ _ _ (row_updH E2.out hq)).trans (show _ = some (Value.int .i64 0) from rfl)
  have fE := frozen_of_row _ gE 0 _ _ (row_updH E2.out hq)
  obtain ⟨z3, hz⟩ : ∃ Z, y3.setCell ⟨gE, 0, none⟩ (.int .i64 5) = Z := ⟨_, rfl⟩
  have uS : Upd [gE] [gE] y3 z3 := by rw [← hz]; exact (Upd.refl _ _).setCell (p := ⟨gE, 0, none⟩) (by simp) _
  have E4 := Lib.hid ((congrArg (fun W : World => W.heap[gE]?) hz.symm).trans (heap_setCell_same y3 gE 0 _ _ (.int .i64 5) (row_updH E2.out hq)))
  have R2_4 := Lib.hid ((uS.block gP (blk_lt (row_updH R2_2.out hq)) (by simp; exact fun e => e2 e.symm)).trans (row_updH R2_2.out hq))
  have R4_4 := Lib.hid ((uS.block gN (blk_lt (row_updH R4_2.out hq)) (by simp; exact fun e => e3 e.symm)).trans (row_updH R4_2.out hq))
  have R1_4 := Lib.hid ((uS.block g2 (blk_lt (row_updH R1_2.out hq)) (by simp; exact fun e => e1 e.symm)).trans (row_updH R1_2.out hq))
  have UD4 : Hid (Upd [] [] w z3) := by have h := (UD2.out.trans hq).setNew (p := ⟨gE, 0, none⟩) (show w.heap.size ≤ gE by have := HW.out; have := HN.out; omega) (.int .i64 5); rw [hz] at h; exact h
  clear cn cp hq uS E2 R2_2 R4_2 R1_2 UD2
  go_wp2_with fail
  clear cE fE hz
  rw [rounds_succ]
  have cn := (cell_of_row _ gN 4 _ _ _ R4_4.out).trans (show _ = some (Value.pointer (some ⟨gE, 1, none⟩)) from rfl)
  have cp := (cell_of_row _ gP 4 _ _ _ R2_4.out).trans (show _ = some (Value.string ⟨#[52]⟩) from rfl)
  go_wp2_with fail
  refine (dNumber_any ⟨#[52]⟩ 4 (by unfold i64in; omega) itoa_4.symm _ (htab.upd UD4.out)).mono ?_
  rintro e y4 ⟨rfl, hq⟩
  have cE := (cell_of_row _ gE 1 _ _ _ (row_updH E4.out hq)).trans (show _ = some (Value.int .i64 0) from rfl)
  have fE := frozen_of_row _ gE 1 _ _ (row_updH E4.out hq)
  obtain ⟨z4, hz⟩ : ∃ Z, y4.setCell ⟨gE, 1, none⟩ (.int .i64 4) = Z := ⟨_, rfl⟩
  have uS : Upd [gE] [gE] y4 z4 := by rw [← hz]; exact (Upd.refl _ _).setCell (p := ⟨gE, 1, none⟩) (by simp) _
  have E5 := Lib.hid ((congrArg (fun W : World => W.heap[gE]?) hz.symm).trans (heap_setCell_same y4 gE 1 _ _ (.int .i64 4) (row_updH E4.out hq)))
  have R2_5 := Lib.hid ((uS.block gP (blk_lt (row_updH R2_4.out hq)) (by simp; exact fun e => e2 e.symm)).trans (row_updH R2_4.out hq))
  have R4_5 := Lib.hid ((uS.block gN (blk_lt (row_updH R4_4.out hq)) (by simp; exact fun e => e3 e.symm)).trans (row_updH R4_4.out hq))
  have R1_5 := Lib.hid ((uS.block g2 (blk_lt (row_updH R1_4.out hq)) (by simp; exact fun e => e1 e.symm)).trans (row_updH R1_4.out hq))
  have UD5 : Hid (Upd [] [] w z4) := by have h := (UD4.out.trans hq).setNew (p := ⟨gE, 1, none⟩) (show w.heap.size ≤ gE by have := HW.out; have := HN.out; omega) (.int .i64 4); rw [hz] at h; exact h
  clear cn cp hq uS E4 R2_4 R4_4 R1_4 UD4
  go_wp2_with fail
  clear cE fE hz
  rw [rounds_succ]
  have cn := (cell_of_row _ gN 5 _ _ _ R4_5.out).trans (show _ = some (Value.pointer (some ⟨gE, 2, none⟩)) from rfl)
  have cp := (cell_of_row _ gP 5 _ _ _ R2_5.out).trans (show _ = some (Value.string ⟨#[51]⟩) from rfl)
  go_wp2_with fail
  refine (dNumber_any ⟨#[51]⟩ 3 (by unfold i64in; omega) itoa_3.symm _ (htab.upd UD5.out)).mono ?_
  rintro e y5 ⟨rfl, hq⟩
  have cE := (cell_of_row _ gE 2 _ _ _ (row_updH E5.out hq)).trans (show _ = some (Value.int .i64 0) from rfl)
  have fE := frozen_of_row _ gE 2 _ _ (row_updH E5.out hq)
  obtain ⟨z5, hz⟩ : ∃ Z, y5.setCell ⟨gE, 2, none⟩ (.int .i64 3) = Z := ⟨_, rfl⟩
  have uS : Upd [gE] [gE] y5 z5 := by rw [← hz]; exact (Upd.refl _ _).setCell (p := ⟨gE, 2, none⟩) (by simp) _
  have E6 := Lib.hid ((congrArg (fun W : World => W.heap[gE]?) hz.symm).trans (heap_setCell_same y5 gE 2 _ _ (.int .i64 3) (row_updH E5.out hq)))
  have R2_6 := Lib.hid ((uS.block gP (blk_lt (row_updH R2_5.out hq)) (by simp; exact fun e => e2 e.symm)).trans (row_updH R2_5.out hq))
  have R4_6 := Lib.hid ((uS.block gN (blk_lt (row_updH R4_5.out hq)) (by simp; exact fun e => e3 e.symm)).trans (row_updH R4_5.out hq))
  have R1_6 := Lib.hid ((uS.block g2 (blk_lt (row_updH R1_5.out hq)) (by simp; exact fun e => e1 e.symm)).trans (row_updH R1_5.out hq))
  have UD6 : Hid (Upd [] [] w z5) := by have h := (UD5.out.trans hq).setNew (p := ⟨gE, 2, none⟩) (show w.heap.size ≤ gE by have := HW.out; have := HN.out; omega) (.int .i64 3); rw [hz] at h; exact h
  clear cn cp hq uS E5 R2_5 R4_5 R1_5 UD5
  go_wp2_with fail
  clear cE fE hz
  rw [rounds_succ]
  have cn := (cell_of_row _ gN 6 _ _ _ R4_6.out).trans (show _ = some (Value.pointer (some ⟨gE, 3, none⟩)) from rfl)
  have cp := (cell_of_row _ gP 6 _ _ _ R2_6.out).trans (show _ = some (Value.string ⟨#[48]⟩) from rfl)
  go_wp2_with fail
  refine (dNumber_any ⟨#[48]⟩ 0 (by unfold i64in; omega) itoa_0.symm _ (htab.upd UD6.out)).mono ?_
  rintro e y6 ⟨rfl, hq⟩
  have cE := (cell_of_row _ gE 3 _ _ _ (row_updH E6.out hq)).trans (show _ = some (Value.int .i64 0) from rfl)
  have fE := frozen_of_row _ gE 3 _ _ (row_updH E6.out hq)
  obtain ⟨z6, hz⟩ : ∃ Z, y6.setCell ⟨gE, 3, none⟩ (.int .i64 0) = Z := ⟨_, rfl⟩
  have uS : Upd [gE] [gE] y6 z6 := by rw [← hz]; exact (Upd.refl _ _).setCell (p := ⟨gE, 3, none⟩) (by simp) _
  have E7 := Lib.hid ((congrArg (fun W : World => W.heap[gE]?) hz.symm).trans (heap_setCell_same y6 gE 3 _ _ (.int .i64 0) (row_updH E6.out hq)))
  have R2_7 := Lib.hid ((uS.block gP (blk_lt (row_updH R2_6.out hq)) (by simp; exact fun e => e2 e.symm)).trans (row_updH R2_6.out hq))
  have R4_7 := Lib.hid ((uS.block gN (blk_lt (row_updH R4_6.out hq)) (by simp; exact fun e => e3 e.symm)).trans (row_updH R4_6.out hq))
  have R1_7 := Lib.hid ((uS.block g2 (blk_lt (row_updH R1_6.out hq)) (by simp; exact fun e => e1 e.symm)).trans (row_updH R1_6.out hq))
  have UD7 : Hid (Upd [] [] w z6) := by have h := (UD6.out.trans hq).setNew (p := ⟨gE, 3, none⟩) (show w.heap.size ≤ gE by have := HW.out; have := HN.out; omega) (.int .i64 0); rw [hz] at h; exact h
  clear cn cp hq uS E6 R2_6 R4_6 R1_6 UD6
  go_wp2_with fail
  clear cE fE hz
  rw [rounds_succ]
  have cn := (cell_of_row _ gN 7 _ _ _ R4_7.out).trans (show _ = some (Value.pointer (some ⟨gE, 4, none⟩)) from rfl)
  have cp := (cell_of_row _ gP 7 _ _ _ R2_7.out).trans (show _ = some (Value.string ⟨#[48]⟩) from rfl)
  go_wp2_with fail
  refine (dNumber_any ⟨#[48]⟩ 0 (by unfold i64in; omega) itoa_0.symm _ (htab.upd UD7.out)).mono ?_
  rintro e y7 ⟨rfl, hq⟩
  have cE := (cell_of_row _ gE 4 _ _ _ (row_updH E7.out hq)).trans (show _ = some (Value.int .i64 0) from rfl)
  have fE := frozen_of_row _ gE 4 _ _ (row_updH E7.out hq)
  obtain ⟨z7, hz⟩ : ∃ Z, y7.setCell ⟨gE, 4, none⟩ (.int .i64 0) = Z := ⟨_, rfl⟩
  have uS : Upd [gE] [gE] y7 z7 := by rw [← hz]; exact (Upd.refl _ _).setCell (p := ⟨gE, 4, none⟩) (by simp) _
  have E8 := Lib.hid ((congrArg (fun W : World => W.heap[gE]?) hz.symm).trans (heap_setCell_same y7 gE 4 _ _ (.int .i64 0) (row_updH E7.out hq)))
  have R2_8 := Lib.hid ((uS.block gP (blk_lt (row_updH R2_7.out hq)) (by simp; exact fun e => e2 e.symm)).trans (row_updH R2_7.out hq))
  have R4_8 := Lib.hid ((uS.block gN (blk_lt (row_updH R4_7.out hq)) (by simp; exact fun e => e3 e.symm)).trans (row_updH R4_7.out hq))
  have R1_8 := Lib.hid ((uS.block g2 (blk_lt (row_updH R1_7.out hq)) (by simp; exact fun e => e1 e.symm)).trans (row_updH R1_7.out hq))
  have UD8 : Hid (Upd [] [] w z7) := by have h := (UD7.out.trans hq).setNew (p := ⟨gE, 4, none⟩) (show w.heap.size ≤ gE by have := HW.out; have := HN.out; omega) (.int .i64 0); rw [hz] at h; exact h
  clear cn cp hq uS E7 R2_7 R4_7 R1_7 UD7
  go_wp2_with fail
  clear cE fE hz
  have EE : Hid (z7.heap[gE]? = some (.cells evN.toArray 78 (0, 0))) := by have h := E8.out; exact h
  have RP := R2_8
  have RR := R1_8
  have UDN := UD8
  clear E8 R2_8 R4_8 R1_8 UD8
  rw [rounds_succ]
  have cp8 := (cell_of_row _ gP 8 _ _ _ RP.out).trans (show _ = some (Value.string ZS) from rfl)
  go_wp2_with fail
  have hzs : bs ZS = hexL zero32 := hex_zero.symm
  refine (hexRead_any ZS z7).mono ?_
  rintro e y8 ⟨h', ok, HO, rfl, hq⟩
  have ho := HO.out
  rw [hzs] at ho
  obtain ⟨rfl, rfl⟩ := hexOk_hex rfl ho
  obtain ⟨ZH, hZH⟩ : ∃ ZH, ZH = (byteVals zero32).toArray := ⟨_, rfl⟩
  rw [← hZH]
  have HZI : Hid ((Tryz.prog.info? 37).map (·.size) = some ZH.size) := by rw [hZH]; exact hashInfo rfl
  have HZO : Hid (ZH.all (·.oneCell') = true) := by rw [hZH]; exact hashOne _
  have HZS : Hid (ZH.size = 32) := by rw [hZH]; rfl
  have HZE := Lib.hid hZH
  obtain ⟨y9, Z9, W9, R9, hq9⟩ := blk_new y8 37 (#[.int .u8 0, .int .u8 0, .int .u8 0, .int .u8 0, .int .u8 0, .int .u8 0, .int .u8 0, .int .u8 0, .int .u8 0, .int .u8 0, .int .u8 0, .int .u8 0, .int .u8 0, .int .u8 0, .int .u8 0, .int .u8 0, .int .u8 0, .int .u8 0, .int .u8 0, .int .u8 0, .int .u8 0, .int .u8 0, .int .u8 0, .int .u8 0, .int .u8 0, .int .u8 0, .int .u8 0, .int .u8 0, .int .u8 0, .int .u8 0, .int .u8 0, .int .u8 0] : Array Value) ZH
  have HZZ : Hid (((#[.int .u8 0, .int .u8 0, .int .u8 0, .int .u8 0, .int .u8 0, .int .u8 0, .int .u8 0, .int .u8 0, .int .u8 0, .int .u8 0, .int .u8 0, .int .u8 0, .int .u8 0, .int .u8 0, .int .u8 0, .int .u8 0, .int .u8 0, .int .u8 0, .int .u8 0, .int .u8 0, .int .u8 0, .int .u8 0, .int .u8 0, .int .u8 0, .int .u8 0, .int .u8 0, .int .u8 0, .int .u8 0, .int .u8 0, .int .u8 0, .int .u8 0, .int .u8 0] : Array Value) : Array Value).size = ZH.size) := by show _ = _; rw [HZS.out]; rfl
  obtain ⟨gH, hgH⟩ : ∃ g, y8.heap.size = g := ⟨_, rfl⟩
  have hl8 : gE < y8.heap.size := Nat.lt_of_lt_of_le (blk_lt EE.out) hq.size
  have hgw : w.heap.size ≤ gE := by have := HW.out; have := HN.out; omega
  have hgH2 : gE < gH := by omega
  rw [hgH] at R9 Z9 W9
  have E9 := Lib.hid (row_updH (row_updH EE.out hq) hq9)
  have P9 := Lib.hid (row_updH (row_updH RP.out hq) hq9)
  have Q9 := Lib.hid (row_updH (row_updH RR.out hq) hq9)
  have UD9 := Lib.hid ((UDN.out.trans hq).trans hq9)
  have cp9 := (cell_of_row _ gP 9 _ _ _ P9.out).trans (show _ = some (Value.string ⟨#[49, 58, c]⟩) from rfl)
  have HGE := Lib.hid (And.intro hgw hgH2)
  clear ho HO hzs cp8 hq hq9 hZH EE RP RR UDN hl8 hgw hgH2
  go_wp2_with (first | (refine wpList_store_rowAs rfl 37 _ _ rfl gH ZH rfl rfl _ _ Z9.out HZI.out HZZ.out HZO.out y9 W9.out ?_))
  obtain ⟨EV, hEV⟩ : ∃ EV, EV = (evV c 0 0).toArray := ⟨_, rfl⟩
  have HEVI : Hid ((Tryz.prog.info? 78).map (·.size) = some EV.size) := by rw [hEV]; exact evInfo c 0 0
  have HEVO : Hid (EV.all (·.oneCell') = true) := by rw [hEV]; exact evOne c 0 0
  have HEVZ : Hid (evZ.toArray.size = EV.size) := by show _ = _; rw [hEV, evZ_len]; exact (evV_len c 0 0).symm
  refine (dCut_any c y9 (htab.upd UD9.out)).mono ?_
  rintro e x1 ⟨rfl, hq⟩
  have E1 := Lib.hid (row_updH E9.out hq)
  have Q1 := Lib.hid (row_updH Q9.out hq)
  have H1 := Lib.hid (row_updH R9.out hq)
  have UX1 := Lib.hid (UD9.out.trans hq)
  have TH : Hid (x1.there gE 6 ZH.size) := there_of_row E1.out (by rw [HZS.out]; simp [evN, byteVals, zero32])
  obtain ⟨x2, hx2⟩ : ∃ X, x1.setCells gE 6 ZH.toList = X := ⟨_, rfl⟩
  have E2 := heap_setCells gE _ ZH.toList 6 x1 _ E1.out
  rw [hx2] at E2
  have c5 : x2.cell? ⟨gE, 5, none⟩ = some (.string ⟨#[]⟩) := (cell_of_row _ gE 5 _ _ _ E2).trans (by rw [HZE.out]; rfl)
  have f5 := frozen_of_row _ gE 5 _ _ E2
  obtain ⟨x3, hx3⟩ : ∃ X, x2.setCell ⟨gE, 5, none⟩ (.string ⟨#[c]⟩) = X := ⟨_, rfl⟩
  have E3 := heap_setCell_same x2 gE 5 _ _ (.string ⟨#[c]⟩) E2
  rw [hx3] at E3
  have hfin : (setAll evN.toArray 6 ZH.toList).setIfInBounds 5 (.string ⟨#[c]⟩) = EV := by rw [HZE.out, hEV]; rfl
  rw [hfin] at E3
  have UX3 : Hid (Upd [] [] w x3) := by
    have h := (Upd.setCellsNew HGE.out.1 ZH.toList 6 _ UX1.out).setNew (p := ⟨gE, 5, none⟩) HGE.out.1 (.string ⟨#[c]⟩)
    rw [hx2, hx3] at h
    exact h
  have uS : Upd [gE] [gE] x1 x3 := by
    have h := (Upd.setCellsIn (g := gE) (S := [gE]) (S' := [gE]) (by simp) ZH.toList 6 _ (Upd.refl [gE] x1)).setCell (p := ⟨gE, 5, none⟩) (by simp) (.string ⟨#[c]⟩)
    rw [hx2, hx3] at h
    exact h
  have Q3 : Hid (x3.heap[g2]? = some (.cells evZ.toArray 78 (0, 0))) := (uS.block g2 (blk_lt Q1.out) (by simp; exact fun e => e1 e.symm)).trans Q1.out
  have HX2 := Lib.hid hx2
  have E3H := Lib.hid E3
  have HEVE := Lib.hid hEV
  clear hq E9 Q9 R9 UD9 E1 Q1 E2 hfin uS UX1 hx2 E3 hEV Z9 W9 cp9 hgH
  go_wp2_with (first | (refine wpList_load_row rfl 37 _ rfl gH rfl _ ZH _ _ H1.out Tryz.underlying37 rfl HZI.out ?_) | (refine wpList_store_midAs rfl 37 _ _ rfl gE 6 ZH rfl rfl TH.out HZI.out HZO.out x2 HX2.out ?_) | (refine wpList_load_row rfl 78 _ rfl gE rfl _ EV _ _ E3H.out Tryz.underlying78 rfl HEVI.out ?_))
  rw [HEVE.out]
  refine (dEncode_any c x3 (htab.upd UX3.out)).mono ?_
  rintro e x4 ⟨y, HY, _, rfl, hq⟩
  obtain rfl : y = s := bs_inj (HY.out.trans hs.symm)
  have E4 := Lib.hid (row_updH E3H.out hq)
  have Q4 := Lib.hid (row_updH Q3.out hq)
  have UX4 := Lib.hid (UX3.out.trans hq)
  obtain ⟨x5, hx5⟩ : ∃ X, x4.setRow g2 EV = X := ⟨_, rfl⟩
  have R5 : (x4.setRow g2 EV).heap[g2]? = some (.cells EV 78 (0, 0)) := setRow_heap _ _ _ _ _ _ Q4.out
  rw [hx5] at R5
  have UX5 := UX4.out.setRowNew (show w.heap.size ≤ g2 from Nat.le_of_eq HW.out) EV
  rw [hx5] at UX5
  have HX5 := Lib.hid hx5
  have HR5 := Lib.hid R5
  have HUX5 := Lib.hid UX5
  clear hq E3H Q3 UX3 HY UX4 hx5 R5 UX5 H1 TH HX2 hx3 c5 f5
  go_wp2_with (first | (refine wpList_load_row rfl 78 _ rfl gE rfl _ EV _ _ E4.out Tryz.underlying78 rfl HEVI.out ?_) | (refine wpList_store_rowAs rfl 78 _ _ rfl g2 EV rfl rfl _ _ Q4.out HEVI.out HEVZ.out HEVO.out x5 HX5.out ?_))
  refine bodyPost_ret (results_row_tmp rfl _ _ g2 _ EV _ _ rfl HR5.out Tryz.underlying78 rfl HEVI.out) rfl ⟨?_, HUX5.out⟩
  rw [HEVE.out]
  rfl
end Go.Proofs.YtinpenoeohejoaaGreatDoor

namespace Go.Proofs.YtinpenoeohejoaaGreatDoor
open Go.RowKit
set_option maxRecDepth 100000

theorem sigInfo (a b : Int) : (Tryz.prog.info? 39).map (·.size) = some (#[.int .i64 a, .int .i64 b] : Array Value).size := by
  show _ = some 2
  kernel_rfl
theorem sigOne (a b : Int) : (#[.int .i64 a, .int .i64 b] : Array Value).all (·.oneCell') = true := by simp [Value.oneCell']
def MkEv (c : UInt8) (x : Nat) (w : World) (e : Ending) (w' : World) : Prop :=
  ∃ a b : Nat, Hid (a = gP (nonceN x (tOf c))) ∧ Hid (b = sWith x (nonceN x (tOf c)) (tOf c)) ∧ a < 2305843009213691579 ∧ b < 1152921504606845789 ∧ e = .returned (.agg (evV c a b).toArray) ∧ Upd [] [] w w'
set_option maxHeartbeats 4000000 in
theorem dSign_any (c : UInt8) (x : Nat) (hx : x < 1152921504606845789) (w : World) (htab : Tabs w) : Calls Tryz.prog 17 #[.int .i64 (x : Int), .agg (evV c 0 0).toArray] w (MkEv c x w) := by
  obtain ⟨EV, hEV⟩ : ∃ EV, EV = (evV c 0 0).toArray := ⟨_, rfl⟩
  have HEV := Lib.hid hEV
  have HEVI : Hid ((Tryz.prog.info? 78).map (·.size) = some EV.size) := by rw [hEV]; exact evInfo c 0 0
  obtain ⟨g, hg⟩ : ∃ g, w.heap.size = g := ⟨_, rfl⟩
  obtain ⟨w0, hw0⟩ : ∃ w0, w.alloc (.cells EV 78) = w0 := ⟨_, rfl⟩
  have r0 : w0.heap[g]? = some (.cells EV 78 (0, 0)) := by rw [← hg, ← hw0]; exact heap_alloc_new _ _
  have u0 : Upd [] [] w w0 := by rw [← hw0]; exact (Upd.refl _ _).alloc _
  obtain ⟨gR, hgR⟩ : ∃ g, w0.heap.size = g := ⟨_, rfl⟩
  obtain ⟨w1, hw1⟩ : ∃ W, w0.alloc (.cells #[.int .i64 0, .int .i64 0, .int .i64 0, .int .i64 0, .int .i64 0, .string ⟨#[]⟩, .int .u8 0, .int .u8 0, .int .u8 0, .int .u8 0, .int .u8 0, .int .u8 0, .int .u8 0, .int .u8 0, .int .u8 0, .int .u8 0, .int .u8 0, .int .u8 0, .int .u8 0, .int .u8 0, .int .u8 0, .int .u8 0, .int .u8 0, .int .u8 0, .int .u8 0, .int .u8 0, .int .u8 0, .int .u8 0, .int .u8 0, .int .u8 0, .int .u8 0, .int .u8 0, .int .u8 0, .int .u8 0, .int .u8 0, .int .u8 0, .int .u8 0, .int .u8 0, .int .i64 0, .int .i64 0] 78) = W := ⟨_, rfl⟩
  have r1 : w1.heap[gR]? = some (.cells evZ.toArray 78 (0, 0)) := by rw [← hgR, ← hw1, zero_ev]; exact heap_alloc_new _ _
  have u1 : Upd [] [] w0 w1 := by rw [← hw1]; exact (Upd.refl _ _).alloc _
  have hne : g < gR := by rw [← hgR]; exact blk_lt r0
  have R0 := Lib.hid (row_updH r0 u1)
  have R1 := Lib.hid r1
  have U1 := Lib.hid (u0.trans u1)
  have HG := Lib.hid hg
  rw [← hEV]
  clear hEV r0 u0 r1 u1
  go_enter Tryz.func17, Tryz.ntmps17
  go_wp2_with (first | (refine wpList_load_row rfl 78 _ rfl g rfl _ EV _ _ R0.out Tryz.underlying78 rfl HEVI.out ?_))
  rw [HEV.out]
  refine (dText_any c 0 0 w1 (htab.upd U1.out)).mono ?_
  rintro e w2 ⟨T, HT, _, rfl, hq⟩
  have R2 := Lib.hid (row_updH R0.out hq)
  have Q2 := Lib.hid (row_updH R1.out hq)
  have U2 := Lib.hid (U1.out.trans hq)
  have hts : T.size ≤ 140737488355000 := by rw [← bs_length, HT.out, tOf_len]; omega
  clear hq R0 R1 U1
  rw [← HEV.out]
  go_wp2_with fail
  refine (sign_any (x : Int) T w2 ⟨by omega, by omega⟩ hts (htab.upd U2.out)).mono ?_
  rintro e w3 ⟨a, b, HA, HB, ha, hb, rfl, hq⟩
  rw [HT.out, show expN (x : Int) = x from expN_of hx] at HA HB
  have R3 := Lib.hid (row_updH R2.out hq)
  have Q3 := Lib.hid (row_updH Q2.out hq)
  have U3 := Lib.hid (U2.out.trans hq)
  obtain ⟨SG, hSG⟩ : ∃ SG : Array Value, SG = #[.int .i64 (a : Int), .int .i64 (b : Int)] := ⟨_, rfl⟩
  rw [← hSG]
  have HSI : Hid ((Tryz.prog.info? 39).map (·.size) = some SG.size) := by rw [hSG]; exact sigInfo _ _
  have HSO : Hid (SG.all (·.oneCell') = true) := by rw [hSG]; exact sigOne _ _
  have TH : Hid (w3.there g 38 SG.size) := there_of_row R3.out (by rw [HEV.out, hSG, show (evV c 0 0).toArray.size = 40 from evV_len c 0 0]; exact (by decide : 38 + 2 ≤ 40))
  obtain ⟨w4, hw4⟩ : ∃ X, w3.setCells g 38 SG.toList = X := ⟨_, rfl⟩
  have E4 := heap_setCells g _ SG.toList 38 w3 _ R3.out
  rw [hw4] at E4
  obtain ⟨EW, hEW⟩ : ∃ EW, EW = (evV c a b).toArray := ⟨_, rfl⟩
  have hfin : setAll EV 38 SG.toList = EW := by rw [HEV.out, hSG, hEW]; rfl
  rw [hfin] at E4
  have HEWI : Hid ((Tryz.prog.info? 78).map (·.size) = some EW.size) := by rw [hEW]; exact evInfo c _ _
  have HEWO : Hid (EW.all (·.oneCell') = true) := by rw [hEW]; exact evOne c _ _
  have HEWZ : Hid (evZ.toArray.size = EW.size) := by show _ = _; rw [hEW, evZ_len]; exact (evV_len c _ _).symm
  have hgw : w.heap.size ≤ g := Nat.le_of_eq HG.out
  have UX := Upd.setCellsNew hgw SG.toList 38 _ U3.out
  rw [hw4] at UX
  have uS : Upd [g] [g] w3 w4 := by
    have h := (Upd.setCellsIn (g := g) (S := [g]) (S' := [g]) (by simp) SG.toList 38 _ (Upd.refl [g] w3))
    rw [hw4] at h
    exact h
  have Q4 : Hid (w4.heap[gR]? = some (.cells evZ.toArray 78 (0, 0))) := (uS.block gR (blk_lt Q3.out) (by simp; omega)).trans Q3.out
  obtain ⟨w5, hw5⟩ : ∃ X, w4.setRow gR EW = X := ⟨_, rfl⟩
  have R5 : (w4.setRow gR EW).heap[gR]? = some (.cells EW 78 (0, 0)) := setRow_heap _ _ _ _ _ _ Q4.out
  rw [hw5] at R5
  have U5 := UX.setRowNew (show w.heap.size ≤ gR by omega) EW
  rw [hw5] at U5
  have HW4 := Lib.hid hw4
  have HW5 := Lib.hid hw5
  have E4H := Lib.hid E4
  have HR5 := Lib.hid R5
  have HU5 := Lib.hid U5
  have HEWE := Lib.hid hEW
  clear hq R2 Q2 U2 R3 Q3 hSG hw4 E4 hEW hfin UX uS hw5 R5 U5 hts
  go_wp2_with (first | (refine wpList_store_midAs rfl 39 _ _ rfl g 38 SG rfl rfl TH.out HSI.out HSO.out w4 HW4.out ?_) | (refine wpList_load_row rfl 78 _ rfl g rfl _ EW _ _ E4H.out Tryz.underlying78 rfl HEWI.out ?_) | (refine wpList_store_rowAs rfl 78 _ _ rfl gR EW rfl rfl _ _ Q4.out HEWI.out HEWZ.out HEWO.out w5 HW5.out ?_))
  refine bodyPost_ret (results_cell_row rfl _ _ gR _ EW _ _ rfl HR5.out Tryz.underlying78 rfl HEWI.out) rfl ⟨a, b, HA, HB, ha, hb, ?_, HU5.out⟩
  rw [HEWE.out]
end Go.Proofs.YtinpenoeohejoaaGreatDoor

namespace Go.Proofs.YtinpenoeohejoaaGreatDoor
open Go.RowKit
set_option maxRecDepth 100000

def voteV (T : ByteArray) (r s : Int) : Array Value := #[.int .i64 3, .string T, .int .i64 r, .int .i64 s]
theorem voteInfo (T : ByteArray) (r s : Int) : (Tryz.prog.info? 64).map (·.size) = some (voteV T r s).size := by
  show _ = some 4
  kernel_rfl
theorem voteOne (T : ByteArray) (r s : Int) : (voteV T r s).all (·.oneCell') = true := by simp [voteV, Value.oneCell']
def MkVote (c : UInt8) (r s : Int) (w : World) (e : Ending) (w' : World) : Prop := ∃ T : ByteArray, Hid (bs T = tOf c) ∧ e = .returned (.agg (voteV T r s)) ∧ Upd [] [] w w'
set_option maxHeartbeats 4000000 in
theorem vote33_any (c : UInt8) (r s : Int) (w : World) (htab : Tabs w) : Calls Tryz.prog 18 #[.agg (evV c r s).toArray] w (MkVote c r s w) := by
  obtain ⟨EV, hEV⟩ : ∃ EV, EV = (evV c r s).toArray := ⟨_, rfl⟩
  have HEV := Lib.hid hEV
  obtain ⟨g, hg⟩ : ∃ g, w.heap.size = g := ⟨_, rfl⟩
  obtain ⟨w0, hw0⟩ : ∃ w0, w.alloc (.cells EV 78) = w0 := ⟨_, rfl⟩
  have r0 : EvA w0 g c r s := by rw [← hg, ← hw0, hEV]; exact heap_alloc_new _ _
  have u0 : Upd [] [] w w0 := by rw [← hw0]; exact (Upd.refl _ _).alloc _
  obtain ⟨gR, hgR⟩ : ∃ g, w0.heap.size = g := ⟨_, rfl⟩
  obtain ⟨w1, hw1⟩ : ∃ W, w0.alloc (.cells #[.int .i64 0, .string ⟨#[]⟩, .int .i64 0, .int .i64 0] 64) = W := ⟨_, rfl⟩
  have r1 : w1.heap[gR]? = some (.cells #[.int .i64 0, .string ⟨#[]⟩, .int .i64 0, .int .i64 0] 64 (0, 0)) := by rw [← hgR, ← hw1]; exact heap_alloc_new _ _
  have u1 : Upd [] [] w0 w1 := by rw [← hw1]; exact (Upd.refl _ _).alloc _
  have HU := Lib.hid (u0.trans u1)
  have e0 := r0.upd u1
  have HK : Hid (∀ W, EvA W g c r s → W.cell? ⟨g, 2, none⟩ = some (.int .i64 3) ∧ (Instr.loadAt 78 (.pointer (some ⟨g, 0, none⟩))).run Tryz.prog W = .ok (.agg EV) W ∧ (Instr.loadAt 39 (.pointer (some ⟨g, 38, none⟩))).run Tryz.prog W = .ok (.agg #[.int .i64 r, .int .i64 s]) W) := by
    intro W e
    refine ⟨e.cell 2, evV_load hEV e, ?_⟩
    refine run_loadAt_mid W g 38 39 [.int .i64 r, .int .i64 s] _ (fun j v hv => ?_) Tryz.underlying39 rfl (sigInfo r s)
    match j, hv with
    | 0, hv => simp at hv; subst hv; exact (e.cell 38).trans (ev_at38 _ _ _)
    | 1, hv => simp at hv; subst hv; exact (e.cell 39).trans (ev_at39 _ _ _)
  have R1 := Lib.hid r1
  have E1 := Lib.hid e0
  have hne : g ≠ gR := by have := blk_lt r0; omega
  have HG : Hid (w.heap.size ≤ gR) := by have := blk_lt r0; show _ ≤ _; omega
  have ud0 : Upd [] [] w1 w1.drew := (Upd.refl _ _).drew
  rw [← hEV]
  clear hEV r0 u0 r1 u1 e0
  go_enter Tryz.func18, Tryz.ntmps18
  go_upto_region 1 with (fail)
  refine wp_region_noPanic ?_
  refine wp_region_held_drew (S := fun wp => wp.cell? ⟨g, 2, none⟩ = some (.int .i64 3) ∧ (Instr.loadAt 78 (.pointer (some ⟨g, 0, none⟩))).run Tryz.prog wp = .ok (.agg EV) wp ∧ (Instr.loadAt 39 (.pointer (some ⟨g, 38, none⟩))).run Tryz.prog wp = .ok (.agg #[.int .i64 r, .int .i64 s]) wp) (by kernel_rfl) ?_ (fun hHeld => ?_)
  · exact HK.out _ (E1.out.upd ud0)
  refine tkY 0 hHeld ?_
  refine tkY 1 hHeld ?_
  refine tkL 2 hHeld EV (fun w hSw => hSw.2.1) ?_
  refine tkY 4 hHeld ?_
  refine wpAnyH_take (i := 5) (v := .agg (#[.int .i64 r, .int .i64 s] : Array Value)) (by simp only [List.getElem?_toArray, List.getElem?_cons_succ, List.getElem?_cons_zero] <;> rfl) (by kernel_rfl) (by kernel_rfl) (by kernel_rfl) (fun _ _ _ h => h) (yieldsIf_loadW (by rfl) _ _ rfl _ rfl (#[.int .i64 r, .int .i64 s] : Array Value) (fun w hSw => hSw.2.2)) hHeld ?_
  try simp only [Act.put, List.setIfInBounds_toArray, List.set_cons_zero, List.set_cons_succ]
  refine wpAnyH_ready (rs := [3]) (by kernel_rfl) (by simp) ?_
  refine AllReadyH.cons (by simp only [List.getElem?_toArray, List.getElem?_cons_succ, List.getElem?_cons_zero] <;> rfl) (fun K hK => ?_) ?_
  · go_simp; rw [HEV.out]; refine (dText_any c r s _ (htab.upd (HU.out.trans ud0))).mono ?_; rintro e wv1 ⟨T, HT, _, rfl, hq⟩; have ud1 := ud0.trans hq; clear hq; have hvi := Lib.hid (voteInfo T r s); go_wp2_with fail
    refine hK.out _ _ ?_ (fun hHeld => ?_)
    · exact HK.out _ (E1.out.upd ud1)
    clear hK K
    try simp only [Act.put, List.setIfInBounds_toArray, List.set_cons_zero, List.set_cons_succ]
    refine tkY 6 hHeld ?_
    refine wpAnyH_ready (rs := [7]) (by kernel_rfl) (by simp) ?_
    refine AllReadyH.cons (by simp only [List.getElem?_toArray, List.getElem?_cons_succ, List.getElem?_cons_zero] <;> rfl) (fun K hK => ?_) ?_
    · rw [if_pos (by rfl)]; refine wp_store_row 64 _ _ rfl gR (voteV T r s) rfl rfl _ _ (row_updH R1.out ud1) hvi.out rfl (voteOne T r s) ?_; obtain ⟨wv2, hwx⟩ : ∃ W' : World, W' = wv1.setRow gR (voteV T r s) := ⟨_, rfl⟩; have z2 : Hid (wv2.heap[gR]? = some (.cells (voteV T r s) 64 (0, 0))) := (by show _ = _; rw [hwx]; exact setRow_heap _ _ _ _ _ _ (row_updH R1.out ud1)); have uw2 := (HU.out.trans ud1).setRowNew HG.out (voteV T r s); have e2 : EvA wv2 g c r s := (by rw [hwx]; exact row_setRowO (E1.out.upd ud1) hne _); rw [← hwx] at uw2 ⊢
      refine hK.out _ _ ?_ (fun hHeld => ?_)
      · exact HK.out _ e2
      clear hK K
      try simp only [Act.put]
      refine wpAnyH_done (by kernel_rfl) ?_ _
      refine NoPanic.normal ?_
      go_wp2_with fail
      refine bodyPost_ret (results_cell_row rfl _ _ gR _ (voteV T r s) _ _ rfl z2.out Tryz.underlying64 rfl hvi.out) rfl ⟨T, HT, rfl, uw2⟩
    exact AllReadyH.nil
  exact AllReadyH.nil
end Go.Proofs.YtinpenoeohejoaaGreatDoor

namespace Go.Proofs.YtinpenoeohejoaaGreatDoor
open Go.RowKit
set_option maxRecDepth 100000

def supV (g : Nat) : Array Value := #[.slice (some ⟨g, 0, none⟩) 1 1, .slice none 0 0, .slice none 0 0, .slice none 0 0, .int .i64 0, .int .i64 0]
theorem supInfo (g : Nat) : (Tryz.prog.info? 59).map (·.size) = some (supV g).size := by
  show _ = some 6
  kernel_rfl
def MkThree (w : World) (e : Ending) (w' : World) : Prop :=
  ∃ (x p gM : Nat), Hid (x = keyN three) ∧ Hid (p = gP x) ∧ x < 1152921504606845789 ∧ p < 2305843009213691579 ∧ e = .returned (.tuple #[.agg (supV gM), .int .i64 (x : Int)]) ∧ Hid (w'.heap[gM]? = some (.cells #[.int .i64 3, .int .i64 1, .int .i64 (p : Int)] 53 (0, 0))) ∧ Upd [] [] w w'
set_option maxHeartbeats 2000000 in
theorem three_any (w : World) (htab : Tabs w) : Calls Tryz.prog 16 #[] w (MkThree w) := by
  obtain ⟨g, hg⟩ : ∃ g, w.heap.size = g := ⟨_, rfl⟩
  obtain ⟨w0, hw0⟩ : ∃ W, w.alloc (.cells #[.slice none 0 0, .slice none 0 0, .slice none 0 0, .slice none 0 0, .int .i64 0, .int .i64 0] 59) = W := ⟨_, rfl⟩
  have r0 := Lib.hid (show w0.heap[g]? = some (.cells #[.slice none 0 0, .slice none 0 0, .slice none 0 0, .slice none 0 0, .int .i64 0, .int .i64 0] 59 (0, 0)) by rw [← hg, ← hw0]; exact heap_alloc_new _ _)
  have u0 : Upd [] [] w w0 := by rw [← hw0]; exact (Upd.refl _ _).alloc _
  have HU0 := Lib.hid u0
  have HG := Lib.hid hg
  clear u0
  go_enter Tryz.func16, Tryz.ntmps16
  go_wp2_with fail
  refine (key_any ⟨#[116, 104, 114, 101, 101]⟩ w0 (by decide) (htab.upd HU0.out)).mono ?_
  rintro e w1 ⟨x, p, HX, HP, hx, hp, rfl, hq⟩
  rw [show bs ⟨#[116, 104, 114, 101, 101]⟩ = three from rfl] at HX HP
  have HPX : Hid (p = gP x) := by show _ = _; rw [HP.out, HX.out]
  have r1 := Lib.hid (row_updH r0.out hq)
  have U1 := Lib.hid (HU0.out.trans hq)
  obtain ⟨gM, hgM⟩ : ∃ g, w1.heap.size = g := ⟨_, rfl⟩
  obtain ⟨w2, hw2⟩ : ∃ W, w1.alloc (.cells #[.int .i64 3, .int .i64 1, .int .i64 (p : Int)] 53) = W := ⟨_, rfl⟩
  have rM : w2.heap[gM]? = some (.cells #[.int .i64 3, .int .i64 1, .int .i64 (p : Int)] 53 (0, 0)) := by rw [← hgM, ← hw2]; exact heap_alloc_new _ _
  have u2 : Upd [] [] w1 w2 := by rw [← hw2]; exact (Upd.refl _ _).alloc _
  have r2 := Lib.hid (row_updH r1.out u2)
  have hlt : g < gM := by rw [← hgM]; exact blk_lt r1.out
  obtain ⟨w3, hw3⟩ : ∃ W, w2.setRow g (supV gM) = W := ⟨_, rfl⟩
  have r3 : (w2.setRow g (supV gM)).heap[g]? = some (.cells (supV gM) 59 (0, 0)) := setRow_heap _ _ _ _ _ _ r2.out
  have rM3 : (w2.setRow g (supV gM)).heap[gM]? = some (.cells #[.int .i64 3, .int .i64 1, .int .i64 (p : Int)] 53 (0, 0)) := row_setRowO rM (by omega) _
  have U3 := (U1.out.trans u2).setRowNew (show w.heap.size ≤ g from Nat.le_of_eq HG.out) (supV gM)
  rw [hw3] at r3 rM3 U3
  have HW3 := Lib.hid hw3
  have R3 := Lib.hid r3
  have RM3 := Lib.hid rM3
  have HU3 := Lib.hid U3
  clear hq r0 r1 U1 rM u2 hw3 r3 rM3 U3 HP
  go_wp2_with (first | (refine wpList_store_rowAs rfl 59 _ _ rfl g (supV gM) rfl rfl _ _ r2.out (supInfo gM) rfl (by simp [supV, Value.oneCell']) w3 HW3.out ?_))
  refine bodyPost_ret (results_row_tmp rfl _ _ g _ (supV gM) _ _ rfl R3.out Tryz.underlying59 rfl (supInfo gM)) rfl ⟨x, p, gM, HX, HPX, hx, hp, rfl, RM3, HU3.out⟩
end Go.Proofs.YtinpenoeohejoaaGreatDoor

namespace Go.Proofs.YtinpenoeohejoaaGreatDoor
open Go.RowKit
set_option maxRecDepth 100000

set_option maxHeartbeats 4000000 in
theorem event_any (c : UInt8) (T : ByteArray) (hT : bs T = tOf c) (w : World) (htab : Tabs w) : Calls Tryz.prog 120 #[.string T] w (Mk (.tuple #[.agg (evV c 0 0).toArray, .bool true]) w) := by
  obtain ⟨EV, hEV⟩ : ∃ EV, EV = (evV c 0 0).toArray := ⟨_, rfl⟩
  have HEVI : Hid ((Tryz.prog.info? 78).map (·.size) = some EV.size) := by rw [hEV]; exact evInfo c 0 0
  have HEVO : Hid (EV.all (·.oneCell') = true) := by rw [hEV]; exact evOne c 0 0
  have HEVZ : Hid (evZ.toArray.size = EV.size) := by show _ = _; rw [hEV, evZ_len]; exact (evV_len c 0 0).symm
  have HEV := Lib.hid hEV
  obtain ⟨g, hg⟩ : ∃ g, w.heap.size = g := ⟨_, rfl⟩
  obtain ⟨w0, hw0⟩ : ∃ W, w.alloc (.cells #[.int .i64 0, .int .i64 0, .int .i64 0, .int .i64 0, .int .i64 0, .string ⟨#[]⟩, .int .u8 0, .int .u8 0, .int .u8 0, .int .u8 0, .int .u8 0, .int .u8 0, .int .u8 0, .int .u8 0, .int .u8 0, .int .u8 0, .int .u8 0, .int .u8 0, .int .u8 0, .int .u8 0, .int .u8 0, .int .u8 0, .int .u8 0, .int .u8 0, .int .u8 0, .int .u8 0, .int .u8 0, .int .u8 0, .int .u8 0, .int .u8 0, .int .u8 0, .int .u8 0, .int .u8 0, .int .u8 0, .int .u8 0, .int .u8 0, .int .u8 0, .int .u8 0, .int .i64 0, .int .i64 0] 78) = W := ⟨_, rfl⟩
  have r0 := Lib.hid (show w0.heap[g]? = some (.cells evZ.toArray 78 (0, 0)) by rw [← hg, ← hw0, zero_ev]; exact heap_alloc_new _ _)
  have HU0 := Lib.hid (show Upd [] [] w w0 by rw [← hw0]; exact (Upd.refl _ _).alloc _)
  have hts : T.size = 84 := by rw [← bs_length, hT, tOf_len]
  have s1 : ¬ 9223372036854775807 < 4 + T.size := by omega
  obtain ⟨s, hs⟩ : ∃ s : ByteArray, ByteArray.mk #[48, 32, 48, 32] ++ T = s := ⟨_, rfl⟩
  have hb : bs s = codeL c := by rw [← hs, bs_append, hT]; rfl
  have HD := Lib.hid (dDecode_any c s hb w0 (htab.upd HU0.out))
  rw [← hEV] at HD
  have HG : Hid (w.heap.size ≤ g) := Nat.le_of_eq hg
  rw [← hEV]
  clear hT hts hb hEV
  go_enter Tryz.func120, Tryz.ntmps120
  go_wp2_with fail
  refine HD.out.mono ?_
  rintro e w1 ⟨rfl, hq⟩
  have r1 := Lib.hid (row_updH r0.out hq)
  have HU1 := Lib.hid (HU0.out.trans hq)
  obtain ⟨w2, Z2, W2, R2, hq2⟩ := blk_new w1 78 evZ.toArray EV
  rw [← zero_ev] at Z2 W2
  obtain ⟨gE, hgE⟩ : ∃ g, w1.heap.size = g := ⟨_, rfl⟩
  have hlt : g < gE := by rw [← hgE]; exact blk_lt r1.out
  rw [hgE] at Z2 W2 R2
  have HZZ : Hid ((#[.int .i64 0, .int .i64 0, .int .i64 0, .int .i64 0, .int .i64 0, .string ⟨#[]⟩, .int .u8 0, .int .u8 0, .int .u8 0, .int .u8 0, .int .u8 0, .int .u8 0, .int .u8 0, .int .u8 0, .int .u8 0, .int .u8 0, .int .u8 0, .int .u8 0, .int .u8 0, .int .u8 0, .int .u8 0, .int .u8 0, .int .u8 0, .int .u8 0, .int .u8 0, .int .u8 0, .int .u8 0, .int .u8 0, .int .u8 0, .int .u8 0, .int .u8 0, .int .u8 0, .int .u8 0, .int .u8 0, .int .u8 0, .int .u8 0, .int .u8 0, .int .u8 0, .int .i64 0, .int .i64 0] : Array Value).size = EV.size) := by show _ = _; rw [zero_ev]; exact HEVZ.out
  have r2 := Lib.hid (row_updH r1.out hq2)
  have HU2 := Lib.hid (HU1.out.trans hq2)
  obtain ⟨w3, hw3⟩ : ∃ W, w2.setRow g EV = W := ⟨_, rfl⟩
  have r3 : (w2.setRow g EV).heap[g]? = some (.cells EV 78 (0, 0)) := setRow_heap _ _ _ _ _ _ r2.out
  have U3 := HU2.out.setRowNew HG.out EV
  rw [hw3] at r3 U3
  have HW3 := Lib.hid hw3
  have R3 := Lib.hid r3
  have HU3 := Lib.hid U3
  clear hq hq2 HD r0 r1 HU0 HU1 hw3 r3 U3 hs s1
  go_wp2_with (first | (refine wpList_store_rowAs rfl 78 _ _ rfl gE EV rfl rfl _ _ Z2.out HEVI.out HZZ.out HEVO.out w2 W2.out ?_) | (refine wpList_load_row rfl 78 _ rfl gE rfl _ EV _ _ R2.out Tryz.underlying78 rfl HEVI.out ?_) | (refine wpList_store_rowAs rfl 78 _ _ rfl g EV rfl rfl _ _ r2.out HEVI.out HEVZ.out HEVO.out w3 HW3.out ?_))
  refine bodyPost_ret (results_row_tmp rfl _ _ g _ EV _ _ rfl R3.out Tryz.underlying78 rfl HEVI.out) rfl ⟨rfl, HU3.out⟩
theorem ballot_no (c : UInt8) (hc : c ≠ 32) (T : ByteArray) (hT : bs T = tOf c) (w : World) (htab : Tabs w) : Calls Tryz.prog 119 #[.string T] w (Mk (.tuple #[.string ⟨#[]⟩, .bool false]) w) := by
  obtain ⟨m, hm⟩ := htab.m
  have hts : T.size = 84 := by rw [← bs_length, hT, tOf_len]
  have HS : Hid (Calls Tryz.prog 156 #[.string T, .string ⟨#[32]⟩] w (fun e w' => ∃ g, e = .returned (.slice (some ⟨g, 0, none⟩) 8 8) ∧ Upd [] [] w w')) := by
    refine (Tryz.strings_Split T ⟨#[32]⟩ m w (by omega) hm (by decide)).mono ?_
    rintro e w' ⟨rfl, rfl⟩
    rw [tOf_count hc hT]
    exact ⟨_, rfl, (Upd.refl _ _).alloc _⟩
  clear hm hts
  go_enter Tryz.func119, Tryz.ntmps119
  go_wp2_with fail
  refine HS.out.mono ?_
  rintro e w1 ⟨g, rfl, hq⟩
  have HU := Lib.hid hq
  clear hq HS
  go_wp2_with fail
  go_ret2
  exact ⟨rfl, HU.out⟩
theorem contra_same (T : ByteArray) (w : World) : Calls Tryz.prog 75 #[.string T, .string T] w (Mk (.bool false) w) := by
  go_enter Tryz.func75, Tryz.ntmps75
  go_wp2_with fail
  go_ret
  exact ⟨rfl, Upd.refl _ _⟩
set_option maxHeartbeats 4000000 in
theorem contra_two (T U : ByteArray) (hT : bs T = tOf 97) (hU : bs U = tOf 98) (w : World) (htab : Tabs w) : Calls Tryz.prog 75 #[.string T, .string U] w (Mk (.bool true) w) := by
  obtain ⟨EV, hEV⟩ : ∃ EV, EV = (evV 97 0 0).toArray := ⟨_, rfl⟩
  obtain ⟨EW, hEW⟩ : ∃ EW, EW = (evV 98 0 0).toArray := ⟨_, rfl⟩
  have HEVI : Hid ((Tryz.prog.info? 78).map (·.size) = some EV.size) := by rw [hEV]; exact evInfo _ 0 0
  have HEVO : Hid (EV.all (·.oneCell') = true) := by rw [hEV]; exact evOne _ 0 0
  have HEVZ : Hid ((#[.int .i64 0, .int .i64 0, .int .i64 0, .int .i64 0, .int .i64 0, .string ⟨#[]⟩, .int .u8 0, .int .u8 0, .int .u8 0, .int .u8 0, .int .u8 0, .int .u8 0, .int .u8 0, .int .u8 0, .int .u8 0, .int .u8 0, .int .u8 0, .int .u8 0, .int .u8 0, .int .u8 0, .int .u8 0, .int .u8 0, .int .u8 0, .int .u8 0, .int .u8 0, .int .u8 0, .int .u8 0, .int .u8 0, .int .u8 0, .int .u8 0, .int .u8 0, .int .u8 0, .int .u8 0, .int .u8 0, .int .u8 0, .int .u8 0, .int .u8 0, .int .u8 0, .int .i64 0, .int .i64 0] : Array Value).size = EV.size) := by show _ = _; rw [hEV, zero_ev, evZ_len]; exact (evV_len _ 0 0).symm
  have HEWI : Hid ((Tryz.prog.info? 78).map (·.size) = some EW.size) := by rw [hEW]; exact evInfo _ 0 0
  have HEWO : Hid (EW.all (·.oneCell') = true) := by rw [hEW]; exact evOne _ 0 0
  have HEWZ : Hid ((#[.int .i64 0, .int .i64 0, .int .i64 0, .int .i64 0, .int .i64 0, .string ⟨#[]⟩, .int .u8 0, .int .u8 0, .int .u8 0, .int .u8 0, .int .u8 0, .int .u8 0, .int .u8 0, .int .u8 0, .int .u8 0, .int .u8 0, .int .u8 0, .int .u8 0, .int .u8 0, .int .u8 0, .int .u8 0, .int .u8 0, .int .u8 0, .int .u8 0, .int .u8 0, .int .u8 0, .int .u8 0, .int .u8 0, .int .u8 0, .int .u8 0, .int .u8 0, .int .u8 0, .int .u8 0, .int .u8 0, .int .u8 0, .int .u8 0, .int .u8 0, .int .u8 0, .int .i64 0, .int .i64 0] : Array Value).size = EW.size) := by show _ = _; rw [hEW, zero_ev, evZ_len]; exact (evV_len _ 0 0).symm
  have hne : (T.toList == U.toList) = false := by
    rw [beq_eq_false_iff_ne, ByteArray.toList_eq, ByteArray.toList_eq]
    intro e
    have e' : bs T = bs U := e
    rw [hT, hU] at e'
    have := List.append_cancel_left e'
    simp at this
  have HB1 := Lib.hid (ballot_no 97 (by decide) T hT w htab)
  have HB2 := Lib.hid (fun W (u : Upd [] [] w W) => ballot_no 98 (by decide) U hU W (htab.upd u))
  have HE1 := Lib.hid (fun W (u : Upd [] [] w W) => event_any 97 T hT W (htab.upd u))
  have HE2 := Lib.hid (fun W (u : Upd [] [] w W) => event_any 98 U hU W (htab.upd u))
  rw [← hEV] at HE1
  rw [← hEW] at HE2
  have c0 : EV[0]? = some (.int .i64 5) := by rw [hEV]; rfl
  have d0 : EW[0]? = some (.int .i64 5) := by rw [hEW]; rfl
  have HC := Lib.hid (And.intro c0 d0)
  clear hT hU hEV hEW c0 d0
  go_enter Tryz.func75, Tryz.ntmps75
  go_wp2_with fail
  refine HB1.out.mono ?_
  rintro e w1 ⟨rfl, hq⟩
  have U1 := Lib.hid hq
  clear hq HB1
  go_wp2_with fail
  refine (HB2.out w1 U1.out).mono ?_
  rintro e w2 ⟨rfl, hq⟩
  have U2 := Lib.hid (U1.out.trans hq)
  clear hq HB2 U1
  go_wp2_with fail
  refine (HE1.out w2 U2.out).mono ?_
  rintro e w3 ⟨rfl, hq⟩
  have U3 := Lib.hid (U2.out.trans hq)
  clear hq HE1 U2
  obtain ⟨w4, Z4, W4, R4, hq4⟩ := blk_new w3 78 #[.int .i64 0, .int .i64 0, .int .i64 0, .int .i64 0, .int .i64 0, .string ⟨#[]⟩, .int .u8 0, .int .u8 0, .int .u8 0, .int .u8 0, .int .u8 0, .int .u8 0, .int .u8 0, .int .u8 0, .int .u8 0, .int .u8 0, .int .u8 0, .int .u8 0, .int .u8 0, .int .u8 0, .int .u8 0, .int .u8 0, .int .u8 0, .int .u8 0, .int .u8 0, .int .u8 0, .int .u8 0, .int .u8 0, .int .u8 0, .int .u8 0, .int .u8 0, .int .u8 0, .int .u8 0, .int .u8 0, .int .u8 0, .int .u8 0, .int .u8 0, .int .u8 0, .int .i64 0, .int .i64 0] EV
  obtain ⟨gA, hgA⟩ : ∃ g, w3.heap.size = g := ⟨_, rfl⟩
  rw [hgA] at Z4 W4 R4
  have U4 := Lib.hid (U3.out.trans hq4)
  have hl4 : gA < w4.heap.size := blk_lt R4.out
  clear hq4 U3
  go_wp2_with (first | (refine wpList_store_rowAs rfl 78 _ _ rfl gA EV rfl rfl _ _ Z4.out HEVI.out HEVZ.out HEVO.out w4 W4.out ?_))
  refine (HE2.out w4 U4.out).mono ?_
  rintro e w5 ⟨rfl, hq⟩
  have R5 := Lib.hid (row_updH R4.out hq)
  have U5 := Lib.hid (U4.out.trans hq)
  have hl5 : gA < w5.heap.size := Nat.lt_of_lt_of_le hl4 hq.size
  clear hq HE2 U4 R4 Z4 W4
  obtain ⟨w6, Z6, W6, R6, hq6⟩ := blk_new w5 78 #[.int .i64 0, .int .i64 0, .int .i64 0, .int .i64 0, .int .i64 0, .string ⟨#[]⟩, .int .u8 0, .int .u8 0, .int .u8 0, .int .u8 0, .int .u8 0, .int .u8 0, .int .u8 0, .int .u8 0, .int .u8 0, .int .u8 0, .int .u8 0, .int .u8 0, .int .u8 0, .int .u8 0, .int .u8 0, .int .u8 0, .int .u8 0, .int .u8 0, .int .u8 0, .int .u8 0, .int .u8 0, .int .u8 0, .int .u8 0, .int .u8 0, .int .u8 0, .int .u8 0, .int .u8 0, .int .u8 0, .int .u8 0, .int .u8 0, .int .u8 0, .int .u8 0, .int .i64 0, .int .i64 0] EW
  obtain ⟨gB, hgB⟩ : ∃ g, w5.heap.size = g := ⟨_, rfl⟩
  rw [hgB] at Z6 W6 R6
  have cA : w6.cell? ⟨gA, 0, none⟩ = some (.int .i64 5) := (cell_of_row _ gA 0 _ _ _ (row_updH R5.out hq6)).trans HC.out.1
  have cB : w6.cell? ⟨gB, 0, none⟩ = some (.int .i64 5) := (cell_of_row _ gB 0 _ _ _ R6.out).trans HC.out.2
  have U6 := Lib.hid (U5.out.trans hq6)
  clear hq6 U5 R5 R6 HC
  go_wp2_with (first | (refine wpList_store_rowAs rfl 78 _ _ rfl gB EW rfl rfl _ _ Z6.out HEWI.out HEWZ.out HEWO.out w6 W6.out ?_))
  go_ret
  exact ⟨rfl, U6.out⟩
end Go.Proofs.YtinpenoeohejoaaGreatDoor

namespace Go.Proofs.YtinpenoeohejoaaGreatDoor
open Go.RowKit
set_option maxRecDepth 100000

theorem wpList_ins_F (w : World) {ops : Array Oper} {rest : List Oper} {o : Oper} {a : Act} {Q : Exit → Act → World → Prop}
    (hg : o.guard = none) (m x v : Operand) (t : TypeId) (hop : o.op = Op.insert t m x v) (e : TypeId) (ht : Tryz.prog.underlying t = some (.map 3 e)) (b n : Nat) (f : Int → Option Value)
    (hm : a.eval m = .map (some b)) (h : MapF w b n f) (hn : n < maxLen) (key : Int) (val : Value) (hx : a.eval x = .int .i64 key) (hv : a.eval v = val) (hk : -9223372036854775808 ≤ key ∧ key ≤ 9223372036854775807)
    (hK : ∀ w', MapF w' b (n + 1) (fun y => if y = key then some val else f y) → Upd [b] [b] w w' → wpList Tryz.prog ops Q rest (a.put o.dst undef) w') :
    wpList Tryz.prog ops Q (o :: rest) a w := by
  refine wpList_plain hg fun K' hK' => ?_
  obtain ⟨w', hrun, r1, r2⟩ := h.put (x := key) (v := val) ht hn hk
  unfold Oper.wp
  simp [execOp, hop, hm, hx, hv, hrun, Result.andThen]
  exact hK' _ _ (hK w' r1 r2)
theorem Upd.ownAtN {B : Nat} {a b c : World} (h : Upd [] [] a b) (k : Upd [B] [B] b c) (hB : a.heap.size ≤ B) : Upd [] [] a c :=
  ⟨k.os.trans h.os, k.tape.trans h.tape, k.output.trans h.output, Nat.le_trans h.size k.size, fun i hi _ => (k.block i (Nat.lt_of_lt_of_le hi h.size) (by simp; omega)).trans (h.block i hi (by simp)), fun _ hk => absurd hk (by simp)⟩
def fnV (n : Nat) : Value := .func (.func n) #[] #[]
def crtV (k : Bool) (f g p : Nat) : Value := .agg #[.bool k, fnV f, fnV g, fnV p]
def crtF (y : Int) : Option Value :=
  if y = 7 then some (crtV true 84 85 87) else
  if y = 6 then some (crtV true 84 85 86) else
  if y = 5 then some (crtV false 82 71 83) else
  if y = 4 then some (crtV false 80 73 81) else
  if y = 3 then some (crtV false 78 71 79) else
  if y = 2 then some (crtV false 76 71 77) else
  if y = 1 then some (crtV false 70 73 74) else none
theorem undC : Tryz.prog.underlying 115 = some (.map 3 113) := by kernel_rfl
theorem zeroC (w : World) : (zeroValue 113).run Tryz.prog w = .ok (.agg #[.bool false, .nilFunc, .nilFunc, .nilFunc]) w := by kernel_rfl
set_option maxHeartbeats 4000000 in
theorem courts_any (w : World) : Calls Tryz.prog 41 #[] w (fun e w' => ∃ b, e = .returned (.map (some b)) ∧ Hid (MapF w' b 7 crtF) ∧ Upd [] [] w w') := by
  have hF0 := MapF.made w
  have u0 : Upd [] [] w (w.alloc (.map #[] 0)) := (Upd.refl _ _).alloc _
  have HU0 := Lib.hid u0
  have hmm := @run_makeMap Tryz.prog
  clear u0
  go_enter Tryz.func41, Tryz.ntmps41
  go_upto_region 4 with (fail)
  go_wp2_with (first | (refine wpList_ins_F _ rfl _ _ _ 115 rfl _ undC w.heap.size 0 _ rfl hF0 (by unfold maxLen; omega) _ _ rfl rfl (by omega) ?_; intro w1 hF1 hU1) | (refine wpList_ins_F _ rfl _ _ _ 115 rfl _ undC w.heap.size 1 _ rfl hF1 (by unfold maxLen; omega) _ _ rfl rfl (by omega) ?_; intro w2 hF2 hU2) | (refine wpList_ins_F _ rfl _ _ _ 115 rfl _ undC w.heap.size 2 _ rfl hF2 (by unfold maxLen; omega) _ _ rfl rfl (by omega) ?_; intro w3 hF3 hU3) | (refine wpList_ins_F _ rfl _ _ _ 115 rfl _ undC w.heap.size 3 _ rfl hF3 (by unfold maxLen; omega) _ _ rfl rfl (by omega) ?_; intro w4 hF4 hU4) | (refine wpList_ins_F _ rfl _ _ _ 115 rfl _ undC w.heap.size 4 _ rfl hF4 (by unfold maxLen; omega) _ _ rfl rfl (by omega) ?_; intro w5 hF5 hU5) | (refine wpList_ins_F _ rfl _ _ _ 115 rfl _ undC w.heap.size 5 _ rfl hF5 (by unfold maxLen; omega) _ _ rfl rfl (by omega) ?_; intro w6 hF6 hU6) | (refine wpList_ins_F _ rfl _ _ _ 115 rfl _ undC w.heap.size 6 _ rfl hF6 (by unfold maxLen; omega) _ _ rfl rfl (by omega) ?_; intro w7 hF7 hU7))
  go_ret
  refine ⟨_, rfl, ?_, ?_⟩
  · exact hF7
  · exact ((((((HU0.out.ownAtN hU1 (Nat.le_refl _)).ownAtN hU2 (Nat.le_refl _)).ownAtN hU3 (Nat.le_refl _)).ownAtN hU4 (Nat.le_refl _)).ownAtN hU5 (Nat.le_refl _)).ownAtN hU6 (Nat.le_refl _)).ownAtN hU7 (Nat.le_refl _)
end Go.Proofs.YtinpenoeohejoaaGreatDoor

namespace Go.Proofs.YtinpenoeohejoaaGreatDoor
open Go.RowKit
set_option maxRecDepth 100000

def evdL (kind who aw : Int) (aT : ByteArray) (ar as' bw : Int) (bT : ByteArray) (br bs' low high : Int) (F A B : ByteArray) : List Value :=
  [.int .i64 kind, .int .i64 who, .int .i64 aw, .string aT, .int .i64 ar, .int .i64 as', .int .i64 bw, .string bT, .int .i64 br, .int .i64 bs', .int .i64 low, .int .i64 high, .string F, .string A, .string B, .int .i64 0, .int .i64 0, .int .i64 0, .int .i64 0]
def mtL (m1 m2 m3 m4 : Value) (kind who aw : Int) (aT : ByteArray) (ar as' bw : Int) (bT : ByteArray) (br bs' low high : Int) (F A B : ByteArray) (id wt pub : Int) : List Value :=
  [m1, m2, m3, m4, .int .i64 0, .int .i64 0, .int .i64 kind, .int .i64 who, .int .i64 aw, .string aT, .int .i64 ar, .int .i64 as', .int .i64 bw, .string bT, .int .i64 br, .int .i64 bs', .int .i64 low, .int .i64 high, .string F, .string A, .string B, .int .i64 0, .int .i64 0, .int .i64 0, .int .i64 0, .int .i64 0, .int .i64 id, .int .i64 wt, .int .i64 pub]
structure MtIs (M : Array Value) (aw : Int) (aT : ByteArray) (ar as' bw : Int) (bT : ByteArray) (br bs' low high : Int) (F A B : ByteArray) (id pub : Int) : Prop where
  sz : M.size = 29
  a0 : M[8]? = some (.int .i64 aw)
  a1 : M[9]? = some (.string aT)
  a2 : M[10]? = some (.int .i64 ar)
  a3 : M[11]? = some (.int .i64 as')
  b0 : M[12]? = some (.int .i64 bw)
  b1 : M[13]? = some (.string bT)
  b2 : M[14]? = some (.int .i64 br)
  b3 : M[15]? = some (.int .i64 bs')
  d0 : M[16]? = some (.int .i64 low)
  d1 : M[17]? = some (.int .i64 high)
  d2 : M[18]? = some (.string F)
  d3 : M[19]? = some (.string A)
  d4 : M[20]? = some (.string B)
  i : M[26]? = some (.int .i64 id)
  p : M[28]? = some (.int .i64 pub)
theorem MtIs.of (m1 m2 m3 m4 : Value) (kind who aw : Int) (aT : ByteArray) (ar as' bw : Int) (bT : ByteArray) (br bs' low high : Int) (F A B : ByteArray) (id wt pub : Int) :
    MtIs (mtL m1 m2 m3 m4 kind who aw aT ar as' bw bT br bs' low high F A B id wt pub).toArray aw aT ar as' bw bT br bs' low high F A B id pub :=
  ⟨rfl, rfl, rfl, rfl, rfl, rfl, rfl, rfl, rfl, rfl, rfl, rfl, rfl, rfl, rfl, rfl⟩
theorem mtInfo {M : Array Value} (h : M.size = 29) : (Tryz.prog.info? 120).map (·.size) = some M.size := by
  rw [h]
  kernel_rfl
section
variable {M : Array Value} {aw ar as' bw br bs' low high id pub : Int} {aT bT F A B : ByteArray}
set_option maxHeartbeats 2000000 in
theorem theirs_any (h : MtIs M aw aT ar as' bw bT br bs' low high F A B id pub) (vw vr vs : Int) (vT : ByteArray) (hp : i64in pub) (hr : i64in vr) (hs : i64in vs) (ht : vT.size ≤ 140737488355000) (w : World) (htab : Tabs w) :
    Calls Tryz.prog 72 #[.agg M, .agg #[.int .i64 vw, .string vT, .int .i64 vr, .int .i64 vs]] w (MkB (decide (vw = id) && verB pub (bs vT) vr vs) w) := by
  obtain ⟨g, hg⟩ : ∃ g, w.heap.size = g := ⟨_, rfl⟩
  obtain ⟨w0, hw0⟩ : ∃ W, w.alloc (.cells M 120) = W := ⟨_, rfl⟩
  have r0 : w0.heap[g]? = some (.cells M 120 (0, 0)) := by rw [← hg, ← hw0]; exact heap_alloc_new _ _
  have u0 : Upd [] [] w w0 := by rw [← hw0]; exact (Upd.refl _ _).alloc _
  obtain ⟨gV, hgV⟩ : ∃ g, w0.heap.size = g := ⟨_, rfl⟩
  obtain ⟨w1, hw1⟩ : ∃ W, w0.alloc (.cells #[.int .i64 vw, .string vT, .int .i64 vr, .int .i64 vs] 64) = W := ⟨_, rfl⟩
  have r1 : w1.heap[gV]? = some (.cells #[.int .i64 vw, .string vT, .int .i64 vr, .int .i64 vs] 64 (0, 0)) := by rw [← hgV, ← hw1]; exact heap_alloc_new _ _
  have u1 : Upd [] [] w0 w1 := by rw [← hw1]; exact (Upd.refl _ _).alloc _
  have U1 := Lib.hid (u0.trans u1)
  have q0 := row_updH r0 u1
  have cI := (cell_of_row _ g 26 _ _ _ q0).trans h.i
  have cP := (cell_of_row _ g 28 _ _ _ q0).trans h.p
  have c0 := (cell_of_row _ gV 0 _ _ _ r1).trans (show _ = some (Value.int .i64 vw) from rfl)
  have c1 := (cell_of_row _ gV 1 _ _ _ r1).trans (show _ = some (Value.string vT) from rfl)
  have c2 := (cell_of_row _ gV 2 _ _ _ r1).trans (show _ = some (Value.int .i64 vr) from rfl)
  have c3 := (cell_of_row _ gV 3 _ _ _ r1).trans (show _ = some (Value.int .i64 vs) from rfl)
  have HV := Lib.hid (verify_any pub vT vr vs w1 hp hr hs ht (htab.upd U1.out))
  clear h r0 u0 r1 u1 q0 hp hr hs ht
  by_cases hid' : vw = id
  · have hb : (vw == id) = true := by rw [beq_iff_eq]; exact hid'
    have HD : Hid (decide (vw = id) = true) := decide_eq_true hid'
    clear hid'
    go_enter Tryz.func72, Tryz.ntmps72
    go_wp2_with fail
    refine HV.out.mono ?_
    rintro e w2 ⟨b, HB, rfl, hq⟩
    have U2 := Lib.hid (U1.out.trans hq)
    clear hq HV
    go_wp2_with fail
    go_ret
    exact ⟨b, by show _ = _; rw [HB.out, HD.out, Bool.true_and], rfl, U2.out⟩
  · have hb : (vw == id) = false := by rw [beq_eq_false_iff_ne]; exact hid'
    have HD : Hid (decide (vw = id) = false) := decide_eq_false hid'
    go_enter Tryz.func72, Tryz.ntmps72
    go_wp2_with fail
    go_ret
    exact ⟨false, by show _ = _; rw [HD.out, Bool.false_and], rfl, U1.out⟩
theorem pass_any (w : World) : Calls Tryz.prog 70 #[.agg M] w (Mk (.bool true) w) := by
  go_enter Tryz.func70, Tryz.ntmps70
  go_wp2_with fail
  go_ret
  exact ⟨rfl, (Upd.refl _ _).alloc _⟩
set_option maxHeartbeats 2000000 in
theorem one_any (h : MtIs M aw aT ar as' bw bT br bs' low high F A B id pub) (hp : i64in pub) (hr : i64in ar) (hs : i64in as') (ht : aT.size ≤ 140737488355000) (w : World) (htab : Tabs w) :
    Calls Tryz.prog 71 #[.agg M] w (MkB (decide (aw = id) && verB pub (bs aT) ar as') w) := by
  obtain ⟨g, hg⟩ : ∃ g, w.heap.size = g := ⟨_, rfl⟩
  obtain ⟨w0, hw0⟩ : ∃ W, w.alloc (.cells M 120) = W := ⟨_, rfl⟩
  have r0 := Lib.hid (show w0.heap[g]? = some (.cells M 120 (0, 0)) by rw [← hg, ← hw0]; exact heap_alloc_new _ _)
  have u0 := Lib.hid (show Upd [] [] w w0 by rw [← hw0]; exact (Upd.refl _ _).alloc _)
  have c0 := (cell_of_row _ g 8 _ _ _ r0.out).trans h.a0
  have c1 := (cell_of_row _ g 9 _ _ _ r0.out).trans h.a1
  have c2 := (cell_of_row _ g 10 _ _ _ r0.out).trans h.a2
  have c3 := (cell_of_row _ g 11 _ _ _ r0.out).trans h.a3
  have HT := Lib.hid (theirs_any h aw ar as' aT hp hr hs ht w0 (htab.upd u0.out))
  have HI := Lib.hid (mtInfo h.sz)
  clear h
  go_enter Tryz.func71, Tryz.ntmps71
  go_wp2_with (first | (refine wpList_load_row rfl 120 _ rfl g rfl _ M _ _ r0.out Tryz.underlying120 rfl HI.out ?_))
  refine HT.out.mono ?_
  rintro e w1 ⟨b, HB, rfl, hq⟩
  have U1 := Lib.hid (u0.out.trans hq)
  clear hq HT
  go_wp2_with fail
  go_ret
  exact ⟨b, HB, rfl, U1.out⟩
end
end Go.Proofs.YtinpenoeohejoaaGreatDoor
