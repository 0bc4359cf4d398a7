/- The contract of Append: the walk. -/
import Derived.Test.YtbpbmigdfjnneaaJApp
namespace Go.Proofs.Ytbpbmigdfjnneaa
open Go.RowKit
set_option maxRecDepth 100000

set_option maxHeartbeats 4000000 in
theorem Append_go (jb b : Nat) (M : JM) (D : DiskM) (F : List UInt8) (S : List Nat) (r : ByteArray) (w : World) (hj : JAt w jb b M) (h : DiskAt w b D S) (hjS : jb ∉ S) (hok : D.ok) (hc : D.calls + 4 ≤ 65536) (hb : M.broken = false) (hF : M.fin = F.length)
    (hsp : M.space + r.size + 16 + 256 ≤ 16777216) (hfs : M.fin ≤ M.space) (hmany : M.many ≤ 16777216) :
    Calls Try.prog 39 #[.pointer (some ⟨jb, 0, none⟩), .string r] w (AppPost jb b M D F (bs r) S w) := by
  have hl := hj.lt
  have hlt := h.lt
  obtain ⟨n1, n2⟩ := app_new w (.pointer (some ⟨jb, 0, none⟩))
  have hj2 : JAt ((w.alloc (.cells #[.pointer (some ⟨jb, 0, none⟩)] 63)).alloc (.cells #[.int .i64 0] 42)) jb b M := hj.same (by rw [Below.heap_alloc _ _ _ (by simp; omega), Below.heap_alloc _ _ _ hl])
  have hd2 := (h.alloc (.cells #[.pointer (some ⟨jb, 0, none⟩)] 63)).alloc (.cells #[.int .i64 0] 42)
  have hu2 : Upd S S w ((w.alloc (.cells #[.pointer (some ⟨jb, 0, none⟩)] 63)).alloc (.cells #[.int .i64 0] 42)) := ((Upd.refl _ _).alloc _).alloc _
  go_enter_defers Try.func39, Try.ntmps39
  have c0 := hj2.c0
  have c1 := hj2.c1
  have c3 := hj2.c3
  have c4 := hj2.c4
  rw [hb] at c4
  have e1 : decide ((16777216 : Int) < (M.space : Int) + (r.size : Int) + 16 + 256) = false := decide_eq_false (by omega)
  have HF := Lib.hid hF
  have HB := Lib.hid hb
  have HJ2 := Lib.hid hj2
  have HD2 := Lib.hid hd2
  have HU2 := Lib.hid hu2
  have HN1 := Lib.hid n1
  have HN2 := Lib.hid n2
  have HLT := Lib.hid hlt
  clear hj hj2 hb hF hd2 hu2 n1 n2 h hlt
  go_wp2_with fail
  refine (number_int (r.size : Int) r.size _ rfl (by omega)).mono ?_
  rintro e w1 ⟨nm, hnm, rfl, hu1⟩
  have hj1 := HJ2.out.kept hu1 (by simp)
  have hd1 := HD2.out.kept hu1 (by simp)
  have hb1 := (hu1.block _ (blk_lt HN1.out) (by simp)).trans HN1.out
  have he1 := (hu1.block _ (blk_lt HN2.out) (by simp)).trans HN2.out
  have hu3 : Upd S S w w1 := HU2.out.trans (hu1.mono (fun k hk => by simp at hk) (fun k hk => .inr hk))
  clear hu1 HJ2 HD2 HU2 HN1 HN2 c0 c1 c3 c4 e1
  obtain ⟨fr, hfr⟩ : ∃ fr, fr = nm ++ r := ⟨_, rfl⟩
  have hfb : bs fr = frameL (bs r) := by rw [hfr, bs_append, hnm.out, frameL, bs_length]
  have hfl : fr.size = 8 + r.size := by rw [← bs_length, hfb, frameL_length, bs_length]
  have cb := cell_of_row w1 _ 0 _ _ _ hb1
  have c1 := hj1.c1
  have hnl : nm.size = 8 := by rw [← bs_length, hnm.out, numL_length]
  have HFR := Lib.hid hfr
  have HNL := Lib.hid hnl
  have hnl2 : nm.size ≤ 8 := by omega
  have HFB := Lib.hid hfb
  have HFL := Lib.hid hfl
  have HB1 := Lib.hid hb1
  have HE1 := Lib.hid he1
  clear hfr hfb hfl hb1 he1 hnl
  go_wp2_with fail
  rw [← HFR.out]
  obtain ⟨En, hEn⟩ : ∃ En : Int, En = (M.fin : Int) + ((nm.size : Int) + (r.size : Int)) := ⟨_, rfl⟩
  rw [← hEn]
  have hEn2 : En = ((F.length + (8 + r.size) : Nat) : Int) := by rw [hEn, HNL.out, HF.out]; omega
  have hEn3 : En = ((M.fin + (8 + r.size) : Nat) : Int) := by rw [hEn, HNL.out]; omega
  have HEN := Lib.hid hEn2
  have HEN3 := Lib.hid hEn3
  have hfs2 : fr.size ≤ 8 + r.size := by have := HFL.out; omega
  clear hEn hEn2 hEn3
  have i1 : IntKind.i64.wrap (16 + (M.fin : Int)) = 16 + (M.fin : Int) := IntWalk.i64_in _ (by omega)
  obtain ⟨D1, ok1, hw1⟩ : ∃ D1 ok1, jwrite D (16 + M.fin) (bs fr) = (D1, ok1) := ⟨_, _, rfl⟩
  have hD1c : D1.calls ≤ D.calls + 2 := by have := (jwrite_calls D (16 + M.fin) (bs fr)).1; rw [hw1] at this; exact this
  have hD1o : D1.ok := by have := jwrite_ok hok (by omega) (16 + M.fin) (bs fr) (by rw [bs_length]; omega); rw [hw1] at this; exact this
  have hjA : JAt w1.drew jb b M := hj1.same rfl
  have hdA := hd1.drew
  have HW1 := Lib.hid hw1
  have hbl := blk_lt HB1.out
  have hel := blk_lt HE1.out
  clear hw1 hd1
  cases ok1 with
  | false =>
    refine wp_region_noPanic ?_
    (first | go_region_with (go_at_call 61; ((with_reducible refine (jwrite_int jb b M D S _ (16 + M.fin) fr _ false D1 hjA hdA hjS hok (by omega) (by omega) HW1.out (by omega)).mono ?_); rintro e w2 ⟨S2, rfl, hd2, hu2⟩)) | fail)
    all_goals
      refine NoPanic.normal ?_
      have hn2 : ∀ k, k ∈ S2 → k ≠ w.heap.size + 1 ∧ k ≠ w.heap.size ∧ k ≠ jb := fun k hk => by
        rcases hu2.new k hk with g | g
        · have := HLT.out k g
          exact ⟨by omega, by omega, fun e => hjS (e ▸ g)⟩
        · simp at g; exact ⟨by omega, by omega, by omega⟩
      have hwS : ∀ k, w.heap.size ≤ k → k ∉ S := fun k hk m => by have := HLT.out k m; omega
      have he2 := (hu2.block (w.heap.size + 1) (by simpa using hel) (hwS _ (by omega))).trans HE1.out
      have hb2 := (hu2.block w.heap.size (by simpa using hbl) (hwS _ (by omega))).trans HB1.out
      have hj2 := hjA.kept hu2 hjS
      have ce2 := cell_of_row w2 _ 0 _ _ _ he2
      have fe2 := frozen_of_row w2 _ 0 _ _ he2
      have hu4 : Upd S S2 w w2 := hu3.trans (Upd.trans (Upd.refl _ _).drew hu2)
      have HA : appendD D F (bs r) = (D1, false) := by unfold appendD; rw [← HF.out, ← HFB.out, HW1.out]; rfl
      have HFIN := Lib.hid (app_failed (M := M) (F := F) (r := bs r) hl hj2 (fun m => (hn2 _ m).2.2 rfl) hd2 (fun k hk => (hn2 k hk).1) hu4 HA 0)
      have HJ2 := Lib.hid hj2
      have HB2 := Lib.hid hb2
      have HE2 := Lib.hid he2
      clear hn2 hwS he2 hb2 hj2 hu4 HA i1 cb c1
      go_wp2_with fail
      refine leaves_cons (f := 59) (args := #[.pointer (some ⟨w.heap.size + 1, 0, none⟩), .pointer (some ⟨w.heap.size, 0, none⟩)]) (by simp) (by simp [go_sem]) ?_
      have hx1 : (w2.setCell ⟨w.heap.size + 1, 0, none⟩ (.int .i64 70)).heap[w.heap.size + 1]? = some (.cells #[.int .i64 70] 42 (0, 0)) := by rw [heap_setCell_same _ _ 0 _ _ _ HE2.out]; rfl
      have hx0 : (w2.setCell ⟨w.heap.size + 1, 0, none⟩ (.int .i64 70)).heap[w.heap.size]? = some (.cells #[.pointer (some ⟨jb, 0, none⟩)] 63 (0, 0)) := by rw [heap_setCell_other _ _ _ _ (by simp)]; exact HB2.out
      refine (append1_d w.heap.size jb b M 70 .returning _ (cell_of_row _ _ 0 _ _ _ hx0) (cell_of_row _ _ 0 _ _ _ hx1) (HJ2.out.same (heap_setCell_other _ _ _ _ (by simp; omega)))).mono ?_
      rintro e u' w'' ⟨rfl, rfl, rfl⟩
      exact ⟨_, app_ret _ _ (w.heap.size + 1) 70 (by
        rw [World.cell?_setCell_far _ _ _ _ (by simp; omega)]; exact cell_of_row _ _ 0 _ _ _ hx1) rfl, HFIN.out⟩
  | true =>
    obtain ⟨D2, ok2, hw2⟩ : ∃ D2 ok2, jwrite D1 0 (numL (F.length + (8 + r.size))) = (D2, ok2) := ⟨_, _, rfl⟩
    have HA : appendD D F (bs r) = (D2, ok2) := by unfold appendD; rw [← HF.out, ← HFB.out, HW1.out, if_pos rfl, HF.out, bs_length]; exact hw2
    have hW2 : ∀ nm2 : ByteArray, Hid (bs nm2 = numL (F.length + (8 + r.size))) → jwrite D1 0 (bs nm2) = (D2, ok2) ∧ 0 + nm2.size ≤ 16777216 := fun nm2 hh => by
      rw [hh.out]
      exact ⟨hw2, by rw [← bs_length, hh.out, numL_length]; omega⟩
    have HW2 := Lib.hid hW2
    clear hw2 hW2
    have kB : w1.drew.cell? ⟨w.heap.size, 0, none⟩ = some (.pointer (some ⟨jb, 0, none⟩)) ∧ w1.drew.cell? ⟨jb, 1, none⟩ = some (.int .i64 (M.fin : Int)) := ⟨cb, c1⟩
    have hbA : w1.drew.heap[w.heap.size]? = some (.cells #[.pointer (some ⟨jb, 0, none⟩)] 63 (0, 0)) := HB1.out
    have HBA := Lib.hid hbA
    have HEA : Hid (w1.drew.heap[w.heap.size + 1]? = some (.cells #[.int .i64 0] 42 (0, 0))) := HE1.out
    have hFl : F.length ≤ 16777216 := by rw [← HF.out]; omega
    clear hbA
    have hblA : w.heap.size < w1.drew.heap.size := by simpa using hbl
    have helA : w.heap.size + 1 < w1.drew.heap.size := by simpa using hel
    clear hbl hel hj1 HB1 HE1
    go_region_held3 (fun wp => wp.cell? ⟨w.heap.size, 0, none⟩ = some (.pointer (some ⟨jb, 0, none⟩)) ∧ wp.cell? ⟨jb, 1, none⟩ = some (.int .i64 (M.fin : Int))) (first | exact kB | assumption | go_keep)
      (first
        | (go_at_call 61; ((with_reducible refine (jwrite_int jb b M D S _ (16 + M.fin) fr _ true D1 hjA hdA hjS hok (by omega) (by omega) HW1.out (by omega)).mono ?_); rintro e w2 ⟨S2, rfl, hd2, hu2⟩; obtain ⟨hj2, HB2, HE2, hjS2, hS2, k2⟩ := app_mid hl (fun k hk => .inl (HLT.out k hk)) hjS hjA HBA HEA hu2; have HS2 := Lib.hid hS2; clear hS2))
        | (go_at_call 60; ((with_reducible refine (number_int En (F.length + (8 + r.size)) _ HEN.out (by omega)).mono ?_); rintro e w3 ⟨nm2, hnm2, rfl, hu3'⟩; obtain ⟨hj3, HB3, HE3, k3⟩ := app_mid2 hj2 HB2 HE2 hu3'; have hd3 := hd2.kept hu3' (by simp)))
        | (go_at_call 61; ((with_reducible refine (jwrite_int jb b M D1 S2 0 0 nm2 _ ok2 D2 hj3 hd3 hjS2 hD1o (by omega) (HW2.out nm2 hnm2).2 (HW2.out nm2 hnm2).1 rfl).mono ?_); rintro e w4 ⟨S4, rfl, hd4, hu4⟩; obtain ⟨hj4, HB4, HE4, hjS4, hS4, k4⟩ := app_mid hl HS2.out hjS2 hj3 HB3 HE3 hu4; have HS4 := Lib.hid hS4; clear hS4)))
    have huT : Upd S S4 w w4 := hu3.trans (Upd.trans (Upd.refl _ _).drew (hu2.trans ((hu3'.mono (fun k hk => by simp at hk) (fun k hk => .inr hk)).trans hu4)))
    have ce4 := cell_of_row w4 _ 0 _ _ _ HE4.out
    have fe4 := frozen_of_row w4 _ 0 _ _ HE4.out
    have cj4 := hj4.c1
    have fj4 := hj4.free 1
    have hel4 := blk_lt HE4.out
    clear hu2 hu3' hu4 hu3 hj2 hj3 HB2 HE2 HB3 HE3 hd2 hd3 k2 k3 HBA HEA hjA hdA kB cb c1 i1
    cases ok2 with
    | false =>
      have HFIN := Lib.hid (app_failed (M := M) (F := F) (r := bs r) hl hj4 hjS4 hd4 (fun k hk => by have := HS4.out k hk; omega) huT HA 0)
      have HJ4 := Lib.hid hj4
      clear hj4 hd4 HA huT
      go_wp2_with fail
      refine leaves_cons (f := 59) (args := #[.pointer (some ⟨w.heap.size + 1, 0, none⟩), .pointer (some ⟨w.heap.size, 0, none⟩)]) (by simp) (by simp [go_sem]) ?_
      have hx1 : (w4.setCell ⟨w.heap.size + 1, 0, none⟩ (.int .i64 70)).heap[w.heap.size + 1]? = some (.cells #[.int .i64 70] 42 (0, 0)) := by rw [heap_setCell_same _ _ 0 _ _ _ HE4.out]; rfl
      have hx0 : (w4.setCell ⟨w.heap.size + 1, 0, none⟩ (.int .i64 70)).heap[w.heap.size]? = some (.cells #[.pointer (some ⟨jb, 0, none⟩)] 63 (0, 0)) := by rw [heap_setCell_other _ _ _ _ (by simp)]; exact HB4.out
      refine (append1_d w.heap.size jb b M 70 .returning _ (cell_of_row _ _ 0 _ _ _ hx0) (cell_of_row _ _ 0 _ _ _ hx1) (HJ4.out.same (heap_setCell_other _ _ _ _ (by simp; omega)))).mono ?_
      rintro e u' w'' ⟨rfl, rfl, rfl⟩
      exact ⟨_, app_ret _ _ (w.heap.size + 1) 70 (by
        rw [World.cell?_setCell_far _ _ _ _ (by simp; omega)]; exact cell_of_row _ _ 0 _ _ _ hx1) rfl, HFIN.out⟩
    | true =>
      have hj5 := hj4.set { M with fin := M.fin + (8 + r.size) } 1 (.int .i64 En) (by rw [HEN3.out]; rfl)
      have hk5 : ∀ k, k ≠ jb → (w4.setCell ⟨jb, 1, none⟩ (.int .i64 En)).heap[k]? = w4.heap[k]? := fun k hk => heap_setCell_other _ _ _ _ (by simpa using hk)
      have hb5 := (hk5 w.heap.size (by omega)).trans HB4.out
      have he5 := (hk5 (w.heap.size + 1) (by omega)).trans HE4.out
      have hd5 := hd4.same (fun k hk => hk5 k (fun e => hjS4 (e ▸ hk)))
      have huT5 : Upd (jb :: S) (jb :: S4) w (w4.setCell ⟨jb, 1, none⟩ (.int .i64 En)) := (huT.mono (fun k hk => by simp [hk]) (fun k hk => by
        simp only [List.mem_cons] at hk ⊢
        rcases hk with h | h
        · exact .inr (.inl h)
        · exact .inl h)).setCell (by simp) _
      have cb5 := cell_of_row (w4.setCell ⟨jb, 1, none⟩ (.int .i64 En)) _ 0 _ _ _ hb5
      have cb4 := cell_of_row w4 _ 0 _ _ _ HB4.out
      have HB5 := Lib.hid hb5
      have HE5 := Lib.hid he5
      have HJ5 := Lib.hid hj5
      clear hk5 hb5 he5 hj5 hj4 hd4 huT ce4 fe4
      go_wp2_with fail
      refine (jcount_any jb b _ r _ HJ5.out (by show M.many ≤ _; omega) (by show M.space ≤ _; omega) (by omega)).mono ?_
      rintro e w6 ⟨rfl, hj6, hu6⟩
      have hb6 := (hu6.block w.heap.size (blk_lt HB5.out) (by simp; omega)).trans HB5.out
      have he6 := (hu6.block (w.heap.size + 1) (blk_lt HE5.out) (by simp; omega)).trans HE5.out
      have hd6 := hd5.kept hu6 (by simpa using fun (k : Nat) (hk : k ∈ S4) (e : k = jb) => hjS4 (e ▸ hk))
      have huT6 : Upd (jb :: S) (jb :: S4) w w6 := huT5.trans (hu6.mono (by simp) (fun k hk => .inr hk))
      have ce6 := cell_of_row w6 _ 0 _ _ _ he6
      have fe6 := frozen_of_row w6 _ 0 _ _ he6
      have HB6 := Lib.hid hb6
      have HE6 := Lib.hid he6
      have HJ6 := Lib.hid hj6
      clear hb6 he6 hj6 hu6 hd5 huT5 cb5 cb4 cj4 fj4
      go_wp2_with fail
      refine leaves_cons (f := 59) (args := #[.pointer (some ⟨w.heap.size + 1, 0, none⟩), .pointer (some ⟨w.heap.size, 0, none⟩)]) (by simp) (by simp [go_sem]) ?_
      have hx1 : (w6.setCell ⟨w.heap.size + 1, 0, none⟩ (.int .i64 0)).heap[w.heap.size + 1]? = some (.cells #[.int .i64 0] 42 (0, 0)) := by rw [heap_setCell_same _ _ 0 _ _ _ HE6.out]; rfl
      have hx0 : (w6.setCell ⟨w.heap.size + 1, 0, none⟩ (.int .i64 0)).heap[w.heap.size]? = some (.cells #[.pointer (some ⟨jb, 0, none⟩)] 63 (0, 0)) := by rw [heap_setCell_other _ _ _ _ (by simp)]; exact HB6.out
      have hjx := HJ6.out.same (w' := w6.setCell ⟨w.heap.size + 1, 0, none⟩ (.int .i64 0)) (heap_setCell_other _ _ _ _ (by simp; omega))
      refine (append1_d w.heap.size jb b _ 0 .returning _ (cell_of_row _ _ 0 _ _ _ hx0) (cell_of_row _ _ 0 _ _ _ hx1) hjx).mono ?_
      rintro e u' w'' ⟨rfl, rfl, rfl⟩
      refine ⟨_, app_ret _ _ (w.heap.size + 1) 0 (by
        rw [World.cell?_setCell_far _ _ _ _ (by simp; omega)]; exact cell_of_row _ _ 0 _ _ _ hx1) rfl, S4, hjS4, ?_, ?_, .inl ⟨by rw [HA], rfl, ?_⟩⟩
      · rw [HA]
        refine hd6.same (fun k hk => ?_)
        rw [heap_setCell_other _ _ _ _ (fun (e : k = jb) => hjS4 (e ▸ hk)), heap_setCell_other _ _ _ _ (by have := HS4.out k hk; simp; omega)]
      · exact (huT6.setNew (p := ⟨w.heap.size + 1, 0, none⟩) (by simp) _).setCell (by simp) _
      · exact hjx.set ⟨M.fin + (8 + (bs r).length), M.many + 1, M.space + (bs r).length + 16, false⟩ 4 (.bool false) rfl
end Go.Proofs.Ytbpbmigdfjnneaa
