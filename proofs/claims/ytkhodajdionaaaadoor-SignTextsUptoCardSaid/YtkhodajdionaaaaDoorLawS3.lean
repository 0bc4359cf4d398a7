/- The walk of SignTexts. -/
import Derived.Test.YtkhodajdionaaaaDoorRDecB
import Derived.Test.YtkhodajdionaaaaDoorEqA
import Derived.Test.YtkhodajdionaaaaDoorSanS
import Derived.Test.YtkhodajdionaaaaDoorBytB
namespace Go.Proofs.YtkhodajdionaaaaDoor
open Go.RowKit
set_option maxRecDepth 100000

theorem row_updS {w w' : World} {g : Nat} {o : Obj} (h : w.heap[g]? = some o) (u : Upd [] [] w w') : w'.heap[g]? = some o := by
  rw [u.block _ (Array.getElem?_eq_some_iff.1 h).1 (by simp)]; exact h
/-- A text, a place and a byte in a new block. -/
structure EditAt (w wp : World) (T : ByteArray) (a b : Int) : Prop where
  up : Upd [] [] w wp
  row : wp.heap[w.heap.size]? = some (.cells #[.string T, .int .i64 a, .int .u8 b] 56 (0, 0))
theorem EditAt.start (w : World) (T : ByteArray) (a b : Int) : EditAt w (w.alloc (.cells #[.string T, .int .i64 a, .int .u8 b] 56)) T a b := ⟨(Upd.refl _ _).alloc _, heap_alloc_new _ _⟩
theorem EditAt.upd {w wp wq : World} {T : ByteArray} {a b : Int} (h : EditAt w wp T a b) (u : Upd [] [] wp wq) : EditAt w wq T a b := ⟨h.up.trans u, row_updS h.row u⟩
theorem EditAt.cells {w wp : World} {T : ByteArray} {a b : Int} (h : EditAt w wp T a b) : wp.cell? ⟨w.heap.size, 0, none⟩ = some (.string T) ∧ wp.cell? ⟨w.heap.size, 1, none⟩ = some (.int .i64 a) ∧ wp.cell? ⟨w.heap.size, 2, none⟩ = some (.int .u8 b) :=
  ⟨by rw [cell_of_row _ _ _ _ _ _ h.row]; rfl, by rw [cell_of_row _ _ _ _ _ _ h.row]; rfl, by rw [cell_of_row _ _ _ _ _ _ h.row]; rfl⟩
theorem pairL_pos (a b : Int) : 0 < (pairL a b).length := by simp [pairL]; omega

set_option maxHeartbeats 4000000 in
theorem signTexts_walk (r s : Int) (T : ByteArray) (a b : Int) (w : World) (hr : -9223372036854775808 ≤ r ∧ r ≤ 9223372036854775807) (hs : -9223372036854775808 ≤ s ∧ s ≤ 9223372036854775807)
    (hT : T.size ≤ 1048576) (ha : -9223372036854775808 ≤ a ∧ a ≤ 9223372036854775807) (hb : 0 ≤ b ∧ b ≤ 255) (htab : Tabs w) :
    Calls Tryd.prog 12 #[.int .i64 r, .int .i64 s, .agg #[.string T, .int .i64 a, .int .u8 b]] w (TrueMk w) := by
  obtain ⟨B, rfl⟩ : ∃ B : UInt8, b = (B.toNat : Int) := ⟨UInt8.ofNat b.toNat, by rw [UInt8.toNat_ofNat']; omega⟩
  have e0 := EditAt.start w T a (B.toNat : Int)
  clear hb
  go_enter Tryd.func12, Tryd.ntmps12
  go_wp2_with fail
  refine (sanityS_any _ (htab.upd e0.up)).mono ?_
  rintro e w1 ⟨rfl, hu1⟩
  have e1 := e0.upd hu1
  have x1 := SigAt.start w1 r s
  have e2 := e1.upd x1.up
  clear e0 e1
  obtain ⟨k0, k1⟩ := x1.cells
  go_wp2_with fail
  refine (text_any r s _ hr hs (htab.upd e2.up)).mono ?_
  rintro e w3 ⟨t, HT, ht, rfl, hu3⟩
  have hpl := pairL_len (a := r) (b := s) hr hs
  have hts : t.size ≤ 41 := by omega
  have htp : 0 < t.size := by rw [bs_size HT.out]; exact pairL_pos r s
  have e3 := e2.upd hu3
  have x3 := x1.upd hu3
  clear e2 x1 k0 k1 hpl ht
  have hrv : readV (bs t) = (r, s, true) := by rw [HT.out, readV, readL_pair hr hs]
  have HRV := Lib.hid hrv
  clear hrv
  go_wp2_with fail
  refine (read_is t r s true w3 (by omega) (htab.upd e3.up) HRV.out).mono ?_
  rintro e w4 ⟨rfl, hu4⟩
  have y4 := SigAt.start w4 r s
  have e4 := (e3.upd hu4).upd y4.up
  have x4 := (x3.upd hu4).upd y4.up
  clear e3 x3
  obtain ⟨k0, k1⟩ := x4.cells
  go_wp2_with fail
  refine (rtext_any r s _ hr hs).mono ?_
  rintro e w5 ⟨t2, HT2, ht2, rfl, hu5⟩
  obtain rfl : t2 = t := bs_inj (HT2.out.trans HT.out.symm)
  have e5 := e4.upd hu5
  have x5 := x4.upd hu5
  have y5 := y4.upd hu5
  clear e4 x4 y4 k0 k1 ht2
  obtain ⟨k0, k1⟩ := x5.cells
  obtain ⟨j0, j1⟩ := y5.cells
  have hz : ((t2.size : Int) == 0) = false := by rw [beq_eq_false_iff_ne]; omega
  go_wp2_with fail
  obtain ⟨kc, w6, hrun, hk1, hk2, hbb, hu6⟩ := BB.make w5 9 t2 Tryd.underlying9 (by simp only [maxLen]; omega)
  unfold maxLen at hk2
  have HRUN := Lib.hid hrun
  have HBB := Lib.hid hbb
  have e6 := e5.upd hu6
  clear hrun hbb x5 y5 k0 k1 j0 j1
  rw [HRUN.out]
  obtain ⟨d0, d1, d2⟩ := e6.cells
  obtain ⟨n, hn⟩ : ∃ n : Nat, ((a.tmod (t2.size : Int)) + (t2.size : Int)).tmod (t2.size : Int) = (n : Int) := ⟨_, (Int.toNat_of_nonneg (by
    have h1 := Int.lt_tmod_of_pos a (b := (t2.size : Int)) (by omega)
    exact Int.tmod_nonneg _ (by omega))).symm⟩
  have hnl : n < t2.size := by
    have h2 := Int.tmod_lt_of_pos ((a.tmod (t2.size : Int)) + (t2.size : Int)) (b := (t2.size : Int)) (by omega)
    omega
  have m1 := Int.lt_tmod_of_pos a (b := (t2.size : Int)) (by omega)
  have m2 := Int.tmod_lt_of_pos a (b := (t2.size : Int)) (by omega)
  have w1' : IntKind.i64.wrap (a.tmod (t2.size : Int) + (t2.size : Int)) = a.tmod (t2.size : Int) + (t2.size : Int) := IntWalk.i64_in _ (by omega)
  have w2' : IntKind.i64.wrap (a.tmod (t2.size : Int)) = a.tmod (t2.size : Int) := IntWalk.i64_in _ (by omega)
  have p0 : (0 : Int) ≤ (n : Int) := by omega
  have p1 : (n : Int) < (t2.size : Int) := by omega
  have hz2 : ¬ t2.size = 0 := by omega
  have fz : w6.frozen? ⟨w5.heap.size, n, none⟩ = false := HBB.out.frozen hnl
  obtain ⟨cb, hcb⟩ : ∃ cb, (bs t2)[n]? = some cb := ⟨_, List.getElem?_eq_getElem hnl⟩
  have fc := HBB.out.cell hcb
  clear hcb
  go_wp2_with fail
  go_still_tail 15, (by kernel_rfl)
  go_wp2_with fail
  have hb7 : BB (w6.setCell ⟨w5.heap.size, n, none⟩ (.int .u8 (B.toNat : Int))).drew w5.heap.size ((bs t2).set n B) := (HBB.out.set (j := n) hnl B).upd (Upd.refl _ _).drew
  have hu7 : Upd [] [] w5 (w6.setCell ⟨w5.heap.size, n, none⟩ (.int .u8 (B.toNat : Int))).drew := (hu6.setNew (p := ⟨w5.heap.size, n, none⟩) (Nat.le_refl _) _).drew
  have e7 := e5.upd hu7
  generalize (w6.setCell ⟨w5.heap.size, n, none⟩ (.int .u8 (B.toNat : Int))).drew = w7 at *
  have hcv := (hb7.upd (Upd.refl _ _).drew).text 9 Tryd.underlying9 kc
  obtain ⟨z, hz⟩ : ∃ z : ByteArray, z = ⟨((bs t2).set n B).toArray⟩ := ⟨_, rfl⟩
  have hzs : z.size ≤ 41 := by
    have : z.size = ((bs t2).set n B).length := by rw [hz]; rfl
    rw [this, List.length_set, bs_length]; exact hts
  rw [List.length_set, bs_length, show strV ((bs t2).set n B) = .string z by rw [hz]; rfl] at hcv
  have hs2 : ∀ o : Obj, (w7.alloc o).drew.cell? ⟨w.heap.size, 0, none⟩ = some (.string T) ∧ (convert 37 9 (.slice (some ⟨w5.heap.size, 0, none⟩) t2.size kc)).run Tryd.prog (w7.alloc o).drew = .ok (.string z) (w7.alloc o).drew := by
    intro o
    have hu : Upd [] [] w7 (w7.alloc o).drew := ((Upd.refl _ _).alloc o).drew
    refine ⟨(e7.upd hu).cells.1, ?_⟩
    have h := (hb7.upd hu).text 9 Tryd.underlying9 kc
    rw [List.length_set, bs_length, show strV ((bs t2).set n B) = .string z by rw [hz]; rfl] at h
    exact h
  have HS2 := Lib.hid hs2
  clear hs2
  have HZ := Lib.hid hz
  have s1 : ¬ 9223372036854775807 < t2.size + 1 := by omega
  have s2 : ¬ 9223372036854775807 < 1 + t2.size := by omega
  have s3 : (1 : Int) ≤ (t2.size : Int) := by omega
  have e8 := e7.upd (Upd.refl _ _).drew
  obtain ⟨d0, d1, d2⟩ := e8.cells
  clear e6 hz HBB HRUN fz fc m1 m2 w1' w2' p0 p1 hn hnl e5 hb7
  go_wp2_with fail
  go_region_held3 (fun wp => wp.cell? ⟨w.heap.size, 0, none⟩ = some (.string T) ∧ (convert 37 9 (.slice (some ⟨w5.heap.size, 0, none⟩) t2.size kc)).run Tryd.prog wp = .ok (.string z) wp) (first | exact ⟨d0, hcv⟩ | exact HS2.out _ | assumption) (fail)
  obtain ⟨us, hus⟩ : ∃ us : List ByteArray, us = [T, z, t2 ++ ⟨#[48]⟩, ⟨#[48]⟩ ++ t2, t2.extract 1 t2.size, ⟨#[46]⟩ ++ t2] := ⟨_, rfl⟩
  have husl : ∀ u ∈ us, u.size ≤ 2000000 := by
    intro u hu
    rw [hus] at hu
    have q1 : (ByteArray.mk #[48]).size = 1 := rfl
    have q2 : (ByteArray.mk #[46]).size = 1 := rfl
    simp only [List.mem_cons, List.not_mem_nil, or_false] at hu
    rcases hu with rfl | rfl | rfl | rfl | rfl | rfl
    · omega
    · omega
    · rw [ByteArray.size_append]; omega
    · rw [ByteArray.size_append]; omega
    · rw [ByteArray.size_extract]; omega
    · rw [ByteArray.size_append]; omega
  have hrow : (w7.alloc (.cells #[.string T, .string z, .string (t2 ++ ⟨#[48]⟩), .string (⟨#[48]⟩ ++ t2), .string (t2.extract 1 t2.size), .string (⟨#[46]⟩ ++ t2)] 9)).drew.heap[w7.heap.size]? = some (.cells (strVals us).toArray 9 (0, 0)) := by
    rw [hus]
    exact heap_alloc_new w7 _
  have hlen : us.length = 6 := by rw [hus]; rfl
  have u8 : Upd [] [] w (w7.alloc (.cells #[.string T, .string z, .string (t2 ++ ⟨#[48]⟩), .string (⟨#[48]⟩ ++ t2), .string (t2.extract 1 t2.size), .string (⟨#[46]⟩ ++ t2)] 9)).drew := (e7.up.alloc _).drew
  have HUSL := Lib.hid husl
  have HROW := Lib.hid hrow
  have HLEN := Lib.hid hlen
  clear hus husl hrow hlen hcv HS2 e8 d0 d1 d2 hu7 e7 s1 s2 s3
  go_wp2_with fail
  generalize (w7.alloc (.cells #[.string T, .string z, .string (t2 ++ ⟨#[48]⟩), .string (⟨#[48]⟩ ++ t2), .string (t2.extract 1 t2.size), .string (⟨#[46]⟩ ++ t2)] 9)).drew = w8 at *
  go_loopw [79] (fun i wr => ∃ k : Nat, i = .int .i64 (k : Int) ∧ k ≤ 6 ∧ Hid (Upd [] [] w8 wr)) (fun i _ => 6 - (intOf i).toNat)
  case atStart => exact ⟨0, rfl, Nat.zero_le _, Upd.refl _ _⟩
  case round =>
    obtain ⟨k, rfl, hk, HUP⟩ := hrel
    by_cases hlt : k < 6
    · obtain ⟨u, hu⟩ : ∃ u, us[k]? = some u := ⟨_, List.getElem?_eq_getElem (by rw [HLEN.out]; exact hlt)⟩
      have hus : u.size ≤ 2000000 := HUSL.out u (List.mem_of_getElem? hu)
      have q1 := str_cell wr w7.heap.size k us _ (row_updS HROW.out HUP.out) u hu
      have p0 : (0 : Int) ≤ (k : Int) := by omega
      have p1 : (k : Int) < 6 := by omega
      have u9 := u8.trans HUP.out
      clear hu
      go_wp2_with fail
      refine (read_any u wr (by omega) (htab.upd u9)).mono ?_
      rintro e w10 ⟨a1, b1, o1, H1, ha1, hb1, rfl, hu10⟩
      have x10 := SigAt.start w10 a1 b1
      go_wp2_with fail
      refine (rread5_any u _ (by omega)).mono ?_
      rintro e w11 ⟨a2, b2, o2, H2, ha2, hb2, rfl, hu11⟩
      have he := H1.out.symm.trans H2.out
      simp only [Prod.mk.injEq] at he
      obtain ⟨rfl, rfl, rfl⟩ := he
      have x11 := x10.upd hu11
      have y11 := SigAt.start w11 a1 b1
      have x12 := x11.upd y11.up
      have HUP2 := Lib.hid (HUP.out.trans (hu10.trans x12.up))
      clear x10 x11 q1
      obtain ⟨k0, k1⟩ := x12.cells
      obtain ⟨j0, j1⟩ := y11.cells
      cases o1 with
      | true =>
        go_wp2_with fail
        exact ⟨⟨k + 1, by go_num, by omega, HUP2.out⟩, by simp [intOf]; omega⟩
      | false =>
        go_wp2_with fail
        exact ⟨⟨k + 1, by go_num, by omega, HUP2.out⟩, by simp [intOf]; omega⟩
    · obtain rfl : k = 6 := by omega
      clear hk hlt
      go_wp2_with fail
      go_ret
      exact ⟨rfl, u8.trans HUP.out⟩
end Go.Proofs.YtkhodajdionaaaaDoor
