/- equal.Prove and equal.Verify. -/
import Derived.Test.YtkhodajdionaaaaGreatDoorEqB
namespace Go.Proofs.YtkhodajdionaaaaGreatDoor
open Go.RowKit
set_option maxRecDepth 100000

/-- It returns a proof. -/
def MkPrf (c z : Nat) (w : World) (e : Ending) (w' : World) : Prop := ∃ a b : Nat, Hid (a = c) ∧ Hid (b = z) ∧ a < 1152921504606845789 ∧ b < 1152921504606845789 ∧ e = .returned (.agg #[.int .i64 (a : Int), .int .i64 (b : Int)]) ∧ Upd [] [] w w'

theorem ints3 (w : World) (a b c : Int) (t : TypeId) (ha : i64in a) (hb : i64in b) (hc : i64in c) : IntsIn (w.alloc (.cells #[.int .i64 a, .int .i64 b, .int .i64 c] t)) w.heap.size [a, b, c] := by
  refine ⟨by simp, fun j x h => ?_, fun x hx => ?_⟩
  · rw [cell_of_row _ w.heap.size _ #[.int .i64 a, .int .i64 b, .int .i64 c] t (0, 0) (heap_alloc_new _ _)]
    match j, h with
    | 0, h => simp at h; subst h; rfl
    | 1, h => simp at h; subst h; rfl
    | 2, h => simp at h; subst h; rfl
    | n + 3, h => simp at h
  · simp at hx
    rcases hx with rfl | rfl | rfl <;> assumption
theorem ints6 (w : World) (a b c d e f : Int) (t : TypeId) (ha : i64in a) (hb : i64in b) (hc : i64in c) (hd : i64in d) (he : i64in e) (hf : i64in f) : IntsIn (w.alloc (.cells #[.int .i64 a, .int .i64 b, .int .i64 c, .int .i64 d, .int .i64 e, .int .i64 f] t)) w.heap.size [a, b, c, d, e, f] := by
  refine ⟨by simp, fun j x h => ?_, fun x hx => ?_⟩
  · rw [cell_of_row _ w.heap.size _ #[.int .i64 a, .int .i64 b, .int .i64 c, .int .i64 d, .int .i64 e, .int .i64 f] t (0, 0) (heap_alloc_new _ _)]
    match j, h with
    | 0, h => simp at h; subst h; rfl
    | 1, h => simp at h; subst h; rfl
    | 2, h => simp at h; subst h; rfl
    | 3, h => simp at h; subst h; rfl
    | 4, h => simp at h; subst h; rfl
    | 5, h => simp at h; subst h; rfl
    | n + 6, h => simp at h
  · simp at hx
    rcases hx with rfl | rfl | rfl | rfl | rfl | rfl <;> assumption

theorem gMember_is (a : Int) (b : Bool) (w : World) (ha : i64in a) (h : memB a = b) : Calls Tryz.prog 33 #[.int .i64 a] w (fun e w' => e = .returned (.bool b) ∧ Upd [] [] w w') := member_is a b w ha h

theorem keepP {wr : World} {n gx gk g : Nat} {x k : Nat} {u v : Value} (h : TwoAt wr gx gk x k) (n1 : gx ≠ g) (n2 : gk ≠ g) :
    (((wr.drewN n).setCell ⟨g, 0, none⟩ u).setCell ⟨g, 1, none⟩ v).cell? ⟨gx, 0, none⟩ = some (.int .i64 (x : Int)) ∧ (((wr.drewN n).setCell ⟨g, 0, none⟩ u).setCell ⟨g, 1, none⟩ v).cell? ⟨gk, 0, none⟩ = some (.int .i64 (k : Int)) :=
  ⟨((World.cell?_setCell_other _ _ _ _ (fun e => n1 (Addr.mk.inj e).1.symm)).trans (World.cell?_setCell_other _ _ _ _ (fun e => n1 (Addr.mk.inj e).1.symm))).trans h.cells.1,
   ((World.cell?_setCell_other _ _ _ _ (fun e => n2 (Addr.mk.inj e).1.symm)).trans (World.cell?_setCell_other _ _ _ _ (fun e => n2 (Addr.mk.inj e).1.symm))).trans h.cells.2⟩

set_option maxHeartbeats 2000000 in
theorem prove_mem (x : Int) (g h : Nat) (w : World) (hx : -9223372036854775808 ≤ x ∧ x ≤ 9223372036854775807) (hg : memN g) (hh : memN h) (htab : Tabs w) :
    Calls Tryz.prog 11 #[.int .i64 x, .int .i64 (g : Int), .int .i64 (h : Int)] w (MkPrf (cWith (expN x) g h (nonceE (expN x) g h)) (zWith (expN x) g h (nonceE (expN x) g h)) w) := by
  obtain ⟨X, hX⟩ : ∃ X, X = expN x := ⟨_, rfl⟩
  have hXl := expN_lt x
  rw [← hX] at hXl
  rw [← hX]
  have HX := Lib.hid hX
  clear hX
  have hg2 : g < 2305843009213691579 := hg.2.1
  have hh2 : h < 2305843009213691579 := hh.2.1
  have HG := Lib.hid ((memB_cast g).2 hg)
  have HH := Lib.hid ((memB_cast h).2 hh)
  clear hg hh
  have h0 := ProofAt.start w 0 0
  go_enter Tryz.func11, Tryz.ntmps11
  go_wp2_with fail
  refine (gMember_is g true _ (ipE hg2) HG.out).mono ?_
  rintro e w1 ⟨rfl, hu1⟩
  have h1 := h0.upd hu1
  clear h0
  go_wp2_with fail
  refine (gMember_is h true _ (ipE hh2) HH.out).mono ?_
  rintro e w2 ⟨rfl, hu2⟩
  have h2 := h1.upd hu2
  clear h1
  go_wp2_with fail
  refine (add_any x 0 1152921504606845789 _ hx (by omega) (by omega)).mono ?_
  rintro e w3 ⟨x1, HX1, x10, x11, rfl, rfl⟩
  have hx2 : x1 = (X : Int) := by rw [HX1.out, HX.out, expN_cast, Int.add_zero]
  subst hx2
  have hxr : (w2.alloc (.cells #[.int .i64 (X : Int)] 3)).heap[w2.heap.size]? = some (.cells #[.int .i64 (X : Int)] 3 (0, 0)) := heap_alloc_new _ _
  have h3 := h2.upd ((Upd.refl _ _).alloc (.cells #[.int .i64 (X : Int)] 3))
  have hlt0 : w.heap.size < w2.heap.size := row_lt h2.row
  go_wp2_with fail
  have hi := ints3 (w2.alloc (.cells #[.int .i64 (X : Int)] 3)) X g h 3 (iqE hXl) (ipE hg2) (ipE hh2)
  have hui : Upd [] [] (w2.alloc (.cells #[.int .i64 (X : Int)] 3)) ((w2.alloc (.cells #[.int .i64 (X : Int)] 3)).alloc (.cells #[.int .i64 (X : Int), .int .i64 (g : Int), .int .i64 (h : Int)] 3)) := (Upd.refl _ _).alloc _
  have h4 := h3.upd hui
  have hxr4 := row_upd hxr hui
  have HI := Lib.hid hi
  have HXR := Lib.hid hxr4
  clear hi hxr hxr4 h2 h3
  have e1 : (w2.alloc (.cells #[.int .i64 (X : Int)] 3)).heap.size = w2.heap.size + 1 := by simp
  rw [e1] at HI
  clear e1
  generalize ((w2.alloc (.cells #[.int .i64 (X : Int)] 3)).alloc (.cells #[.int .i64 (X : Int), .int .i64 (g : Int), .int .i64 (h : Int)] 3)) = w4 at *
  refine (eScalar_any ⟨#[110, 111, 110, 99, 101]⟩ [(X : Int), (g : Int), (h : Int)] (w2.heap.size + 1) _ w4 HI.out (by decide) ⟨by simp, by simp⟩ (htab.upd h4.up)).mono ?_
  rintro e w5 ⟨k, HK, hk, rfl, hu5⟩
  have hkk : k = nonceE X g h := HK.out
  have HKK := Lib.hid hkk
  have h5 := h4.upd hu5
  have hxr5 := row_upd HXR.out hu5
  clear h4 hkk HK HI HXR
  have hkr : (w5.alloc (.cells #[.int .i64 (k : Int)] 3)).heap[w5.heap.size]? = some (.cells #[.int .i64 (k : Int)] 3 (0, 0)) := heap_alloc_new _ _
  have hu6 : Upd [] [] w5 (w5.alloc (.cells #[.int .i64 (k : Int)] 3)) := (Upd.refl _ _).alloc _
  have t6 : TwoAt (w5.alloc (.cells #[.int .i64 (k : Int)] 3)) w2.heap.size w5.heap.size X k := ⟨row_upd hxr5 hu6, hkr⟩
  have h6 := h5.upd hu6
  have hlt5 : w.heap.size < w5.heap.size := row_lt h5.row
  clear h5 hxr5 hkr
  go_wp2_with fail
  refine (prove1_any g w2.heap.size w5.heap.size X k _ (by omega) (by omega) (by omega) t6).mono ?_
  rintro e w7 ⟨a, r, HA, HR, ha, hr, rfl, hu7⟩
  have t7 := t6.upd hu7
  have h7 := h6.upd hu7
  clear t6 h6
  go_wp2_with fail
  refine (prove1_any h w2.heap.size w5.heap.size X k _ (by omega) (by omega) (by omega) t7).mono ?_
  rintro e w8 ⟨b, s, HB, HS, hb, hs, rfl, hu8⟩
  have t8 := t7.upd hu8
  have h8 := h7.upd hu8
  clear t7 h7
  go_wp2_with fail
  have hi := ints6 w8 g a h b r s 3 (ipE hg2) (ipE ha) (ipE hh2) (ipE hb) (ipE hr) (ipE hs)
  have hui : Upd [] [] w8 (w8.alloc (.cells #[.int .i64 (g : Int), .int .i64 (a : Int), .int .i64 (h : Int), .int .i64 (b : Int), .int .i64 (r : Int), .int .i64 (s : Int)] 3)) := (Upd.refl _ _).alloc _
  have HI := Lib.hid hi
  have t9 := t8.upd hui
  have h9 := h8.upd hui
  clear hi t8 h8
  refine (eScalar_any ⟨#[101, 113, 117, 97, 108]⟩ [(g : Int), (a : Int), (h : Int), (b : Int), (r : Int), (s : Int)] w8.heap.size _ _ HI.out (by decide) ⟨by simp, by simp⟩ (htab.upd h9.up)).mono ?_
  rintro e w10 ⟨c, HC, hc, rfl, hu10⟩
  have hcc : c = cWith X g h k := by
    rw [HC.out, cWith, HA.out, HB.out, HR.out, HS.out]
    rfl
  have HCC := Lib.hid hcc
  have hu11 : Upd [] [] w10 w10.drew := (Upd.refl _ _).drew
  have t11 := (t9.upd hu10).upd hu11
  have h11 := (h9.upd hu10).upd hu11
  have k4 := t11.cells
  have t10 := t9.upd hu10
  have h10 := h9.upd hu10
  obtain ⟨z0, z1⟩ := h10.cells
  obtain ⟨f0, f1⟩ := h10.free
  have ne1 : w2.heap.size ≠ w.heap.size := by omega
  have ne2 : w5.heap.size ≠ w.heap.size := by omega
  clear t9 h9 hcc HI
  go_wp2_with fail
  go_region_held3 (fun wp => wp.cell? ⟨w2.heap.size, 0, none⟩ = some (.int .i64 (X : Int)) ∧ wp.cell? ⟨w5.heap.size, 0, none⟩ = some (.int .i64 (k : Int))) (first | exact k4 | assumption | exact keepP t10 ne1 ne2)
    (first
      | (go_at_call 17; ((with_reducible refine (gMulQ_n c X _ (by omega) (by omega)).mono ?_); rintro e wq ⟨y1, HY1, hy1, rfl, rfl⟩))
      | (go_at_call 34; ((with_reducible refine (gAddQ_n k y1 _ (by omega) (by omega)).mono ?_); rintro e wq ⟨y2, HY2, hy2, rfl, rfl⟩)))
  go_wp2_with fail
  refine bodyPost_ret (v := .agg #[.int .i64 (c : Int), .int .i64 (y2 : Int)]) (by simp [results, Tryz.results11, go_sem, z0, z1]) rfl ⟨c, y2, ?_, ?_, hc, hy2, rfl, ?_⟩
  · show _ = _
    rw [HCC.out, HKK.out]
  · show _ = _
    rw [HY2.out, HY1.out, zWith, HCC.out, HKK.out, Nat.add_mod_mod]
  · first | exact ((h10.up.setNew (p := ⟨_, _, none⟩) (Nat.le_refl _) _).setNew (p := ⟨_, _, none⟩) (Nat.le_refl _) _).drewN _ | exact ((h10.up.setNew (p := ⟨_, _, none⟩) (Nat.le_refl _) _).setNew (p := ⟨_, _, none⟩) (Nat.le_refl _) _).drew

set_option maxHeartbeats 1000000 in
theorem prove_no (x g h : Int) (w : World) (hg : i64in g) (hh : i64in h) (hm : memB g = false ∨ memB h = false) :
    Calls Tryz.prog 11 #[.int .i64 x, .int .i64 g, .int .i64 h] w (MkPrf 0 0 w) := by
  have h0 := ProofAt.start w 0 0
  cases h1 : memB g with
  | false =>
    have HG := Lib.hid h1
    clear hm h1
    go_enter Tryz.func11, Tryz.ntmps11
    go_wp2_with fail
    refine (gMember_is g false _ hg HG.out).mono ?_
    rintro e w1 ⟨rfl, hu1⟩
    have h1 := h0.upd hu1
    obtain ⟨z0, z1⟩ := h1.cells
    obtain ⟨f0, f1⟩ := h1.free
    go_wp2_with fail
    refine bodyPost_ret (v := .agg #[.int .i64 0, .int .i64 0]) (by simp [results, Tryz.results11, go_sem, z0, z1]) rfl ⟨0, 0, rfl, rfl, by omega, by omega, rfl, ?_⟩
    exact (h1.up.setNew (p := ⟨_, _, none⟩) (Nat.le_refl _) _).setNew (p := ⟨_, _, none⟩) (Nat.le_refl _) _
  | true =>
    have h2 : memB h = false := by
      rcases hm with h | h
      · rw [h1] at h; cases h
      · exact h
    have HG := Lib.hid h1
    have HH := Lib.hid h2
    clear hm h1 h2
    go_enter Tryz.func11, Tryz.ntmps11
    go_wp2_with fail
    refine (gMember_is g true _ hg HG.out).mono ?_
    rintro e w1 ⟨rfl, hu1⟩
    have h1 := h0.upd hu1
    go_wp2_with fail
    refine (gMember_is h false _ hh HH.out).mono ?_
    rintro e w2 ⟨rfl, hu2⟩
    have h2 := h1.upd hu2
    obtain ⟨z0, z1⟩ := h2.cells
    obtain ⟨f0, f1⟩ := h2.free
    go_wp2_with fail
    refine bodyPost_ret (v := .agg #[.int .i64 0, .int .i64 0]) (by simp [results, Tryz.results11, go_sem, z0, z1]) rfl ⟨0, 0, rfl, rfl, by omega, by omega, rfl, ?_⟩
    exact (h2.up.setNew (p := ⟨_, _, none⟩) (Nat.le_refl _) _).setNew (p := ⟨_, _, none⟩) (Nat.le_refl _) _
end Go.Proofs.YtkhodajdionaaaaGreatDoor
