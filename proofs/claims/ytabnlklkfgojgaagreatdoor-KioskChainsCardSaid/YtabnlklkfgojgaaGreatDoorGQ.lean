/- sortesref27: a model in its blocks; Copy, Learn, Refill. sortesref27: Learn, Refill of a model. sortesref27.IsName, and the walk of KioskNames. sortesref27: Next of a model. sortesref27: Sell of a model. sortesref27: Do of a model. sortesref27.Same: two lists of receipts compared. -/
import Derived.Test.YtabnlklkfgojgaaGreatDoorGM
import Derived.Test.YtabnlklkfgojgaaGreatDoorGO
import Derived.Test.YtabnlklkfgojgaaGreatDoorGZ
import Derived.Test.YtabnlklkfgojgaaGreatDoorGP
namespace Go.Proofs.YtabnlklkfgojgaaGreatDoor
open Go.RowKit
set_option maxRecDepth 100000

def mdV (m : KM) (v : Value) : List Value := [.int .i64 m.id, .int .i64 m.sec, .int .i64 (m.paper : Int), .int .i64 (m.round : Int)] ++ (byteVals m.out ++ [v])
theorem mdV_len {m : KM} {v : Value} (h : m.out.length = 32) : (mdV m v).length = 37 := by simp [mdV, byteVals_length, h]
theorem mdV_36 {m : KM} {v : Value} (h : m.out.length = 32) : (mdV m v)[36]? = some v := by
  unfold mdV
  rw [List.getElem?_append_right (by simp), List.getElem?_append_right (by simp [byteVals_length, h])]
  simp [byteVals_length, h]
structure Mdl (w : World) (mb : Nat) (m : KM) (v : Value) : Prop where
  k : w.heap[mb]? = some (.cells (mdV m v).toArray 99 (0, 0))
  own : w.ownsRow 0 37 102 v m.rs.length (rcVals m.rs)
  kv : mb ∉ foot v
  ok : m.ok
section
variable {w w1 : World} {mb : Nat} {m : KM} {v : Value} {T T' : List Nat}
theorem Mdl.lt (h : Mdl w mb m v) : mb < w.heap.size := blk_lt h.k
theorem Mdl.vlt (h : Mdl w mb m v) : ∀ x, x ∈ foot v → x < w.heap.size := row_foot_lt h.own
theorem Mdl.same (h : Mdl w mb m v) (h1 : w1.heap[mb]? = w.heap[mb]?) (h2 : ∀ x, x ∈ foot v → w1.heap[x]? = w.heap[x]?) : Mdl w1 mb m v := ⟨h1.trans h.k, row_same h.own h2, h.kv, h.ok⟩
theorem Mdl.kept (h : Mdl w mb m v) (u : Upd T T' w w1) (hk : mb ∉ T) (hv : ∀ x, x ∈ foot v → x ∉ T) : Mdl w1 mb m v :=
  h.same (u.block mb h.lt hk) (fun x hx => u.block x (h.vlt x hx) (hv x hx))
theorem Mdl.quiet (h : Mdl w mb m v) (u : Upd [] T' w w1) : Mdl w1 mb m v := h.kept u (by simp) (by simp)
theorem Mdl.c (h : Mdl w mb m v) (i : Nat) : w.cell? ⟨mb, i, none⟩ = (mdV m v)[i]? := by rw [cell_of_row _ _ _ _ _ _ h.k, List.getElem?_toArray]
theorem Mdl.c0 (h : Mdl w mb m v) : w.cell? ⟨mb, 0, none⟩ = some (.int .i64 m.id) := h.c 0
theorem Mdl.c1 (h : Mdl w mb m v) : w.cell? ⟨mb, 1, none⟩ = some (.int .i64 m.sec) := h.c 1
theorem Mdl.c2 (h : Mdl w mb m v) : w.cell? ⟨mb, 2, none⟩ = some (.int .i64 (m.paper : Int)) := h.c 2
theorem Mdl.c3 (h : Mdl w mb m v) : w.cell? ⟨mb, 3, none⟩ = some (.int .i64 (m.round : Int)) := h.c 3
theorem Mdl.c36 (h : Mdl w mb m v) : w.cell? ⟨mb, 36, none⟩ = some v := (h.c 36).trans (mdV_36 h.ok.out)
theorem Mdl.free (h : Mdl w mb m v) (i : Nat) : w.frozen? ⟨mb, i, none⟩ = false := frozen_of_row _ _ _ _ _ h.k
theorem Mdl.out (h : Mdl w mb m v) : w.rangeAt mb 4 (byteVals m.out) := by
  intro j u hj
  rw [h.c (4 + j)]
  unfold mdV
  rw [List.getElem?_append_right (by simp)]
  have : j < (byteVals m.out).length := (List.getElem?_eq_some_iff.1 hj).1
  rw [List.getElem?_append_left (by simp; simpa using this)]
  simpa using hj
theorem Mdl.outLoad (h : Mdl w mb m v) (O : Array Value) (hO : O = (byteVals m.out).toArray) : (Instr.loadAt 31 (.pointer (some ⟨mb, 4, none⟩))).run Tryz.prog w = .ok (.agg O) w := by
  subst hO
  exact run_loadAt_mid w mb 4 _ _ _ h.out Tryz.underlying31 rfl (hashLen h.ok.out)
theorem Mdl.slice (h : Mdl w mb m v) : ∃ ao cap, v = .slice ao m.rs.length cap ∧ m.rs.length ≤ cap ∧ RcsIn w ao m.rs := rcs_of_row h.own (fun x hx => ⟨(h.ok.each x hx).1, by have := (h.ok.each x hx).2.1; omega⟩)
theorem mdInfo {m : KM} {v : Value} (h : m.ok) : (Tryz.prog.info? 99).map (·.size) = some (mdV m v).toArray.size := by
  rw [List.size_toArray, mdV_len h.out]
  kernel_rfl
theorem mdOne {m : KM} {v : Value} (hv : v.oneCell' = true) : (mdV m v).toArray.all (·.oneCell') = true := by
  rw [Array.all_eq_true']
  intro x hx
  rw [List.mem_toArray] at hx
  simp only [mdV, List.mem_append, List.mem_cons, List.not_mem_nil, or_false] at hx
  rcases hx with (rfl | rfl | rfl | rfl) | hx | rfl
  · rfl
  · rfl
  · rfl
  · rfl
  · have := hashOne m.out
    rw [Array.all_eq_true'] at this
    exact this x (by rw [List.mem_toArray]; exact hx)
  · exact hv
theorem mdSet (m : KM) (v v' : Value) (h : m.out.length = 32) : (mdV m v).toArray.setIfInBounds 36 v' = (mdV m v').toArray := by
  apply Array.ext'
  rw [Array.toList_setIfInBounds]
  show (mdV m v).set 36 v' = mdV m v'
  unfold mdV
  rw [List.set_append_right _ _ (by simp), List.set_append_right _ _ (by simp [byteVals_length, h])]
  simp [byteVals_length, h]
theorem Mdl.set (h : Mdl w mb m v) (m' : KM) (i : Nat) (u : Value) (hm : m'.ok) (hr : m'.rs = m.rs) (hv : (mdV m v).toArray.setIfInBounds i u = (mdV m' v).toArray) : Mdl (w.setCell ⟨mb, i, none⟩ u) mb m' v := by
  have hne : ∀ x, x ∈ foot v → x ≠ mb := fun x hx e => h.kv (e ▸ hx)
  refine ⟨?_, ?_, h.kv, hm⟩
  · rw [heap_setCell_same _ _ _ _ _ _ h.k, hv]
  · rw [hr]
    exact row_same h.own (fun x hx => heap_setCell_other _ _ _ _ (hne x hx))
end
theorem rcs_copyO (w : World) (v : Value) (l : List Rc) (h : w.ownsRow 0 37 102 v l.length (rcVals l)) (hl : l.length ≤ 1000000) :
    ∃ (v2 : Value) (w' : World), Hid ((Builtin.append_ #[48, 48] 48 #[.slice (some ⟨w.heap.size, 0, none⟩) 0 0, v]).run Tryz.prog (w.alloc (.cells #[] 37)) = .ok v2 w') ∧ w'.ownsRow 0 37 102 v2 l.length (rcVals l) ∧ (∀ x, x ∈ foot v2 → w.heap.size ≤ x) ∧ Upd [] [] w w' := by
  obtain ⟨i, hi, hz, hs, hb⟩ := rcI
  have u1 : Upd [] [] w (w.alloc (.cells #[] 37)) := (Upd.refl _ _).alloc _
  have own0 : (w.alloc (.cells #[] 37)).ownsRow 0 37 102 (.slice (some ⟨w.heap.size, 0, none⟩) 0 0) 0 [] :=
    ⟨rfl, .inr ⟨w.heap.size, 0, #[], rfl, Nat.zero_le _, heap_alloc_new _ _, Nat.le_refl _, Nat.zero_le _, rfl, rfl⟩⟩
  rcases h.2 with ⟨rfl, h0⟩ | ⟨g, cap, cur, rfl, _, hg, hcap, _, hcs, htk⟩
  · have hnil : l = [] := List.eq_nil_of_length_eq_zero h0
    subst hnil
    refine ⟨.slice (some ⟨w.heap.size, 0, none⟩) 0 0, w.alloc (.cells #[] 37), ?_, own0, fun x hx => ?_, u1⟩
    · refine run_append_nothing (P := Tryz.prog) _ 48 48 48 37 i Tryz.underlying48 hi (some ⟨w.heap.size, 0, none⟩) 0 0 (Nat.le_refl _) _ ⟨.inl ⟨_, Tryz.underlying48⟩, fun w' => rfl, ?_, ?_, by simp, by simp⟩
      · simp [Builtin.firstCells, loadCells, loadCellsFrom]
      · simp [Builtin.firstCells, loadCells, loadCellsFrom]
    · simp [foot, Value.ownBlock] at hx
      omega
  · obtain ⟨v2, w2, hrun, hown, hup⟩ := append_block (P := Tryz.prog) (w.alloc (.cells #[] 37)) 48 48 37 i _ 102 152 Tryz.underlying48 hi hz hs hb (by show (rcV Rc.zero).toArray.size = 102; simp [rcV_len Rc.zero_ok]) (by omega) (.slice (some ⟨w.heap.size, 0, none⟩) 0 0) 0 [] own0 ⟨g, 0, none⟩ l.length cap (rcVals l) h.1 (by
      intro j u hj
      have e : (⟨g, 0, none⟩ : Addr).add j = ⟨g, j, none⟩ := by simp [Addr.add]; exact fun h => h.symm
      have hjl : j < l.length * 102 := by rw [← h.1]; exact (List.getElem?_eq_some_iff.1 hj).1
      rw [e, cell_of_row _ _ _ _ _ _ (row_updH hg u1), ← hj, ← htk, List.getElem?_take, if_pos hjl, Array.getElem?_toList]) (by
      intro u hu
      rw [rcVals, List.mem_flatMap] at hu
      obtain ⟨x, _, hu⟩ := hu
      exact rcV_one x u hu) (by omega) (by simp only [maxLen]; omega)
    rw [Nat.zero_add] at hown
    refine ⟨v2, w2, hrun, hown, fun x hx => ?_, ?_⟩
    · rcases hup.new x hx with k | k
      · simp [foot, Value.ownBlock] at k
        omega
      · have := u1.size; omega
    · exact ⟨hup.os.trans u1.os, hup.tape.trans u1.tape, hup.output.trans u1.output, Nat.le_trans u1.size hup.size, fun k hk _ => (hup.block k (Nat.lt_of_lt_of_le hk u1.size) (by simp [foot, Value.ownBlock]; omega)).trans (u1.block k hk (by simp)), fun _ hk => absurd hk (by simp)⟩
def CopyTo (m : KM) (w : World) (e : Ending) (w' : World) : Prop := ∃ nb v', e = .returned (.pointer (some ⟨nb, 0, none⟩)) ∧ Mdl w' nb m v' ∧ Upd [] [] w w' ∧ w.heap.size ≤ nb ∧ ∀ x, x ∈ foot v' → w.heap.size ≤ x
theorem row_oneV {w : World} {base : Nat} {e : TypeId} {s n : Nat} {v : Value} {xs : List Value} (h : w.ownsRow base e s v n xs) : v.oneCell' = true := by
  rcases h.2 with ⟨rfl, _⟩ | ⟨g, cap, cur, rfl, _⟩ <;> rfl
set_option maxHeartbeats 2000000 in
theorem copy27_any {w : World} {mb : Nat} {m : KM} {v : Value} (h : Mdl w mb m v) : Calls Tryz.prog 49 #[.pointer (some ⟨mb, 0, none⟩)] w (CopyTo m w) := by
  obtain ⟨M, hM⟩ : ∃ M, M = (mdV m v).toArray := ⟨_, rfl⟩
  have HMI : Hid ((Tryz.prog.info? 99).map (·.size) = some M.size) := by show _ = _; rw [hM]; exact mdInfo h.ok
  have HMO : Hid (M.all (·.oneCell') = true) := by show _ = _; rw [hM]; exact mdOne (row_oneV h.own)
  have hms : (mdV m v).toArray.size = 37 := by rw [List.size_toArray, mdV_len h.ok.out]
  have HMZ : Hid ((#[.int .i64 0, .int .i64 0, .int .i64 0, .int .i64 0, .int .u8 0, .int .u8 0, .int .u8 0, .int .u8 0, .int .u8 0, .int .u8 0, .int .u8 0, .int .u8 0, .int .u8 0, .int .u8 0, .int .u8 0, .int .u8 0, .int .u8 0, .int .u8 0, .int .u8 0, .int .u8 0, .int .u8 0, .int .u8 0, .int .u8 0, .int .u8 0, .int .u8 0, .int .u8 0, .int .u8 0, .int .u8 0, .int .u8 0, .int .u8 0, .int .u8 0, .int .u8 0, .int .u8 0, .int .u8 0, .int .u8 0, .int .u8 0, .slice none 0 0] : Array Value).size = M.size) := by show _ = _; rw [hM, hms]; rfl
  have hk := h.k
  rw [← hM] at hk
  have HLD : Hid ((Instr.loadAt 99 (.pointer (some ⟨mb, 0, none⟩))).run Tryz.prog w = .ok (.agg M) w) :=
    run_loadAt_mid w mb 0 _ _ _ (fun j u hj => by rw [Nat.zero_add, cell_of_row _ _ _ _ _ _ hk, ← Array.getElem?_toList]; exact hj) Tryz.underlying99 rfl HMI.out
  obtain ⟨w2, Z2, W2, R2, hq2⟩ := blk_new w 99 (#[.int .i64 0, .int .i64 0, .int .i64 0, .int .i64 0, .int .u8 0, .int .u8 0, .int .u8 0, .int .u8 0, .int .u8 0, .int .u8 0, .int .u8 0, .int .u8 0, .int .u8 0, .int .u8 0, .int .u8 0, .int .u8 0, .int .u8 0, .int .u8 0, .int .u8 0, .int .u8 0, .int .u8 0, .int .u8 0, .int .u8 0, .int .u8 0, .int .u8 0, .int .u8 0, .int .u8 0, .int .u8 0, .int .u8 0, .int .u8 0, .int .u8 0, .int .u8 0, .int .u8 0, .int .u8 0, .int .u8 0, .int .u8 0, .slice none 0 0] : Array Value) M
  have h2 := h.quiet hq2
  obtain ⟨v2, w4, HRN, hown, hnew, hq4⟩ := rcs_copyO w2 v m.rs h2.own (by have := h.ok.many; omega)
  obtain ⟨ao, cap, hv, _, _⟩ := row_slice h2.own
  obtain ⟨ao2, cap2, hv2, _, _⟩ := row_slice hown
  have c36 : (w2.alloc (.cells #[] 37)).cell? ⟨mb, 36, none⟩ = some v := (h2.quiet ((Upd.refl [] _).alloc _)).c36
  have hnb : w.heap.size < w2.heap.size := blk_lt R2.out
  have R4 : w4.heap[w.heap.size]? = some (.cells M 99 (0, 0)) := row_updH R2.out hq4
  have HEB := Lib.hid (rcs_empty w2)
  obtain ⟨w5, hw5⟩ : ∃ w5, w5 = w4.setCell ⟨w.heap.size, 36, none⟩ v2 := ⟨_, rfl⟩
  have HEND : Hid (Mdl w5 w.heap.size m v2 ∧ Upd [] [] w w5 ∧ ∀ x, x ∈ foot v2 → w.heap.size ≤ x) := by
    have hkv : w.heap.size ∉ foot v2 := fun hm => by have := hnew _ hm; omega
    refine ⟨⟨?_, ?_, hkv, h.ok⟩, ?_, fun x hx => by have := hnew x hx; omega⟩
    · rw [hw5, heap_setCell_same _ _ _ _ _ _ R4, hM, mdSet m v v2 h.ok.out]
    · rw [hw5]
      exact row_same hown (fun x hx => heap_setCell_other _ _ _ _ (fun (e : x = w.heap.size) => hkv (e ▸ hx)))
    · rw [hw5]
      exact (hq2.trans hq4).setNew (p := ⟨w.heap.size, 36, none⟩) (Nat.le_refl _) v2
  have cN : ∃ cv, w4.cell? ⟨w.heap.size, 36, none⟩ = some cv := ⟨_, by rw [cell_of_row _ _ _ _ _ _ R4, hM, List.getElem?_toArray]; exact mdV_36 h.ok.out⟩
  obtain ⟨cv, cN⟩ := cN
  have fN : w4.frozen? ⟨w.heap.size, 36, none⟩ = false := frozen_of_row _ _ _ _ _ R4
  have HW5 := Lib.hid hw5
  obtain ⟨n, hn⟩ : ∃ n, n = m.rs.length := ⟨_, rfl⟩
  rw [← hn] at hv hv2
  rw [hv] at c36 HRN
  rw [hv2] at HRN HEND HW5
  have HV2 := Lib.hid hv2
  clear hM h hk hq2 h2 hown hnew hq4 R4 hw5 hn hv hv2 hnb
  go_enter Tryz.func49, Tryz.ntmps49
  go_upto_region 2 with (first | (refine wpList_load_atW (by rfl) 99 _ rfl mb 0 rfl M HLD.out ?_) | (refine wpList_store_rowAs rfl 99 _ _ rfl w.heap.size M rfl rfl _ _ Z2.out HMI.out HMZ.out HMO.out w2 W2.out ?_))
  clear Z2 W2 HLD
  go_wp2_with (first | (refine wpList_buildRun rfl 48 0 _ rfl _ _ (Eq.trans (congrArg (fun z => (Instr.buildSlice 48 0 z).run Tryz.prog w2) (by kernel_rfl)) HEB.out) ?_) | (refine wpList_append_run _ rfl _ _ _ _ rfl _ _ (.slice ao2 n cap2) w4 rfl rfl HRN.out ?_))
  rw [← HW5.out]
  go_ret
  exact ⟨w.heap.size, .slice ao2 n cap2, rfl, HEND.out.1, HEND.out.2.1, Nat.le_refl _, HEND.out.2.2⟩
end Go.Proofs.YtabnlklkfgojgaaGreatDoor

namespace Go.Proofs.YtabnlklkfgojgaaGreatDoor
open Go.RowKit
set_option maxRecDepth 100000

def MdTo (mb : Nat) (m' : KM) (v : Value) (x : Int) (w : World) (e : Ending) (w' : World) : Prop := e = .returned (.int .i64 x) ∧ Mdl w' mb m' v ∧ Upd [mb] [mb] w w'
section
variable {w w1 : World} {mb : Nat} {m : KM} {v : Value} {T T' : List Nat}
theorem Mdl.still (h : Mdl w mb m v) (u : Upd [] [] w w1) (x : Int) : MdTo mb m v x w (.returned (.int .i64 x)) w1 := ⟨rfl, h.quiet u, u.quietTo⟩
theorem Mdl.lrn (h : Mdl w mb m v) (r : Nat) (hs : List UInt8) (hl : hs.length = 32) (hm' : (m.lrn r hs).ok) :
    Mdl ((w.setCell ⟨mb, 3, none⟩ (.int .i64 (r : Int))).setCells mb 4 (byteVals hs)) mb (m.lrn r hs) v ∧ Upd [mb] [mb] w ((w.setCell ⟨mb, 3, none⟩ (.int .i64 (r : Int))).setCells mb 4 (byteVals hs)) := by
  have hu : Upd [mb] [mb] w ((w.setCell ⟨mb, 3, none⟩ (.int .i64 (r : Int))).setCells mb 4 (byteVals hs)) := Upd.setCellsIn (by simp) _ _ _ ((Upd.refl _ _).setCell (p := ⟨mb, 3, none⟩) (by simp) _)
  have hne : ∀ x, x ∈ foot v → x ≠ mb := fun x hx e => h.kv (e ▸ hx)
  refine ⟨⟨?_, ?_, h.kv, hm'⟩, hu⟩
  · have e1 := heap_setCell_same w mb 3 _ _ (.int .i64 (r : Int)) h.k
    have e2 : (mdV m v).toArray.setIfInBounds 3 (.int .i64 (r : Int)) = (([.int .i64 m.id, .int .i64 m.sec, .int .i64 (m.paper : Int), .int .i64 (r : Int)] : List Value) ++ (byteVals m.out ++ [v])).toArray := rfl
    rw [e2] at e1
    exact row_setCells (byteVals hs) 4 _ [.int .i64 m.id, .int .i64 m.sec, .int .i64 (m.paper : Int), .int .i64 (r : Int)] (byteVals m.out) [v] e1 rfl (by rw [byteVals_length, byteVals_length, hl, h.ok.out])
  · exact row_same h.own (fun x hx => hu.block x (h.vlt x hx) (by simpa using hne x hx))
set_option maxHeartbeats 2000000 in
theorem rLearn_any (h : Mdl w mb m v) (r : Int) (hs : List UInt8) (hr : i64in r) (hl : hs.length = 32) : Calls Tryz.prog 79 #[.pointer (some ⟨mb, 0, none⟩), .int .i64 r, .agg (byteVals hs).toArray] w (MdTo mb (lrnM m r hs) v (lrnR m r hs) w) := by
  obtain ⟨H, hH⟩ : ∃ H, H = (byteVals hs).toArray := ⟨_, rfl⟩
  obtain ⟨O, hO⟩ : ∃ O, O = (byteVals m.out).toArray := ⟨_, rfl⟩
  obtain ⟨w2, hw2⟩ : ∃ w2, w.alloc (.cells H 31) = w2 := ⟨_, rfl⟩
  have u2 : Upd [] [] w w2 := by rw [← hw2]; exact (Upd.refl _ _).alloc _
  have rA : w2.heap[w.heap.size]? = some (.cells H 31 (0, 0)) := by rw [← hw2]; exact heap_alloc_new _ _
  have h2 := h.quiet u2
  have c3 := h2.c3
  obtain ⟨hr1, hr2⟩ := hr
  have hmr := h.ok.round
  have HU2 := Lib.hid u2
  have HW2 := Lib.hid hw2
  have HM := Lib.hid h
  rw [← hH]
  by_cases h15 : r < 1 ∨ 1000000000 < r
  · obtain ⟨e1, e2⟩ := lrn_bad (m := m) (hs := hs) h15
    rw [e1, e2]
    clear u2 rA h2 hH hO h hw2 c3 e1 e2
    by_cases h1 : r < 1
    · clear h15
      go_enter Tryz.func79, Tryz.ntmps79
      go_upto_region 1 with (fail)
      rw [HW2.out]
      go_wp2_with fail
      go_ret
      exact HM.out.still HU2.out 15
    · have h3 : 1000000000 < r := by omega
      clear h15
      go_enter Tryz.func79, Tryz.ntmps79
      go_upto_region 1 with (fail)
      rw [HW2.out]
      go_wp2_with fail
      go_ret
      exact HM.out.still HU2.out 15
  · obtain ⟨g1, g2⟩ : ¬ r < 1 ∧ ¬ 1000000000 < r := by omega
    by_cases h32 : r < (m.round : Int)
    · obtain ⟨e1, e2⟩ := lrn_old (m := m) (hs := hs) (r := r) (by omega) (by omega) h32
      rw [e1, e2]
      clear u2 rA h2 hH hO h hw2 e1 e2 h15
      obtain ⟨z, hz⟩ : ∃ z, z = m.round := ⟨_, rfl⟩
      rw [← hz] at c3 h32
      clear hz hmr
      go_enter Tryz.func79, Tryz.ntmps79
      go_upto_region 1 with (fail)
      rw [HW2.out]
      go_wp2_with fail
      go_ret
      exact HM.out.still HU2.out 32
    · by_cases heqr : r = (m.round : Int)
      · obtain ⟨e, he⟩ : ∃ e : Bool, e = decide (hs = m.out) := ⟨_, rfl⟩
        have heq : ∀ W : World, (Op.equalIn 10000 31 (.agg H) (.agg O)).run Tryz.prog W = .ok e W := by
          intro W
          rw [hH, hO, show (10000 : Nat) = 9998 + 2 from rfl, eqHash_run 9998 _ _ W hl h.ok.out, he]
        have HX : Hid (lrnM m r hs = m ∧ lrnR m r hs = if e then 0 else 42) := by
          show _ ∧ _
          by_cases k : hs = m.out
          · obtain ⟨e1, e2⟩ := lrn_same (m := m) (by omega) (by omega) heqr k
            rw [e1, e2, he]
            simp [k]
          · obtain ⟨e1, e2⟩ := lrn_fork (m := m) (by omega) (by omega) heqr k
            rw [e1, e2, he]
            simp [k]
        have HB := Lib.hid h2
        have RA := Lib.hid rA
        rw [HX.out.1, HX.out.2]
        have HK : Hid (∀ W : World, Upd [] [] w2 W → (Instr.loadAt 31 (.pointer (some ⟨mb, 4, none⟩))).run Tryz.prog W = .ok (.agg O) W ∧ (Instr.loadAt 31 (.pointer (some ⟨w.heap.size, 0, none⟩))).run Tryz.prog W = .ok (.agg H) W) := by
          intro W u
          exact ⟨(HB.out.quiet u).outLoad O hO, hash_load hl H hH (row_updH RA.out u)⟩
        have ud0 : Upd [] [] w2 w2.drew := (Upd.refl _ _).drew
        have HFIN : Hid (∀ x, MdTo mb m v x w (.returned (.int .i64 x)) w2.drew) := fun x => HM.out.still (HU2.out.trans ud0) x
        clear u2 rA h2 hw2 hH hO h h15 he
        obtain ⟨z, hz⟩ : ∃ z, z = m.round := ⟨_, rfl⟩
        rw [← hz] at c3 h32 heqr
        clear hz hmr HX HB
        subst heqr
        cases e
        · skip
          go_enter Tryz.func79, Tryz.ntmps79
          go_upto_region 1 with (fail)
          rw [HW2.out]
          go_upto_region 6 with (fail)
          refine @_root_.id ((?pj1 : Prop) → _) (fun hJ => ?mj1) ?jj1
          case mj1 =>
            refine wp_region_noPanic ?_
            refine wp_region_held_drew (S := fun wp' => (Instr.loadAt 31 (.pointer (some ⟨mb, 4, none⟩))).run Tryz.prog wp' = .ok (.agg O) wp' ∧ (Instr.loadAt 31 (.pointer (some ⟨w.heap.size, 0, none⟩))).run Tryz.prog wp' = .ok (.agg H) wp') (by kernel_rfl) ?_ (fun hHeld => ?_)
            · exact HK.out _ ud0
            refine tkL 0 hHeld H (fun w hSw => hSw.2) ?_
            refine tkY 1 hHeld ?_
            refine tkY 2 hHeld ?_
            refine tkY 3 hHeld ?_
            refine tkL 4 hHeld O (fun w hSw => hSw.1) ?_
            refine tkY 5 hHeld ?_
            refine wpAnyH_done (by kernel_rfl) ?_ _
            refine NoPanic.normal ?_
            exact hJ
          clear c3
          go_wp2_with fail
          go_ret
          exact HFIN.out _
        · skip
          go_enter Tryz.func79, Tryz.ntmps79
          go_upto_region 1 with (fail)
          rw [HW2.out]
          go_upto_region 6 with (fail)
          refine @_root_.id ((?pj6 : Prop) → _) (fun hJ => ?mj6) ?jj6
          case mj6 =>
            refine wp_region_noPanic ?_
            refine wp_region_held_drew (S := fun wp' => (Instr.loadAt 31 (.pointer (some ⟨mb, 4, none⟩))).run Tryz.prog wp' = .ok (.agg O) wp' ∧ (Instr.loadAt 31 (.pointer (some ⟨w.heap.size, 0, none⟩))).run Tryz.prog wp' = .ok (.agg H) wp') (by kernel_rfl) ?_ (fun hHeld => ?_)
            · exact HK.out _ ud0
            refine tkL 0 hHeld H (fun w hSw => hSw.2) ?_
            refine tkY 1 hHeld ?_
            refine tkY 2 hHeld ?_
            refine tkY 3 hHeld ?_
            refine tkL 4 hHeld O (fun w hSw => hSw.1) ?_
            refine tkY 5 hHeld ?_
            refine wpAnyH_done (by kernel_rfl) ?_ _
            refine NoPanic.normal ?_
            exact hJ
          clear c3
          go_wp2_with fail
          go_ret
          exact HFIN.out _
      · obtain ⟨q, hq⟩ : ∃ q : Nat, (q : Int) = r := ⟨r.toNat, by omega⟩
        subst hq
        obtain ⟨_, e1, e2⟩ := lrn_new (m := m) (r := (q : Int)) (hs := hs) (by omega) (by omega) (by omega)
        rw [e1, e2]
        obtain ⟨hmo, _⟩ := KM.lrn_ok (r := q) (hs := hs) h.ok (by omega) (by omega) hl
        obtain ⟨k1, k2⟩ := h2.lrn q hs hl hmo
        obtain ⟨w3, hw3⟩ : ∃ w3, w2.setCell ⟨mb, 3, none⟩ (.int .i64 (q : Int)) = w3 := ⟨_, rfl⟩
        obtain ⟨w4, hw4⟩ : ∃ w4, w3.setCells mb 4 H.toList = w4 := ⟨_, rfl⟩
        have hHl : H.toList = byteVals hs := by rw [hH]
        rw [hw3, ← hHl, hw4] at k1 k2
        have HFIN : Hid (MdTo mb (m.lrn q hs) v 0 w (.returned (.int .i64 0)) w4) := ⟨rfl, k1, (u2.quietTo).trans k2⟩
        have e3 := heap_setCell_same w2 mb 3 _ _ (.int .i64 (q : Int)) h2.k
        rw [hw3] at e3
        have HTH : Hid (w3.there mb 4 H.size) := by
          intro j hj
          have hz : H.size = 32 := by rw [hH, hashSz hl]
          refine ⟨?_, frozen_of_row _ _ _ _ _ e3⟩
          rw [cell_of_row _ _ _ _ _ _ e3]
          have hlen : ((mdV m v).toArray.setIfInBounds 3 (.int .i64 (q : Int))).size = 37 := by simp [mdV_len h.ok.out]
          rw [Array.getElem?_eq_getElem (by rw [hlen]; omega)]
          rfl
        have HLD : Hid ((Instr.loadAt 31 (.pointer (some ⟨w.heap.size, 0, none⟩))).run Tryz.prog w3 = .ok (.agg H) w3) := by
          rw [← hw3]
          exact hash_load hl H hH (row_otherE rA (Nat.ne_of_gt h.lt) _)
        have HHI : Hid ((Tryz.prog.info? 31).map (·.size) = some H.size) := by show _ = _; rw [hH]; exact hashInfo hl
        have HH1 : Hid (H.all (·.oneCell') = true) := by show _ = _; rw [hH]; exact hashOne _
        have f3 := h2.free 3
        have HW3 := Lib.hid hw3
        have HW4 := Lib.hid hw4
        have g4 : ¬ (q : Int) = (m.round : Int) := heqr
        have hbn : ((q : Int) == (m.round : Int)) = false := by rw [beq_eq_false_iff_ne]; exact g4
        obtain ⟨z, hz⟩ : ∃ z, z = m.round := ⟨_, rfl⟩
        rw [← hz] at c3 h32 g4 hbn
        clear hz hmr k1 k2 e1 e2 e3 u2 rA h2 hw2 hH hO h h15 hw3 hw4 hHl hmo heqr
        go_enter Tryz.func79, Tryz.ntmps79
        go_upto_region 1 with (fail)
        rw [HW2.out]
        go_upto_region 10 with (fail)
        rw [HW3.out]
        go_wp2_with (first | (refine wpList_load_atW (by rfl) 31 _ rfl w.heap.size 0 rfl H HLD.out ?_) | (refine wpList_store_midAs rfl 31 _ _ rfl mb 4 H rfl rfl HTH.out HHI.out HH1.out w4 HW4.out ?_))
        go_ret
        exact HFIN.out
theorem rRefill_any (h : Mdl w mb m v) (k : Int) (hk : i64in k) : Calls Tryz.prog 80 #[.pointer (some ⟨mb, 0, none⟩), .int .i64 k] w (MdTo mb (fillM m k) v (fillR m k) w) := by
  have c2 := h.c2
  have hp := h.ok.paper
  have HM := Lib.hid h
  obtain ⟨hk1, hk2⟩ := hk
  have e0 : IntKind.i64.wrap (1000000000 - (m.paper : Int)) = 1000000000 - (m.paper : Int) := wrap_in (by omega) (by omega)
  unfold fillM fillR
  by_cases he : 1 ≤ k ∧ k ≤ 1000000000 - (m.paper : Int)
  · rw [if_pos he, if_pos he]
    obtain ⟨q, hq⟩ : ∃ q : Nat, (q : Int) = k := ⟨k.toNat, by omega⟩
    subst hq
    rw [show ((q : Int)).toNat = q from rfl]
    obtain ⟨hmo, _⟩ := KM.fill_ok (n := q) h.ok (by omega) (by omega)
    obtain ⟨w2, hw2⟩ : ∃ w2, w.setCell ⟨mb, 2, none⟩ (.int .i64 ((m.paper : Int) + (q : Int))) = w2 := ⟨_, rfl⟩
    have k1 := h.set (m.fill q) 2 (.int .i64 ((m.paper : Int) + (q : Int))) hmo rfl (by show _ = (mdV (m.fill q) v).toArray; unfold KM.fill mdV; simp)
    have k2 : Upd [mb] [mb] w (w.setCell ⟨mb, 2, none⟩ (.int .i64 ((m.paper : Int) + (q : Int)))) := (Upd.refl _ _).setCell (p := ⟨mb, 2, none⟩) (by simp) _
    rw [hw2] at k1 k2
    have HFIN : Hid (MdTo mb (m.fill q) v 0 w (.returned (.int .i64 0)) w2) := ⟨rfl, k1, k2⟩
    have HW2 := Lib.hid hw2
    have f2 := h.free 2
    have e1 : IntKind.i64.wrap ((m.paper : Int) + (q : Int)) = (m.paper : Int) + (q : Int) := wrap_in (by omega) (by omega)
    obtain ⟨g1, g2⟩ : ¬ (q : Int) < 1 ∧ ¬ 1000000000 - (m.paper : Int) < (q : Int) := by omega
    clear h k1 k2 hw2 hmo
    generalize m.paper = z at *
    go_enter Tryz.func80, Tryz.ntmps80
    go_wp2_with fail
    rw [HW2.out]
    go_ret
    exact HFIN.out
  · rw [if_neg he, if_neg he]
    have HFIN := Lib.hid (h.still (Upd.refl _ _) 15)
    clear h
    generalize m.paper = z at *
    by_cases h1 : k < 1
    · clear he
      go_enter Tryz.func80, Tryz.ntmps80
      go_wp2_with fail
      go_ret
      exact HFIN.out
    · have h2 : 1000000000 - (z : Int) < k := by omega
      clear he
      go_enter Tryz.func80, Tryz.ntmps80
      go_wp2_with fail
      go_ret
      exact HFIN.out
end
end Go.Proofs.YtabnlklkfgojgaaGreatDoor

namespace Go.Proofs.YtabnlklkfgojgaaGreatDoor
open Go.RowKit
set_option maxRecDepth 100000

theorem nameOk_of_all {l : List UInt8} (h : ∀ (j : Nat) c, l[j]? = some c → nameC c = true) : nameOk l = (decide (1 ≤ l.length) && decide (l.length ≤ 30)) := by
  by_cases h1 : 1 ≤ l.length
  · by_cases h2 : l.length ≤ 30
    · rw [nameOk_all h1 h2 h, decide_eq_true h1, decide_eq_true h2]; rfl
    · rw [nameOk_long (by omega), decide_eq_false h2, Bool.and_false]
  · have : l = [] := List.eq_nil_of_length_eq_zero (by omega)
    subst this
    decide
set_option maxHeartbeats 2000000 in
theorem rIsName_any (s : ByteArray) (w : World) (hs : s.size ≤ 9223372036854775807) : Calls Tryz.prog 14 #[.string s] w (MkB (nameOk (bs s)) w) := by
  go_enter Tryz.func14, Tryz.ntmps14
  go_wp2_with fail
  go_loopw [3] (fun i wr => ∃ k : Nat, i = .int .i64 (k : Int) ∧ k ≤ s.size ∧ Hid (∀ j c, j < k → (bs s)[j]? = some c → nameC c = true) ∧ wr = w) (fun i _ => s.size - (intOf i).toNat)
  case atStart => exact ⟨0, rfl, Nat.zero_le _, fun j c h => absurd h (Nat.not_lt_zero j), rfl⟩
  case round =>
    obtain ⟨k, rfl, hk, HA, rfl⟩ := hrel
    by_cases hlt : k < s.size
    · have hg : (bs s)[k]? = some s[k] := by
        rw [List.getElem?_eq_getElem (show k < (bs s).length from hlt)]
        rfl
      have HG := Lib.hid hg
      clear hg
      obtain ⟨c, hc⟩ : ∃ c, c = s[k]'hlt := ⟨_, rfl⟩
      have HG2 : Hid ((bs s)[k]? = some c) := by show _ = _; rw [HG.out, hc]
      have hlt' : (k : Int) < (s.size : Int) := by omega
      clear HG
      go_upto_region 5 with (fail)
      rw [← hc]
      have hcn : c.toNat < 256 := UInt8.toNat_lt _
      have HC : Hid (nameC c = (decide (97 ≤ c.toNat ∧ c.toNat ≤ 122 ∨ 65 ≤ c.toNat ∧ c.toNat ≤ 90 ∨ 48 ≤ c.toNat ∧ c.toNat ≤ 57 ∨ c.toNat = 95))) := nameC_iff c
      generalize c.toNat = n at *
      clear hc
      have hcase : (97 ≤ n ∧ n ≤ 122) ∨ (97 ≤ n ∧ 122 < n) ∨ (n < 97 ∧ 65 ≤ n ∧ n ≤ 90) ∨ (n < 97 ∧ 90 < n ∧ n = 95) ∨ (n < 97 ∧ 90 < n ∧ n ≠ 95) ∨ (n < 65 ∧ 48 ≤ n ∧ n ≤ 57) ∨ (n < 65 ∧ 57 < n) ∨ n < 48 := by omega
      have HOK : Hid (nameC c = true → ∀ (j : Nat) c, j < k + 1 → (bs s)[j]? = some c → nameC c = true) := by
        intro hh
        intro j d hj hd
        by_cases hjk : j < k
        · exact HA.out j d hjk hd
        · obtain rfl : j = k := by omega
          rw [HG2.out] at hd
          cases hd
          exact hh
      have HBAD : Hid (nameC c = false → false = nameOk (bs s)) := fun hh => (nameOk_bad HG2.out hh).symm
      clear HA HG2
      rcases hcase with ⟨h1, h2⟩ | ⟨h1, h2⟩ | ⟨h1, h2, h3⟩ | ⟨h1, h2, h3⟩ | ⟨h1, h2, h3⟩ | ⟨h1, h2, h3⟩ | ⟨h1, h2⟩ | h1
      all_goals
        go_wp2_with fail
      all_goals
        first
          | exact ⟨⟨k + 1, by go_num, by omega, HOK.out (by rw [HC.out]; exact decide_eq_true (by omega)), trivial⟩, by simp [intOf]; omega⟩
          | (go_ret; exact ⟨false, HBAD.out (by rw [HC.out]; exact decide_eq_false (by omega)), rfl, Upd.refl _ _⟩)
          | (exfalso; clear HC HOK HBAD; simp only [Bool.not_eq_eq_eq_not, Bool.not_false, decide_eq_true_eq, beq_iff_eq] at *; omega)
    · obtain rfl : k = s.size := by omega
      have HN : Hid (nameOk (bs s) = (decide (1 ≤ s.size) && decide (s.size ≤ 30))) := by
        show _ = _
        rw [nameOk_of_all (fun j c hj => HA.out j c (by have := (List.getElem?_eq_some_iff.1 hj).1; rw [bs_length] at this; exact this) hj), bs_length]
      clear HA hlt hk
      by_cases h1 : 1 ≤ s.size
      · by_cases h2 : s.size ≤ 30
        · have HN' : Hid (true = nameOk (bs s)) := by show _ = _; rw [HN.out, decide_eq_true h1, decide_eq_true h2]; rfl
          have g1 : (1 : Int) ≤ (s.size : Int) := by omega
          have g2 : (s.size : Int) ≤ 30 := by omega
          clear HN h1 h2
          go_wp2_with fail
          go_ret
          exact ⟨true, HN'.out, rfl, Upd.refl _ _⟩
        · have HN' : Hid (false = nameOk (bs s)) := by show _ = _; rw [HN.out, decide_eq_false h2, Bool.and_false]
          have g1 : (1 : Int) ≤ (s.size : Int) := by omega
          have g2 : (30 : Int) < (s.size : Int) := by omega
          clear HN h1 h2
          go_wp2_with fail
          go_ret
          refine ⟨_, ?_, rfl, Upd.refl _ _⟩
          show decide _ = _
          rw [← HN'.out]
          exact decide_eq_false (by omega)
      · have HN' : Hid (false = nameOk (bs s)) := by show _ = _; rw [HN.out, decide_eq_false h1]; rfl
        have g1 : (s.size : Int) < 1 := by omega
        clear HN h1
        go_wp2_with fail
        go_ret
        exact ⟨false, HN'.out, rfl, Upd.refl _ _⟩
end Go.Proofs.YtabnlklkfgojgaaGreatDoor

namespace Go.Proofs.YtabnlklkfgojgaaGreatDoor
open Go.RowKit
set_option maxRecDepth 100000

section
variable {w0 wp w1 : World} {mb : Nat} {m : KM} {v : Value} {T T' : List Nat}
set_option maxHeartbeats 4000000 in
theorem rNext_any (h : Mdl wp mb m v) (d : ByteArray) (hs : List UInt8) (hd : d.size ≤ 1000000000) (hl : hs.length = 32) : Calls Tryz.prog 107 #[.pointer (some ⟨mb, 0, none⟩), .string d, .agg (byteVals hs).toArray] wp (Mk (.agg (rcV (nextK m d hs)).toArray) wp) := by
  obtain ⟨H, hH⟩ : ∃ H, H = (byteVals hs).toArray := ⟨_, rfl⟩
  rw [← hH]
  obtain ⟨w3, hw3⟩ : ∃ w3, ((wp.alloc (.cells H 31)).alloc (.cells Tryz.zeroCells37 37)).alloc (.cells (byteVals zero32).toArray 31) = w3 := ⟨_, rfl⟩
  have u3 : Upd [] [] wp w3 := by rw [← hw3]; exact (((Upd.refl _ _).alloc _).alloc _).alloc _
  have rA : w3.heap[wp.heap.size]? = some (.cells H 31 (0, 0)) := by
    rw [← hw3]
    exact row_updH (heap_alloc_new wp (.cells H 31)) (((Upd.refl [] _).alloc _).alloc _)
  have rG : w3.heap[wp.heap.size + 1]? = some (.cells Tryz.zeroCells37 37 (0, 0)) := by
    rw [← hw3]
    have h := row_updH (heap_alloc_new (wp.alloc (.cells H 31)) (.cells Tryz.zeroCells37 37)) ((Upd.refl [] _).alloc (.cells (byteVals zero32).toArray 31))
    rw [World.size_alloc] at h
    exact h
  have rP : w3.heap[wp.heap.size + 1 + 1]? = some (.cells (byteVals zero32).toArray 31 (0, 0)) := by
    rw [← hw3]
    have h := heap_alloc_new ((wp.alloc (.cells H 31)).alloc (.cells Tryz.zeroCells37 37)) (.cells (byteVals zero32).toArray 31)
    rw [World.size_alloc, World.size_alloc] at h
    exact h
  have z3 : w3.heap.size = wp.heap.size + 1 + 1 + 1 := by rw [← hw3]; simp
  have RA := Lib.hid rA
  have RG := Lib.hid rG
  have RP := Lib.hid rP
  have Z3 := Lib.hid z3
  have HW3 := Lib.hid hw3
  have HB := Lib.hid h
  have H3 := Lib.hid (h.quiet u3)
  obtain ⟨HLO, HLD⟩ := lastR_ok h.ok
  obtain ⟨L, hL⟩ : ∃ L, L = (rcV (lastR m.rs)).toArray := ⟨_, rfl⟩
  obtain ⟨HLI, HL1, HLZ⟩ := rcLet HLO L hL
  have HL := Lib.hid hL
  have hok := h.ok
  have hNO : (nextK m d hs).ok := nextK_ok hok hl
  obtain ⟨R, hR⟩ : ∃ R, R = (rcV (nextK m d hs)).toArray := ⟨_, rfl⟩
  obtain ⟨HRI, HRO, HRZ⟩ := rcLet hNO R hR
  have hpl := prevK_len m.rs
  obtain ⟨P, hP⟩ : ∃ P, P = (byteVals (prevK m.rs)).toArray := ⟨_, rfl⟩
  have HPI : Hid ((Tryz.prog.info? 31).map (·.size) = some P.size) := by show _ = _; rw [hP]; exact hashInfo hpl
  have HP1 : Hid (P.all (·.oneCell') = true) := by show _ = _; rw [hP]; exact hashOne _
  have HPZ : Hid ((byteVals zero32).toArray.size = P.size) := by show _ = _; rw [hP, hashSz hpl]; rfl
  obtain ⟨O, hO⟩ : ∃ O, O = (byteVals m.out).toArray := ⟨_, rfl⟩
  obtain ⟨n, hn⟩ : ∃ n, n = m.rs.length := ⟨_, rfl⟩
  have HPR : Hid (∀ W, Calls Tryz.prog 132 #[.int .i64 m.id, .int .i64 m.sec, .int .i64 ((n : Int) + 1), .string d, .int .i64 (m.round : Int), .agg O, .agg H, .agg P] W (Mk (.agg R) W)) := by
    intro W
    have hm := hok.many
    have hr := hok.round
    have e : ((m.rs.length + 1 : Nat) : Int) = (n : Int) + 1 := by rw [hn]; omega
    have k := rprint22_any m.id m.sec ((m.rs.length + 1 : Nat) : Int) (m.round : Int) d m.out hs (prevK m.rs) hok.id hok.sec (by unfold i64in; omega) (by unfold i64in; omega) hd hok.out hl hpl W
    rw [hR, hO, hH, hP, ← e]
    exact k
  have HHS : Hid (∀ W, Calls Tryz.prog 131 #[.agg L] W (Mk (.agg (byteVals (sha (textL (lastR m.rs)))).toArray) W)) := by
    intro W
    rw [HL.out]
    exact rhash22_any _ HLO (by omega) W
  have HPE : Hid (P = (byteVals (if lastB m.rs then sha (textL (lastR m.rs)) else zero32)).toArray) := by show _ = _; rw [hP, prevK_last]
  have HK : Hid (∀ W : World, Mdl W mb m v → W.heap[wp.heap.size]? = some (.cells H 31 (0, 0)) → W.heap[wp.heap.size + 1 + 1]? = some (.cells P 31 (0, 0)) →
      W.cell? ⟨mb, 0, none⟩ = some (.int .i64 m.id) ∧ W.cell? ⟨mb, 1, none⟩ = some (.int .i64 m.sec) ∧ W.cell? ⟨mb, 3, none⟩ = some (.int .i64 (m.round : Int)) ∧ (Instr.loadAt 31 (.pointer (some ⟨mb, 4, none⟩))).run Tryz.prog W = .ok (.agg O) W ∧
      (Instr.loadAt 31 (.pointer (some ⟨wp.heap.size, 0, none⟩))).run Tryz.prog W = .ok (.agg H) W ∧ (Instr.loadAt 31 (.pointer (some ⟨wp.heap.size + 1 + 1, 0, none⟩))).run Tryz.prog W = .ok (.agg P) W) := by
    intro W hb hA hp
    exact ⟨hb.c0, hb.c1, hb.c3, hb.outLoad O hO, hash_load hl H hH hA, hash_load hpl P hP hp⟩
  have HLT := Lib.hid h.lt
  have HVT := Lib.hid h.vlt
  obtain ⟨ao, cap, hv, hcap, hin⟩ := h.slice
  have c3 : ∀ W : World, Mdl W mb m v → W.cell? ⟨mb, 36, none⟩ = some (.slice ao n cap) := fun W k => by rw [k.c36, hv, hn]
  have HIN := Lib.hid hin
  have C3 := Lib.hid c3
  have hm : n ≤ 2000 := by rw [hn]; exact hok.many
  have HRE := Lib.hid hR
  have HPS := Lib.hid hP
  have HN := Lib.hid hn
  have HLK := Lib.hid HLO
  have HU3 := Lib.hid u3
  clear rA rG rP z3 hw3 h HLO HLD hok hNO hR hpl hP hO hn hv hcap c3 hH hL hin
  go_enter Tryz.func107, Tryz.ntmps107
  go_upto_region 2 with (fail)
  rw [show (((wp.alloc (.cells H 31)).alloc (.cells Tryz.zeroCells37 37)).alloc (.cells #[.int .u8 0, .int .u8 0, .int .u8 0, .int .u8 0, .int .u8 0, .int .u8 0, .int .u8 0, .int .u8 0, .int .u8 0, .int .u8 0, .int .u8 0, .int .u8 0, .int .u8 0, .int .u8 0, .int .u8 0, .int .u8 0, .int .u8 0, .int .u8 0, .int .u8 0, .int .u8 0, .int .u8 0, .int .u8 0, .int .u8 0, .int .u8 0, .int .u8 0, .int .u8 0, .int .u8 0, .int .u8 0, .int .u8 0, .int .u8 0, .int .u8 0, .int .u8 0] 31)) = w3 from HW3.out]
  clear HW3
  have c36 := C3.out w3 H3.out
  obtain ⟨z, hz⟩ : ∃ z : Int, (n : Int) + 1 = z := ⟨_, rfl⟩
  have nw : IntKind.i64.wrap ((n : Int) + 1) = z := by rw [← hz]; exact wrap_in (by omega) (by omega)
  rw [hz] at HPR
  by_cases hn0 : 0 < n
  · obtain ⟨k, hk⟩ : ∃ k, k + 1 = n := ⟨n - 1, by omega⟩
    obtain ⟨hg, hb⟩ := lastR_get (rs := m.rs) (k := k) (by rw [hk]; exact HN.out.symm)
    obtain ⟨g, o, rfl⟩ : ∃ g o, ao = some ⟨g, o, none⟩ := by
      obtain ⟨_, _, g, o, e, _⟩ := HIN.out k _ hg
      exact ⟨g, o, e⟩
    have HLD : Hid ((Instr.loadAt 37 (.pointer (some ⟨g, o + k * 102, none⟩))).run Tryz.prog w3 = .ok (.agg L) w3) := rcs_load (HIN.out.upd HU3.out) hg L HL.out
    have hw : IntKind.i64.wrap ((n : Int) - 1) = (k : Int) := by rw [show (n : Int) - 1 = (k : Int) by omega]; exact wrap_in (by omega) (by omega)
    have hk0 : (0 : Int) ≤ (k : Int) := by omega
    have hk1 : (k : Int) < (n : Int) := by omega
    have hkp : (0 : Int) < (n : Int) := by omega
    rw [hb, if_pos rfl] at HPE
    rw [← HPE.out] at HHS
    clear hg hb hk hn0 hz
    go_wp2_with (first | (refine wpList_load_atW (by rfl) 37 _ rfl g (o + k * 102) rfl L HLD.out ?_))
    refine (HHS.out _).mono ?_
    rintro e w6 ⟨rfl, hq⟩
    have HQ6 := Lib.hid (HU3.out.trans hq)
    have RA6 := Lib.hid (row_updH RA.out hq)
    have RG6 := Lib.hid (row_updH RG.out hq)
    have RP6 := Lib.hid (row_updH RP.out hq)
    have B6 := Lib.hid (H3.out.quiet hq)
    obtain ⟨w7, hw7⟩ : ∃ w7, w6.setRow (wp.heap.size + 1 + 1) P = w7 := ⟨_, rfl⟩
    have HQ7 : Hid (Upd [] [] wp w7) := by show Upd _ _ _ _; rw [← hw7]; exact HQ6.out.setRowNew (by omega) _
    have RP7 : Hid (w7.heap[wp.heap.size + 1 + 1]? = some (.cells P 31 (0, 0))) := by show _ = _; rw [← hw7]; exact setRow_heap _ _ _ _ _ _ RP6.out
    have RA7 : Hid (w7.heap[wp.heap.size]? = some (.cells H 31 (0, 0))) := by show _ = _; rw [← hw7]; exact row_setRowO RA6.out (by omega) P
    have RG7 : Hid (w7.heap[wp.heap.size + 1]? = some (.cells Tryz.zeroCells37 37 (0, 0))) := by show _ = _; rw [← hw7]; exact row_setRowO RG6.out (by omega) P
    have B7 : Hid (Mdl w7 mb m v) := by
      show Mdl _ _ _ _
      rw [← hw7]
      exact B6.out.same (setRow_other _ _ _ _ (by have := HLT.out; omega)) (fun y hy => setRow_other _ _ _ _ (by have := HVT.out y hy; omega))
    have HW7 := Lib.hid hw7
    clear hq hw7 c36
    go_upto_region 5 with (first | (refine wpList_store_rowAs rfl 31 _ _ rfl (wp.heap.size + 1 + 1) P rfl rfl _ _ RP6.out HPI.out HPZ.out HP1.out w7 HW7.out ?_))
    clear RA6 RG6 RP6 B6 HQ6 HHS HW7 HLD HLI HL1 HLZ HL RA RG RP H3 HU3
    refine wp_region_noPanic ?_
    refine wp_region_held_drew (S := fun wp' => wp'.cell? ⟨mb, 0, none⟩ = some (.int .i64 m.id) ∧ wp'.cell? ⟨mb, 1, none⟩ = some (.int .i64 m.sec) ∧ wp'.cell? ⟨mb, 3, none⟩ = some (.int .i64 (m.round : Int)) ∧ (Instr.loadAt 31 (.pointer (some ⟨mb, 4, none⟩))).run Tryz.prog wp' = .ok (.agg O) wp' ∧ (Instr.loadAt 31 (.pointer (some ⟨wp.heap.size, 0, none⟩))).run Tryz.prog wp' = .ok (.agg H) wp' ∧ (Instr.loadAt 31 (.pointer (some ⟨wp.heap.size + 1 + 1, 0, none⟩))).run Tryz.prog wp' = .ok (.agg P) wp') (by kernel_rfl) ?_ (fun hHeld => ?_)
    · exact HK.out _ (B7.out.quiet (Upd.refl [] _).drew) RA7.out RP7.out
    refine tkY 0 hHeld ?_
    refine tkY 1 hHeld ?_
    refine tkY 2 hHeld ?_
    refine tkY 3 hHeld ?_
    refine tkY 4 hHeld ?_
    refine tkY 5 hHeld ?_
    refine tkY 6 hHeld ?_
    refine tkY 7 hHeld ?_
    refine tkY 8 hHeld ?_
    refine tkY 9 hHeld ?_
    refine tkY 10 hHeld ?_
    refine tkY 11 hHeld ?_
    refine tkY 12 hHeld ?_
    refine tkY 13 hHeld ?_
    refine tkY 14 hHeld ?_
    refine tkY 15 hHeld ?_
    refine tkY 16 hHeld ?_
    refine tkY 17 hHeld ?_
    refine tkL 18 hHeld O (fun w hSw => hSw.2.2.2.1) ?_
    refine tkL 19 hHeld H (fun w hSw => hSw.2.2.2.2.1) ?_
    refine tkL 20 hHeld P (fun w hSw => hSw.2.2.2.2.2) ?_
    refine wpAnyH_ready (rs := [21]) (by kernel_rfl) (by simp) ?_
    refine AllReadyH.cons (by simp only [List.getElem?_toArray, List.getElem?_cons_succ, List.getElem?_cons_zero] <;> rfl) (fun K hK => ?_) ?_
    · go_simp; refine (HPR.out _).mono ?_; rintro e w8 ⟨rfl, hq⟩; have hq' := (Upd.refl [] w7).drew.trans hq; have B8 := Lib.hid (B7.out.quiet hq'); have RA8 := Lib.hid (row_updH RA7.out hq'); have RG8 := Lib.hid (row_updH RG7.out hq'); have RP8 := Lib.hid (row_updH RP7.out hq'); have HQ8 := Lib.hid (HQ7.out.trans hq'); clear hq hq'; go_wp2_with fail
      refine hK.out _ _ ?_ (fun hHeld => ?_)
      · exact HK.out _ B8.out RA8.out RP8.out
      clear hK K
      try simp only [Act.put, List.setIfInBounds_toArray, List.set_cons_zero, List.set_cons_succ]
      refine wpAnyH_ready (rs := [22]) (by kernel_rfl) (by simp) ?_
      refine AllReadyH.cons (by simp only [List.getElem?_toArray, List.getElem?_cons_succ, List.getElem?_cons_zero] <;> rfl) (fun K hK => ?_) ?_
      · rw [if_pos (by rfl)]; refine wp_store_row 37 _ _ rfl (wp.heap.size + 1) R rfl rfl _ _ RG8.out HRI.out HRZ.out HRO.out ?_
        refine hK.out _ _ ?_ (fun hHeld => ?_)
        · exact HK.out _ (B8.out.same (setRow_other _ _ _ _ (by have := HLT.out; omega)) (fun y hy => setRow_other _ _ _ _ (by have := HVT.out y hy; omega))) (row_setRowO RA8.out (by omega) R) (row_setRowO RP8.out (by omega) R)
        clear hK K
        try simp only [Act.put]
        refine wpAnyH_done (by kernel_rfl) ?_ _
        refine NoPanic.normal ?_
        go_wp2_with fail
        refine bodyPost_ret (results_cell_row rfl _ _ (wp.heap.size + 1) _ R _ _ rfl (setRow_heap _ _ _ R _ _ RG8.out) Tryz.underlying37 rfl HRI.out) rfl ⟨by rw [HRE.out], HQ8.out.setRowNew (by omega) _⟩
      exact AllReadyH.nil
    exact AllReadyH.nil
  · have hnil : m.rs = [] := List.eq_nil_of_length_eq_zero (by have := HN.out; omega)
    have hb : lastB m.rs = false := by rw [hnil]; rfl
    rw [hb] at HPE
    have hPE : P = (byteVals zero32).toArray := HPE.out
    obtain ⟨w7, hw7⟩ : ∃ w7, w7 = w3 := ⟨_, rfl⟩
    rw [← hw7] at c36 ⊢
    rw [← hPE] at RP
    have HQ7 := HU3
    have RA7 := RA
    have RG7 := RG
    have RP7 := RP
    have B7 := H3
    rw [← hw7] at HQ7 RA7 RG7 RP7 B7
    have hkp : ¬ (0 : Int) < (n : Int) := by omega
    clear hz hn0 hw7 hPE HHS RA RG RP H3 HU3 HLI HL1 HLZ HL hb hnil
    go_upto_region 5 with (fail)
    refine wp_region_noPanic ?_
    refine wp_region_held_drew (S := fun wp' => wp'.cell? ⟨mb, 0, none⟩ = some (.int .i64 m.id) ∧ wp'.cell? ⟨mb, 1, none⟩ = some (.int .i64 m.sec) ∧ wp'.cell? ⟨mb, 3, none⟩ = some (.int .i64 (m.round : Int)) ∧ (Instr.loadAt 31 (.pointer (some ⟨mb, 4, none⟩))).run Tryz.prog wp' = .ok (.agg O) wp' ∧ (Instr.loadAt 31 (.pointer (some ⟨wp.heap.size, 0, none⟩))).run Tryz.prog wp' = .ok (.agg H) wp' ∧ (Instr.loadAt 31 (.pointer (some ⟨wp.heap.size + 1 + 1, 0, none⟩))).run Tryz.prog wp' = .ok (.agg P) wp') (by kernel_rfl) ?_ (fun hHeld => ?_)
    · exact HK.out _ (B7.out.quiet (Upd.refl [] _).drew) RA7.out RP7.out
    refine tkY 0 hHeld ?_
    refine tkY 1 hHeld ?_
    refine tkY 2 hHeld ?_
    refine tkY 3 hHeld ?_
    refine tkY 4 hHeld ?_
    refine tkY 5 hHeld ?_
    refine tkY 6 hHeld ?_
    refine tkY 7 hHeld ?_
    refine tkY 8 hHeld ?_
    refine tkY 9 hHeld ?_
    refine tkY 10 hHeld ?_
    refine tkY 11 hHeld ?_
    refine tkY 12 hHeld ?_
    refine tkY 13 hHeld ?_
    refine tkY 14 hHeld ?_
    refine tkY 15 hHeld ?_
    refine tkY 16 hHeld ?_
    refine tkY 17 hHeld ?_
    refine tkL 18 hHeld O (fun w hSw => hSw.2.2.2.1) ?_
    refine tkL 19 hHeld H (fun w hSw => hSw.2.2.2.2.1) ?_
    refine tkL 20 hHeld P (fun w hSw => hSw.2.2.2.2.2) ?_
    refine wpAnyH_ready (rs := [21]) (by kernel_rfl) (by simp) ?_
    refine AllReadyH.cons (by simp only [List.getElem?_toArray, List.getElem?_cons_succ, List.getElem?_cons_zero] <;> rfl) (fun K hK => ?_) ?_
    · go_simp; refine (HPR.out _).mono ?_; rintro e w8 ⟨rfl, hq⟩; have hq' := (Upd.refl [] w7).drew.trans hq; have B8 := Lib.hid (B7.out.quiet hq'); have RA8 := Lib.hid (row_updH RA7.out hq'); have RG8 := Lib.hid (row_updH RG7.out hq'); have RP8 := Lib.hid (row_updH RP7.out hq'); have HQ8 := Lib.hid (HQ7.out.trans hq'); clear hq hq'; go_wp2_with fail
      refine hK.out _ _ ?_ (fun hHeld => ?_)
      · exact HK.out _ B8.out RA8.out RP8.out
      clear hK K
      try simp only [Act.put, List.setIfInBounds_toArray, List.set_cons_zero, List.set_cons_succ]
      refine wpAnyH_ready (rs := [22]) (by kernel_rfl) (by simp) ?_
      refine AllReadyH.cons (by simp only [List.getElem?_toArray, List.getElem?_cons_succ, List.getElem?_cons_zero] <;> rfl) (fun K hK => ?_) ?_
      · rw [if_pos (by rfl)]; refine wp_store_row 37 _ _ rfl (wp.heap.size + 1) R rfl rfl _ _ RG8.out HRI.out HRZ.out HRO.out ?_
        refine hK.out _ _ ?_ (fun hHeld => ?_)
        · exact HK.out _ (B8.out.same (setRow_other _ _ _ _ (by have := HLT.out; omega)) (fun y hy => setRow_other _ _ _ _ (by have := HVT.out y hy; omega))) (row_setRowO RA8.out (by omega) R) (row_setRowO RP8.out (by omega) R)
        clear hK K
        try simp only [Act.put]
        refine wpAnyH_done (by kernel_rfl) ?_ _
        refine NoPanic.normal ?_
        go_wp2_with fail
        refine bodyPost_ret (results_cell_row rfl _ _ (wp.heap.size + 1) _ R _ _ rfl (setRow_heap _ _ _ R _ _ RG8.out) Tryz.underlying37 rfl HRI.out) rfl ⟨by rw [HRE.out], HQ8.out.setRowNew (by omega) _⟩
      exact AllReadyH.nil
    exact AllReadyH.nil
end
end Go.Proofs.YtabnlklkfgojgaaGreatDoor

namespace Go.Proofs.YtabnlklkfgojgaaGreatDoor
open Go.RowKit
set_option maxRecDepth 100000

def MdSell (mb : Nat) (m' : KM) (v : Value) (R : Array Value) (x : Int) (w : World) (e : Ending) (w' : World) : Prop := e = .returned (.tuple #[.agg R, .int .i64 x]) ∧ ∃ v', Mdl w' mb m' v' ∧ Upd (mb :: foot v) (mb :: foot v') w w'
section
variable {w wp w1 : World} {mb : Nat} {m : KM} {v : Value} {T T' : List Nat}
theorem Mdl.hand {w2 : World} {v' : Value} (h : Mdl w mb m v) (x : Rc) (hm' : (m.sold x).ok) (hown : w2.ownsRow 0 37 102 v' (m.rs ++ [x]).length (rcVals (m.rs ++ [x]))) (u : Upd (foot v) (foot v') w w2) (z : Int) (hz : z = ((m.sold x).paper : Int)) :
    Mdl ((w2.setCell ⟨mb, 36, none⟩ v').setCell ⟨mb, 2, none⟩ (.int .i64 z)) mb (m.sold x) v' ∧ Upd (mb :: foot v) (mb :: foot v') w ((w2.setCell ⟨mb, 36, none⟩ v').setCell ⟨mb, 2, none⟩ (.int .i64 z)) := by
  have hkl := h.lt
  have hv' : ∀ y, y ∈ foot v' → y ∈ foot v ∨ w.heap.size ≤ y := u.new
  have hkv' : mb ∉ foot v' := fun hm => by
    rcases hv' mb hm with k | k
    · exact h.kv k
    · omega
  have hne : ∀ y, y ∈ foot v' → y ≠ mb := fun y hy e => hkv' (e ▸ hy)
  have hk2 : w2.heap[mb]? = some (.cells (mdV m v).toArray 99 (0, 0)) := (u.block mb hkl h.kv).trans h.k
  refine ⟨⟨?_, ?_, hkv', hm'⟩, ?_⟩
  · have e1 := heap_setCell_same w2 mb 36 _ _ v' hk2
    rw [mdSet m v v' h.ok.out] at e1
    rw [heap_setCell_same _ mb 2 _ _ _ e1, hz]
    rfl
  · exact row_same hown (fun y hy => by rw [heap_setCell_other _ _ _ _ (hne y hy), heap_setCell_other _ _ _ _ (hne y hy)])
  · have uw : Upd (mb :: foot v) (mb :: foot v') w w2 := ⟨u.os, u.tape, u.output, u.size, fun k hk hn => u.block k hk (fun hm => hn (by simp [hm])), fun k hk => by
      simp only [List.mem_cons] at hk ⊢
      rcases hk with rfl | hk
      · exact .inl (.inl rfl)
      · rcases hv' k hk with g | g
        · exact .inl (.inr g)
        · exact .inr g⟩
    exact (uw.setCell (p := ⟨mb, 36, none⟩) (by simp) _).setCell (p := ⟨mb, 2, none⟩) (by simp) _
set_option maxHeartbeats 4000000 in
theorem rSell_any (h : Mdl wp mb m v) (d : ByteArray) (hs : List UInt8) (hd : d.size ≤ 1000000000) (hl : hs.length = 32) : Calls Tryz.prog 81 #[.pointer (some ⟨mb, 0, none⟩), .string d, .agg (byteVals hs).toArray] wp (MdSell mb (selM m d hs) v (rcV (selR m d hs)).toArray (refE m (bs d)) wp) := by
  obtain ⟨H, hH⟩ : ∃ H, H = (byteVals hs).toArray := ⟨_, rfl⟩
  rw [← hH]
  obtain ⟨w2, hw2, rA, rG, u2⟩ := two_lay wp H Tryz.zeroCells37 31 37
  have h2 := h.quiet u2
  have HNm := Lib.hid (rIsName_any d w2 (by omega))
  have HU2 := Lib.hid u2
  have HW2 := Lib.hid hw2
  obtain ⟨Z, hZ⟩ : ∃ Z, Z = (rcV Rc.zero).toArray := ⟨_, rfl⟩
  have HBZ : Hid (Tryz.prog.built 37 [] = some Z) := by show _ = _; rw [hZ]; exact rc_zero_built
  obtain ⟨ZI, ZO, ZZ⟩ := rcLet Rc.zero_ok Z hZ
  have HNO : Hid (∀ x : Int, refE m (bs d) = x → x ≠ 0 → ∀ W : World, Upd [] [] w2 W → W.heap[wp.heap.size + 1]? = some (.cells Tryz.zeroCells37 37 (0, 0)) → MdSell mb (selM m d hs) v (rcV (selR m d hs)).toArray (refE m (bs d)) wp (.returned (.tuple #[.agg Z, .int .i64 x])) (W.setRow (wp.heap.size + 1) Z)) := by
    intro x hx hx0 W u hr
    rw [hx]
    unfold selM selR
    rw [if_neg (by omega), if_neg (by omega), ← hZ]
    have hup := (u2.trans u).setRowNew (g := wp.heap.size + 1) (by omega) Z
    exact ⟨rfl, v, h.quiet hup, hup.quietTo⟩
  have RG := Lib.hid rG
  have HVL := Lib.hid h.vlt
  have HML := Lib.hid h.lt
  have hpap := h.ok.paper
  obtain ⟨p, hp⟩ : ∃ p, p = m.paper := ⟨_, rfl⟩
  by_cases hname : nameOk (bs d) = true
  · by_cases hp0 : p = 0
    · subst hp0
      have hx : refE m (bs d) = 50 := by unfold refE; rw [hname, if_neg (by simp), if_pos hp.symm]
      have HFIN := Lib.hid (HNO.out 50 hx (by omega))
      have HB2 := Lib.hid h2
      have hpz := Lib.hid hp
      clear hx HNO hZ h h2 hw2 rA rG u2 hp hpap hH
      go_enter Tryz.func81, Tryz.ntmps81
      go_upto_region 1 with (fail)
      rw [HW2.out]
      go_wp2_with fail
      refine HNm.out.mono ?_
      rintro e w3 ⟨b, hb, rfl, hq⟩
      have hbt : b = true := hb.out.trans hname
      subst hbt
      have c2 : w3.cell? ⟨mb, 2, none⟩ = some (.int .i64 0) := by
        have k := (HB2.out.quiet hq).c2
        rw [← hpz.out] at k
        exact k
      have RG3 := Lib.hid (row_updH RG.out hq)
      have HQ := Lib.hid hq
      clear hq hb
      go_wp2_with (first | (refine wpList_build_want (by rfl) 37 #[] rfl Z (Eq.trans (congrArg (fun z => Tryz.prog.built 37 z) (by kernel_rfl)) HBZ.out) ?_) | (refine wpList_store_row rfl 37 _ _ rfl (wp.heap.size + 1) Z rfl rfl _ _ RG3.out ZI.out ZZ.out ZO.out ?_))
      refine bodyPost_ret (results_row_tmp rfl _ _ (wp.heap.size + 1) _ Z _ _ rfl (setRow_heap _ _ _ Z _ _ RG3.out) Tryz.underlying37 rfl ZI.out) rfl ?_
      exact HFIN.out _ HQ.out RG3.out
    · obtain ⟨ao, cap, hv, hcap, _⟩ := h2.slice
      have hm := h.ok.many
      obtain ⟨n, hn⟩ : ∃ n, n = m.rs.length := ⟨_, rfl⟩
      rw [← hn] at hv hcap hm
      have HB2 := Lib.hid h2
      have HC : Hid (∀ W : World, Upd [] [] w2 W → W.cell? ⟨mb, 2, none⟩ = some (.int .i64 (p : Int)) ∧ W.cell? ⟨mb, 36, none⟩ = some (.slice ao n cap)) := by
        intro W u
        have k := h2.quiet u
        exact ⟨by rw [k.c2, hp], by rw [k.c36, hv]⟩
      have hp1 : ¬ (p : Int) < 1 := by omega
      have hp2 : (p : Int) ≤ 1000000000 := by omega
      have hp3 : (0 : Int) ≤ (p : Int) - 1 := by omega
      by_cases hn2 : 2000 ≤ n
      · have hx : refE m (bs d) = 2 := by unfold refE; rw [hname, if_neg (by simp), if_neg (by omega), if_pos (by omega)]
        have HFIN := Lib.hid (HNO.out 2 hx (by omega))
        have hn3 : (2000 : Int) ≤ (n : Int) := by omega
        clear hx HNO hZ h h2 hw2 rA rG u2 hp hpap hv hn hH
        go_enter Tryz.func81, Tryz.ntmps81
        go_upto_region 1 with (fail)
        rw [HW2.out]
        go_wp2_with fail
        refine HNm.out.mono ?_
        rintro e w3 ⟨b, hb, rfl, hq⟩
        have hbt : b = true := hb.out.trans hname
        subst hbt
        obtain ⟨c2, c36⟩ := HC.out w3 hq
        have RG3 := Lib.hid (row_updH RG.out hq)
        have HQ := Lib.hid hq
        clear hq hb
        go_wp2_with (first | (refine wpList_build_want (by rfl) 37 #[] rfl Z (Eq.trans (congrArg (fun z => Tryz.prog.built 37 z) (by kernel_rfl)) HBZ.out) ?_) | (refine wpList_store_row rfl 37 _ _ rfl (wp.heap.size + 1) Z rfl rfl _ _ RG3.out ZI.out ZZ.out ZO.out ?_))
        refine bodyPost_ret (results_row_tmp rfl _ _ (wp.heap.size + 1) _ Z _ _ rfl (setRow_heap _ _ _ Z _ _ RG3.out) Tryz.underlying37 rfl ZI.out) rfl ?_
        exact HFIN.out _ HQ.out RG3.out
      · have hx : refE m (bs d) = 0 := by unfold refE; rw [hname, if_neg (by simp), if_neg (by omega), if_neg (by omega)]
        have hn3 : ¬ (2000 : Int) ≤ (n : Int) := by omega
        rw [hx]
        unfold selM selR
        rw [if_pos hx, if_pos hx]
        have hNO : (nextK m d hs).ok := nextK_ok h.ok hl
        have hMO : (m.sold (nextK m d hs)).ok := KM.ok_step h.ok (step_sold hx hl)
        obtain ⟨X, hX⟩ : ∃ X, X = nextK m d hs := ⟨_, rfl⟩
        have HNx : Hid (∀ W, Upd [] [] w2 W → Calls Tryz.prog 107 #[.pointer (some ⟨mb, 0, none⟩), .string d, .agg H] W (Mk (.agg (rcV X).toArray) W)) := by
          intro W u
          rw [hH, hX]
          exact rNext_any (h2.quiet u) d hs hd hl
        rw [← hX] at hNO hMO ⊢
        obtain ⟨R, hR⟩ : ∃ R, R = (rcV X).toArray := ⟨_, rfl⟩
        obtain ⟨RI, RO, RZ⟩ := rcLet hNO R hR
        rw [← hR] at HNx ⊢
        have HLH : Hid (∀ W : World, Upd [] [] w2 W → (Instr.loadAt 31 (.pointer (some ⟨wp.heap.size, 0, none⟩))).run Tryz.prog W = .ok (.agg H) W) := fun W u => hash_load hl H hH (row_updH rA u)
        have HRE := Lib.hid hR
        have HXO := Lib.hid (And.intro hNO hMO)
        have HP := Lib.hid hp
        have HV := Lib.hid hv
        have HNL := Lib.hid hn
        clear hx HNO hZ h h2 hw2 rA rG u2 hp hpap hv hn hNO hMO hX hR hH
        go_enter Tryz.func81, Tryz.ntmps81
        go_upto_region 1 with (fail)
        rw [HW2.out]
        go_wp2_with fail
        refine HNm.out.mono ?_
        rintro e w3 ⟨b, hb, rfl, hq⟩
        have hbt : b = true := hb.out.trans hname
        subst hbt
        obtain ⟨c2, c36⟩ := HC.out w3 hq
        have HQ := Lib.hid hq
        clear hq hb
        go_wp2_with (first | (refine wpList_load_atW (by rfl) 31 _ rfl wp.heap.size 0 rfl H (HLH.out w3 HQ.out) ?_))
        refine (HNx.out w3 HQ.out).mono ?_
        rintro e w4 ⟨rfl, hq⟩
        obtain ⟨w5, HZ5, HW5, HR5, hq'⟩ := blk_new w4 37 Tryz.zeroCells37 R
        obtain ⟨gr, hgr⟩ : ∃ g, g = w4.heap.size := ⟨_, rfl⟩
        have HQ5 := Lib.hid ((HQ.out.trans hq).trans hq')
        have HQ5d := Lib.hid (((HQ.out.trans hq).trans hq').drew)
        have hgl : wp.heap.size + 1 < gr := by
          rw [hgr]
          exact blk_lt (row_updH (row_updH RG.out HQ.out) hq)
        have B5 := HB2.out.quiet HQ5d.out
        obtain ⟨v2, w6, hrun, hown, hup⟩ := append_rc w5.drew v m.rs X HXO.out.1 B5.own (by rw [← HNL.out]; omega)
        obtain ⟨ao2, cap2, hv2, _, _⟩ := row_slice hown
        obtain ⟨n2, hn2⟩ : ∃ n2, n2 = (m.rs ++ [X]).length := ⟨_, rfl⟩
        rw [← hn2] at hv2
        have HV2 := Lib.hid hv2
        rw [HV.out, hv2, ← HRE.out] at hrun
        have HRN := Lib.hid hrun
        have hub : Upd [] [] w5.drew (w5.drew.alloc (.cells R 37)) := (Upd.refl _ _).alloc _
        have HUB := Lib.hid hub
        have r5 : w5.drew.heap[gr]? = some (.cells R 37 (0, 0)) := by rw [hgr]; exact HR5.out
        have hgf : gr ∉ foot v := fun hm => by have := HVL.out _ hm; omega
        have r6 : w6.heap[gr]? = some (.cells R 37 (0, 0)) := (hup.block gr (blk_lt r5) hgf).trans r5
        have hmg : mb ≠ gr := by have := HML.out; omega
        have hm6 : w6.heap[mb]? = some (.cells (mdV m v).toArray 99 (0, 0)) := (hup.block mb B5.lt B5.kv).trans B5.k
        have hg6 : w6.heap[wp.heap.size + 1]? = some (.cells Tryz.zeroCells37 37 (0, 0)) := by
          have k := row_updH RG.out HQ5d.out
          exact (hup.block _ (blk_lt k) (fun hm => by have := HVL.out _ hm; omega)).trans k
        obtain ⟨hk1, hk2⟩ := B5.hand X HXO.out.2 hown hup ((p : Int) - 1) (by show _ = ((m.paper - 1 : Nat) : Int); rw [← HP.out]; omega)
        have hmg2 : wp.heap.size + 1 ≠ mb := by have := HML.out; omega
        obtain ⟨w8, hw8⟩ : ∃ w8, (w6.setCell ⟨mb, 36, none⟩ v2).setCell ⟨mb, 2, none⟩ (.int .i64 ((p : Int) - 1)) = w8 := ⟨_, rfl⟩
        have r8 : w8.heap[gr]? = some (.cells R 37 (0, 0)) := by rw [← hw8, heap_setCell_other _ _ _ _ (Ne.symm hmg), heap_setCell_other _ _ _ _ (Ne.symm hmg)]; exact r6
        have RG8 : Hid (w8.heap[wp.heap.size + 1]? = some (.cells Tryz.zeroCells37 37 (0, 0))) := by show _ = _; rw [← hw8, heap_setCell_other _ _ _ _ hmg2, heap_setCell_other _ _ _ _ hmg2]; exact hg6
        rw [hw8] at hk1 hk2
        have HFIN : Hid (MdSell mb (m.sold X) v R 0 wp (.returned (.tuple #[.agg R, .int .i64 0])) (w8.setRow (wp.heap.size + 1) R)) := by
          have hup8 : Upd (mb :: foot v) (mb :: foot v2) wp w8 := ((HU2.out.trans HQ5d.out).quietTo (K := mb :: foot v)).trans hk2
          have hx1 : Upd [wp.heap.size + 1] [wp.heap.size + 1] w8 (w8.setRow (wp.heap.size + 1) R) := Upd.setRowIn (Upd.refl _ _) (by simp) R
          refine ⟨rfl, v2, hk1.kept hx1 (by simp; exact fun e => hmg2 e.symm) (fun x hx hm => ?_), hup8.setRowNew (by omega) R⟩
          simp at hm
          rcases hup.new x hx with k | k
          · have := HVL.out x k; omega
          · have k2 := blk_lt (row_updH RG.out HQ5d.out); omega
        have HLG : Hid (∀ W : World, W.heap[gr]? = some (.cells R 37 (0, 0)) → (Instr.loadAt 37 (.pointer (some ⟨gr, 0, none⟩))).run Tryz.prog W = .ok (.agg R) W) := fun W hW => RcAt.load (by rw [HRE.out] at hW; exact hW) HXO.out.1 R HRE.out
        have HBR : Hid (∀ W : World, (Instr.buildSlice 48 1 #[(0, .agg R)]).run Tryz.prog W = .ok (.slice (some ⟨W.heap.size, 0, none⟩) 1 1) (W.alloc (.cells R 37))) := fun W => by rw [HRE.out]; exact rc_build X HXO.out.1 W
        have HL6 := Lib.hid (HLG.out w6 r6)
        have HL8 := Lib.hid (HLG.out w8 r8)
        have R5 := Lib.hid r5
        have R6 := Lib.hid r6
        have M6 := Lib.hid hm6
        have HGR := Lib.hid hgr
        rw [hv2] at hw8
        have HW8 := Lib.hid hw8
        have HMG := Lib.hid hmg
        have c2B : w6.cell? ⟨mb, 2, none⟩ = some (.int .i64 (p : Int)) := by rw [cell_of_row _ _ _ _ _ _ hm6, HP.out]; rfl
        have c36C : w6.cell? ⟨mb, 36, none⟩ = some (.slice ao n cap) := by rw [cell_of_row _ _ _ _ _ _ hm6, ← HV.out, List.getElem?_toArray]; exact mdV_36 HB2.out.ok.out
        have f36 : w6.frozen? ⟨mb, 36, none⟩ = false := frozen_of_row _ _ 36 _ _ hm6
        have c36A : w5.drew.cell? ⟨mb, 36, none⟩ = some (.slice ao n cap) := by rw [← HV.out]; exact B5.c36
        have c36B : (w5.alloc (.cells R 37)).cell? ⟨mb, 36, none⟩ = some (.slice ao n cap) := by rw [← HV.out]; exact (B5.quiet hub).c36
        clear hrun hown hup hub r5 r6 hm6 hg6 hk1 hk2 hw8 r8 hv2 hn2 hgf hmg hmg2 B5 hq hq' hgl hgr c2 c36 HNx HLH
        go_upto_region 9 with (first | (refine wpList_store_rowAs rfl 37 _ _ rfl w4.heap.size R rfl rfl _ _ HZ5.out RI.out RZ.out RO.out w5 HW5.out ?_))
        rw [← HGR.out]
        clear HGR HZ5 HW5
        refine @_root_.id ((?pj1 : Prop) → _) (fun hJ => ?mj1) ?jj1
        case mj1 =>
          refine wp_region_noPanic ?_
          refine wp_region_held_drew (S := fun wp' => (Instr.loadAt 37 (.pointer (some ⟨gr, 0, none⟩))).run Tryz.prog wp' = .ok (.agg R) wp') (by kernel_rfl) ?_ (fun hHeld => ?_)
          · exact HLG.out _ R5.out
          refine tkY 0 hHeld ?_
          refine tkY 1 hHeld ?_
          refine tkY 2 hHeld ?_
          refine tkY 3 hHeld ?_
          refine tkL 5 hHeld R (fun w hSw => hSw) ?_
          refine wpAnyH_ready (rs := [4, 6]) (by kernel_rfl) (by simp) ?_
          refine AllReadyH.cons (by simp only [List.getElem?_toArray, List.getElem?_cons_succ, List.getElem?_cons_zero] <;> rfl) (fun K hK => ?_) ?_
          · go_simp
            refine hK.out _ _ ?_ (fun hHeld => ?_)
            · exact HLG.out _ R5.out
            clear hK K
            try simp only [Act.put, List.setIfInBounds_toArray, List.set_cons_zero, List.set_cons_succ]
            refine wpAnyH_ready (rs := [6]) (by kernel_rfl) (by simp) ?_
            refine AllReadyH.cons (by simp only [List.getElem?_toArray, List.getElem?_cons_succ, List.getElem?_cons_zero] <;> rfl) (fun K hK => ?_) ?_
            · rw [if_pos (by rfl)]; refine wp_buildRun 48 1 _ rfl _ _ (Eq.trans (congrArg (fun z => (Instr.buildSlice 48 1 z).run Tryz.prog w5.drew) (by kernel_rfl)) (HBR.out w5.drew)) ?_
              refine hK.out _ _ ?_ (fun hHeld => ?_)
              · exact HLG.out _ (row_updH (w := w5.drew) R5.out HUB.out)
              clear hK K
              try simp only [Act.put, List.setIfInBounds_toArray, List.set_cons_zero, List.set_cons_succ]
              refine wpAnyH_ready (rs := [7]) (by kernel_rfl) (by simp) ?_
              refine AllReadyH.cons (by simp only [List.getElem?_toArray, List.getElem?_cons_succ, List.getElem?_cons_zero] <;> rfl) (fun K hK => ?_) ?_
              · refine step_append_run _ rfl _ _ _ _ rfl (.slice ao n cap) (.slice (some ⟨w5.drew.heap.size, 0, none⟩) 1 1) (.slice ao2 n2 cap2) w6 rfl rfl HRN.out ?_
                refine hK.out _ _ ?_ (fun hHeld => ?_)
                · exact HL6.out
                clear hK K
                try simp only [Act.put, List.setIfInBounds_toArray, List.set_cons_zero, List.set_cons_succ]
                refine tkY 8 hHeld ?_
                refine tkY 9 hHeld ?_
                refine wpAnyH_ready (rs := [10]) (by kernel_rfl) (by simp) ?_
                refine AllReadyH.cons (by simp only [List.getElem?_toArray, List.getElem?_cons_succ, List.getElem?_cons_zero] <;> rfl) (fun K hK => ?_) ?_
                · go_simp
                  refine hK.out _ _ ?_ (fun hHeld => ?_)
                  · exact HLG.out _ ((heap_setCell_other _ _ _ _ (Ne.symm HMG.out)).trans R6.out)
                  clear hK K
                  try simp only [Act.put]
                  refine wpAnyH_done (by kernel_rfl) ?_ _
                  refine NoPanic.normal ?_
                  exact hJ
                exact AllReadyH.nil
              exact AllReadyH.nil
            exact AllReadyH.nil
          refine AllReadyH.cons (by simp only [List.getElem?_toArray, List.getElem?_cons_succ, List.getElem?_cons_zero] <;> rfl) (fun K hK => ?_) ?_
          · rw [if_pos (by rfl)]; refine wp_buildRun 48 1 _ rfl _ _ (Eq.trans (congrArg (fun z => (Instr.buildSlice 48 1 z).run Tryz.prog w5.drew) (by kernel_rfl)) (HBR.out w5.drew)) ?_
            refine hK.out _ _ ?_ (fun hHeld => ?_)
            · exact HLG.out _ (row_updH (w := w5.drew) R5.out HUB.out)
            clear hK K
            try simp only [Act.put, List.setIfInBounds_toArray, List.set_cons_zero, List.set_cons_succ]
            refine wpAnyH_ready (rs := [4]) (by kernel_rfl) (by simp) ?_
            refine AllReadyH.cons (by simp only [List.getElem?_toArray, List.getElem?_cons_succ, List.getElem?_cons_zero] <;> rfl) (fun K hK => ?_) ?_
            · go_simp
              refine hK.out _ _ ?_ (fun hHeld => ?_)
              · exact HLG.out _ (row_updH (w := w5.drew) R5.out HUB.out)
              clear hK K
              try simp only [Act.put, List.setIfInBounds_toArray, List.set_cons_zero, List.set_cons_succ]
              refine wpAnyH_ready (rs := [7]) (by kernel_rfl) (by simp) ?_
              refine AllReadyH.cons (by simp only [List.getElem?_toArray, List.getElem?_cons_succ, List.getElem?_cons_zero] <;> rfl) (fun K hK => ?_) ?_
              · refine step_append_run _ rfl _ _ _ _ rfl (.slice ao n cap) (.slice (some ⟨w5.drew.heap.size, 0, none⟩) 1 1) (.slice ao2 n2 cap2) w6 rfl rfl HRN.out ?_
                refine hK.out _ _ ?_ (fun hHeld => ?_)
                · exact HL6.out
                clear hK K
                try simp only [Act.put, List.setIfInBounds_toArray, List.set_cons_zero, List.set_cons_succ]
                refine tkY 8 hHeld ?_
                refine tkY 9 hHeld ?_
                refine wpAnyH_ready (rs := [10]) (by kernel_rfl) (by simp) ?_
                refine AllReadyH.cons (by simp only [List.getElem?_toArray, List.getElem?_cons_succ, List.getElem?_cons_zero] <;> rfl) (fun K hK => ?_) ?_
                · go_simp
                  refine hK.out _ _ ?_ (fun hHeld => ?_)
                  · exact HLG.out _ ((heap_setCell_other _ _ _ _ (Ne.symm HMG.out)).trans R6.out)
                  clear hK K
                  try simp only [Act.put]
                  refine wpAnyH_done (by kernel_rfl) ?_ _
                  refine NoPanic.normal ?_
                  exact hJ
                exact AllReadyH.nil
              exact AllReadyH.nil
            exact AllReadyH.nil
          exact AllReadyH.nil
        have e1 := heap_setCell_same w6 mb 36 _ _ (.slice ao2 n2 cap2) M6.out
        have f2 : (w6.setCell ⟨mb, 36, none⟩ (.slice ao2 n2 cap2)).frozen? ⟨mb, 2, none⟩ = false := frozen_of_row _ _ 2 _ _ e1
        clear c36A c36B c36C f36
        go_upto_region 11 with (fail)
        rw [HW8.out]
        go_wp2_with (first | (refine wpList_load_atW (by rfl) 37 _ rfl gr 0 rfl R HL8.out ?_) | (refine wpList_store_row rfl 37 _ _ rfl (wp.heap.size + 1) R rfl rfl _ _ RG8.out RI.out RZ.out RO.out ?_))
        refine bodyPost_ret (results_row_tmp rfl _ _ (wp.heap.size + 1) _ R _ _ rfl (setRow_heap _ _ _ R _ _ RG8.out) Tryz.underlying37 rfl RI.out) rfl ?_
        exact HFIN.out
  · have hnf : nameOk (bs d) = false := by simpa using hname
    have hx : refE m (bs d) = 13 := by unfold refE; rw [if_pos hnf]
    have HFIN := Lib.hid (HNO.out 13 hx (by omega))
    clear hx HNO hZ h h2 hw2 rA rG u2 hp hpap hname hH
    go_enter Tryz.func81, Tryz.ntmps81
    go_upto_region 1 with (fail)
    rw [HW2.out]
    go_wp2_with fail
    refine HNm.out.mono ?_
    rintro e w3 ⟨b, hb, rfl, hq⟩
    have hbt : b = false := hb.out.trans hnf
    subst hbt
    have RG3 := Lib.hid (row_updH RG.out hq)
    have HQ := Lib.hid hq
    clear hq hb
    go_wp2_with (first | (refine wpList_build_want (by rfl) 37 #[] rfl Z (Eq.trans (congrArg (fun z => Tryz.prog.built 37 z) (by kernel_rfl)) HBZ.out) ?_) | (refine wpList_store_row rfl 37 _ _ rfl (wp.heap.size + 1) Z rfl rfl _ _ RG3.out ZI.out ZZ.out ZO.out ?_))
    refine bodyPost_ret (results_row_tmp rfl _ _ (wp.heap.size + 1) _ Z _ _ rfl (setRow_heap _ _ _ Z _ _ RG3.out) Tryz.underlying37 rfl ZI.out) rfl ?_
    exact HFIN.out _ HQ.out RG3.out
end
end Go.Proofs.YtabnlklkfgojgaaGreatDoor

namespace Go.Proofs.YtabnlklkfgojgaaGreatDoor
open Go.RowKit
set_option maxRecDepth 100000

section
variable {w wp w1 : World} {mb : Nat} {m : KM} {v : Value} {T T' : List Nat}
set_option maxHeartbeats 4000000 in
theorem rDo_any (h : Mdl w mb m v) (a : Act27) (ha : a.ok) : Calls Tryz.prog 50 #[.pointer (some ⟨mb, 0, none⟩), .agg a.cs] w (MdSell mb (doM m a) v (rcV (doR m a)).toArray (doE m a) w) := by
  obtain ⟨Z, hZ⟩ : ∃ Z, Z = (rcV Rc.zero).toArray := ⟨_, rfl⟩
  have HBZ : Hid (Tryz.prog.built 37 [] = some Z) := by show _ = _; rw [hZ]; exact rc_zero_built
  obtain ⟨ZI, ZO, ZZ⟩ := rcLet Rc.zero_ok Z hZ
  have HZE := Lib.hid hZ
  have HZC : Hid (Tryz.zeroCells37 = Z) := by show _ = _; rw [hZ]; exact zero_rc
  obtain ⟨w2, hw2, r0, r1, hu⟩ := two_lay w a.cs Tryz.zeroCells37 66 37
  have HW2 := Lib.hid hw2
  obtain ⟨ga, hga⟩ : ∃ ga, ga = w.heap.size := ⟨_, rfl⟩
  rw [← hga] at r0 r1
  have HG : Hid (ga = w.heap.size) := hga
  have HM0 := Lib.hid h
  have HU := Lib.hid hu
  have R0 := Lib.hid r0
  have R1 := Lib.hid r1
  have HOFF : Hid (ga ∉ mb :: foot v ∧ ga + 1 ∉ mb :: foot v) := by
    have h1 := h.lt
    have h2 := h.vlt
    refine ⟨fun hm => ?_, fun hm => ?_⟩
    · rcases List.mem_cons.1 hm with k | k
      · omega
      · have := h2 _ k; omega
    · rcases List.mem_cons.1 hm with k | k
      · omega
      · have := h2 _ k; omega
  have HEND : Hid (∀ (W : World) (v' : Value) (m' : KM) (R : Array Value) (x : Int), Mdl W mb m' v' → Upd (mb :: foot v) (mb :: foot v') w2 W → MdSell mb m' v R x w (.returned (.tuple #[.agg R, .int .i64 x])) (W.setRow (ga + 1) R)) := by
    intro W v' m' R x hm u
    have hoff := off_upd HOFF.out.2 (blk_lt r1) u
    have hx1 : Upd [ga + 1] [ga + 1] W (W.setRow (ga + 1) R) := Upd.setRowIn (Upd.refl _ _) (by simp) R
    refine ⟨rfl, v', hm.kept hx1 (fun k => hoff ?_) (fun y hy k => hoff ?_), (hu.quietTo.trans u).setRowNew (by omega) R⟩
    · simp at k; rw [← k]; exact List.mem_cons_self
    · simp at k; rw [← k]; exact List.mem_cons_of_mem _ hy
  have ca : w2.cell? ⟨ga, 0, none⟩ = some (.int .i64 a.what) := by rw [cell_of_row _ _ _ _ _ _ r0]; rfl
  have cn : w2.cell? ⟨ga, 1, none⟩ = some (.int .i64 a.n) := by rw [cell_of_row _ _ _ _ _ _ r0]; rfl
  have cw : w2.cell? ⟨ga, 2, none⟩ = some (.bool a.wild) := by rw [cell_of_row _ _ _ _ _ _ r0]; rfl
  obtain ⟨W, hW⟩ : ∃ W, W = a.what % 12 := ⟨_, rfl⟩
  have HMod : Hid (∀ (x q : Int) (W : World), 0 < q ∧ q ≤ 4611686018427387904 → Calls Tryz.prog 73 #[.int .i64 x, .int .i64 q] W (Ret (.int .i64 (x % q)) W)) := fun x q W hq => mod27_any x q W hq
  obtain ⟨AC, hAC⟩ : ∃ AC, AC = a.cs := ⟨_, rfl⟩
  have HAC := Lib.hid hAC
  have HWH := Lib.hid hW
  rw [← hAC] at R0 HW2 ⊢
  have HAO : Hid (a.ok) := ha
  clear hZ hw2 r0 r1 hu h hga hW hAC
  go_enter Tryz.func50, Tryz.ntmps50
  go_upto_region 1 with (fail)
  rw [HW2.out, ← HG.out]
  clear HW2
  have HKEEP : Hid (∀ W' : World, W'.heap[ga]? = some (.cells AC 66 (0, 0)) → W'.cell? ⟨ga, 1, none⟩ = some (.int .i64 a.n) ∧ (Instr.loadAt 66 (.pointer (some ⟨ga, 0, none⟩))).run Tryz.prog W' = .ok (.agg AC) W') := by
    intro W' h1
    rw [HAC.out] at h1 ⊢
    exact ⟨by rw [cell_of_row _ _ _ _ _ _ h1]; rfl, act_load W' ga a h1⟩
  have ud0 : Upd [] [] w2 w2.drew := (Upd.refl _ _).drew
  have fa0 : Hid (w2.drew.heap[ga]? = some (.cells AC 66 (0, 0))) := row_updH R0.out ud0
  have fr0 : Hid (w2.drew.heap[ga + 1]? = some (.cells Tryz.zeroCells37 37 (0, 0))) := row_updH R1.out ud0
  go_wp2_with fail
  refine (HMod.out a.what 12 _ (by decide)).mono ?_
  rintro e w' ⟨rfl, rfl⟩
  rw [← HWH.out]
  by_cases h5 : W = 5
  · have eM : doM m a = lrnM m (roundN a) (doH a) ∧ doE m a = lrnR m (roundN a) (doH a) ∧ doR m a = Rc.zero := by
      have hy : a.what % 12 = 5 ∨ a.what % 12 = 6 := .inl (HWH.out ▸ h5)
      unfold doM doE doR
      rw [if_pos hy, if_pos hy, if_pos hy]
      exact ⟨rfl, rfl, rfl⟩
    subst h5
    obtain ⟨c13, hc13⟩ : ∃ c, c = a.n % 13 := ⟨_, rfl⟩
    have HC13 := Lib.hid hc13
    obtain ⟨t12, ht12⟩ : ∃ t, t = c13.tdiv 12 := ⟨_, rfl⟩
    have ht12a : c13.tdiv 12 = t12 := ht12.symm
    have ht12c : IntKind.i64.wrap t12 = t12 := by rw [ht12, Int.tdiv_eq_ediv_of_nonneg (by omega)]; exact wrap_in (by omega) (by omega)
    obtain ⟨r, hr⟩ : ∃ r, r = roundN a := ⟨_, rfl⟩
    obtain ⟨hn, hhn⟩ : ∃ hn, IntKind.i64.wrap (r + t12) = hn := ⟨_, rfl⟩
    have hni : i64in hn := by rw [← hhn, IntKind.wrap_i64]; unfold i64in; omega
    have hdoH : doH a = hashN hn := by unfold doH; rw [← hr, ← hc13, ← ht12, hhn]
    obtain ⟨H, hH⟩ : ∃ H, H = (byteVals (hashN hn)).toArray := ⟨_, rfl⟩
    have HRo := Lib.hid (fun W => round_any a W)
    rw [← HAC.out, ← hr] at HRo
    have HHs := Lib.hid (fun W => rHash_any hn hni W)
    rw [← hH] at HHs
    have HLn : Hid (∀ W, Upd [] [] w2 W → Calls Tryz.prog 79 #[.pointer (some ⟨mb, 0, none⟩), .int .i64 r, .agg H] W (MdTo mb (doM m a) v (doE m a) W)) := by
      intro W u
      rw [hH, hr, eM.1, eM.2.1, hdoH]
      exact rLearn_any (HM0.out.quiet (HU.out.trans u)) (roundN a) (hashN hn) (roundN_in HAO.out) (hashN_len _)
    have HEM := Lib.hid eM.2.2
    obtain ⟨X, hX⟩ : ∃ X, X = doE m a := ⟨_, rfl⟩
    rw [← hX] at HLn
    have HXE := Lib.hid hX
    clear eM hH hni hdoH hr ht12 hc13 hX
    go_upto_region 4 with (fail)
    refine wp_region_noPanic ?_
    refine wp_region_held_drew (S := fun wp => wp.cell? ⟨ga, 1, none⟩ = some (.int .i64 a.n) ∧ (Instr.loadAt 66 (.pointer (some ⟨ga, 0, none⟩))).run Tryz.prog wp = .ok (.agg AC) wp) (by kernel_rfl) ?_ (fun hHeld => ?_)
    · exact HKEEP.out _ fa0.out
    refine tkY 0 hHeld ?_
    refine tkY 1 hHeld ?_
    refine tkL 2 hHeld AC (fun w hSw => hSw.2) ?_
    refine tkL 4 hHeld AC (fun w hSw => hSw.2) ?_
    refine tkY 6 hHeld ?_
    refine tkY 7 hHeld ?_
    refine wpAnyH_ready (rs := [3]) (by kernel_rfl) (by simp) ?_
    refine AllReadyH.cons (by simp only [List.getElem?_toArray, List.getElem?_cons_succ, List.getElem?_cons_zero] <;> rfl) (fun K hK => ?_) ?_
    · go_simp; refine (HRo.out _).mono ?_; rintro e wv1 ⟨rfl, hq⟩; have ud1 := ud0.trans hq; have fa1 := Lib.hid (row_updH fa0.out hq); have fr1 := Lib.hid (row_updH fr0.out hq); clear hq; go_wp2_with fail
      refine hK.out _ _ ?_ (fun hHeld => ?_)
      · exact HKEEP.out _ fa1.out
      clear hK K
      try simp only [Act.put, List.setIfInBounds_toArray, List.set_cons_zero, List.set_cons_succ]
      refine wpAnyH_ready (rs := [5]) (by kernel_rfl) (by simp) ?_
      refine AllReadyH.cons (by simp only [List.getElem?_toArray, List.getElem?_cons_succ, List.getElem?_cons_zero] <;> rfl) (fun K hK => ?_) ?_
      · go_simp; refine (HRo.out _).mono ?_; rintro e wv2 ⟨rfl, hq⟩; have ud2 := ud1.trans hq; have fa2 := Lib.hid (row_updH fa1.out hq); have fr2 := Lib.hid (row_updH fr1.out hq); clear hq; go_wp2_with fail
        refine hK.out _ _ ?_ (fun hHeld => ?_)
        · exact HKEEP.out _ fa2.out
        clear hK K
        try simp only [Act.put, List.setIfInBounds_toArray, List.set_cons_zero, List.set_cons_succ]
        refine wpAnyH_ready (rs := [8]) (by kernel_rfl) (by simp) ?_
        refine AllReadyH.cons (by simp only [List.getElem?_toArray, List.getElem?_cons_succ, List.getElem?_cons_zero] <;> rfl) (fun K hK => ?_) ?_
        · go_simp; refine (HMod.out a.n 13 _ (by decide)).mono ?_; rintro e w' ⟨rfl, rfl⟩; try rw [← HC13.out]; go_wp2_with fail
          refine hK.out _ _ ?_ (fun hHeld => ?_)
          · exact HKEEP.out _ fa2.out
          clear hK K
          try simp only [Act.put, List.setIfInBounds_toArray, List.set_cons_zero, List.set_cons_succ]
          refine tkY 9 hHeld ?_
          refine tkY 10 hHeld ?_
          refine wpAnyH_ready (rs := [11]) (by kernel_rfl) (by simp) ?_
          refine AllReadyH.cons (by simp only [List.getElem?_toArray, List.getElem?_cons_succ, List.getElem?_cons_zero] <;> rfl) (fun K hK => ?_) ?_
          · go_simp; refine (HHs.out _).mono ?_; rintro e wv3 ⟨rfl, hq⟩; have ud3 := ud2.trans hq; have fa3 := Lib.hid (row_updH fa2.out hq); have fr3 := Lib.hid (row_updH fr2.out hq); clear hq; go_wp2_with fail
            refine hK.out _ _ ?_ (fun hHeld => ?_)
            · exact HKEEP.out _ fa3.out
            clear hK K
            try simp only [Act.put, List.setIfInBounds_toArray, List.set_cons_zero, List.set_cons_succ]
            refine wpAnyH_ready (rs := [12]) (by kernel_rfl) (by simp) ?_
            refine AllReadyH.cons (by simp only [List.getElem?_toArray, List.getElem?_cons_succ, List.getElem?_cons_zero] <;> rfl) (fun K hK => ?_) ?_
            · go_simp; refine (HLn.out _ ud3).mono ?_; rintro e wv4 ⟨rfl, hm4, hu4⟩; have HM4 := Lib.hid hm4; have HU4 := Lib.hid (ud3.quietTo.trans hu4); have fa4 : Hid (wv4.heap[ga]? = some (.cells AC 66 (0, 0))) := (by have k := fa3.out; rw [← k]; exact hu4.block ga (blk_lt k) (fun hm => HOFF.out.1 (by simp at hm; simp [hm]))); have fr4 : Hid (wv4.heap[ga + 1]? = some (.cells Tryz.zeroCells37 37 (0, 0))) := (by have k := fr3.out; rw [← k]; exact hu4.block _ (blk_lt k) (fun hm => HOFF.out.2 (by simp at hm; simp [hm]))); clear hm4 hu4; go_wp2_with fail
              refine hK.out _ _ ?_ (fun hHeld => ?_)
              · exact HKEEP.out _ fa4.out
              clear hK K
              try simp only [Act.put, List.setIfInBounds_toArray, List.set_cons_zero, List.set_cons_succ]
              refine wpAnyH_ready (rs := [13]) (by kernel_rfl) (by simp) ?_
              refine AllReadyH.cons (by simp only [List.getElem?_toArray, List.getElem?_cons_succ, List.getElem?_cons_zero] <;> rfl) (fun K hK => ?_) ?_
              · rw [if_pos (by rfl)]; rw [HZC.out]; refine wp_store_row 37 _ _ rfl (ga + 1) Z rfl rfl _ _ fr4.out ZI.out ZZ.out ZO.out ?_
                refine hK.out _ _ ?_ (fun hHeld => ?_)
                · exact HKEEP.out _ (row_setRowO fa4.out (by omega) _)
                clear hK K
                try simp only [Act.put]
                refine tkY 14 hHeld ?_
                refine wpAnyH_done (by kernel_rfl) ?_ _
                refine NoPanic.normal ?_
                have FIN := Lib.hid (HEND.out wv4 v (doM m a) Z X HM4.out (HU4.out.mono (fun k hk => by simp at hk; simp [hk]) (fun k hk => .inr (by simp at hk; simp [hk]))))
                have ROW := Lib.hid (setRow_heap _ _ _ Z _ _ fr4.out)
                clear HEND HM4 HU4
                go_wp2_with fail
                refine bodyPost_ret (results_row_tmp rfl _ _ (ga + 1) _ Z _ _ rfl ROW.out Tryz.underlying37 rfl ZI.out) rfl ?_
                rw [HEM.out, ← HZE.out, ← HXE.out]
                exact FIN.out
              exact AllReadyH.nil
            exact AllReadyH.nil
          exact AllReadyH.nil
        exact AllReadyH.nil
      exact AllReadyH.nil
    exact AllReadyH.nil
  by_cases h6 : W = 6
  · have eM : doM m a = lrnM m (roundN a) (doH a) ∧ doE m a = lrnR m (roundN a) (doH a) ∧ doR m a = Rc.zero := by
      have hy : a.what % 12 = 5 ∨ a.what % 12 = 6 := .inr (HWH.out ▸ h6)
      unfold doM doE doR
      rw [if_pos hy, if_pos hy, if_pos hy]
      exact ⟨rfl, rfl, rfl⟩
    subst h6
    obtain ⟨c13, hc13⟩ : ∃ c, c = a.n % 13 := ⟨_, rfl⟩
    have HC13 := Lib.hid hc13
    obtain ⟨t12, ht12⟩ : ∃ t, t = c13.tdiv 12 := ⟨_, rfl⟩
    have ht12a : c13.tdiv 12 = t12 := ht12.symm
    have ht12c : IntKind.i64.wrap t12 = t12 := by rw [ht12, Int.tdiv_eq_ediv_of_nonneg (by omega)]; exact wrap_in (by omega) (by omega)
    obtain ⟨r, hr⟩ : ∃ r, r = roundN a := ⟨_, rfl⟩
    obtain ⟨hn, hhn⟩ : ∃ hn, IntKind.i64.wrap (r + t12) = hn := ⟨_, rfl⟩
    have hni : i64in hn := by rw [← hhn, IntKind.wrap_i64]; unfold i64in; omega
    have hdoH : doH a = hashN hn := by unfold doH; rw [← hr, ← hc13, ← ht12, hhn]
    obtain ⟨H, hH⟩ : ∃ H, H = (byteVals (hashN hn)).toArray := ⟨_, rfl⟩
    have HRo := Lib.hid (fun W => round_any a W)
    rw [← HAC.out, ← hr] at HRo
    have HHs := Lib.hid (fun W => rHash_any hn hni W)
    rw [← hH] at HHs
    have HLn : Hid (∀ W, Upd [] [] w2 W → Calls Tryz.prog 79 #[.pointer (some ⟨mb, 0, none⟩), .int .i64 r, .agg H] W (MdTo mb (doM m a) v (doE m a) W)) := by
      intro W u
      rw [hH, hr, eM.1, eM.2.1, hdoH]
      exact rLearn_any (HM0.out.quiet (HU.out.trans u)) (roundN a) (hashN hn) (roundN_in HAO.out) (hashN_len _)
    have HEM := Lib.hid eM.2.2
    obtain ⟨X, hX⟩ : ∃ X, X = doE m a := ⟨_, rfl⟩
    rw [← hX] at HLn
    have HXE := Lib.hid hX
    clear eM hH hni hdoH hr ht12 hc13 hX
    go_upto_region 4 with (fail)
    refine wp_region_noPanic ?_
    refine wp_region_held_drew (S := fun wp => wp.cell? ⟨ga, 1, none⟩ = some (.int .i64 a.n) ∧ (Instr.loadAt 66 (.pointer (some ⟨ga, 0, none⟩))).run Tryz.prog wp = .ok (.agg AC) wp) (by kernel_rfl) ?_ (fun hHeld => ?_)
    · exact HKEEP.out _ fa0.out
    refine tkY 0 hHeld ?_
    refine tkY 1 hHeld ?_
    refine tkL 2 hHeld AC (fun w hSw => hSw.2) ?_
    refine tkL 4 hHeld AC (fun w hSw => hSw.2) ?_
    refine tkY 6 hHeld ?_
    refine tkY 7 hHeld ?_
    refine wpAnyH_ready (rs := [3]) (by kernel_rfl) (by simp) ?_
    refine AllReadyH.cons (by simp only [List.getElem?_toArray, List.getElem?_cons_succ, List.getElem?_cons_zero] <;> rfl) (fun K hK => ?_) ?_
    · go_simp; refine (HRo.out _).mono ?_; rintro e wv1 ⟨rfl, hq⟩; have ud1 := ud0.trans hq; have fa1 := Lib.hid (row_updH fa0.out hq); have fr1 := Lib.hid (row_updH fr0.out hq); clear hq; go_wp2_with fail
      refine hK.out _ _ ?_ (fun hHeld => ?_)
      · exact HKEEP.out _ fa1.out
      clear hK K
      try simp only [Act.put, List.setIfInBounds_toArray, List.set_cons_zero, List.set_cons_succ]
      refine wpAnyH_ready (rs := [5]) (by kernel_rfl) (by simp) ?_
      refine AllReadyH.cons (by simp only [List.getElem?_toArray, List.getElem?_cons_succ, List.getElem?_cons_zero] <;> rfl) (fun K hK => ?_) ?_
      · go_simp; refine (HRo.out _).mono ?_; rintro e wv2 ⟨rfl, hq⟩; have ud2 := ud1.trans hq; have fa2 := Lib.hid (row_updH fa1.out hq); have fr2 := Lib.hid (row_updH fr1.out hq); clear hq; go_wp2_with fail
        refine hK.out _ _ ?_ (fun hHeld => ?_)
        · exact HKEEP.out _ fa2.out
        clear hK K
        try simp only [Act.put, List.setIfInBounds_toArray, List.set_cons_zero, List.set_cons_succ]
        refine wpAnyH_ready (rs := [8]) (by kernel_rfl) (by simp) ?_
        refine AllReadyH.cons (by simp only [List.getElem?_toArray, List.getElem?_cons_succ, List.getElem?_cons_zero] <;> rfl) (fun K hK => ?_) ?_
        · go_simp; refine (HMod.out a.n 13 _ (by decide)).mono ?_; rintro e w' ⟨rfl, rfl⟩; try rw [← HC13.out]; go_wp2_with fail
          refine hK.out _ _ ?_ (fun hHeld => ?_)
          · exact HKEEP.out _ fa2.out
          clear hK K
          try simp only [Act.put, List.setIfInBounds_toArray, List.set_cons_zero, List.set_cons_succ]
          refine tkY 9 hHeld ?_
          refine tkY 10 hHeld ?_
          refine wpAnyH_ready (rs := [11]) (by kernel_rfl) (by simp) ?_
          refine AllReadyH.cons (by simp only [List.getElem?_toArray, List.getElem?_cons_succ, List.getElem?_cons_zero] <;> rfl) (fun K hK => ?_) ?_
          · go_simp; refine (HHs.out _).mono ?_; rintro e wv3 ⟨rfl, hq⟩; have ud3 := ud2.trans hq; have fa3 := Lib.hid (row_updH fa2.out hq); have fr3 := Lib.hid (row_updH fr2.out hq); clear hq; go_wp2_with fail
            refine hK.out _ _ ?_ (fun hHeld => ?_)
            · exact HKEEP.out _ fa3.out
            clear hK K
            try simp only [Act.put, List.setIfInBounds_toArray, List.set_cons_zero, List.set_cons_succ]
            refine wpAnyH_ready (rs := [12]) (by kernel_rfl) (by simp) ?_
            refine AllReadyH.cons (by simp only [List.getElem?_toArray, List.getElem?_cons_succ, List.getElem?_cons_zero] <;> rfl) (fun K hK => ?_) ?_
            · go_simp; refine (HLn.out _ ud3).mono ?_; rintro e wv4 ⟨rfl, hm4, hu4⟩; have HM4 := Lib.hid hm4; have HU4 := Lib.hid (ud3.quietTo.trans hu4); have fa4 : Hid (wv4.heap[ga]? = some (.cells AC 66 (0, 0))) := (by have k := fa3.out; rw [← k]; exact hu4.block ga (blk_lt k) (fun hm => HOFF.out.1 (by simp at hm; simp [hm]))); have fr4 : Hid (wv4.heap[ga + 1]? = some (.cells Tryz.zeroCells37 37 (0, 0))) := (by have k := fr3.out; rw [← k]; exact hu4.block _ (blk_lt k) (fun hm => HOFF.out.2 (by simp at hm; simp [hm]))); clear hm4 hu4; go_wp2_with fail
              refine hK.out _ _ ?_ (fun hHeld => ?_)
              · exact HKEEP.out _ fa4.out
              clear hK K
              try simp only [Act.put, List.setIfInBounds_toArray, List.set_cons_zero, List.set_cons_succ]
              refine wpAnyH_ready (rs := [13]) (by kernel_rfl) (by simp) ?_
              refine AllReadyH.cons (by simp only [List.getElem?_toArray, List.getElem?_cons_succ, List.getElem?_cons_zero] <;> rfl) (fun K hK => ?_) ?_
              · rw [if_pos (by rfl)]; rw [HZC.out]; refine wp_store_row 37 _ _ rfl (ga + 1) Z rfl rfl _ _ fr4.out ZI.out ZZ.out ZO.out ?_
                refine hK.out _ _ ?_ (fun hHeld => ?_)
                · exact HKEEP.out _ (row_setRowO fa4.out (by omega) _)
                clear hK K
                try simp only [Act.put]
                refine tkY 14 hHeld ?_
                refine wpAnyH_done (by kernel_rfl) ?_ _
                refine NoPanic.normal ?_
                have FIN := Lib.hid (HEND.out wv4 v (doM m a) Z X HM4.out (HU4.out.mono (fun k hk => by simp at hk; simp [hk]) (fun k hk => .inr (by simp at hk; simp [hk]))))
                have ROW := Lib.hid (setRow_heap _ _ _ Z _ _ fr4.out)
                clear HEND HM4 HU4
                go_wp2_with fail
                refine bodyPost_ret (results_row_tmp rfl _ _ (ga + 1) _ Z _ _ rfl ROW.out Tryz.underlying37 rfl ZI.out) rfl ?_
                rw [HEM.out, ← HZE.out, ← HXE.out]
                exact FIN.out
              exact AllReadyH.nil
            exact AllReadyH.nil
          exact AllReadyH.nil
        exact AllReadyH.nil
      exact AllReadyH.nil
    exact AllReadyH.nil
  by_cases h7 : W = 7
  · have eM : doM m a = fillM m (doQ a) ∧ doE m a = fillR m (doQ a) ∧ doR m a = Rc.zero := by
      have hy : ¬ (a.what % 12 = 5 ∨ a.what % 12 = 6) := by have := HWH.out; omega
      have hy7 : a.what % 12 = 7 := by have := HWH.out; omega
      unfold doM doE doR
      rw [if_neg hy, if_neg hy, if_neg hy, if_pos hy7, if_pos hy7, if_pos hy7]
      exact ⟨rfl, rfl, rfl⟩
    subst h7
    obtain ⟨q, hq⟩ : ∃ q, q = doQ a := ⟨_, rfl⟩
    have HRf : Hid (∀ W, Upd [] [] w2 W → Calls Tryz.prog 80 #[.pointer (some ⟨mb, 0, none⟩), .int .i64 q] W (MdTo mb (doM m a) v (doE m a) W)) := by
      intro W u
      rw [hq, eM.1, eM.2.1]
      exact rRefill_any (HM0.out.quiet (HU.out.trans u)) (doQ a) (doQ_in HAO.out)
    have HEM := Lib.hid eM.2.2
    obtain ⟨X, hX⟩ : ∃ X, X = doE m a := ⟨_, rfl⟩
    rw [← hX] at HRf
    have HXE := Lib.hid hX
    obtain ⟨c4, hc4⟩ : ∃ c, c = a.n % 4 := ⟨_, rfl⟩
    obtain ⟨wild, hwild⟩ : ∃ wd, wd = a.wild := ⟨_, rfl⟩
    obtain ⟨an, han⟩ : ∃ an, an = a.n := ⟨_, rfl⟩
    have HC4 := Lib.hid hc4
    rw [← hwild] at cw
    have hqq : q = if wild then an else c4 := by rw [hq, hwild, han, hc4]; rfl
    rw [← han] at cn
    have HAN := Lib.hid han
    clear eM hq hc4 hwild han hX
    cases wild
    · obtain rfl : q = c4 := by rw [hqq]; rfl
      clear hqq
      go_upto_region 6 with (fail)
      go_wp2_with fail
      refine (HMod.out an 4 _ (by decide)).mono ?_
      rintro e w' ⟨rfl, rfl⟩
      rw [show an % 4 = q from by rw [HAN.out, HC4.out]]
      go_wp2_with (first | (refine wpList_build_want (by rfl) 37 #[] rfl Z (Eq.trans (congrArg (fun z => Tryz.prog.built 37 z) (by kernel_rfl)) HBZ.out) ?_))
      refine (HRf.out _ (Upd.refl _ _)).mono ?_
      rintro e w4 ⟨rfl, hm4, hu4⟩
      have fr4 : Hid (w4.heap[ga + 1]? = some (.cells Tryz.zeroCells37 37 (0, 0))) := by
        have k := R1.out
        show _ = _
        rw [← k]
        exact hu4.block _ (blk_lt k) (fun hm => HOFF.out.2 (by simp at hm; simp [hm]))
      have FIN := Lib.hid (HEND.out w4 v (doM m a) Z X hm4 (hu4.mono (fun k hk => by simp at hk; simp [hk]) (fun k hk => .inr (by simp at hk; simp [hk]))))
      have ROW := Lib.hid (setRow_heap _ _ _ Z _ _ fr4.out)
      clear HEND hm4 hu4 HRf
      go_wp2_with (first | (refine wpList_store_row rfl 37 _ _ rfl (ga + 1) Z rfl rfl _ _ fr4.out ZI.out ZZ.out ZO.out ?_))
      refine bodyPost_ret (results_row_tmp rfl _ _ (ga + 1) _ Z _ _ rfl ROW.out Tryz.underlying37 rfl ZI.out) rfl ?_
      rw [HEM.out, ← HZE.out, ← HXE.out]
      exact FIN.out
    · obtain rfl : q = an := by rw [hqq]; rfl
      clear hqq
      go_upto_region 6 with (fail)
      go_wp2_with fail
      refine (HMod.out q 4 _ (by decide)).mono ?_
      rintro e w' ⟨rfl, rfl⟩
      go_wp2_with (first | (refine wpList_build_want (by rfl) 37 #[] rfl Z (Eq.trans (congrArg (fun z => Tryz.prog.built 37 z) (by kernel_rfl)) HBZ.out) ?_))
      refine (HRf.out _ (Upd.refl _ _)).mono ?_
      rintro e w4 ⟨rfl, hm4, hu4⟩
      have fr4 : Hid (w4.heap[ga + 1]? = some (.cells Tryz.zeroCells37 37 (0, 0))) := by
        have k := R1.out
        show _ = _
        rw [← k]
        exact hu4.block _ (blk_lt k) (fun hm => HOFF.out.2 (by simp at hm; simp [hm]))
      have FIN := Lib.hid (HEND.out w4 v (doM m a) Z X hm4 (hu4.mono (fun k hk => by simp at hk; simp [hk]) (fun k hk => .inr (by simp at hk; simp [hk]))))
      have ROW := Lib.hid (setRow_heap _ _ _ Z _ _ fr4.out)
      clear HEND hm4 hu4 HRf
      go_wp2_with (first | (refine wpList_store_row rfl 37 _ _ rfl (ga + 1) Z rfl rfl _ _ fr4.out ZI.out ZZ.out ZO.out ?_))
      refine bodyPost_ret (results_row_tmp rfl _ _ (ga + 1) _ Z _ _ rfl ROW.out Tryz.underlying37 rfl ZI.out) rfl ?_
      rw [HEM.out, ← HZE.out, ← HXE.out]
      exact FIN.out
  · have eM : doM m a = selM m (drawS a) (hashN a.n) ∧ doE m a = refE m (bs (drawS a)) ∧ doR m a = selR m (drawS a) (hashN a.n) := by
      rw [HWH.out] at h5 h6 h7
      have hno : ¬ (a.what % 12 = 5 ∨ a.what % 12 = 6) := fun h => h.elim h5 h6
      unfold doM doE doR
      rw [if_neg hno, if_neg hno, if_neg hno, if_neg h7, if_neg h7, if_neg h7]
      exact ⟨rfl, rfl, rfl⟩
    obtain ⟨H, hH⟩ : ∃ H, H = (byteVals (hashN a.n)).toArray := ⟨_, rfl⟩
    have HDr := Lib.hid (fun W => draw_any a W)
    rw [← HAC.out] at HDr
    have HHs := Lib.hid (fun W => rHash_any a.n HAO.out.2 W)
    rw [← hH] at HHs
    obtain ⟨R, hR⟩ : ∃ R, R = (rcV (doR m a)).toArray := ⟨_, rfl⟩
    have hRo : (doR m a).ok := by rw [eM.2.2]; exact selR_ok HM0.out.ok (hashN_len _)
    obtain ⟨RI, RO, RZ⟩ := rcLet hRo R hR
    have HSl : Hid (∀ W, Upd [] [] w2 W → Calls Tryz.prog 81 #[.pointer (some ⟨mb, 0, none⟩), .string (drawS a), .agg H] W (MdSell mb (doM m a) v R (doE m a) W)) := by
      intro W u
      rw [hH, eM.1, eM.2.1, hR, eM.2.2]
      exact rSell_any (HM0.out.quiet (HU.out.trans u)) (drawS a) (hashN a.n) (Nat.le_trans (drawS_size a) (by decide)) (hashN_len _)
    have HRE := Lib.hid hR
    obtain ⟨dr, hdr⟩ : ∃ dr, dr = drawS a := ⟨_, rfl⟩
    rw [← hdr] at HDr HSl
    obtain ⟨X, hX⟩ : ∃ X, X = doE m a := ⟨_, rfl⟩
    rw [← hX] at HSl
    have HXE := Lib.hid hX
    clear eM hH hdr hR hRo hX
    go_upto_region 10 with (fail)
    refine wp_region_noPanic ?_
    refine wp_region_held_drew (S := fun wp => wp.cell? ⟨ga, 1, none⟩ = some (.int .i64 a.n) ∧ (Instr.loadAt 66 (.pointer (some ⟨ga, 0, none⟩))).run Tryz.prog wp = .ok (.agg AC) wp) (by kernel_rfl) ?_ (fun hHeld => ?_)
    · exact HKEEP.out _ fa0.out
    refine tkY 0 hHeld ?_
    refine tkL 1 hHeld AC (fun w hSw => hSw.2) ?_
    refine tkY 3 hHeld ?_
    refine tkY 4 hHeld ?_
    refine wpAnyH_ready (rs := [2]) (by kernel_rfl) (by simp) ?_
    refine AllReadyH.cons (by simp only [List.getElem?_toArray, List.getElem?_cons_succ, List.getElem?_cons_zero] <;> rfl) (fun K hK => ?_) ?_
    · go_simp; refine (HDr.out _).mono ?_; rintro e wv1 ⟨rfl, hq⟩; have ud1 := ud0.trans hq; have fa1 := Lib.hid (row_updH fa0.out hq); have fr1 := Lib.hid (row_updH fr0.out hq); clear hq; go_wp2_with fail
      refine hK.out _ _ ?_ (fun hHeld => ?_)
      · exact HKEEP.out _ fa1.out
      clear hK K
      try simp only [Act.put, List.setIfInBounds_toArray, List.set_cons_zero, List.set_cons_succ]
      refine wpAnyH_ready (rs := [5]) (by kernel_rfl) (by simp) ?_
      refine AllReadyH.cons (by simp only [List.getElem?_toArray, List.getElem?_cons_succ, List.getElem?_cons_zero] <;> rfl) (fun K hK => ?_) ?_
      · go_simp; refine (HHs.out _).mono ?_; rintro e wv2 ⟨rfl, hq⟩; have ud2 := ud1.trans hq; have fa2 := Lib.hid (row_updH fa1.out hq); have fr2 := Lib.hid (row_updH fr1.out hq); clear hq; go_wp2_with fail
        refine hK.out _ _ ?_ (fun hHeld => ?_)
        · exact HKEEP.out _ fa2.out
        clear hK K
        try simp only [Act.put, List.setIfInBounds_toArray, List.set_cons_zero, List.set_cons_succ]
        refine wpAnyH_ready (rs := [6]) (by kernel_rfl) (by simp) ?_
        refine AllReadyH.cons (by simp only [List.getElem?_toArray, List.getElem?_cons_succ, List.getElem?_cons_zero] <;> rfl) (fun K hK => ?_) ?_
        · go_simp; refine (HSl.out _ ud2).mono ?_; rintro e wv3 ⟨rfl, v3, hm3, hu3⟩; have HM3 := Lib.hid hm3; have HU3 := Lib.hid (ud2.quietTo.trans hu3); have fa3 : Hid (wv3.heap[ga]? = some (.cells AC 66 (0, 0))) := (by have k := fa2.out; rw [← k]; exact hu3.block ga (blk_lt k) HOFF.out.1); have fr3 : Hid (wv3.heap[ga + 1]? = some (.cells Tryz.zeroCells37 37 (0, 0))) := (by have k := fr2.out; rw [← k]; exact hu3.block _ (blk_lt k) HOFF.out.2); clear hm3 hu3; go_wp2_with fail
          refine hK.out _ _ ?_ (fun hHeld => ?_)
          · exact HKEEP.out _ fa3.out
          clear hK K
          try simp only [Act.put, List.setIfInBounds_toArray, List.set_cons_zero, List.set_cons_succ]
          refine tkY 7 hHeld ?_
          refine tkY 8 hHeld ?_
          refine wpAnyH_ready (rs := [9]) (by kernel_rfl) (by simp) ?_
          refine AllReadyH.cons (by simp only [List.getElem?_toArray, List.getElem?_cons_succ, List.getElem?_cons_zero] <;> rfl) (fun K hK => ?_) ?_
          · rw [if_pos (by rfl)]; refine wp_store_row 37 _ _ rfl (ga + 1) R rfl rfl _ _ fr3.out RI.out RZ.out RO.out ?_
            refine hK.out _ _ ?_ (fun hHeld => ?_)
            · exact HKEEP.out _ (row_setRowO fa3.out (by omega) _)
            clear hK K
            try simp only [Act.put]
            refine tkY 10 hHeld ?_
            refine wpAnyH_done (by kernel_rfl) ?_ _
            refine NoPanic.normal ?_
            have FIN := Lib.hid (HEND.out wv3 v3 (doM m a) R X HM3.out HU3.out)
            have ROW := Lib.hid (setRow_heap _ _ _ R _ _ fr3.out)
            clear HEND HM3 HU3
            go_wp2_with fail
            refine bodyPost_ret (results_row_tmp rfl _ _ (ga + 1) _ R _ _ rfl ROW.out Tryz.underlying37 rfl RI.out) rfl ?_
            rw [← HRE.out, ← HXE.out]
            exact FIN.out
          exact AllReadyH.nil
        exact AllReadyH.nil
      exact AllReadyH.nil
    exact AllReadyH.nil
end
end Go.Proofs.YtabnlklkfgojgaaGreatDoor

namespace Go.Proofs.YtabnlklkfgojgaaGreatDoor
open Go.RowKit
set_option maxRecDepth 100000

def MkP (P : Prop) (w : World) (e : Ending) (w' : World) : Prop := ∃ b : Bool, Hid (b = true ↔ P) ∧ e = .returned (.bool b) ∧ Upd [] [] w w'
set_option maxHeartbeats 2000000 in
theorem same27_any (w : World) (ao bo : Option Addr) (la lb : List Rc) (ca cb : Nat) (hA : RcsIn w ao la) (hB : RcsIn w bo lb) (hlA : la.length ≤ 1000000) (hlB : lb.length ≤ 1000000) :
    Calls Tryz.prog 106 #[.slice ao la.length ca, .slice bo lb.length cb] w (MkP (la = lb) w) := by
  obtain ⟨n, hn⟩ : ∃ n, n = la.length := ⟨_, rfl⟩
  obtain ⟨k2, hk2⟩ : ∃ n, n = lb.length := ⟨_, rfl⟩
  rw [← hn] at hlA ⊢
  rw [← hk2] at hlB ⊢
  have HN := Lib.hid hn
  have HN2 := Lib.hid hk2
  have HA := Lib.hid hA
  have HB := Lib.hid hB
  clear hA hB
  by_cases he : n = k2
  · subst he
    clear hn hk2 hlB
    go_enter Tryz.func106, Tryz.ntmps106
    go_wp2_with fail
    go_loopw [5] (fun i wr => ∃ k : Nat, i = .int .i64 (k : Int) ∧ k ≤ n ∧ Hid (∀ j, j < k → la[j]? = lb[j]?) ∧ Upd [] [] w wr) (fun i _ => n - (intOf i).toNat)
    case atStart => exact ⟨0, rfl, Nat.zero_le _, fun j h => absurd h (Nat.not_lt_zero j), Upd.refl _ _⟩
    case round =>
      obtain ⟨k, rfl, hk, HI, hu⟩ := hrel
      by_cases hkn : k < n
      · obtain ⟨x, hx⟩ : ∃ x, la[k]? = some x := ⟨_, List.getElem?_eq_getElem (by have := HN.out; omega)⟩
        obtain ⟨y, hy⟩ : ∃ y, lb[k]? = some y := ⟨_, List.getElem?_eq_getElem (by have := HN2.out; omega)⟩
        obtain ⟨hxo, _, g, o, hao, _⟩ := HA.out k x hx
        obtain ⟨hyo, _, g2, o2, hbo, _⟩ := HB.out k y hy
        obtain ⟨X, hX⟩ : ∃ X, X = (rcV x).toArray := ⟨_, rfl⟩
        obtain ⟨Y, hY⟩ : ∃ X, X = (rcV y).toArray := ⟨_, rfl⟩
        obtain ⟨e, hed⟩ : ∃ e : Bool, e = eqRc x y := ⟨_, rfl⟩
        have heq : ∀ W : World, (Op.equalIn 10000 37 (.agg X) (.agg Y)).run Tryz.prog W = .ok e W := by
          intro W
          rw [hX, hY, show (10000 : Nat) = 9997 + 3 from rfl, eqRc_run 9997 _ _ hxo hyo W, hed]
        have HL : Hid (∀ W, Upd [] [] w W → (Instr.loadAt 37 (.pointer (some ⟨g, o + k * 102, none⟩))).run Tryz.prog W = .ok (.agg X) W ∧ (Instr.loadAt 37 (.pointer (some ⟨g2, o2 + k * 102, none⟩))).run Tryz.prog W = .ok (.agg Y) W) := by
          intro W u
          have h1 := HA.out.upd u
          have h2 := HB.out.upd u
          rw [hao] at h1
          rw [hbo] at h2
          exact ⟨rcs_load h1 hx X hX, rcs_load h2 hy Y hY⟩
        have j0 : (0 : Int) ≤ (k : Int) := by omega
        have j1 : (k : Int) < (n : Int) := by omega
        have HXY := Lib.hid (And.intro hx (And.intro hy hed))
        have hu1 := hu.drew
        have HU1 := Lib.hid hu1
        clear hx hy hed hX hY hxo hyo
        obtain rfl := hao
        obtain rfl := hbo
        clear HA HB
        cases e
        · skip
          go_upto_region 6 with (fail)
          refine @_root_.id ((?pj1 : Prop) → _) (fun hJ => ?mj1) ?jj1
          case mj1 =>
            refine wp_region_noPanic ?_
            refine wp_region_held_drew (S := fun wp' => (Instr.loadAt 37 (.pointer (some ⟨g, o + k * 102, none⟩))).run Tryz.prog wp' = .ok (.agg X) wp' ∧ (Instr.loadAt 37 (.pointer (some ⟨g2, o2 + k * 102, none⟩))).run Tryz.prog wp' = .ok (.agg Y) wp') (by kernel_rfl) ?_ (fun hHeld => ?_)
            · exact HL.out _ hu1
            refine tkY 0 hHeld ?_
            refine tkY 1 hHeld ?_
            refine tkY 2 hHeld ?_
            refine tkL 3 hHeld X (fun w hSw => hSw.1) ?_
            refine tkY 4 hHeld ?_
            refine tkY 5 hHeld ?_
            refine tkY 6 hHeld ?_
            refine tkL 7 hHeld Y (fun w hSw => hSw.2) ?_
            refine tkY 8 hHeld ?_
            refine wpAnyH_done (by kernel_rfl) ?_ _
            refine NoPanic.normal ?_
            exact hJ
          go_wp2_with fail
          first
            | (go_ret
               exact ⟨false, by
                 obtain ⟨h1, h2, h3⟩ := HXY.out
                 have hne : ¬ la = lb := fun h => by
                   rw [h, h2] at h1
                   injection h1 with h1
                   rw [h1, eqRc_refl] at h3
                   cases h3
                 show _ ↔ _
                 exact ⟨fun h => (by cases h), fun h => absurd h hne⟩, rfl, HU1.out⟩)
            | (refine ⟨⟨k + 1, by go_num, by omega, ?_, HU1.out⟩, by simp [intOf]; omega⟩
               obtain ⟨h1, h2, h3⟩ := HXY.out
               have hxy : x = y := (eqRc_iff x y).1 h3.symm
               intro j hj
               by_cases hjk : j = k
               · rw [hjk, h1, h2, hxy]
               · exact HI.out j (by omega))
        · skip
          go_upto_region 6 with (fail)
          refine @_root_.id ((?pj9 : Prop) → _) (fun hJ => ?mj9) ?jj9
          case mj9 =>
            refine wp_region_noPanic ?_
            refine wp_region_held_drew (S := fun wp' => (Instr.loadAt 37 (.pointer (some ⟨g, o + k * 102, none⟩))).run Tryz.prog wp' = .ok (.agg X) wp' ∧ (Instr.loadAt 37 (.pointer (some ⟨g2, o2 + k * 102, none⟩))).run Tryz.prog wp' = .ok (.agg Y) wp') (by kernel_rfl) ?_ (fun hHeld => ?_)
            · exact HL.out _ hu1
            refine tkY 0 hHeld ?_
            refine tkY 1 hHeld ?_
            refine tkY 2 hHeld ?_
            refine tkL 3 hHeld X (fun w hSw => hSw.1) ?_
            refine tkY 4 hHeld ?_
            refine tkY 5 hHeld ?_
            refine tkY 6 hHeld ?_
            refine tkL 7 hHeld Y (fun w hSw => hSw.2) ?_
            refine tkY 8 hHeld ?_
            refine wpAnyH_done (by kernel_rfl) ?_ _
            refine NoPanic.normal ?_
            exact hJ
          go_wp2_with fail
          first
            | (go_ret
               exact ⟨false, by
                 obtain ⟨h1, h2, h3⟩ := HXY.out
                 have hne : ¬ la = lb := fun h => by
                   rw [h, h2] at h1
                   injection h1 with h1
                   rw [h1, eqRc_refl] at h3
                   cases h3
                 show _ ↔ _
                 exact ⟨fun h => (by cases h), fun h => absurd h hne⟩, rfl, HU1.out⟩)
            | (refine ⟨⟨k + 1, by go_num, by omega, ?_, HU1.out⟩, by simp [intOf]; omega⟩
               obtain ⟨h1, h2, h3⟩ := HXY.out
               have hxy : x = y := (eqRc_iff x y).1 h3.symm
               intro j hj
               by_cases hjk : j = k
               · rw [hjk, h1, h2, hxy]
               · exact HI.out j (by omega))
      · obtain rfl : k = n := by omega
        have HE : Hid (la = lb) := by
          apply List.ext_getElem?
          intro j
          by_cases hj : j < k
          · exact HI.out j hj
          · rw [List.getElem?_eq_none (by have := HN.out; omega), List.getElem?_eq_none (by have := HN2.out; omega)]
        have HU1 := Lib.hid hu
        clear HI hu hkn
        go_wp2_with fail
        go_ret
        exact ⟨true, ⟨fun _ => HE.out, fun _ => rfl⟩, rfl, HU1.out⟩
  · have hne : ¬ (n : Int) = (k2 : Int) := by omega
    have HNE : Hid (¬ la = lb) := fun h => he (by rw [hn, hk2, h])
    clear he hn hk2
    go_enter Tryz.func106, Tryz.ntmps106
    go_wp2_with fail
    go_ret
    exact ⟨false, ⟨fun h => (by cases h), fun h => absurd h HNE.out⟩, rfl, Upd.refl _ _⟩
end Go.Proofs.YtabnlklkfgojgaaGreatDoor
