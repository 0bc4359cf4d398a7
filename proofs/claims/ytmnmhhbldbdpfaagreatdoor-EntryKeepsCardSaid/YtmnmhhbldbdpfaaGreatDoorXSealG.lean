/- An entrant by numbers. -/
import Derived.Test.YtmnmhhbldbdpfaaGreatDoorXSealF
import Derived.Test.YtmnmhhbldbdpfaaGreatDoorXBldR
import Derived.Deep.Upon
namespace Go.Proofs.YtmnmhhbldbdpfaaGreatDoor
open Go.RowKit
set_option maxRecDepth 100000

theorem intI : ∃ i, Tryz.prog.info? 3 = some i ∧ i.zero = some (.int .i64 0) ∧ i.size = 1 ∧ i.bytes = 8 := by
  have h : (Tryz.prog.info? 3).map (fun i => (i.zero, i.size, i.bytes)) = some (some (.int .i64 0), 1, 8) := by kernel_rfl
  obtain ⟨i, hi, he⟩ := Option.map_eq_some_iff.1 h
  simp only [Prod.mk.injEq] at he
  exact ⟨i, hi, he.1, he.2.1, he.2.2⟩
/-- append([]int{}, l...) -/
theorem ints_copy (w : World) (g : Nat) (l : List Int) (ao : Option Addr) (cap : Nat) (hl : l.length ≤ 1000) (h : IntsSl w ao l) :
    ∃ (ao2 : Option Addr) (cap2 : Nat) (w' : World), Hid ((Builtin.append_ #[65, 65] 65 #[.slice (some ⟨g, 0, none⟩) 0 0, .slice ao l.length cap]).run Tryz.prog w = .ok (.slice ao2 l.length cap2) w') ∧ Hid (IntsSl w' ao2 l) ∧ l.length ≤ cap2 ∧ Upd [] [] w w' ∧ (∀ (k : Nat) (x : Int), l[k]? = some x → ∀ g' o', ao2 = some ⟨g', o', none⟩ → w.heap.size ≤ g') := by
  obtain ⟨i, hi, hz, hs, hb⟩ := intI
  cases l with
  | nil =>
    refine ⟨some ⟨g, 0, none⟩, 0, w, ?_, intsSl_nil _ _, Nat.le_refl _, Upd.refl _ _, fun k x h => by simp at h⟩
    refine run_append_nothing (P := Tryz.prog) w 65 65 65 3 i Tryz.underlying65 hi (some ⟨g, 0, none⟩) 0 0 (Nat.le_refl _) _ ⟨.inl ⟨_, Tryz.underlying65⟩, fun w' => rfl, ?_, ?_, by simp, by simp⟩
    · cases ao <;> simp [Builtin.firstCells, loadCells, loadCellsFrom]
    · cases ao <;> simp [Builtin.firstCells, loadCells, loadCellsFrom]
  | cons x r =>
    obtain ⟨_, g0, o, rfl, hg0, _⟩ := h 0 x rfl
    have hnews : ∀ j v, ((x :: r).map (Value.int .i64))[j]? = some v → w.cell? ((⟨g0, o, none⟩ : Addr).add j) = some v := by
      intro j v hv
      rw [List.getElem?_map] at hv
      obtain ⟨y, hy, rfl⟩ := Option.map_eq_some_iff.1 hv
      obtain ⟨_, g1, o1, e, _, hc⟩ := h j y hy
      simp only [Option.some.injEq, Addr.mk.injEq, and_true] at e
      obtain ⟨rfl, rfl⟩ := e
      have e2 : (⟨g0, o, none⟩ : Addr).add j = ⟨g0, o + j, none⟩ := by simp [Addr.add]
      rw [e2]
      exact hc
    have hq := run_append_grow (P := Tryz.prog) w 65 65 3 i _ Tryz.underlying65 hi hz ⟨g, 0, none⟩ 0 0 [] (by simp) (by simp) ⟨g0, o, none⟩ (x :: r).length cap ((x :: r).map (Value.int .i64)) (by rw [hs]; simp) hnews (by simp) (by omega) (by
      rw [hb]
      refine growslice_fits (need := 0 + (x :: r).length) (old := 0) (by simp) (by omega))
    rw [Nat.zero_add] at hq
    refine ⟨_, _, _, hq, ?_, ?_, (Upd.refl _ w).drew.alloc _, fun k y _ g' o' e => by injection e with e; injection e with e; rw [← e]; exact Nat.le_refl _⟩
    · intro k y hk
      refine ⟨h.mem y (List.mem_of_getElem? hk), w.heap.size, 0, rfl, by simp, ?_⟩
      rw [Nat.zero_add]
      refine (cell_of_row _ w.drew.heap.size k _ _ _ (heap_alloc_new w.drew _)).trans ?_
      have hkl : k < (x :: r).length := (List.getElem?_eq_some_iff.1 hk).1
      rw [Array.getElem?_append_left (by simpa using hkl), Array.getElem?_append_right (by simp)]
      simp only [List.size_toArray, List.length_nil, Nat.sub_zero, List.getElem?_toArray, List.getElem?_map, hk]
      rfl
    · have hge := grownCap_ge w (x :: r).length 0 3
      exact hge
theorem ints_empty (W : World) : (Instr.buildSlice 65 0 #[]).run Tryz.prog W = .ok (.slice (some ⟨W.heap.size, 0, none⟩) 0 0) (W.alloc (.cells #[] 3)) := by
  obtain ⟨i, hi, hz, hs, hb⟩ := intI
  simp [Instr.buildSlice, run_underlying Tryz.underlying65, sizeOf, typeInfo, hi, newRow, Instr.fill]
  rw [show (Array.range 0 : Array Nat) = #[] from by apply Array.ext'; simp]
  simp
theorem IntsSl.lt {w : World} {ao : Option Addr} {l : List Int} (h : IntsSl w ao l) : ∀ (k : Nat) (x : Int), l[k]? = some x → ∀ g o, ao = some ⟨g, o, none⟩ → g < w.heap.size := by
  intro k x hk g o e
  obtain ⟨_, g', o', e', hg, _⟩ := h k x hk
  rw [e] at e'
  simp only [Option.some.injEq, Addr.mk.injEq, and_true] at e'
  omega
theorem IntsSl.setRow {w : World} {ao : Option Addr} {l : List Int} (h : IntsSl w ao l) {G : Nat} (hne : ∀ (k : Nat) (x : Int), l[k]? = some x → ∀ g o, ao = some ⟨g, o, none⟩ → g ≠ G) (C : Array Value) : IntsSl (w.setRow G C) ao l := by
  intro k x hk
  obtain ⟨h1, g, o, e, hg, hc⟩ := h k x hk
  refine ⟨h1, g, o, e, by simp; exact hg, ?_⟩
  rw [World.cell?_of_block (w := w) (row_setRowO (cs := C) (Array.getElem?_eq_getElem hg) (hne k x hk g o e) |>.trans (Array.getElem?_eq_getElem hg).symm)]
  exact hc
/-- The cells of a person. -/
def psnV (a b c : Int) (v : Value) (s : ByteArray) : Array Value := #[.int .i64 a, .int .i64 b, .int .i64 c, v, .string s]
def PsnAt (w : World) (g : Nat) (a b c : Int) (v : Value) (s : ByteArray) : Prop := w.heap[g]? = some (.cells (psnV a b c v s) 69 (0, 0))
theorem PsnAt.upd {w w' : World} {g : Nat} {a b c : Int} {v : Value} {s : ByteArray} (h : PsnAt w g a b c v s) (u : Upd [] [] w w') : PsnAt w' g a b c v s := row_updH h u
theorem PsnAt.cells {w : World} {g : Nat} {a b c : Int} {v : Value} {s : ByteArray} (h : PsnAt w g a b c v s) : w.cell? ⟨g, 0, none⟩ = some (.int .i64 a) ∧ w.cell? ⟨g, 1, none⟩ = some (.int .i64 b) ∧ w.cell? ⟨g, 2, none⟩ = some (.int .i64 c) ∧ w.cell? ⟨g, 3, none⟩ = some v ∧ w.cell? ⟨g, 4, none⟩ = some (.string s) :=
  ⟨by rw [cell_of_row _ _ _ _ _ _ h]; rfl, by rw [cell_of_row _ _ _ _ _ _ h]; rfl, by rw [cell_of_row _ _ _ _ _ _ h]; rfl, by rw [cell_of_row _ _ _ _ _ _ h]; rfl, by rw [cell_of_row _ _ _ _ _ _ h]; rfl⟩
theorem IntsSl.take {w : World} {ao : Option Addr} {l : List Int} (h : IntsSl w ao l) (n : Nat) : IntsSl w ao (l.take n) := by
  intro k x hk
  rw [List.getElem?_take] at hk
  split at hk
  · exact h k x hk
  · cases hk
/-- What entrant gives. -/
def MkEnt (a b c : Int) (l : List Int) (s : ByteArray) (w : World) (e : Ending) (w' : World) : Prop :=
  ∃ (ao2 : Option Addr) (cap2 : Nat), e = .returned (.tuple #[.agg (entV a b c (.slice ao2 l.length cap2)), .string s]) ∧ Hid (IntsSl w' ao2 l) ∧ l.length ≤ cap2 ∧ Upd [] [] w w'

set_option maxHeartbeats 1000000 in
theorem entrant22_any (a b c : Int) (l : List Int) (ao : Option Addr) (cap : Nat) (s : ByteArray) (w : World) (_ha : i64in a) (_hb : i64in b) (_hc : i64in c) (hlc : l.length ≤ cap) (_hcm : cap ≤ 9223372036854775807) (h : IntsSl w ao l) (hs : s.size ≤ 9223372036854775807) :
    Calls Tryz.prog 33 #[.agg (psnV a b c (.slice ao l.length cap) s)] w (MkEnt a b c (l.take 61) (s.extract 0 (min (s.size : Int) 100).toNat) w) := by
  have e0 : PsnAt ((w.alloc (.cells (psnV a b c (.slice ao l.length cap) s) 69)).alloc (.cells (entV 0 0 0 (.slice none 0 0)) 71)) w.heap.size a b c (.slice ao l.length cap) s := row_updH (heap_alloc_new w _) ((Upd.refl [] _).alloc _)
  have z0 := heap_alloc_new (w.alloc (.cells (psnV a b c (.slice ao l.length cap) s) 69)) (.cells (entV 0 0 0 (.slice none 0 0)) 71)
  rw [World.size_alloc] at z0
  have u0 : Upd [] [] w ((w.alloc (.cells (psnV a b c (.slice ao l.length cap) s) 69)).alloc (.cells (entV 0 0 0 (.slice none 0 0)) 71)) := ((Upd.refl _ _).alloc _).alloc _
  obtain ⟨n, hn⟩ : ∃ n, n = l.length := ⟨_, rfl⟩
  obtain ⟨q, hq⟩ : ∃ q, q = l.take 61 := ⟨_, rfl⟩
  obtain ⟨m, hm⟩ : ∃ m : Nat, (m : Int) = min (n : Int) 61 := ⟨min n 61, by omega⟩
  have hqm : q.length = m := by rw [hq, List.length_take, ← hn]; omega
  have H : Hid (IntsSl ((w.alloc (.cells (psnV a b c (.slice ao l.length cap) s) 69)).alloc (.cells (entV 0 0 0 (.slice none 0 0)) 71)) ao q) := by rw [hq]; exact (h.take 61).upd u0
  rw [← hn] at e0 z0 u0 H hlc ⊢
  rw [← hq]
  obtain ⟨w0, hw0⟩ : ∃ w0, (w.alloc (.cells (psnV a b c (.slice ao n cap) s) 69)).alloc (.cells (entV 0 0 0 (.slice none 0 0)) 71) = w0 := ⟨_, rfl⟩
  rw [hw0] at e0 z0 u0 H
  have HW := Lib.hid hw0
  have E0 := Lib.hid e0
  have Z0 := Lib.hid z0
  have HU0 := Lib.hid u0
  have HQM := Lib.hid hqm
  have hm' := hm.symm
  have m1 : (m : Int) ≤ (cap : Int) := by omega
  have m0 : (0 : Int) ≤ (m : Int) := by omega
  have mm : m ≤ 61 := by omega
  have HK : Hid (∀ W, Upd [] [] w0 W → W.cell? ⟨w.heap.size, 0, none⟩ = some (.int .i64 a) ∧ W.cell? ⟨w.heap.size, 1, none⟩ = some (.int .i64 b) ∧ W.cell? ⟨w.heap.size, 2, none⟩ = some (.int .i64 c) ∧ W.cell? ⟨w.heap.size, 3, none⟩ = some (.slice ao n cap) ∧ W.cell? ⟨w.heap.size, 4, none⟩ = some (.string s)) := fun W u => (E0.out.upd u).cells
  have hne : w.heap.size ≠ w.heap.size + 1 := by omega
  clear hw0 e0 z0 hn h hq hm hqm u0
  go_enter Tryz.func33, Tryz.ntmps33
  go_upto_region 1 with (fail)
  rw [show (#[.int .i64 0, .int .i64 0, .int .i64 0, .slice none 0 0, .slice none 0 0, .slice none 0 0] : Array Value) = entV 0 0 0 (.slice none 0 0) from rfl, HW.out]
  have ud0 : Upd [] [] w0 w0.drew := (Upd.refl _ _).drew
  have EI : Hid (∀ v : Value, (Tryz.prog.info? 71).map (·.size) = some (entV a b c v).size) := fun v => by kernel_rfl
  have EO : Hid (∀ (x : Option Addr) (k : Nat), (entV a b c (.slice x m k)).all (·.oneCell') = true) := fun x k => by kernel_rfl
  have EZ : Hid (∀ v : Value, (#[.int .i64 0, .int .i64 0, .int .i64 0, .slice none 0 0, .slice none 0 0, .slice none 0 0] : Array Value).size = (entV a b c v).size) := fun v => rfl
  have HBE := Lib.hid ints_empty
  clear HW E0
  refine @id ((∀ (gE gM : Nat) (ao2 : Option Addr) (cap2 : Nat) (W : World), Hid (EntAt W gM a b c (.slice ao2 m cap2)) → Hid (IntsSl W ao2 q) → Hid (∀ (k : Nat) (x : Int), q[k]? = some x → ∀ g o, ao2 = some ⟨g, o, none⟩ → w0.heap.size ≤ g) → m ≤ cap2 → Upd [] [] w0 W → w0.heap.size ≤ gM → (?pj1 : Nat → Nat → Option Addr → Nat → World → Prop) gE gM ao2 cap2 W) → _) (fun hJ => ?mj1) ?jj1
  case mj1 =>
    refine wp_region_noPanic ?_
    refine wp_region_held_drew (S := fun wp => wp.cell? ⟨w.heap.size, 0, none⟩ = some (.int .i64 a) ∧ wp.cell? ⟨w.heap.size, 1, none⟩ = some (.int .i64 b) ∧ wp.cell? ⟨w.heap.size, 2, none⟩ = some (.int .i64 c) ∧ wp.cell? ⟨w.heap.size, 3, none⟩ = some (.slice ao n cap) ∧ wp.cell? ⟨w.heap.size, 4, none⟩ = some (.string s)) (by kernel_rfl) ?_ (fun hHeld => ?_)
    · exact HK.out _ ud0
    refine wpAnyH_take (i := 0) (v := ?v2) (by simp only [List.getElem?_toArray, List.getElem?_cons_zero] <;> rfl) (by kernel_rfl) (by kernel_rfl) (by kernel_rfl) (fun _ _ _ h => h) (Or.inl ⟨by rfl, ?y2⟩) hHeld ?r2
    case y2 => (intro w hSw; (try dsimp only at hSw); go_simp; first | done | with_reducible rfl | rfl)
    try simp only [Act.put, List.setIfInBounds_toArray, List.set_cons_zero, List.set_cons_succ]
    refine wpAnyH_take (i := 1) (v := ?v3) (by simp only [List.getElem?_toArray, List.getElem?_cons_succ, List.getElem?_cons_zero] <;> rfl) (by kernel_rfl) (by kernel_rfl) (by kernel_rfl) (fun _ _ _ h => h) (Or.inl ⟨by rfl, ?y3⟩) hHeld ?r3
    case y3 => (intro w hSw; (try dsimp only at hSw); go_simp; first | done | with_reducible rfl | rfl)
    try simp only [Act.put, List.setIfInBounds_toArray, List.set_cons_zero, List.set_cons_succ]
    refine wpAnyH_take (i := 2) (v := ?v4) (by simp only [List.getElem?_toArray, List.getElem?_cons_succ, List.getElem?_cons_zero] <;> rfl) (by kernel_rfl) (by kernel_rfl) (by kernel_rfl) (fun _ _ _ h => h) (Or.inl ⟨by rfl, ?y4⟩) hHeld ?r4
    case y4 => (intro w hSw; (try dsimp only at hSw); go_simp; first | done | with_reducible rfl | rfl)
    try simp only [Act.put, List.setIfInBounds_toArray, List.set_cons_zero, List.set_cons_succ]
    refine wpAnyH_take (i := 3) (v := ?v5) (by simp only [List.getElem?_toArray, List.getElem?_cons_succ, List.getElem?_cons_zero] <;> rfl) (by kernel_rfl) (by kernel_rfl) (by kernel_rfl) (fun _ _ _ h => h) (Or.inl ⟨by rfl, ?y5⟩) hHeld ?r5
    case y5 => (intro w hSw; (try dsimp only at hSw); go_simp; first | done | with_reducible rfl | rfl)
    try simp only [Act.put, List.setIfInBounds_toArray, List.set_cons_zero, List.set_cons_succ]
    refine wpAnyH_take (i := 4) (v := ?v6) (by simp only [List.getElem?_toArray, List.getElem?_cons_succ, List.getElem?_cons_zero] <;> rfl) (by kernel_rfl) (by kernel_rfl) (by kernel_rfl) (fun _ _ _ h => h) (Or.inl ⟨by rfl, ?y6⟩) hHeld ?r6
    case y6 => (intro w hSw; (try dsimp only at hSw); go_simp; first | done | with_reducible rfl | rfl)
    try simp only [Act.put, List.setIfInBounds_toArray, List.set_cons_zero, List.set_cons_succ]
    refine wpAnyH_take (i := 5) (v := ?v7) (by simp only [List.getElem?_toArray, List.getElem?_cons_succ, List.getElem?_cons_zero] <;> rfl) (by kernel_rfl) (by kernel_rfl) (by kernel_rfl) (fun _ _ _ h => h) (Or.inl ⟨by rfl, ?y7⟩) hHeld ?r7
    case y7 => (intro w hSw; (try dsimp only at hSw); go_simp; first | done | with_reducible rfl | rfl)
    try simp only [Act.put, List.setIfInBounds_toArray, List.set_cons_zero, List.set_cons_succ]
    refine wpAnyH_take (i := 6) (v := ?v8) (by simp only [List.getElem?_toArray, List.getElem?_cons_succ, List.getElem?_cons_zero] <;> rfl) (by kernel_rfl) (by kernel_rfl) (by kernel_rfl) (fun _ _ _ h => h) (Or.inl ⟨by rfl, ?y8⟩) hHeld ?r8
    case y8 => (intro w hSw; (try dsimp only at hSw); go_simp; first | done | with_reducible rfl | rfl)
    try simp only [Act.put, List.setIfInBounds_toArray, List.set_cons_zero, List.set_cons_succ]
    refine wpAnyH_take (i := 7) (v := ?v9) (by simp only [List.getElem?_toArray, List.getElem?_cons_succ, List.getElem?_cons_zero] <;> rfl) (by kernel_rfl) (by kernel_rfl) (by kernel_rfl) (fun _ _ _ h => h) (Or.inl ⟨by rfl, ?y9⟩) hHeld ?r9
    case y9 => (intro w hSw; (try dsimp only at hSw); go_simp; first | done | with_reducible rfl | rfl)
    try simp only [Act.put, List.setIfInBounds_toArray, List.set_cons_zero, List.set_cons_succ]
    refine wpAnyH_take (i := 8) (v := ?v10) (by simp only [List.getElem?_toArray, List.getElem?_cons_succ, List.getElem?_cons_zero] <;> rfl) (by kernel_rfl) (by kernel_rfl) (by kernel_rfl) (fun _ _ _ h => h) (Or.inl ⟨by rfl, ?y10⟩) hHeld ?r10
    case y10 => (intro w hSw; (try dsimp only at hSw); go_simp; first | done | with_reducible rfl | rfl)
    try simp only [Act.put, List.setIfInBounds_toArray, List.set_cons_zero, List.set_cons_succ]
    refine wpAnyH_take (i := 10) (v := ?v11) (by simp only [List.getElem?_toArray, List.getElem?_cons_succ, List.getElem?_cons_zero] <;> rfl) (by kernel_rfl) (by kernel_rfl) (by kernel_rfl) (fun _ _ _ h => h) (Or.inl ⟨by rfl, ?y11⟩) hHeld ?r11
    case y11 => (intro w hSw; (try dsimp only at hSw); go_simp; first | done | with_reducible rfl | rfl)
    try simp only [Act.put, List.setIfInBounds_toArray, List.set_cons_zero, List.set_cons_succ]
    refine wpAnyH_take (i := 11) (v := ?v12) (by simp only [List.getElem?_toArray, List.getElem?_cons_succ, List.getElem?_cons_zero] <;> rfl) (by kernel_rfl) (by kernel_rfl) (by kernel_rfl) (fun _ _ _ h => h) (Or.inl ⟨by rfl, ?y12⟩) hHeld ?r12
    case y12 => (intro w hSw; (try dsimp only at hSw); go_simp; first | done | with_reducible rfl | rfl)
    try simp only [Act.put, List.setIfInBounds_toArray, List.set_cons_zero, List.set_cons_succ]
    refine wpAnyH_take (i := 12) (v := ?v13) (by simp only [List.getElem?_toArray, List.getElem?_cons_succ, List.getElem?_cons_zero] <;> rfl) (by kernel_rfl) (by kernel_rfl) (by kernel_rfl) (fun _ _ _ h => h) (Or.inl ⟨by rfl, ?y13⟩) hHeld ?r13
    case y13 => (intro w hSw; (try dsimp only at hSw); go_simp; first | done | with_reducible rfl | rfl)
    try simp only [Act.put, List.setIfInBounds_toArray, List.set_cons_zero, List.set_cons_succ]
    refine wpAnyH_take (i := 13) (v := ?v14) (by simp only [List.getElem?_toArray, List.getElem?_cons_succ, List.getElem?_cons_zero] <;> rfl) (by kernel_rfl) (by kernel_rfl) (by kernel_rfl) (fun _ _ _ h => h) (Or.inl ⟨by rfl, ?y14⟩) hHeld ?r14
    case y14 => (intro w hSw; (try dsimp only at hSw); go_simp; first | done | with_reducible rfl | rfl)
    try simp only [Act.put, List.setIfInBounds_toArray, List.set_cons_zero, List.set_cons_succ]
    refine wpAnyH_take (i := 14) (v := ?v15) (by simp only [List.getElem?_toArray, List.getElem?_cons_succ, List.getElem?_cons_zero] <;> rfl) (by kernel_rfl) (by kernel_rfl) (by kernel_rfl) (fun _ _ _ h => h) (Or.inl ⟨by rfl, ?y15⟩) hHeld ?r15
    case y15 => (intro w hSw; (try dsimp only at hSw); go_simp; first | done | with_reducible rfl | rfl)
    try simp only [Act.put, List.setIfInBounds_toArray, List.set_cons_zero, List.set_cons_succ]
    refine wpAnyH_take (i := 15) (v := ?v16) (by simp only [List.getElem?_toArray, List.getElem?_cons_succ, List.getElem?_cons_zero] <;> rfl) (by kernel_rfl) (by kernel_rfl) (by kernel_rfl) (fun _ _ _ h => h) (Or.inl ⟨by rfl, ?y16⟩) hHeld ?r16
    case y16 => (intro w hSw; (try dsimp only at hSw); go_simp; first | done | with_reducible rfl | rfl)
    try simp only [Act.put, List.setIfInBounds_toArray, List.set_cons_zero, List.set_cons_succ]
    refine wpAnyH_take (i := 16) (v := ?v17) (by simp only [List.getElem?_toArray, List.getElem?_cons_succ, List.getElem?_cons_zero] <;> rfl) (by kernel_rfl) (by kernel_rfl) (by kernel_rfl) (fun _ _ _ h => h) (Or.inl ⟨by rfl, ?y17⟩) hHeld ?r17
    case y17 => (intro w hSw; (try dsimp only at hSw); go_simp; first | done | with_reducible rfl | rfl)
    try simp only [Act.put, List.setIfInBounds_toArray, List.set_cons_zero, List.set_cons_succ]
    refine wpAnyH_ready (rs := [9, 19]) (by kernel_rfl) (by simp) ?_
    refine AllReadyH.cons (by simp only [List.getElem?_toArray, List.getElem?_cons_succ, List.getElem?_cons_zero] <;> rfl) (fun K hK => ?_) ?_
    · rw [if_pos (by rfl)]; refine wp_buildRun 65 0 _ rfl _ _ (Eq.trans (congrArg (fun z => (Instr.buildSlice 65 0 z).run Tryz.prog w0.drew) (by kernel_rfl)) (HBE.out w0.drew)) ?_; obtain ⟨gE, wv1, hgx, hwx, fE_1, hq⟩ := alloc_let (w0.drew) (.cells #[] 3); rw [← hgx, ← hwx]; have bE : w0.heap.size ≤ gE := (by have := ud0.size; omega); have ud1 := ud0.trans hq; clear hgx hwx hq
      refine hK.out _ _ ?_ (fun hHeld => ?_)
      · exact HK.out _ ud1
      clear hK K
      try simp only [Act.put, List.setIfInBounds_toArray, List.set_cons_zero, List.set_cons_succ]
      refine wpAnyH_ready (rs := [17, 19]) (by kernel_rfl) (by simp) ?_
      refine AllReadyH.cons (by simp only [List.getElem?_toArray, List.getElem?_cons_succ, List.getElem?_cons_zero] <;> rfl) (fun K hK => ?_) ?_
      · obtain ⟨ao2, cap2, wv2, HRN, HI2, hc2, hq, hnew⟩ := ints_copy wv1 gE q ao cap (by rw [HQM.out]; omega) (H.out.upd ud1); rw [HQM.out] at HRN hc2; refine step_append_run _ rfl _ _ _ _ rfl (.slice (some ⟨gE, 0, none⟩) 0 0) (.slice ao m cap) (.slice ao2 m cap2) wv2 rfl rfl HRN.out ?_; have ud2 := ud1.trans hq; have fE_2 := Lib.hid (row_updH fE_1.out hq); have hnwI : Hid (∀ (k : Nat) (x : Int), q[k]? = some x → ∀ g o, ao2 = some ⟨g, o, none⟩ → w0.heap.size ≤ g) := (fun k x hk g o e => Nat.le_trans ud1.size (hnew k x hk g o e)); clear hq HRN hnew
        refine hK.out _ _ ?_ (fun hHeld => ?_)
        · exact HK.out _ ud2
        clear hK K
        try simp only [Act.put, List.setIfInBounds_toArray, List.set_cons_zero, List.set_cons_succ]
        refine wpAnyH_take (i := 18) (v := ?v18) (by simp only [List.getElem?_toArray, List.getElem?_cons_succ, List.getElem?_cons_zero] <;> rfl) (by kernel_rfl) (by kernel_rfl) (by kernel_rfl) (fun _ _ _ h => h) (Or.inl ⟨by rfl, ?y18⟩) hHeld ?r18
        case y18 => (intro w hSw; (try dsimp only at hSw); go_simp; first | done | with_reducible rfl | rfl)
        try simp only [Act.put, List.setIfInBounds_toArray, List.set_cons_zero, List.set_cons_succ]
        refine wpAnyH_ready (rs := [19]) (by kernel_rfl) (by simp) ?_
        refine AllReadyH.cons (by simp only [List.getElem?_toArray, List.getElem?_cons_succ, List.getElem?_cons_zero] <;> rfl) (fun K hK => ?_) ?_
        · go_simp; obtain ⟨gM, wv3, hgx, hwx, fM_3, hq⟩ := alloc_let (wv2) (.cells #[.int .i64 0, .int .i64 0, .int .i64 0, .slice none 0 0, .slice none 0 0, .slice none 0 0] 71); rw [← hgx, ← hwx]; have bM : w0.heap.size ≤ gM := (by have := ud2.size; omega); have ud3 := ud2.trans hq; have fE_3 := Lib.hid (row_updH fE_2.out hq); have ne_E_M : gE ≠ gM := (by have := (Array.getElem?_eq_some_iff.1 fE_2.out).1; omega); have HI3 := Lib.hid (HI2.out.upd hq); have hneI : Hid (∀ (k : Nat) (x : Int), q[k]? = some x → ∀ g o, ao2 = some ⟨g, o, none⟩ → g ≠ gM) := (fun k x hk g o e => by have h1 := HI2.out.lt k x hk g o e; omega); clear hgx hwx hq
          refine hK.out _ _ ?_ (fun hHeld => ?_)
          · exact HK.out _ ud3
          clear hK K
          try simp only [Act.put, List.setIfInBounds_toArray, List.set_cons_zero, List.set_cons_succ]
          refine wpAnyH_ready (rs := [20]) (by kernel_rfl) (by simp) ?_
          refine AllReadyH.cons (by simp only [List.getElem?_toArray, List.getElem?_cons_succ, List.getElem?_cons_zero] <;> rfl) (fun K hK => ?_) ?_
          · rw [if_pos (by rfl)]; refine wp_store_row 71 _ _ rfl gM (entV a b c (.slice ao2 m cap2)) rfl rfl _ _ fM_3.out (EI.out _) (EZ.out _) (EO.out _ _) ?_; obtain ⟨wv4, hwx⟩ : ∃ W' : World, W' = wv3.setRow gM (entV a b c (.slice ao2 m cap2)) := ⟨_, rfl⟩; have fM_4 : Hid (EntAt wv4 gM a b c (.slice ao2 m cap2)) := (by show _ = _; rw [hwx]; exact setRow_heap _ _ _ _ _ _ fM_3.out); have HI4 : Hid (IntsSl wv4 ao2 q) := (by rw [hwx]; exact HI3.out.setRow hneI.out _); have ud4 := ud3.setRowNew bM (entV a b c (.slice ao2 m cap2)); rw [← hwx] at ud4 ⊢; clear hwx
            refine hK.out _ _ ?_ (fun hHeld => ?_)
            · exact HK.out _ ud4
            clear hK K
            try simp only [Act.put]
            refine wpAnyH_done (by kernel_rfl) ?_ _
            refine NoPanic.normal ?_
            exact hJ gE gM ao2 cap2 wv4 fM_4 HI4 hnwI hc2 ud4 bM
          exact AllReadyH.nil
        exact AllReadyH.nil
      refine AllReadyH.cons (by simp only [List.getElem?_toArray, List.getElem?_cons_succ, List.getElem?_cons_zero] <;> rfl) (fun K hK => ?_) ?_
      · go_simp; obtain ⟨gM, wv2, hgx, hwx, fM_2, hq⟩ := alloc_let (wv1) (.cells #[.int .i64 0, .int .i64 0, .int .i64 0, .slice none 0 0, .slice none 0 0, .slice none 0 0] 71); rw [← hgx, ← hwx]; have bM : w0.heap.size ≤ gM := (by have := ud1.size; omega); have ud2 := ud1.trans hq; have fE_2 := Lib.hid (row_updH fE_1.out hq); have ne_E_M : gE ≠ gM := (by have := (Array.getElem?_eq_some_iff.1 fE_1.out).1; omega); clear hgx hwx hq
        refine hK.out _ _ ?_ (fun hHeld => ?_)
        · exact HK.out _ ud2
        clear hK K
        try simp only [Act.put, List.setIfInBounds_toArray, List.set_cons_zero, List.set_cons_succ]
        refine wpAnyH_ready (rs := [17]) (by kernel_rfl) (by simp) ?_
        refine AllReadyH.cons (by simp only [List.getElem?_toArray, List.getElem?_cons_succ, List.getElem?_cons_zero] <;> rfl) (fun K hK => ?_) ?_
        · obtain ⟨ao2, cap2, wv3, HRN, HI3, hc2, hq, hnew⟩ := ints_copy wv2 gE q ao cap (by rw [HQM.out]; omega) (H.out.upd ud2); rw [HQM.out] at HRN hc2; refine step_append_run _ rfl _ _ _ _ rfl (.slice (some ⟨gE, 0, none⟩) 0 0) (.slice ao m cap) (.slice ao2 m cap2) wv3 rfl rfl HRN.out ?_; have ud3 := ud2.trans hq; have fE_3 := Lib.hid (row_updH fE_2.out hq); have fM_3 := Lib.hid (row_updH fM_2.out hq); have hneI : Hid (∀ (k : Nat) (x : Int), q[k]? = some x → ∀ g o, ao2 = some ⟨g, o, none⟩ → g ≠ gM) := (fun k x hk g o e => by have h1 := hnew k x hk g o e; have h2 := (Array.getElem?_eq_some_iff.1 fM_2.out).1; omega); have hnwI : Hid (∀ (k : Nat) (x : Int), q[k]? = some x → ∀ g o, ao2 = some ⟨g, o, none⟩ → w0.heap.size ≤ g) := (fun k x hk g o e => Nat.le_trans ud2.size (hnew k x hk g o e)); clear hq HRN hnew
          refine hK.out _ _ ?_ (fun hHeld => ?_)
          · exact HK.out _ ud3
          clear hK K
          try simp only [Act.put, List.setIfInBounds_toArray, List.set_cons_zero, List.set_cons_succ]
          refine wpAnyH_take (i := 18) (v := ?v19) (by simp only [List.getElem?_toArray, List.getElem?_cons_succ, List.getElem?_cons_zero] <;> rfl) (by kernel_rfl) (by kernel_rfl) (by kernel_rfl) (fun _ _ _ h => h) (Or.inl ⟨by rfl, ?y19⟩) hHeld ?r19
          case y19 => (intro w hSw; (try dsimp only at hSw); go_simp; first | done | with_reducible rfl | rfl)
          try simp only [Act.put, List.setIfInBounds_toArray, List.set_cons_zero, List.set_cons_succ]
          refine wpAnyH_ready (rs := [20]) (by kernel_rfl) (by simp) ?_
          refine AllReadyH.cons (by simp only [List.getElem?_toArray, List.getElem?_cons_succ, List.getElem?_cons_zero] <;> rfl) (fun K hK => ?_) ?_
          · rw [if_pos (by rfl)]; refine wp_store_row 71 _ _ rfl gM (entV a b c (.slice ao2 m cap2)) rfl rfl _ _ fM_3.out (EI.out _) (EZ.out _) (EO.out _ _) ?_; obtain ⟨wv4, hwx⟩ : ∃ W' : World, W' = wv3.setRow gM (entV a b c (.slice ao2 m cap2)) := ⟨_, rfl⟩; have fM_4 : Hid (EntAt wv4 gM a b c (.slice ao2 m cap2)) := (by show _ = _; rw [hwx]; exact setRow_heap _ _ _ _ _ _ fM_3.out); have HI4 : Hid (IntsSl wv4 ao2 q) := (by rw [hwx]; exact HI3.out.setRow hneI.out _); have ud4 := ud3.setRowNew bM (entV a b c (.slice ao2 m cap2)); rw [← hwx] at ud4 ⊢; clear hwx
            refine hK.out _ _ ?_ (fun hHeld => ?_)
            · exact HK.out _ ud4
            clear hK K
            try simp only [Act.put]
            refine wpAnyH_done (by kernel_rfl) ?_ _
            refine NoPanic.normal ?_
            exact hJ gE gM ao2 cap2 wv4 fM_4 HI4 hnwI hc2 ud4 bM
          exact AllReadyH.nil
        exact AllReadyH.nil
      exact AllReadyH.nil
    refine AllReadyH.cons (by simp only [List.getElem?_toArray, List.getElem?_cons_succ, List.getElem?_cons_zero] <;> rfl) (fun K hK => ?_) ?_
    · go_simp; obtain ⟨gM, wv1, hgx, hwx, fM_1, hq⟩ := alloc_letD w0 (.cells #[.int .i64 0, .int .i64 0, .int .i64 0, .slice none 0 0, .slice none 0 0, .slice none 0 0] 71); rw [← hgx, ← hwx]; have bM : w0.heap.size ≤ gM := (by omega); have ud1 := hq; clear hgx hwx hq
      refine hK.out _ _ ?_ (fun hHeld => ?_)
      · exact HK.out _ ud1
      clear hK K
      try simp only [Act.put, List.setIfInBounds_toArray, List.set_cons_zero, List.set_cons_succ]
      refine wpAnyH_ready (rs := [9]) (by kernel_rfl) (by simp) ?_
      refine AllReadyH.cons (by simp only [List.getElem?_toArray, List.getElem?_cons_succ, List.getElem?_cons_zero] <;> rfl) (fun K hK => ?_) ?_
      · rw [if_pos (by rfl)]; refine wp_buildRun 65 0 _ rfl _ _ (Eq.trans (congrArg (fun z => (Instr.buildSlice 65 0 z).run Tryz.prog wv1) (by kernel_rfl)) (HBE.out wv1)) ?_; obtain ⟨gE, wv2, hgx, hwx, fE_2, hq⟩ := alloc_let (wv1) (.cells #[] 3); rw [← hgx, ← hwx]; have bE : w0.heap.size ≤ gE := (by have := ud1.size; omega); have ud2 := ud1.trans hq; have fM_2 := Lib.hid (row_updH fM_1.out hq); have ne_M_E : gM ≠ gE := (by have := (Array.getElem?_eq_some_iff.1 fM_1.out).1; omega); clear hgx hwx hq
        refine hK.out _ _ ?_ (fun hHeld => ?_)
        · exact HK.out _ ud2
        clear hK K
        try simp only [Act.put, List.setIfInBounds_toArray, List.set_cons_zero, List.set_cons_succ]
        refine wpAnyH_ready (rs := [17]) (by kernel_rfl) (by simp) ?_
        refine AllReadyH.cons (by simp only [List.getElem?_toArray, List.getElem?_cons_succ, List.getElem?_cons_zero] <;> rfl) (fun K hK => ?_) ?_
        · obtain ⟨ao2, cap2, wv3, HRN, HI3, hc2, hq, hnew⟩ := ints_copy wv2 gE q ao cap (by rw [HQM.out]; omega) (H.out.upd ud2); rw [HQM.out] at HRN hc2; refine step_append_run _ rfl _ _ _ _ rfl (.slice (some ⟨gE, 0, none⟩) 0 0) (.slice ao m cap) (.slice ao2 m cap2) wv3 rfl rfl HRN.out ?_; have ud3 := ud2.trans hq; have fE_3 := Lib.hid (row_updH fE_2.out hq); have fM_3 := Lib.hid (row_updH fM_2.out hq); have hneI : Hid (∀ (k : Nat) (x : Int), q[k]? = some x → ∀ g o, ao2 = some ⟨g, o, none⟩ → g ≠ gM) := (fun k x hk g o e => by have h1 := hnew k x hk g o e; have h2 := (Array.getElem?_eq_some_iff.1 fM_2.out).1; omega); have hnwI : Hid (∀ (k : Nat) (x : Int), q[k]? = some x → ∀ g o, ao2 = some ⟨g, o, none⟩ → w0.heap.size ≤ g) := (fun k x hk g o e => Nat.le_trans ud2.size (hnew k x hk g o e)); clear hq HRN hnew
          refine hK.out _ _ ?_ (fun hHeld => ?_)
          · exact HK.out _ ud3
          clear hK K
          try simp only [Act.put, List.setIfInBounds_toArray, List.set_cons_zero, List.set_cons_succ]
          refine wpAnyH_take (i := 18) (v := ?v20) (by simp only [List.getElem?_toArray, List.getElem?_cons_succ, List.getElem?_cons_zero] <;> rfl) (by kernel_rfl) (by kernel_rfl) (by kernel_rfl) (fun _ _ _ h => h) (Or.inl ⟨by rfl, ?y20⟩) hHeld ?r20
          case y20 => (intro w hSw; (try dsimp only at hSw); go_simp; first | done | with_reducible rfl | rfl)
          try simp only [Act.put, List.setIfInBounds_toArray, List.set_cons_zero, List.set_cons_succ]
          refine wpAnyH_ready (rs := [20]) (by kernel_rfl) (by simp) ?_
          refine AllReadyH.cons (by simp only [List.getElem?_toArray, List.getElem?_cons_succ, List.getElem?_cons_zero] <;> rfl) (fun K hK => ?_) ?_
          · rw [if_pos (by rfl)]; refine wp_store_row 71 _ _ rfl gM (entV a b c (.slice ao2 m cap2)) rfl rfl _ _ fM_3.out (EI.out _) (EZ.out _) (EO.out _ _) ?_; obtain ⟨wv4, hwx⟩ : ∃ W' : World, W' = wv3.setRow gM (entV a b c (.slice ao2 m cap2)) := ⟨_, rfl⟩; have fM_4 : Hid (EntAt wv4 gM a b c (.slice ao2 m cap2)) := (by show _ = _; rw [hwx]; exact setRow_heap _ _ _ _ _ _ fM_3.out); have HI4 : Hid (IntsSl wv4 ao2 q) := (by rw [hwx]; exact HI3.out.setRow hneI.out _); have ud4 := ud3.setRowNew bM (entV a b c (.slice ao2 m cap2)); rw [← hwx] at ud4 ⊢; clear hwx
            refine hK.out _ _ ?_ (fun hHeld => ?_)
            · exact HK.out _ ud4
            clear hK K
            try simp only [Act.put]
            refine wpAnyH_done (by kernel_rfl) ?_ _
            refine NoPanic.normal ?_
            exact hJ gE gM ao2 cap2 wv4 fM_4 HI4 hnwI hc2 ud4 bM
          exact AllReadyH.nil
        exact AllReadyH.nil
      exact AllReadyH.nil
    exact AllReadyH.nil
  intro gE gM ao2 cap2 wA FM HI hnwI hc2 uA hgM
  clear ud0 HBE hm' m1 m0 H
  obtain ⟨S2, hS2⟩ : ∃ S2, S2 = s.extract 0 (min (s.size : Int) 100).toNat := ⟨_, rfl⟩
  have hS2' := hS2.symm
  obtain ⟨GR, hGR⟩ : ∃ GR, GR = w.heap.size + 1 := ⟨_, rfl⟩
  have hw0s : w.heap.size + 1 < w0.heap.size := (Array.getElem?_eq_some_iff.1 Z0.out).1
  have hgr : w.heap.size ≤ GR := by omega
  have hn1 : w.heap.size ≠ GR := by omega
  have hn2 : gM ≠ GR := by omega
  rw [← hGR] at Z0 ⊢
  have ZA := Lib.hid (row_updH Z0.out uA)
  have HKA : Hid (∀ W : World, W.heap[gM]? = some (.cells (entV a b c (.slice ao2 m cap2)) 71 (0, 0)) → W.cell? ⟨w.heap.size, 4, none⟩ = some (.string s) → W.cell? ⟨gM, 0, none⟩ = some (.int .i64 a) ∧ W.cell? ⟨gM, 1, none⟩ = some (.int .i64 b) ∧ W.cell? ⟨gM, 2, none⟩ = some (.int .i64 c) ∧ W.cell? ⟨gM, 3, none⟩ = some (.slice ao2 m cap2) ∧ W.cell? ⟨gM, 4, none⟩ = some (.slice none 0 0) ∧ W.cell? ⟨gM, 5, none⟩ = some (.slice none 0 0) ∧ W.cell? ⟨w.heap.size, 4, none⟩ = some (.string s)) := by
    intro W h1 h2
    obtain ⟨h3, h4, h5, h6, h7, h8⟩ := EntAt.cells (show EntAt W gM a b c (.slice ao2 m cap2) from h1)
    exact ⟨h3, h4, h5, h6, h7, h8, h2⟩
  have hlt : w.heap.size < wA.drew.heap.size := Nat.lt_of_lt_of_le (by omega) uA.size
  have kA := HKA.out wA FM.out (HK.out wA uA).2.2.2.2
  have hb : Hid (∀ k (x : Int), q[k]? = some x → ∀ g o, ao2 = some ⟨g, o, none⟩ → g ≠ GR) := fun k x hk g o e => by have := hnwI.out k x hk g o e; omega
  have ms0 : (0 : Int) ≤ min (s.size : Int) 100 := by omega
  have ms1 : min (s.size : Int) 100 ≤ (s.size : Int) := by omega
  clear hGR hw0s hgM hS2
  go_upto_region 2 with (fail)
  refine wp_region_noPanic ?_
  refine wp_region_held_drew (S := fun wp => wp.cell? ⟨gM, 0, none⟩ = some (.int .i64 a) ∧ wp.cell? ⟨gM, 1, none⟩ = some (.int .i64 b) ∧ wp.cell? ⟨gM, 2, none⟩ = some (.int .i64 c) ∧ wp.cell? ⟨gM, 3, none⟩ = some (.slice ao2 m cap2) ∧ wp.cell? ⟨gM, 4, none⟩ = some (.slice none 0 0) ∧ wp.cell? ⟨gM, 5, none⟩ = some (.slice none 0 0) ∧ wp.cell? ⟨w.heap.size, 4, none⟩ = some (.string s)) (by kernel_rfl) ?_ (fun hHeld => ?_)
  · exact kA
  refine wpAnyH_take (i := 0) (v := ?v21) (by simp only [List.getElem?_toArray, List.getElem?_cons_zero] <;> rfl) (by kernel_rfl) (by kernel_rfl) (by kernel_rfl) (fun _ _ _ h => h) (Or.inl ⟨by rfl, ?y21⟩) hHeld ?r21
  case y21 => (intro w hSw; (try dsimp only at hSw); go_simp; first | done | with_reducible rfl | rfl)
  try simp only [Act.put, List.setIfInBounds_toArray, List.set_cons_zero, List.set_cons_succ]
  refine wpAnyH_take (i := 1) (v := ?v22) (by simp only [List.getElem?_toArray, List.getElem?_cons_succ, List.getElem?_cons_zero] <;> rfl) (by kernel_rfl) (by kernel_rfl) (by kernel_rfl) (fun _ _ _ h => h) (Or.inl ⟨by rfl, ?y22⟩) hHeld ?r22
  case y22 => (intro w hSw; (try dsimp only at hSw); go_simp; first | done | with_reducible rfl | rfl)
  try simp only [Act.put, List.setIfInBounds_toArray, List.set_cons_zero, List.set_cons_succ]
  refine wpAnyH_take (i := 2) (v := ?v23) (by simp only [List.getElem?_toArray, List.getElem?_cons_succ, List.getElem?_cons_zero] <;> rfl) (by kernel_rfl) (by kernel_rfl) (by kernel_rfl) (fun _ _ _ h => h) (Or.inl ⟨by rfl, ?y23⟩) hHeld ?r23
  case y23 => (intro w hSw; (try dsimp only at hSw); go_simp; first | done | with_reducible rfl | rfl)
  try simp only [Act.put, List.setIfInBounds_toArray, List.set_cons_zero, List.set_cons_succ]
  refine wpAnyH_take (i := 3) (v := ?v24) (by simp only [List.getElem?_toArray, List.getElem?_cons_succ, List.getElem?_cons_zero] <;> rfl) (by kernel_rfl) (by kernel_rfl) (by kernel_rfl) (fun _ _ _ h => h) (Or.inl ⟨by rfl, ?y24⟩) hHeld ?r24
  case y24 => (intro w hSw; (try dsimp only at hSw); go_simp; first | done | with_reducible rfl | rfl)
  try simp only [Act.put, List.setIfInBounds_toArray, List.set_cons_zero, List.set_cons_succ]
  refine wpAnyH_take (i := 4) (v := ?v25) (by simp only [List.getElem?_toArray, List.getElem?_cons_succ, List.getElem?_cons_zero] <;> rfl) (by kernel_rfl) (by kernel_rfl) (by kernel_rfl) (fun _ _ _ h => h) (Or.inl ⟨by rfl, ?y25⟩) hHeld ?r25
  case y25 => (intro w hSw; (try dsimp only at hSw); go_simp; first | done | with_reducible rfl | rfl)
  try simp only [Act.put, List.setIfInBounds_toArray, List.set_cons_zero, List.set_cons_succ]
  refine wpAnyH_take (i := 5) (v := ?v26) (by simp only [List.getElem?_toArray, List.getElem?_cons_succ, List.getElem?_cons_zero] <;> rfl) (by kernel_rfl) (by kernel_rfl) (by kernel_rfl) (fun _ _ _ h => h) (Or.inl ⟨by rfl, ?y26⟩) hHeld ?r26
  case y26 => (intro w hSw; (try dsimp only at hSw); go_simp; first | done | with_reducible rfl | rfl)
  try simp only [Act.put, List.setIfInBounds_toArray, List.set_cons_zero, List.set_cons_succ]
  refine wpAnyH_take (i := 6) (v := ?v27) (by simp only [List.getElem?_toArray, List.getElem?_cons_succ, List.getElem?_cons_zero] <;> rfl) (by kernel_rfl) (by kernel_rfl) (by kernel_rfl) (fun _ _ _ h => h) (Or.inl ⟨by rfl, ?y27⟩) hHeld ?r27
  case y27 => (intro w hSw; (try dsimp only at hSw); go_simp; first | done | with_reducible rfl | rfl)
  try simp only [Act.put, List.setIfInBounds_toArray, List.set_cons_zero, List.set_cons_succ]
  refine wpAnyH_take (i := 7) (v := ?v28) (by simp only [List.getElem?_toArray, List.getElem?_cons_succ, List.getElem?_cons_zero] <;> rfl) (by kernel_rfl) (by kernel_rfl) (by kernel_rfl) (fun _ _ _ h => h) (Or.inl ⟨by rfl, ?y28⟩) hHeld ?r28
  case y28 => (intro w hSw; (try dsimp only at hSw); go_simp; first | done | with_reducible rfl | rfl)
  try simp only [Act.put, List.setIfInBounds_toArray, List.set_cons_zero, List.set_cons_succ]
  refine wpAnyH_ready (rs := [8]) (by kernel_rfl) (by simp) ?_
  refine AllReadyH.cons (by simp only [List.getElem?_toArray, List.getElem?_cons_succ, List.getElem?_cons_zero] <;> rfl) (fun K hK => ?_) ?_
  · rw [if_pos (by rfl)]; refine wp_store_row 71 _ _ rfl GR (entV a b c (.slice ao2 m cap2)) rfl rfl _ _ ZA.out (EI.out _) (EZ.out _) (EO.out _ _) ?_; obtain ⟨wv1, hwx⟩ : ∃ W' : World, W' = wA.drew.setRow GR (entV a b c (.slice ao2 m cap2)) := ⟨_, rfl⟩; have fR : Hid (wv1.heap[GR]? = some (.cells (entV a b c (.slice ao2 m cap2)) 71 (0, 0))) := (by show _ = _; rw [hwx]; exact setRow_heap _ _ _ _ _ _ ZA.out); have kB := HKA.out (wA.drew.setRow GR (entV a b c (.slice ao2 m cap2))) (row_setRowO FM.out hn2 _) ((World.cell?_of_block (row_setRowO (Array.getElem?_eq_getElem (show w.heap.size < wA.drew.heap.size from hlt)) hn1 _ |>.trans (Array.getElem?_eq_getElem hlt).symm)).trans (HK.out wA uA).2.2.2.2); have HIR := (IntsSl.upd HI.out (Upd.refl [] wA).drew).setRow hb.out (entV a b c (.slice ao2 m cap2)); have uR := ((HU0.out.trans uA).drew).setRowNew hgr (entV a b c (.slice ao2 m cap2)); rw [← hwx] at kB HIR uR ⊢; clear hwx
    refine hK.out _ _ ?_ (fun hHeld => ?_)
    · exact kB
    clear hK K
    try simp only [Act.put]
    refine wpAnyH_take (i := 9) (v := ?v29) (by simp only [List.getElem?_toArray, List.getElem?_cons_succ, List.getElem?_cons_zero] <;> rfl) (by kernel_rfl) (by kernel_rfl) (by kernel_rfl) (fun _ _ _ h => h) (Or.inl ⟨by rfl, ?y29⟩) hHeld ?r29
    case y29 => (intro w hSw; (try dsimp only at hSw); go_simp; first | done | with_reducible rfl | rfl)
    try simp only [Act.put, List.setIfInBounds_toArray, List.set_cons_zero, List.set_cons_succ]
    refine wpAnyH_done (by kernel_rfl) ?_ _
    refine NoPanic.normal ?_
    go_wp2_with fail
    obtain ⟨r0, r1, r2, r3, r4, r5⟩ := EntAt.cells (show EntAt wv1 GR a b c (.slice ao2 m cap2) from fR.out)
    have HQ2 := HQM.out
    subst HQ2
    refine bodyPost_ret (v := .tuple #[.agg (entV a b c (.slice ao2 q.length cap2)), .string S2]) (by simp [results, Tryz.results33, go_sem, r0, r1, r2, r3, r4, r5, entV]) rfl ⟨ao2, cap2, ?_, HIR, hc2, uR⟩
    rw [hS2']
  exact AllReadyH.nil
end Go.Proofs.YtmnmhhbldbdpfaaGreatDoor
