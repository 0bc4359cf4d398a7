/- The cursor of the reference of receipts: until. -/
import Derived.Test.YtmnmhhbldbdpfaaGreatDoorGK
import Derived.Test.YtmnmhhbldbdpfaaGreatDoorGE
namespace Go.Proofs.YtmnmhhbldbdpfaaGreatDoor
open Go.RowKit
set_option maxRecDepth 100000

/-- A cursor in a block. -/
def CuAt (w : World) (g : Nat) (s : ByteArray) (a : Nat) (bad : Bool) : Prop := w.heap[g]? = some (.cells #[.string s, .int .i64 (a : Int), .bool bad] 92 (0, 0))
theorem CuAt.upd {w w' : World} {g : Nat} {s : ByteArray} {a : Nat} {bad : Bool} (h : CuAt w g s a bad) (u : Upd [] [] w w') : CuAt w' g s a bad := row_updH h u
theorem CuAt.cells {w : World} {g : Nat} {s : ByteArray} {a : Nat} {bad : Bool} (h : CuAt w g s a bad) : w.cell? ⟨g, 0, none⟩ = some (.string s) ∧ w.cell? ⟨g, 1, none⟩ = some (.int .i64 (a : Int)) ∧ w.cell? ⟨g, 2, none⟩ = some (.bool bad) ∧ w.frozen? ⟨g, 1, none⟩ = false ∧ w.frozen? ⟨g, 2, none⟩ = false :=
  ⟨by rw [cell_of_row _ _ _ _ _ _ h]; rfl, by rw [cell_of_row _ _ _ _ _ _ h]; rfl, by rw [cell_of_row _ _ _ _ _ _ h]; rfl, frozen_of_row _ _ _ _ _ h, frozen_of_row _ _ _ _ _ h⟩
theorem CuAt.setA {w : World} {g : Nat} {s : ByteArray} {a : Nat} {bad : Bool} (h : CuAt w g s a bad) (b : Nat) (z : Int) (hz : z = (b : Int)) : CuAt (w.setCell ⟨g, 1, none⟩ (.int .i64 z)) g s b bad := by
  subst hz
  exact heap_setCell_same w g 1 _ _ (.int .i64 (b : Int)) h
theorem CuAt.setB {w : World} {g : Nat} {s : ByteArray} {a : Nat} {bad : Bool} (h : CuAt w g s a bad) (b : Bool) : CuAt (w.setCell ⟨g, 2, none⟩ (.bool b)) g s a b := heap_setCell_same w g 2 _ _ (.bool b) h
/-- What 'until' gives: what stands ahead of the byte; or nothing. -/
def cuRel (c : UInt8) (s : ByteArray) (a : Nat) (bad : Bool) (l : ByteArray) (a' : Nat) (bad' : Bool) : Prop :=
  (c ∉ (bs s).drop a ∧ bs l = [] ∧ a' = a ∧ bad' = true) ∨ ((bs s).drop a = bs l ++ c :: (bs s).drop a' ∧ c ∉ bs l ∧ bad' = bad)
def MkCu (c : UInt8) (g : Nat) (s : ByteArray) (a : Nat) (bad : Bool) (w : World) (e : Ending) (w' : World) : Prop :=
  ∃ (l : ByteArray) (a' : Nat) (bad' : Bool), Hid (cuRel c s a bad l a' bad') ∧ a ≤ a' ∧ a' ≤ s.size ∧ l.size ≤ s.size ∧ e = .returned (.string l) ∧ Hid (CuAt w' g s a' bad') ∧ Upd [g] [] w w'
theorem mem_take_step {c : UInt8} {s : ByteArray} {a j : Nat} (ha : a ≤ j) (hj : j < s.size) (h : c ∉ ((bs s).drop a).take (j - a)) (hc : s[j] ≠ c) : c ∉ ((bs s).drop a).take (j + 1 - a) := by
  rw [drop_take_step s a j ha hj, List.mem_append]
  rintro (h1 | h1)
  · exact h h1
  · simp at h1
    exact hc h1.symm

set_option maxHeartbeats 1000000 in
theorem cuUntil_any (g : Nat) (s : ByteArray) (a : Nat) (bad : Bool) (c : UInt8) (w : World) (hc : CuAt w g s a bad) (ha : a ≤ s.size) (hs : s.size ≤ 4000000000) :
    Calls Tryz.prog 50 #[.pointer (some ⟨g, 0, none⟩), .int .u8 (c.toNat : Int)] w (MkCu c g s a bad w) := by
  obtain ⟨k0, k1, k2, f1, f2⟩ := hc.cells
  have HC := Lib.hid hc
  clear hc
  go_enter Tryz.func50, Tryz.ntmps50
  go_wp2_with fail
  go_loopw [5, 6] (fun k _ wr => ∃ j : Nat, k = .int .i64 (j : Int) ∧ a ≤ j ∧ j ≤ s.size ∧ Hid (c ∉ ((bs s).drop a).take (j - a)) ∧ wr = w) (fun k _ _ => s.size - (intOf k).toNat)
  case atStart => exact ⟨a, rfl, Nat.le_refl _, ha, by show ¬ _; simp, rfl⟩
  case round =>
    obtain ⟨j, rfl, haj, hjs, HN, hwr⟩ := hrel
    subst hwr
    by_cases hlt : j < s.size
    · have hlt' : (j : Int) < (s.size : Int) := by omega
      have i0 : (0 : Int) ≤ (j : Int) := by omega
      by_cases hcj : s[j] = c
      · have hb : ((s[j].toNat : Int) == (c.toNat : Int)) = true := by rw [beq_iff_eq, hcj]
        obtain ⟨l, hl⟩ : ∃ l : ByteArray, l = s.extract a j := ⟨_, rfl⟩
        have hbl : bs l = ((bs s).drop a).take (j - a) := by rw [hl, bs_extract]
        have hR : cuRel c s a bad l (j + 1) bad := by
          right
          refine ⟨?_, by rw [hbl]; exact HN.out, rfl⟩
          have h1 : (bs s).drop a = ((bs s).drop a).take (j - a) ++ ((bs s).drop a).drop (j - a) := (List.take_append_drop _ _).symm
          rw [List.drop_drop, show a + (j - a) = j by omega] at h1
          have h2 : j < (bs s).length := hlt
          rw [List.drop_eq_getElem_cons h2] at h1
          rw [h1, hbl]
          congr 2
        have HR := Lib.hid hR
        have hls : l.size ≤ s.size := by rw [hl, ByteArray.size_extract]; omega
        have a0 : (0 : Int) ≤ (a : Int) := by omega
        have a1 : (a : Int) ≤ (j : Int) := by omega
        have hl' := hl.symm
        have wj : IntKind.i64.wrap ((j : Int) + 1) = (j : Int) + 1 := IntWalk.i64_in _ (by omega)
        have HC2 := Lib.hid ((HC.out.setA (j + 1) ((j : Int) + 1) (by omega)).upd (Upd.refl _ _).drew)
        have ka : wr.drew.cell? ⟨g, 0, none⟩ = some (.string s) ∧ wr.drew.cell? ⟨g, 1, none⟩ = some (.int .i64 (a : Int)) := ⟨k0, k1⟩
        clear hR hbl hcj hl
        go_wp2_with fail
        go_region_held3 (fun wp => wp.cell? ⟨g, 0, none⟩ = some (.string s) ∧ wp.cell? ⟨g, 1, none⟩ = some (.int .i64 (a : Int))) (first | with_reducible exact ka | with_reducible assumption) (fail)
        go_wp2_with fail
        go_ret
        exact ⟨l, j + 1, bad, HR, by omega, by omega, hls, rfl, HC2, (((Upd.refl [] wr).wide.setOld 1 _).drew)⟩
      · have hb : ((s[j].toNat : Int) == (c.toNat : Int)) = false := by
          rw [beq_eq_false_iff_ne]
          intro e
          exact hcj (UInt8.toNat_inj.1 (by omega))
        have HN2 := Lib.hid (mem_take_step haj hlt HN.out hcj)
        clear hcj
        go_wp2_with fail
        exact ⟨⟨j + 1, by go_num, by omega, by omega, HN2, by first | rfl | trivial⟩, by simp [intOf]; omega⟩
    · have hjj : j = s.size := by omega
      have hn : c ∉ (bs s).drop a := by
        have := HN.out
        rw [List.take_of_length_le (by rw [List.length_drop, bs_length]; omega)] at this
        exact this
      have HR : Hid (cuRel c s a bad ByteArray.empty a true) := .inl ⟨hn, rfl, rfl, rfl⟩
      have HC2 := Lib.hid (HC.out.setB true)
      clear hn
      go_wp2_with fail
      go_ret
      exact ⟨_, a, true, HR, Nat.le_refl _, ha, Nat.zero_le _, rfl, HC2, (Upd.refl [] wr).wide.setOld 2 _⟩
end Go.Proofs.YtmnmhhbldbdpfaaGreatDoor
