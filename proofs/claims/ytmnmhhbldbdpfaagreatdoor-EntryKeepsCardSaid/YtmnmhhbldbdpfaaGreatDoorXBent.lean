/- sortesref01.Mod, sortesref22.Bent. -/
import Derived.Test.YtmnmhhbldbdpfaaGreatDoorXLawP1
namespace Go.Proofs.YtmnmhhbldbdpfaaGreatDoor
open Go.RowKit
set_option maxRecDepth 100000

theorem mod_any (a m : Int) (w : World) (hm : 0 < m ∧ m ≤ 4611686018427387904) :
    Calls Tryz.prog 15 #[.int .i64 a, .int .i64 m] w (fun e w' => ∃ r : Nat, Hid ((r : Int) = a % m) ∧ (r : Int) < m ∧ e = .returned (.int .i64 (r : Int)) ∧ w' = w) := by
  have e1 := Int.tmod_eq_emod (a := a) (b := m)
  have e3 := Int.emod_nonneg a (show m ≠ 0 by omega)
  have e4 := Int.emod_lt_of_pos a (show 0 < m by omega)
  obtain ⟨z, hz⟩ : ∃ z, z = a.tmod m := ⟨_, rfl⟩
  have hz1 : -m < z ∧ z < m ∧ (z = a % m ∨ z = a % m - m) := by
    rw [hz]
    split at e1
    · rw [e1]; omega
    · rw [e1]; omega
  have w1 : IntKind.i64.wrap (z + m) = z + m := IntWalk.i64_in _ (by omega)
  obtain ⟨r, hr⟩ : ∃ r : Nat, (r : Int) = a % m := ⟨(a % m).toNat, by omega⟩
  have w2 : (z + m).tmod m = (r : Int) := by
    rw [Int.tmod_eq_emod_of_nonneg (by omega), hr]
    rcases hz1.2.2 with h | h
    · rw [h, Int.add_emod_right, Int.emod_emod]
    · rw [h, show a % m - m + m = a % m by omega, Int.emod_emod]
  have HR := Lib.hid hr
  have hrm : (r : Int) < m := by omega
  have hm0 : ¬ m = 0 := by omega
  have hz' := hz.symm
  clear e1 e3 e4 hr hz1 hz
  go_enter Tryz.func15, Tryz.ntmps15
  go_wp2_with fail
  go_ret
  exact ⟨r, HR, hrm, rfl, rfl⟩

/-- A bit flipped. -/
def flip (l : List UInt8) (j : Nat) : List UInt8 := l.set j (l.getD j 0 ^^^ 1)
theorem flip_len (l : List UInt8) (j : Nat) : (flip l j).length = l.length := by simp [flip]
theorem xor_one : ∀ n : Nat, n < 256 → Go.bits .xor .u8 (n : Int) 1 = (((UInt8.ofNat n) ^^^ 1).toNat : Int) := by decide +kernel
theorem xor_byte (b : UInt8) : Go.bits .xor .u8 (b.toNat : Int) 1 = ((b ^^^ 1).toNat : Int) := by
  rw [xor_one _ b.toNat_lt, UInt8.ofNat_toNat]
/-- A receipt in which one thing was changed. -/
def bentC (x : Rc) (c n : Int) : Rc :=
  if c = 0 then { x with kiosk := wrap64 (x.kiosk + n) } else if c = 1 then { x with serial := wrap64 (x.serial + n) } else if c = 2 then { x with draw := x.draw ++ ⟨#[120]⟩ } else if c = 3 then { x with seen := wrap64 (x.seen + n) }
  else if c = 4 then { x with out := flip x.out (n % 32).toNat } else if c = 5 then { x with hash := flip x.hash (n % 32).toNat } else if c = 6 then { x with prev := flip x.prev (n % 32).toNat }
  else if c = 7 then { x with r := wrap64 (x.r + n) } else { x with s := wrap64 (x.s + n) }
def bentR (x : Rc) (a n : Int) : Rc := bentC x (a % 9) n
theorem bentC_ok {x : Rc} (h : x.ok) (c n : Int) : (bentC x c n).ok := by
  obtain ⟨h1, h2, h3, h4, h5, h6, h7, h8⟩ := h
  unfold bentC
  repeat' split
  all_goals first
    | exact ⟨wrap_bounds _, h2, h3, h4, h5, h6, h7, h8⟩
    | exact ⟨h1, wrap_bounds _, h3, h4, h5, h6, h7, h8⟩
    | exact ⟨h1, h2, wrap_bounds _, h4, h5, h6, h7, h8⟩
    | exact ⟨h1, h2, h3, by rw [flip_len]; exact h4, h5, h6, h7, h8⟩
    | exact ⟨h1, h2, h3, h4, by rw [flip_len]; exact h5, h6, h7, h8⟩
    | exact ⟨h1, h2, h3, h4, h5, by rw [flip_len]; exact h6, h7, h8⟩
    | exact ⟨h1, h2, h3, h4, h5, h6, wrap_bounds _, h8⟩
    | exact ⟨h1, h2, h3, h4, h5, h6, h7, wrap_bounds _⟩
    | exact ⟨h1, h2, h3, h4, h5, h6, h7, h8⟩
theorem bentC_draw (x : Rc) (c n : Int) : (bentC x c n).draw.size ≤ x.draw.size + 1 := by
  unfold bentC
  repeat' split
  all_goals first
    | (show (x.draw ++ _).size ≤ _; rw [ByteArray.size_append]; exact Nat.le_refl _)
    | exact Nat.le_succ _
theorem two_box (w : World) (T : TypeId) (V : Array Value) : (w.alloc (.cells V T)).heap[w.heap.size]? = some (.cells V T (0, 0)) := heap_alloc_new _ _
/-- A cell of a receipt's block set. -/
theorem hashCell {w : World} {g : Nat} (o : Nat) (l : List UInt8) (hl : w.rangeAt g o (byteVals l)) {j : Nat} (hj : j < l.length) : w.cell? ⟨g, o + j, none⟩ = some (.int .u8 ((l.getD j 0).toNat : Int)) := by
  have := hl j (byteV (l.getD j 0)) (by
    unfold byteVals
    rw [List.getElem?_map, List.getElem?_eq_getElem hj, List.getD_eq_getElem?_getD, List.getElem?_eq_getElem hj]
    rfl)
  exact this
theorem set_mid (A B C : List Value) (o j : Nat) (v : Value) (hA : A.length = o) (hj : j < B.length) : (A ++ (B ++ C)).set (o + j) v = A ++ (B.set j v ++ C) := by
  rw [List.set_append_right _ _ (by omega), hA, Nat.add_sub_cancel_left, List.set_append_left _ _ hj]
theorem byteVals_set (l : List UInt8) (j : Nat) (b : UInt8) : (byteVals l).set j (.int .u8 (b.toNat : Int)) = byteVals (l.set j b) := by
  simp [byteVals, List.map_set, byteV]
theorem RcAt.flips {w : World} {g : Nat} {x : Rc} (h : RcAt w g x) (hx : x.ok) {j : Nat} (hj : j < 32) :
    RcAt (w.setCell ⟨g, 4 + j, none⟩ (.int .u8 ((x.out.getD j 0 ^^^ 1).toNat : Int))) g { x with out := flip x.out j } ∧ RcAt (w.setCell ⟨g, 36 + j, none⟩ (.int .u8 ((x.hash.getD j 0 ^^^ 1).toNat : Int))) g { x with hash := flip x.hash j } ∧ RcAt (w.setCell ⟨g, 68 + j, none⟩ (.int .u8 ((x.prev.getD j 0 ^^^ 1).toNat : Int))) g { x with prev := flip x.prev j } := by
  obtain ⟨_, _, _, h1, h2, h3, _⟩ := hx
  have l1 : (byteVals x.out).length = 32 := by rw [byteVals_length, h1]
  have l2 : (byteVals x.hash).length = 32 := by rw [byteVals_length, h2]
  have l3 : (byteVals x.prev).length = 32 := by rw [byteVals_length, h3]
  refine ⟨?_, ?_, ?_⟩
  · have hs := heap_setCell_same w g (4 + j) _ _ (.int .u8 ((x.out.getD j 0 ^^^ 1).toNat : Int)) h
    unfold RcAt
    rw [hs, List.setIfInBounds_toArray]
    congr 3
    have := set_mid [.int .i64 x.kiosk, .int .i64 x.serial, .string x.draw, .int .i64 x.seen] (byteVals x.out) (byteVals x.hash ++ (byteVals x.prev ++ [.int .i64 x.r, .int .i64 x.s])) 4 j (.int .u8 ((x.out.getD j 0 ^^^ 1).toNat : Int)) rfl (by omega)
    rw [byteVals_set] at this
    exact this
  · have hs := heap_setCell_same w g (36 + j) _ _ (.int .u8 ((x.hash.getD j 0 ^^^ 1).toNat : Int)) h
    have e : ∀ z, rcV { x with hash := z } = ([.int .i64 x.kiosk, .int .i64 x.serial, .string x.draw, .int .i64 x.seen] ++ byteVals x.out) ++ (byteVals z ++ (byteVals x.prev ++ [.int .i64 x.r, .int .i64 x.s])) := by intro z; simp [rcV]
    have e0 := e x.hash
    rw [show ({ x with hash := x.hash } : Rc) = x from rfl] at e0
    unfold RcAt
    rw [hs, List.setIfInBounds_toArray, e0, e, set_mid _ _ _ 36 j _ (by simp [l1]) (by omega), byteVals_set]
    rfl
  · have hs := heap_setCell_same w g (68 + j) _ _ (.int .u8 ((x.prev.getD j 0 ^^^ 1).toNat : Int)) h
    have e : ∀ z, rcV { x with prev := z } = ([.int .i64 x.kiosk, .int .i64 x.serial, .string x.draw, .int .i64 x.seen] ++ byteVals x.out ++ byteVals x.hash) ++ (byteVals z ++ [.int .i64 x.r, .int .i64 x.s]) := by intro z; simp [rcV]
    have e0 := e x.prev
    rw [show ({ x with prev := x.prev } : Rc) = x from rfl] at e0
    unfold RcAt
    rw [hs, List.setIfInBounds_toArray, e0, e, set_mid _ _ _ 68 j _ (by simp [l1, l2]) (by omega), byteVals_set]
    rfl
end Go.Proofs.YtmnmhhbldbdpfaaGreatDoor
