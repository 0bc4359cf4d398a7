/- The texts of entrants: rules.text, inRange, rightEntrant, PrintEntrant. -/
import Derived.Test.YtmnmhhbldbdpfaaGreatDoorXSealP
import Derived.Test.YtmnmhhbldbdpfaaGreatDoorGC

namespace Go.Proofs.YtmnmhhbldbdpfaaGreatDoor
open Go.RowKit
set_option maxRecDepth 100000

/-- Ints in a slice. -/
def IntsSl (w : World) (ao : Option Addr) (l : List Int) : Prop := ∀ k x, l[k]? = some x → i64in x ∧ ∃ g o, ao = some ⟨g, o, none⟩ ∧ g < w.heap.size ∧ w.cell? ⟨g, o + k, none⟩ = some (.int .i64 x)
theorem IntsSl.upd {w w' : World} {ao : Option Addr} {l : List Int} (h : IntsSl w ao l) (u : Upd [] [] w w') : IntsSl w' ao l := by
  intro k x hk
  obtain ⟨h1, g, o, h2, h3, h4⟩ := h k x hk
  exact ⟨h1, g, o, h2, Nat.lt_of_lt_of_le h3 u.size, by rw [u.cell (p := ⟨g, o + k, none⟩) h3 (by simp)]; exact h4⟩
theorem IntsSl.mem {w : World} {ao : Option Addr} {l : List Int} (h : IntsSl w ao l) : ∀ x ∈ l, i64in x := by
  intro x hx
  obtain ⟨k, hk⟩ := List.mem_iff_getElem?.1 hx
  exact (h k x hk).1
theorem intsSl_new {w : World} {g : Nat} {T : TypeId} {l : List Int} (h : w.heap[g]? = some (.cells (l.map (Value.int .i64)).toArray T (0, 0))) (hl : ∀ x ∈ l, i64in x) : IntsSl w (some ⟨g, 0, none⟩) l := by
  intro k x hk
  refine ⟨hl x (List.mem_of_getElem? hk), g, 0, rfl, (Array.getElem?_eq_some_iff.1 h).1, ?_⟩
  rw [Nat.zero_add, cell_of_row _ _ _ _ _ _ h, List.getElem?_toArray, List.getElem?_map, hk]
  rfl
theorem intsSl_nil (w : World) (ao : Option Addr) : IntsSl w ao [] := fun k x h => by simp at h

theorem numsT_take {l : List Int} {j : Nat} {x : Int} (h : l[j]? = some x) : numsT (l.take (j + 1)) = numsT (l.take j) ++ 32 :: Lib.itoa x := by
  rw [List.take_add_one, h]
  show numsT (l.take j ++ [x]) = _
  rw [numsT_app]
  simp [numsT]

set_option maxHeartbeats 1000000 in
theorem text13_any (wd : ByteArray) (l : List Int) (ao : Option Addr) (cap : Nat) (w : World) (hw : wd.size ≤ 100000) (hl : l.length ≤ 1000) (h : IntsSl w ao l) (htab : Tabs w) :
    Calls Tryz.prog 102 #[.string wd, .slice ao l.length cap] w (MkS (bs wd ++ numsT l) w) := by
  obtain ⟨n, hn⟩ : ∃ n, n = l.length := ⟨_, rfl⟩
  rw [← hn]
  have HN := Lib.hid hn
  have H := Lib.hid h
  have hn1 : n ≤ 1000 := by omega
  have hlen : ∀ j, (numsT (l.take j)).length ≤ 21 * n := fun j => Nat.le_trans (numsT_len _ (fun x hx => h.mem x (List.mem_of_mem_take hx))) (by rw [List.length_take]; omega)
  have HLN := Lib.hid hlen
  have HWD : Hid (wd.size ≤ 100000) := hw
  obtain ⟨W0, hW0⟩ : ∃ W0, W0 = bs wd := ⟨_, rfl⟩
  have HW0 : Hid (bs wd = W0 ++ numsT (l.take 0)) := by show _ = _; rw [hW0, List.take_zero, numsT, List.append_nil]
  have HWL : Hid (W0.length ≤ 100000) := by show _ ≤ _; rw [hW0, bs_length]; exact hw
  rw [← hW0]
  clear hn h hlen hW0 hl hw
  go_enter Tryz.func102, Tryz.ntmps102
  go_wp2_with fail
  go_loopw [0, 6, 9] (fun c _ i wr => ∃ (j : Nat) (y : ByteArray), i = .int .i64 (j : Int) ∧ j ≤ n ∧ c = .string y ∧ Hid (bs y = W0 ++ numsT (l.take j)) ∧ Hid (Upd [] [] w wr)) (fun _ _ i _ => n - (intOf i).toNat)
  case atStart => exact ⟨0, wd, rfl, Nat.zero_le _, rfl, HW0, Upd.refl _ _⟩
  case round =>
    obtain ⟨j, y, rfl, hj, rfl, HY, HU⟩ := hrel
    by_cases hlt : j < n
    · obtain ⟨x, hx⟩ : ∃ x, l[j]? = some x := ⟨_, List.getElem?_eq_getElem (by rw [← HN.out]; exact hlt)⟩
      obtain ⟨hxi, g, o, rfl, hg, hc⟩ := (H.out.upd HU.out) j x hx
      have i0 : (0 : Int) ≤ (j : Int) := by omega
      have i1 : (j : Int) < (n : Int) := by omega
      have HX := Lib.hid hx
      have hys : y.size ≤ 121000 := by
        have h1 := congrArg List.length HY.out
        have h2 := HLN.out j
        have h3 := HWL.out
        rw [bs_length, List.length_append] at h1
        omega
      clear hx
      go_wp2_with fail
      refine (itoa_any x wr hxi (htab.upd HU.out)).mono ?_
      rintro e w1 ⟨z, HZ, hz, rfl, hq⟩
      have HU1 := Lib.hid (HU.out.trans hq)
      have hzs : z.size ≤ 20 := Nat.le_trans hz (itoa_len _ hxi)
      have s1 : ¬ 9223372036854775807 < 1 + z.size := by omega
      have s2 : ¬ 9223372036854775807 < y.size + (1 + z.size) := by omega
      obtain ⟨Y, hY⟩ : ∃ Y, Y = y ++ (ByteArray.mk #[32] ++ z) := ⟨_, rfl⟩
      have HYY : Hid (bs Y = W0 ++ numsT (l.take (j + 1))) := by
        show _ = _
        rw [hY, bs_append, bs_append, HY.out, HZ.out, numsT_take HX.out]
        simp [bs]
      have hY' := hY.symm
      clear hY hq hz
      go_wp2_with fail
      exact ⟨⟨j + 1, Y, by go_num, by omega, by first | rfl | (rw [hY']), HYY, HU1⟩, by simp [intOf]; omega⟩
    · obtain rfl : j = n := by omega
      have HYY : Hid (bs y = W0 ++ numsT l) := by
        have h := HY.out
        rw [List.take_of_length_le (by rw [← HN.out]; exact Nat.le_refl _)] at h
        exact h
      clear hlt hj
      go_wp2_with fail
      go_ret
      exact ⟨y, HYY, by rw [← HYY.out, bs_length]; exact Nat.le_refl _, rfl, HU.out⟩

set_option maxHeartbeats 1000000 in
theorem inRange_any (l : List Int) (ao : Option Addr) (cap : Nat) (w : World) (hl : l.length ≤ 100000) (h : IntsSl w ao l) :
    Calls Tryz.prog 132 #[.slice ao l.length cap] w (RetB (l.all smallB) w) := by
  obtain ⟨n, hn⟩ : ∃ n, n = l.length := ⟨_, rfl⟩
  rw [← hn]
  have HN := Lib.hid hn
  have H := Lib.hid h
  have hn1 : n ≤ 100000 := by omega
  clear hn h hl
  go_enter Tryz.func132, Tryz.ntmps132
  go_wp2_with fail
  go_loopw [4, 7] (fun _ i wr => ∃ (j : Nat), i = .int .i64 (j : Int) ∧ j ≤ n ∧ Hid ((l.take j).all smallB = true) ∧ wr = w) (fun _ i _ => n - (intOf i).toNat)
  case atStart => exact ⟨0, rfl, Nat.zero_le _, rfl, rfl⟩
  case round =>
    obtain ⟨j, rfl, hj, HT, hwr⟩ := hrel
    subst hwr
    by_cases hlt : j < n
    · obtain ⟨x, hx⟩ : ∃ x, l[j]? = some x := ⟨_, List.getElem?_eq_getElem (by rw [← HN.out]; exact hlt)⟩
      obtain ⟨hxi, g, o, rfl, hg, hc⟩ := H.out j x hx
      have i0 : (0 : Int) ≤ (j : Int) := by omega
      have i1 : (j : Int) < (n : Int) := by omega
      have hTN : (l.take (j + 1)).all smallB = smallB x := by
        rw [List.take_add_one, hx, List.all_append, HT.out]
        simp
      have HTN := Lib.hid hTN
      have HF : Hid (smallB x = false → l.all smallB = false) := by
        intro hf
        rw [List.all_eq_false]
        exact ⟨x, List.mem_of_getElem? hx, by rw [hf]; decide⟩
      clear hx hTN
      by_cases h0 : x < 0
      · have HB : Hid (false = l.all smallB) := (HF.out (by unfold smallB; rw [decide_eq_false (by omega)]; rfl)).symm
        go_wp2_with fail
        go_ret
        exact ⟨false, HB, rfl, by first | rfl | trivial⟩
      · by_cases h1 : 1000000000 < x
        · have HB : Hid (false = l.all smallB) := (HF.out (by unfold smallB; rw [decide_eq_false (show ¬ x ≤ 1000000000 by omega), Bool.and_false])).symm
          go_wp2_with fail
          go_ret
          exact ⟨false, HB, rfl, by first | rfl | trivial⟩
        · have HT2 : Hid ((l.take (j + 1)).all smallB = true) := by
            show _ = _
            rw [HTN.out, smallB_iff]
            omega
          go_wp2_with fail
          exact ⟨⟨j + 1, by go_num, by omega, HT2, by first | rfl | trivial⟩, by simp [intOf]; omega⟩
    · obtain rfl : j = n := by omega
      have HB : Hid (true = l.all smallB) := by
        have h := HT.out
        rw [List.take_of_length_le (by rw [← HN.out]; exact Nat.le_refl _)] at h
        exact h.symm
      clear hlt hj
      go_wp2_with fail
      go_ret
      exact ⟨true, HB, rfl, by first | rfl | trivial⟩
end Go.Proofs.YtmnmhhbldbdpfaaGreatDoor
