/- Votes: sign.Vote, sortesref05.Vote; members and votes appended. -/
import Derived.Test.YtkhodajdionaaaaGreatDoorWgtA
import Derived.Test.YtkhodajdionaaaaGreatDoorRSgnB
import Derived.Test.YtkhodajdionaaaaGreatDoorRDecA
namespace Go.Proofs.YtkhodajdionaaaaGreatDoor
open Go.RowKit Go.Maps
set_option maxRecDepth 100000

/-- What a vote is. -/
def MkVote (who x : Int) (t : ByteArray) (w : World) (e : Ending) (w' : World) : Prop :=
  ∃ r s : Nat, Hid (r = gP (nonceN (expN x) (bs t)) ∧ s = sWith (expN x) (nonceN (expN x) (bs t)) (bs t)) ∧ r < 2305843009213691579 ∧ s < 1152921504606845789 ∧ e = .returned (.agg #[.int .i64 who, .string t, .int .i64 (r : Int), .int .i64 (s : Int)]) ∧ Upd [] [] w w'

theorem vote_any (who x : Int) (t : ByteArray) (w : World) (hx : -9223372036854775808 ≤ x ∧ x ≤ 9223372036854775807) (ht : t.size ≤ 140737488355000) (htab : Tabs w) :
    Calls Tryz.prog 28 #[.int .i64 who, .int .i64 x, .string t] w (MkVote who x t w) := by
  have rz := heap_alloc_new w (.cells #[.int .i64 0, .string ByteArray.empty, .int .i64 0, .int .i64 0] 54)
  have uz := (Upd.refl [] w).alloc (.cells #[.int .i64 0, .string ByteArray.empty, .int .i64 0, .int .i64 0] 54)
  have HT := Lib.hid (htab.upd uz)
  go_enter Tryz.func28, Tryz.ntmps28
  go_wp2_with fail
  refine (sign_any x t _ hx ht HT.out).mono ?_
  rintro e w1 ⟨r, s, HR, HS, hr, hs, rfl, hu⟩
  have rz1 := row_updW rz hu
  have f0 : w1.frozen? ⟨w.heap.size, 0, none⟩ = false := frozen_of_row _ _ _ _ _ rz1
  have f1 : w1.frozen? ⟨w.heap.size, 1, none⟩ = false := frozen_of_row _ _ _ _ _ rz1
  have f2 : w1.frozen? ⟨w.heap.size, 2, none⟩ = false := frozen_of_row _ _ _ _ _ rz1
  have f3 : w1.frozen? ⟨w.heap.size, 3, none⟩ = false := frozen_of_row _ _ _ _ _ rz1
  have k0 : w1.cell? ⟨w.heap.size, 0, none⟩ = some (.int .i64 0) := by rw [cell_of_row _ _ _ _ _ _ rz1]; rfl
  have k1 : w1.cell? ⟨w.heap.size, 1, none⟩ = some (.string ByteArray.empty) := by rw [cell_of_row _ _ _ _ _ _ rz1]; rfl
  have k2 : w1.cell? ⟨w.heap.size, 2, none⟩ = some (.int .i64 0) := by rw [cell_of_row _ _ _ _ _ _ rz1]; rfl
  have k3 : w1.cell? ⟨w.heap.size, 3, none⟩ = some (.int .i64 0) := by rw [cell_of_row _ _ _ _ _ _ rz1]; rfl
  clear rz rz1
  go_wp2_with fail
  refine bodyPost_ret (v := .agg #[.int .i64 who, .string t, .int .i64 (r : Int), .int .i64 (s : Int)]) (by simp [results, Tryz.results28, go_sem, k0, k1, k2, k3]) rfl ⟨r, s, ⟨HR.out, HS.out⟩, hr, hs, rfl, ?_⟩
  exact (((((uz.trans hu).setNew (p := ⟨_, _, none⟩) (Nat.le_refl _) _).setNew (p := ⟨_, _, none⟩) (Nat.le_refl _) _).setNew (p := ⟨_, _, none⟩) (Nat.le_refl _) _).setNew (p := ⟨_, _, none⟩) (Nat.le_refl _) _)
theorem rvote_any (who x : Int) (t : ByteArray) (w : World) (hx : -9223372036854775808 ≤ x ∧ x ≤ 9223372036854775807) (ht : t.size ≤ 140737488355000) :
    Calls Tryz.prog 60 #[.int .i64 who, .int .i64 x, .string t] w (MkVote who x t w) := by
  have rz := heap_alloc_new w (.cells #[.int .i64 0, .string ByteArray.empty, .int .i64 0, .int .i64 0] 54)
  have uz := (Upd.refl [] w).alloc (.cells #[.int .i64 0, .string ByteArray.empty, .int .i64 0, .int .i64 0] 54)
  go_enter Tryz.func60, Tryz.ntmps60
  go_wp2_with fail
  refine (rsign_any x t _ hx ht).mono ?_
  rintro e w1 ⟨r, s, HR, HS, hr, hs, rfl, hu⟩
  have rz1 := row_updW rz hu
  have f0 : w1.frozen? ⟨w.heap.size, 0, none⟩ = false := frozen_of_row _ _ _ _ _ rz1
  have f1 : w1.frozen? ⟨w.heap.size, 1, none⟩ = false := frozen_of_row _ _ _ _ _ rz1
  have f2 : w1.frozen? ⟨w.heap.size, 2, none⟩ = false := frozen_of_row _ _ _ _ _ rz1
  have f3 : w1.frozen? ⟨w.heap.size, 3, none⟩ = false := frozen_of_row _ _ _ _ _ rz1
  have k0 : w1.cell? ⟨w.heap.size, 0, none⟩ = some (.int .i64 0) := by rw [cell_of_row _ _ _ _ _ _ rz1]; rfl
  have k1 : w1.cell? ⟨w.heap.size, 1, none⟩ = some (.string ByteArray.empty) := by rw [cell_of_row _ _ _ _ _ _ rz1]; rfl
  have k2 : w1.cell? ⟨w.heap.size, 2, none⟩ = some (.int .i64 0) := by rw [cell_of_row _ _ _ _ _ _ rz1]; rfl
  have k3 : w1.cell? ⟨w.heap.size, 3, none⟩ = some (.int .i64 0) := by rw [cell_of_row _ _ _ _ _ _ rz1]; rfl
  clear rz rz1
  go_wp2_with fail
  refine bodyPost_ret (v := .agg #[.int .i64 who, .string t, .int .i64 (r : Int), .int .i64 (s : Int)]) (by simp [results, Tryz.results60, go_sem, k0, k1, k2, k3]) rfl ⟨r, s, ⟨HR.out, HS.out⟩, hr, hs, rfl, ?_⟩
  exact (((((uz.trans hu).setNew (p := ⟨_, _, none⟩) (Nat.le_refl _) _).setNew (p := ⟨_, _, none⟩) (Nat.le_refl _) _).setNew (p := ⟨_, _, none⟩) (Nat.le_refl _) _).setNew (p := ⟨_, _, none⟩) (Nat.le_refl _) _)

theorem memI : ∃ i, Tryz.prog.info? 81 = some i ∧ i.zero = some (.agg #[.int .i64 0, .int .i64 0, .int .i64 0]) ∧ i.size = 3 ∧ i.bytes = 24 := by
  have h : (Tryz.prog.info? 81).map (fun i => (i.zero, i.size, i.bytes)) = some (some (.agg #[.int .i64 0, .int .i64 0, .int .i64 0]), 3, 24) := by kernel_rfl
  obtain ⟨i, hi, he⟩ := Option.map_eq_some_iff.1 h
  simp only [Prod.mk.injEq] at he
  exact ⟨i, hi, he.1, he.2.1, he.2.2⟩
theorem votI : ∃ i, Tryz.prog.info? 54 = some i ∧ i.zero = some (.agg #[.int .i64 0, .string ByteArray.empty, .int .i64 0, .int .i64 0]) ∧ i.size = 4 ∧ i.bytes = 40 := by
  have h : (Tryz.prog.info? 54).map (fun i => (i.zero, i.size, i.bytes)) = some (some (.agg #[.int .i64 0, .string ByteArray.empty, .int .i64 0, .int .i64 0]), 4, 40) := by kernel_rfl
  obtain ⟨i, hi, he⟩ := Option.map_eq_some_iff.1 h
  simp only [Prod.mk.injEq] at he
  exact ⟨i, hi, he.1, he.2.1, he.2.2⟩
theorem intI : ∃ i, Tryz.prog.info? 3 = some i ∧ i.zero = some (.int .i64 0) ∧ i.size = 1 ∧ i.bytes = 8 := by
  have h : (Tryz.prog.info? 3).map (fun i => (i.zero, i.size, i.bytes)) = some (some (.int .i64 0), 1, 8) := by kernel_rfl
  obtain ⟨i, hi, he⟩ := Option.map_eq_some_iff.1 h
  simp only [Prod.mk.injEq] at he
  exact ⟨i, hi, he.1, he.2.1, he.2.2⟩
/-- append(v, x), ints. -/
theorem append_one (wr : World) (v : Value) (k : Nat) (xs : List Value) (x : Int) (hown : wr.ownsRow 0 3 1 v k xs) (hk : k < 1099511627776) :
    ∃ v' w', (Builtin.append_ #[38, 38] 38 #[v, .slice (some ⟨wr.heap.size, 0, none⟩) 1 1]).run Tryz.prog (wr.alloc (.cells #[.int .i64 x] 3)) = .ok v' w' ∧ w'.ownsRow 0 3 1 v' (k + 1) (xs ++ [.int .i64 x]) ∧ Upd (foot v) (foot v') wr w' := by
  have hrow : (wr.alloc (.cells #[.int .i64 x] 3)).ownsRow 0 3 1 v k xs := row_same hown (fun j hj => Below.heap_alloc _ _ _ (row_foot_lt hown j hj))
  have hw1 : (wr.alloc (.cells #[.int .i64 x] 3)).heap[wr.heap.size]? = some (.cells #[.int .i64 x] 3 (0, 0)) := heap_alloc_new _ _
  obtain ⟨iu, u1, u2, u3', u4⟩ := intI
  obtain ⟨v', w', hrun, hown', hup'⟩ := append_block (P := Tryz.prog) (wr.alloc (.cells #[.int .i64 x] 3)) 38 38 3 iu (.int .i64 0) 1 8 Tryz.underlying38 u1 u2 u3' u4 rfl (by omega) v k _ hrow ⟨wr.heap.size, 0, none⟩ 1 1 [.int .i64 x] rfl (by
    intro j u hj
    have : j = 0 := by
      cases j with
      | zero => rfl
      | succ j => simp at hj
    subst this
    simp only [List.getElem?_cons_zero, Option.some.injEq] at hj
    subst hj
    have e : (⟨wr.heap.size, 0, none⟩ : Addr).add 0 = ⟨wr.heap.size, 0, none⟩ := by simp [Addr.add]
    rw [e, cell_of_row _ _ _ _ _ _ hw1]
    rfl) (by intro u hu; simp at hu; subst hu; rfl) (by omega) (by simp only [maxLen]; omega)
  exact ⟨v', w', hrun, hown', ((Upd.refl _ _).alloc _).trans hup'⟩
/-- The cells of members, of votes. -/
def memVals (l : List Mem) : List Value := l.flatMap fun m => [.int .i64 m.id, .int .i64 m.weight, .int .i64 m.pub]
def voteVals (l : List VtV) : List Value := l.flatMap fun v => [.int .i64 v.who, .string v.text, .int .i64 v.r, .int .i64 v.s]
theorem memVals_snoc (l : List Mem) (m : Mem) : memVals (l ++ [m]) = memVals l ++ [.int .i64 m.id, .int .i64 m.weight, .int .i64 m.pub] := by simp [memVals]
theorem voteVals_app (l k : List VtV) : voteVals (l ++ k) = voteVals l ++ voteVals k := by simp [voteVals]
/-- append(l, m). -/
theorem append_mem (wr : World) (v : Value) (l : List Mem) (m : Mem) (hown : wr.ownsRow 0 81 3 v l.length (memVals l)) (hk : l.length ≤ 1000) :
    ∃ v' w', (Builtin.append_ #[49, 49] 49 #[v, .slice (some ⟨wr.heap.size, 0, none⟩) 1 1]).run Tryz.prog (wr.alloc (.cells #[.int .i64 m.id, .int .i64 m.weight, .int .i64 m.pub] 81)) = .ok v' w' ∧ w'.ownsRow 0 81 3 v' (l ++ [m]).length (memVals (l ++ [m])) ∧ Upd (foot v) (foot v') wr w' := by
  have hrow : (wr.alloc (.cells #[.int .i64 m.id, .int .i64 m.weight, .int .i64 m.pub] 81)).ownsRow 0 81 3 v l.length (memVals l) := row_same hown (fun j hj => Below.heap_alloc _ _ _ (row_foot_lt hown j hj))
  have hw1 : (wr.alloc (.cells #[.int .i64 m.id, .int .i64 m.weight, .int .i64 m.pub] 81)).heap[wr.heap.size]? = some (.cells #[.int .i64 m.id, .int .i64 m.weight, .int .i64 m.pub] 81 (0, 0)) := heap_alloc_new _ _
  obtain ⟨iu, u1, u2, u3', u4⟩ := memI
  obtain ⟨v', w', hrun, hown', hup'⟩ := append_block (P := Tryz.prog) (wr.alloc (.cells #[.int .i64 m.id, .int .i64 m.weight, .int .i64 m.pub] 81)) 49 49 81 iu _ 3 24 Tryz.underlying49 u1 u2 u3' u4 rfl (by omega) v l.length _ hrow ⟨wr.heap.size, 0, none⟩ 1 1 [.int .i64 m.id, .int .i64 m.weight, .int .i64 m.pub] rfl (by
    intro j u hj
    have e : (⟨wr.heap.size, 0, none⟩ : Addr).add j = ⟨wr.heap.size, j, none⟩ := by simp [Addr.add]; exact fun h => h.symm
    rw [e, cell_of_row _ _ _ _ _ _ hw1, List.getElem?_toArray]
    exact hj) (by intro u hu; simp at hu; rcases hu with rfl | rfl | rfl <;> rfl) (by omega) (by simp only [maxLen]; omega)
  refine ⟨v', w', hrun, ?_, ((Upd.refl _ _).alloc _).trans hup'⟩
  rw [memVals_snoc, List.length_append]
  exact hown'
/-- append(l, ks..), votes of a new block. -/
theorem append_vts (wr : World) (v : Value) (l k : List VtV) (hown : wr.ownsRow 0 54 4 v l.length (voteVals l)) (hl : l.length ≤ 1000) (hk : k.length ≤ 1000) :
    ∃ v' w', (Builtin.append_ #[50, 50] 50 #[v, .slice (some ⟨wr.heap.size, 0, none⟩) k.length k.length]).run Tryz.prog (wr.alloc (.cells (voteVals k).toArray 54)) = .ok v' w' ∧ w'.ownsRow 0 54 4 v' (l ++ k).length (voteVals (l ++ k)) ∧ Upd (foot v) (foot v') wr w' := by
  have hrow : (wr.alloc (.cells (voteVals k).toArray 54)).ownsRow 0 54 4 v l.length (voteVals l) := row_same hown (fun j hj => Below.heap_alloc _ _ _ (row_foot_lt hown j hj))
  have hw1 : (wr.alloc (.cells (voteVals k).toArray 54)).heap[wr.heap.size]? = some (.cells (voteVals k).toArray 54 (0, 0)) := heap_alloc_new _ _
  obtain ⟨iu, u1, u2, u3', u4⟩ := votI
  have hlen : (voteVals k).length = k.length * 4 := by
    unfold voteVals
    induction k with
    | nil => rfl
    | cons a r ih => rw [List.flatMap_cons, List.length_append, ih (by simp at hk; omega) (row_same hown (fun j hj => Below.heap_alloc _ _ _ (row_foot_lt hown j hj))) (heap_alloc_new _ _), List.length_cons]; simp; omega
  obtain ⟨v', w', hrun, hown', hup'⟩ := append_block (P := Tryz.prog) (wr.alloc (.cells (voteVals k).toArray 54)) 50 50 54 iu _ 4 40 Tryz.underlying50 u1 u2 u3' u4 rfl (by omega) v l.length _ hrow ⟨wr.heap.size, 0, none⟩ k.length k.length (voteVals k) hlen (by
    intro j u hj
    have e : (⟨wr.heap.size, 0, none⟩ : Addr).add j = ⟨wr.heap.size, j, none⟩ := by simp [Addr.add]; exact fun h => h.symm
    rw [e, cell_of_row _ _ _ _ _ _ hw1, List.getElem?_toArray]
    exact hj) (by intro u hu; unfold voteVals at hu; rw [List.mem_flatMap] at hu; obtain ⟨x, _, hx⟩ := hu; simp at hx; rcases hx with rfl | rfl | rfl | rfl <;> rfl) (by omega) (by simp only [maxLen]; omega)
  refine ⟨v', w', hrun, ?_, ((Upd.refl _ _).alloc _).trans hup'⟩
  rw [voteVals_app, List.length_append]
  exact hown'
end Go.Proofs.YtkhodajdionaaaaGreatDoor
