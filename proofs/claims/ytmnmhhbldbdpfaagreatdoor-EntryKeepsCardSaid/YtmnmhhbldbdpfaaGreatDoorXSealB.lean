/- rules.rightEntrant, rules.PrintEntrant. -/
import Derived.Test.YtmnmhhbldbdpfaaGreatDoorXSealA
import Derived.Test.YtmnmhhbldbdpfaaGreatDoorGE
namespace Go.Proofs.YtmnmhhbldbdpfaaGreatDoor
open Go.RowKit
set_option maxRecDepth 100000

def entV (a b c : Int) (v : Value) : Array Value := #[.int .i64 a, .int .i64 b, .int .i64 c, v, .slice none 0 0, .slice none 0 0]
/-- An entrant in a block. -/
def EntAt (w : World) (g : Nat) (a b c : Int) (v : Value) : Prop := w.heap[g]? = some (.cells (entV a b c v) 71 (0, 0))
theorem EntAt.upd {w w' : World} {g : Nat} {a b c : Int} {v : Value} (h : EntAt w g a b c v) (u : Upd [] [] w w') : EntAt w' g a b c v := row_updH h u
theorem EntAt.cells {w : World} {g : Nat} {a b c : Int} {v : Value} (h : EntAt w g a b c v) : w.cell? ⟨g, 0, none⟩ = some (.int .i64 a) ∧ w.cell? ⟨g, 1, none⟩ = some (.int .i64 b) ∧ w.cell? ⟨g, 2, none⟩ = some (.int .i64 c) ∧ w.cell? ⟨g, 3, none⟩ = some v ∧ w.cell? ⟨g, 4, none⟩ = some (.slice none 0 0) ∧ w.cell? ⟨g, 5, none⟩ = some (.slice none 0 0) :=
  ⟨by rw [cell_of_row _ _ _ _ _ _ h]; rfl, by rw [cell_of_row _ _ _ _ _ _ h]; rfl, by rw [cell_of_row _ _ _ _ _ _ h]; rfl, by rw [cell_of_row _ _ _ _ _ _ h]; rfl, by rw [cell_of_row _ _ _ _ _ _ h]; rfl, by rw [cell_of_row _ _ _ _ _ _ h]; rfl⟩

set_option maxHeartbeats 1000000 in
theorem rightEnt_any (a b c : Int) (l : List Int) (ao : Option Addr) (cap : Nat) (w : World) (ha : i64in a) (hb : i64in b) (hc : i64in c) (hl : l.length ≤ 1000) (h : IntsSl w ao l) :
    Calls Tryz.prog 101 #[.agg (entV a b c (.slice ao l.length cap))] w (MkB (entOk a b c l) w) := by
  obtain ⟨n, hn⟩ : ∃ n, n = l.length := ⟨_, rfl⟩
  have e0 : EntAt (w.alloc (.cells (entV a b c (.slice ao l.length cap)) 71)) w.heap.size a b c (.slice ao l.length cap) := heap_alloc_new w _
  have u0 : Upd [] [] w (w.alloc (.cells (entV a b c (.slice ao l.length cap)) 71)) := (Upd.refl _ _).alloc _
  rw [← hn] at e0 u0 ⊢
  have H := Lib.hid (h.upd u0)
  have HN := Lib.hid hn
  have E0 := Lib.hid e0
  obtain ⟨k0, k1, k2, k3, k4, k5⟩ := e0.cells
  have HEO : Hid (entOk a b c l = ([a, b, c].all smallB && (l.all smallB && decide (n ≤ 60)))) := by
    show _ = _
    unfold entOk
    rw [hn]
    simp [Bool.and_assoc]
  clear hn h e0
  go_enter Tryz.func101, Tryz.ntmps101
  go_wp2_with fail
  have hm : ∀ x ∈ [a, b, c], i64in x := by
    intro x hx
    simp only [List.mem_cons, List.not_mem_nil, or_false] at hx
    rcases hx with rfl | rfl | rfl <;> assumption
  have hI : IntsSl ((w.alloc (.cells (entV a b c (.slice ao n cap)) 71)).alloc (.cells #[.int .i64 a, .int .i64 b, .int .i64 c] 3)) (some ⟨w.heap.size + 1, 0, none⟩) [a, b, c] := by
    have h := heap_alloc_new (w.alloc (.cells (entV a b c (.slice ao n cap)) 71)) (.cells #[.int .i64 a, .int .i64 b, .int .i64 c] 3)
    rw [World.size_alloc] at h
    exact intsSl_new (l := [a, b, c]) h hm
  refine (inRange_any [a, b, c] (some ⟨w.heap.size + 1, 0, none⟩) 3 _ (by simp only [List.length_cons, List.length_nil]; omega) hI).mono ?_
  rintro e w1 ⟨r, HR, rfl, hw1⟩
  have huA : Upd [] [] (w.alloc (.cells (entV a b c (.slice ao n cap)) 71)) w1 := by rw [← hw1]; exact (Upd.refl _ _).alloc _
  have u1 : Upd [] [] w w1 := u0.trans huA
  have E1 := Lib.hid (E0.out.upd huA)
  have H1 := Lib.hid (H.out.upd huA)
  clear hm hI huA hw1 k0 k1 k2 k3 k4 k5 E0 H u0
  obtain ⟨k0, k1, k2, k3, k4, k5⟩ := E1.out.cells
  cases r
  · go_wp2_with fail
    go_ret
    exact ⟨false, (by show _ = _; rw [HEO.out, ← HR.out]; rfl), rfl, u1⟩
  go_wp2_with fail
  have HC := Lib.hid (inRange_any l ao cap w1 (by omega) H1.out)
  rw [← HN.out] at HC
  refine HC.out.mono ?_
  rintro e w2 ⟨r, HR2, rfl, hw⟩
  subst hw
  cases r
  · go_wp2_with fail
    go_ret
    exact ⟨false, (by show _ = _; rw [HEO.out, ← HR.out, ← HR2.out]; rfl), rfl, u1⟩
  by_cases h60 : n ≤ 60
  case neg =>
    have h60' : (60 : Int) < (n : Int) := by omega
    go_wp2_with fail
    go_ret
    exact ⟨false, (by show _ = _; rw [HEO.out, ← HR.out, ← HR2.out, decide_eq_false h60]; rfl), rfl, u1⟩
  have h60' : ¬ (60 : Int) < (n : Int) := by omega
  have HT : Hid (true = entOk a b c l) := by
    show _ = _
    rw [HEO.out, ← HR.out, ← HR2.out, decide_eq_true h60]
    rfl
  clear HEO HR HR2 HC h60
  go_wp2_with fail
  refine wp_loop_rounds 3 ?_
  rw [rounds_succ]
  go_wp2_with fail
  refine wp_loop_rounds 1 ?_
  rw [rounds_succ]
  go_wp2_with fail
  rw [rounds_succ]
  go_wp2_with fail
  refine wp_loop_rounds 1 ?_
  rw [rounds_succ]
  go_wp2_with fail
  rw [rounds_succ]
  go_wp2_with fail
  go_ret
  exact ⟨true, HT, rfl, u1.alloc _⟩
end Go.Proofs.YtmnmhhbldbdpfaaGreatDoor
