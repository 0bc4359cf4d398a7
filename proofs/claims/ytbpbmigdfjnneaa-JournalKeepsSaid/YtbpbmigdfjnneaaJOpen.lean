/- The contract of journal.Open: what its loop does not touch. -/
import Derived.Test.YtbpbmigdfjnneaaJObj
namespace Go.Proofs.Ytbpbmigdfjnneaa
open Go.RowKit
set_option maxRecDepth 100000

/-- The three results' cells. -/
structure ResAt (w : World) (B : Nat) (p v : Value) (e : Int) : Prop where
  p : w.heap[B]? = some (.cells #[p] 63 (0, 0))
  v : w.heap[B + 1]? = some (.cells #[v] 61 (0, 0))
  e : w.heap[B + 1 + 1]? = some (.cells #[.int .i64 e] 42 (0, 0))

theorem res_new (w : World) : ResAt (((w.alloc (.cells #[.pointer none] 63)).alloc (.cells #[.slice none 0 0] 61)).alloc (.cells #[.int .i64 0] 42)) w.heap.size (.pointer none) (.slice none 0 0) 0 := by
  refine ⟨?_, ?_, ?_⟩
  · rw [Below.heap_alloc _ _ _ (by simp; omega), Below.heap_alloc _ _ _ (by simp)]; exact heap_alloc_new _ _
  · rw [Below.heap_alloc _ _ _ (by simp)]
    have := heap_alloc_new (w.alloc (.cells #[.pointer none] 63)) (.cells #[.slice none 0 0] 61)
    simpa using this
  · have := heap_alloc_new ((w.alloc (.cells #[.pointer none] 63)).alloc (.cells #[.slice none 0 0] 61)) (.cells #[.int .i64 0] 42)
    simpa using this
theorem ResAt.same {w w' : World} {B : Nat} {p v : Value} {e : Int} (h : ResAt w B p v e) (h0 : w'.heap[B]? = w.heap[B]?) (h1 : w'.heap[B + 1]? = w.heap[B + 1]?) (h2 : w'.heap[B + 1 + 1]? = w.heap[B + 1 + 1]?) : ResAt w' B p v e :=
  ⟨h0.trans h.p, h1.trans h.v, h2.trans h.e⟩
theorem ResAt.kept {w w' : World} {B : Nat} {p v : Value} {e : Int} {T T' : List Nat} (h : ResAt w B p v e) (hu : Upd T T' w w') (hd : ∀ k, k ∈ T → k < B ∨ B + 1 + 1 < k) : ResAt w' B p v e :=
  h.same (hu.block _ (blk_lt h.p) (fun m => by have := hd _ m; omega)) (hu.block _ (blk_lt h.v) (fun m => by have := hd _ m; omega)) (hu.block _ (blk_lt h.e) (fun m => by have := hd _ m; omega))
theorem ResAt.cp {w : World} {B : Nat} {p v : Value} {e : Int} (h : ResAt w B p v e) : w.cell? ⟨B, 0, none⟩ = some p := cell_of_row w B 0 _ _ _ h.p
theorem ResAt.cv {w : World} {B : Nat} {p v : Value} {e : Int} (h : ResAt w B p v e) : w.cell? ⟨B + 1, 0, none⟩ = some v := cell_of_row w (B + 1) 0 _ _ _ h.v
theorem ResAt.ce {w : World} {B : Nat} {p v : Value} {e : Int} (h : ResAt w B p v e) : w.cell? ⟨B + 1 + 1, 0, none⟩ = some (.int .i64 e) := cell_of_row w (B + 1 + 1) 0 _ _ _ h.e
theorem ResAt.fp {w : World} {B : Nat} {p v : Value} {e : Int} (h : ResAt w B p v e) : w.frozen? ⟨B, 0, none⟩ = false := frozen_of_row w B 0 _ _ h.p
theorem ResAt.fv {w : World} {B : Nat} {p v : Value} {e : Int} (h : ResAt w B p v e) : w.frozen? ⟨B + 1, 0, none⟩ = false := frozen_of_row w (B + 1) 0 _ _ h.v
theorem ResAt.fe {w : World} {B : Nat} {p v : Value} {e : Int} (h : ResAt w B p v e) : w.frozen? ⟨B + 1 + 1, 0, none⟩ = false := frozen_of_row w (B + 1 + 1) 0 _ _ h.e

/-- The three results are stored. -/
theorem ResAt.set {w : World} {B : Nat} {p v : Value} {e : Int} (h : ResAt w B p v e) (p' v' : Value) (e' : Int) :
    ResAt (((w.setCell ⟨B, 0, none⟩ p').setCell ⟨B + 1, 0, none⟩ v').setCell ⟨B + 1 + 1, 0, none⟩ (.int .i64 e')) B p' v' e' ∧
      ∀ k, k < B ∨ B + 1 + 1 < k → (((w.setCell ⟨B, 0, none⟩ p').setCell ⟨B + 1, 0, none⟩ v').setCell ⟨B + 1 + 1, 0, none⟩ (.int .i64 e')).heap[k]? = w.heap[k]? := by
  refine ⟨⟨?_, ?_, ?_⟩, fun k hk => ?_⟩
  · rw [heap_setCell_other _ _ _ _ (by simp; omega), heap_setCell_other _ _ _ _ (by simp), heap_setCell_same w B 0 _ _ _ h.p]; rfl
  · rw [heap_setCell_other _ _ _ _ (by simp), heap_setCell_same _ (B + 1) 0 _ _ _ ((heap_setCell_other _ _ _ _ (by simp)).trans h.v)]; rfl
  · rw [heap_setCell_same _ (B + 1 + 1) 0 _ _ _ ((heap_setCell_other _ _ _ _ (by simp)).trans ((heap_setCell_other _ _ _ _ (by simp; omega)).trans h.e))]; rfl
  · rw [heap_setCell_other _ _ _ _ (by simp; omega), heap_setCell_other _ _ _ _ (by simp; omega), heap_setCell_other _ _ _ _ (by simp; omega)]

theorem open_ret (tmps : Array Value) (w : World) (B : Nat) (q : Option Addr) (ao : Option Addr) (n cap : Nat) (e : Int) (hr : ResAt w B (.pointer q) (.slice ao n cap) e)
    (h2 : tmps[2]?.getD undef = .pointer (some ⟨B, 0, none⟩)) (h3 : tmps[3]?.getD undef = .pointer (some ⟨B + 1, 0, none⟩)) (h4 : tmps[4]?.getD undef = .pointer (some ⟨B + 1 + 1, 0, none⟩)) :
    (results Try.f37 tmps).run Try.prog w = .ok (.tuple #[.pointer q, .slice ao n cap, .int .i64 e]) w := by
  have c1 := hr.cp
  have c2 := hr.cv
  have c3 := hr.ce
  simp [results, Try.results37, go_sem, h2, h3, h4, c1, c2, c3]

/-- The results stored, behind an Upd. -/
theorem Upd.res {S S' : List Nat} {w w' : World} (h : Upd S S' w w') (p' v' : Value) (e' : Value) :
    Upd S S' w (((w'.setCell ⟨w.heap.size, 0, none⟩ p').setCell ⟨w.heap.size + 1, 0, none⟩ v').setCell ⟨w.heap.size + 1 + 1, 0, none⟩ e') :=
  ((h.setNew (p := ⟨w.heap.size, 0, none⟩) (Nat.le_refl _) _).setNew (p := ⟨w.heap.size + 1, 0, none⟩) (by simp) _).setNew (p := ⟨w.heap.size + 1 + 1, 0, none⟩) (by simp; omega) _

/-- The blocks of S' are not the results' cells. -/
theorem Upd.far {S S' : List Nat} {w w1 : World} (hu : Upd S S' (((w.alloc (.cells #[.pointer none] 63)).alloc (.cells #[.slice none 0 0] 61)).alloc (.cells #[.int .i64 0] 42)) w1) (hS : ∀ k, k ∈ S → k < w.heap.size) :
    ∀ k, k ∈ S' → k < w.heap.size ∨ w.heap.size + 1 + 1 < k := fun k hk => by
  rcases hu.new k hk with h | h
  · exact .inl (hS k h)
  · simp at h; omega

set_option maxHeartbeats 2000000 in
theorem Open_off (b : Nat) (D : DiskM) (S : List Nat) (w : World) (h : DiskAt w b D S) (hok : D.ok) (hc : D.calls < 65536) (hoff : D.off = true) :
    Calls Try.prog 37 #[.pointer (some ⟨b, 0, none⟩)] w fun e w' => ∃ S', e = .returned (.tuple #[.pointer none, .slice none 0 0, .int .i64 70]) ∧ DiskAt w' b D S' ∧ Upd S S' w w' := by
  refine callsIn_wide.1 (callsIn_of_wp_marks (n := 0) Try.func37 rfl trivial ?_ rfl)
  simp only [Try.ntmps37, List.size_toArray, List.length_cons, List.length_nil, Nat.reduceAdd, Nat.reduceSub, Array.replicate_succ, Array.replicate_zero, List.push_toArray, List.append_toArray, List.nil_append, List.cons_append]
  refine wpIn_wide.2 ?_
  have hd := ((h.alloc (.cells #[.pointer none] 63)).alloc (.cells #[.slice none 0 0] 61)).alloc (.cells #[.int .i64 0] 42)
  have hlt := h.lt
  have HOFF := Lib.hid hoff
  clear hoff
  go_wp2_with fail
  refine (Sync_to b D S _ 70 hd hok hc (by rw [HOFF.out]; rfl)).mono ?_
  rintro e w1 ⟨S1, rfl, hd1, hu1⟩
  have hD : D.syncS = D := by unfold DiskM.syncS; rw [if_pos HOFF.out]
  rw [hD] at hd1
  have far := hu1.far hlt
  have hr1 := (res_new w).kept hu1 (fun k hk => .inl (hlt k hk))
  have hu2 := hu1.fore.fore.fore
  obtain ⟨hr2, hk2⟩ := hr1.set (.pointer none) (.slice none 0 0) 70
  have hd2 := hd1.same (fun k hk => hk2 k (far k hk))
  have hu3 := hu2.res (.pointer none) (.slice none 0 0) (.int .i64 70)
  have c1 := hr1.cp
  have c2 := hr1.cv
  have c3 := hr1.ce
  have g1 := hr1.fp
  have g2 := hr1.fv
  have g3 := hr1.fe
  have HR := Lib.hid hr2
  have HD := Lib.hid hd2
  have HU := Lib.hid hu3
  clear hd hlt hD hd1 far hr1 hu1 hu2 hr2 hk2 hd2 hu3
  go_wp2_with fail
  refine ⟨_, open_ret _ _ w.heap.size none none 0 0 70 HR.out rfl rfl rfl, S1, rfl, HD.out, HU.out⟩

theorem records_any (s : ByteArray) (w : World) : Calls Try.prog 57 #[.string s] w fun e w' => e = .returned (.func (.func 63) #[] #[.pointer (some ⟨w.heap.size, 0, none⟩)]) ∧ w' = w.alloc (.cells #[.string s] 9) := by
  go_enter Try.func57, Try.ntmps57
  go_wp2
  go_ret
  exact ⟨rfl, rfl⟩
end Go.Proofs.Ytbpbmigdfjnneaa
