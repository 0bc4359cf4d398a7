/- do at a Crash; same; repeated. -/
import Derived.Test.YtbpbmigdfjnneaaDeskB
namespace Go.Proofs.Ytbpbmigdfjnneaa
open Go.RowKit
set_option maxRecDepth 100000

def CrashTo (D : DiskM) (sv : List Int) (w : World) (e : Ending) (w' : World) : Prop := ∃ b' S', e = .returned (.pointer (some ⟨b', 0, none⟩)) ∧ DiskAt w' b' (D.crash sv) S' ∧ Upd [] S' w w'
theorem Crash_to (b : Nat) (D : DiskM) (S : List Nat) (v : Value) (sv : List Int) (w : World) (h : DiskAt w b D S) (hI : IntsAt w v sv) (hok : D.ok) :
    Calls Try.prog 22 #[.pointer (some ⟨b, 0, none⟩), v] w (CrashTo D sv w) := Crash_any b D S v sv w h hI hok
theorem RCrash_to (b : Nat) (M : RefM) (S : List Nat) (v : Value) (sv : List Int) (w : World) (h : RefAt w b M S) (hI : IntsAt w v sv) (D : DiskM) (hr : Rel D M) :
    Calls Try.prog 23 #[.pointer (some ⟨b, 0, none⟩), v] w (RCrashed M sv w) :=
  RCrash_any b M S v sv w h hI (by rw [hr.synced]; exact hr.ok.synced) (by rw [hr.parts]; exact hr.ok.parts) (by rw [hr.parts]; have := hr.ok.many; have := hr.ok.calls; omega)

theorem Good.set0 {w0 : World} {S : List Nat} {B x bd bm : Nat} {v0 v1 v2 v3 : Value} {D : DiskM} {M : RefM} {Sd Sm : List Nat} {wp w1 : World} {D' : DiskM} {bd' : Nat} {S' : List Nat} (h : Good w0 S B x bd bm v0 v1 v2 v3 D M Sd Sm wp) (hd : DiskAt w1 bd' D' S') (hu : Upd [] S' wp w1) :
    Good w0 S B x bd' bm v0 v1 v2 v3 D' M S' Sm (w1.setCell ⟨x, 0, none⟩ (.pointer (some ⟨bd', 0, none⟩))) := by
  obtain ⟨h1, h2, h3, h4⟩ := h
  obtain ⟨g1, g2⟩ := deskAt_set0 h1 hd hu
  have hBl := blk_lt h2
  simp only [List.mem_cons, List.mem_append, not_or] at h3
  refine ⟨g1, ?_, ?_, h4.trans g2⟩
  · rw [heap_setCell_other _ _ _ _ h3.1]; exact (hu.block B hBl (by simp)).trans h2
  · simp only [List.mem_cons, List.mem_append, not_or]
    exact ⟨h3.1, fun e => by rcases hu.new B e with h | h; simp at h; omega, h3.2.2⟩
theorem Good.set1 {w0 : World} {S : List Nat} {B x bd bm : Nat} {v0 v1 v2 v3 : Value} {D : DiskM} {M : RefM} {Sd Sm : List Nat} {wp w1 : World} {M' : RefM} {bm' : Nat} {S' : List Nat} (h : Good w0 S B x bd bm v0 v1 v2 v3 D M Sd Sm wp) (hd : RefAt w1 bm' M' S') (hu : Upd [] S' wp w1) :
    Good w0 S B x bd bm' v0 v1 v2 v3 D M' Sd S' (w1.setCell ⟨x, 1, none⟩ (.pointer (some ⟨bm', 0, none⟩))) := by
  obtain ⟨h1, h2, h3, h4⟩ := h
  obtain ⟨g1, g2⟩ := deskAt_set1 h1 hd hu
  have hBl := blk_lt h2
  simp only [List.mem_cons, List.mem_append, not_or] at h3
  refine ⟨g1, ?_, ?_, h4.trans g2⟩
  · rw [heap_setCell_other _ _ _ _ h3.1]; exact (hu.block B hBl (by simp)).trans h2
  · simp only [List.mem_cons, List.mem_append, not_or]
    exact ⟨h3.1, h3.2.1, fun e => by rcases hu.new B e with h | h; simp at h; omega⟩

set_option maxHeartbeats 1600000 in
theorem do_crash (x : Nat) (D : DiskM) (M : RefM) (S : List Nat) (kind off n : Int) (text : ByteArray) (w : World) (h : DeskAt w x D M S) (hr : Rel D M) (hk : kind % 8 = 7) (hn1 : -9223372036854775808 ≤ n) (hn2 : n ≤ 9223372036854775807) :
    Calls Try.prog 21 #[.pointer (some ⟨x, 0, none⟩), .agg #[.int .i64 kind, .int .i64 off, .int .i64 n, .string text]] w (Did x S (D.crash (survL n)) (M.crash (survL n)) w) := by
  obtain ⟨bd, bm, Sd, Sm, hd, rfl⟩ := h
  have HK := Lib.hid hk
  clear hk
  have hgood := good_start hd (.int .i64 kind) (.int .i64 off) (.int .i64 n) (.string text)
  clear hd
  go_enter Try.func21, Try.ntmps21
  go_wp2_with fail
  refine (Mod_any kind 8 _ (by omega) (by omega)).mono ?_
  rintro e w' ⟨rfl, rfl⟩
  rw [HK.out]
  go_wp2_with fail
  generalize w.alloc (.cells #[.int .i64 kind, .int .i64 off, .int .i64 n, .string text] 33) = W at *
  generalize w.heap.size = B at *
  have g0 := hgood.drew
  have k0 := g0.cells
  clear hgood
  go_region_with (first
      | (go_at_call 24; ((with_reducible refine (survive_any n _ hn1 hn2).mono ?_); rintro e wq ⟨vq, rfl, hiq, hq⟩; have gq := Good.quiet g0 hq; have kq := gq.cells; clear hq))
      | (go_at_call 22; ((with_reducible refine (Crash_to bd D Sd _ _ _ (Good.dat gq) hiq hr.ok).mono ?_); rintro e wr ⟨bd', Sd', rfl, hdq, hq⟩; have gr := Good.quiet (wp := wq) (w1 := wr) gq ⟨hq.os, hq.tape, hq.output, hq.size, hq.block, by simp⟩; have kr := gr.cells; have fr : wr.frozen? ⟨x, 0, none⟩ = false := frozen_of_row wr x 0 _ _ gr.1.1)))
  all_goals
    have gS := Good.set0 gq hdq hq
    clear gr kr fr kq gq hiq hdq hq g0 k0
    generalize wr.setCell ⟨x, 0, none⟩ (.pointer (some ⟨bd', 0, none⟩)) = wS at *
    go_wp2_with fail
    have g0 := gS.drew
    have k0 := g0.cells
    clear gS
    go_region_with (first
      | (go_at_call 24; ((with_reducible refine (survive_any n _ hn1 hn2).mono ?_); rintro e wq ⟨vq, rfl, hiq, hq⟩; have gq := Good.quiet g0 hq; have kq := gq.cells; clear hq))
      | (go_at_call 23; ((with_reducible refine (RCrash_to bm M Sm _ _ _ (Good.rat gq) hiq D hr).mono ?_); rintro e wt ⟨bm', rfl, hdq, hq⟩; have gr := Good.quiet (wp := wq) (w1 := wt) gq ⟨hq.os, hq.tape, hq.output, hq.size, hq.block, by simp⟩; have kr := gr.cells; have fr : wt.frozen? ⟨x, 1, none⟩ = false := frozen_of_row wt x 1 _ _ gr.1.1)))
    all_goals
      have gT := Good.set1 gq hdq hq
      clear gr kr fr kq gq hiq hdq hq g0 k0
      generalize wt.setCell ⟨x, 1, none⟩ (.pointer (some ⟨bm', 0, none⟩)) = wT at *
      have kT := gT.cells.1
      go_wp2_with fail
      go_ret
      exact ⟨_, rfl, gT.1.at, gT.2.2.2⟩
end Go.Proofs.Ytbpbmigdfjnneaa
