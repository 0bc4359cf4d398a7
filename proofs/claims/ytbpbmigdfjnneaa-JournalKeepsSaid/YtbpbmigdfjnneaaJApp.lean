/- The contracts of write and Append. -/
import Derived.Test.YtbpbmigdfjnneaaJOpenB
namespace Go.Proofs.Ytbpbmigdfjnneaa
open Go.RowKit
set_option maxRecDepth 100000

def WritePost (b : Nat) (D : DiskM) (S : List Nat) (w : World) (ok : Bool) (e : Ending) (w' : World) : Prop := ∃ S', e = .returned (.bool ok) ∧ DiskAt w' b D S' ∧ Upd S S' w w'

set_option maxHeartbeats 1000000 in
theorem jwrite_any (jb b : Nat) (M : JM) (D : DiskM) (S : List Nat) (off : Nat) (s : ByteArray) (w : World) (ok : Bool) (D' : DiskM) (hj : JAt w jb b M) (h : DiskAt w b D S) (hjS : jb ∉ S) (hok : D.ok) (hc : D.calls + 2 ≤ 65536) (ho : off + s.size ≤ 16777216)
    (hr : jwrite D off (bs s) = (D', ok)) :
    Calls Try.prog 61 #[.pointer (some ⟨jb, 0, none⟩), .int .i64 (off : Int), .string s] w (WritePost b D' S w ok) := by
  have c0 := hj.c0
  unfold jwrite at hr
  by_cases h1 : D.off = true
  · rw [if_pos h1] at hr
    obtain ⟨rfl, rfl⟩ := Prod.mk.inj hr
    have HW := Lib.hid (Write_off b D S (off : Int) s w h h1 (by omega) (by omega))
    clear hr hj
    go_enter Try.func61, Try.ntmps61
    go_wp2_with fail
    refine HW.out.mono ?_
    rintro e w' ⟨rfl, rfl⟩
    go_wp2_with fail
    go_ret
    exact ⟨S, rfl, h, Upd.refl _ _⟩
  · rw [if_neg h1] at hr
    have h1' : D.off = false := by simpa using h1
    have HW := Lib.hid (Write_ok b D S off s w h hok (by omega) h1' ho)
    have ok1 : (D.wrote off (bs s)).count.ok := hok.write off (bs s) (by rw [bs_length]; exact ho) (by omega)
    by_cases h2 : (D.wrote off (bs s)).count.off = true
    · rw [if_pos h2] at hr
      obtain ⟨rfl, rfl⟩ := Prod.mk.inj hr
      clear hr h1 h1'
      have H2 := Lib.hid h2
      clear h2
      go_enter Try.func61, Try.ntmps61
      go_wp2_with fail
      refine HW.out.mono ?_
      rintro e w1 ⟨S1, rfl, hd1, hu1⟩
      have c1 : w1.cell? ⟨jb, 0, none⟩ = some (.pointer (some ⟨b, 0, none⟩)) := (hj.kept hu1 hjS).c0
      go_wp2_with fail
      refine (Sync_off b _ S1 w1 hd1 H2.out).mono ?_
      rintro e w' ⟨rfl, rfl⟩
      go_wp2_with fail
      go_ret
      exact ⟨S1, rfl, hd1, hu1⟩
    · rw [if_neg h2] at hr
      have h2' : (D.wrote off (bs s)).count.off = false := by simpa using h2
      obtain ⟨rfl, rfl⟩ := Prod.mk.inj hr
      clear hr h1 h1' h2
      have H2 := Lib.hid h2'
      clear h2'
      go_enter Try.func61, Try.ntmps61
      go_wp2_with fail
      refine HW.out.mono ?_
      rintro e w1 ⟨S1, rfl, hd1, hu1⟩
      have c1 : w1.cell? ⟨jb, 0, none⟩ = some (.pointer (some ⟨b, 0, none⟩)) := (hj.kept hu1 hjS).c0
      go_wp2_with fail
      refine (Sync_ok b _ S1 w1 hd1 ok1 (by show D.calls + 1 < _; omega) H2.out).mono ?_
      rintro e w2 ⟨S2, rfl, hd2, hu2⟩
      go_wp2_with fail
      go_ret
      exact ⟨S2, rfl, hd2, hu1.trans hu2⟩

theorem append1_d (B jb b : Nat) (M : JM) (x : Int) (u : FrameMode) (w : World) (hb : w.cell? ⟨B, 0, none⟩ = some (.pointer (some ⟨jb, 0, none⟩))) (he : w.cell? ⟨B + 1, 0, none⟩ = some (.int .i64 x)) (hj : JAt w jb b M) :
    CallsD Try.prog 59 #[.pointer (some ⟨B + 1, 0, none⟩), .pointer (some ⟨B, 0, none⟩)] u w fun e u' w' => u' = u ∧ (e = .returned (.tuple #[]) ∧ w' = w.setCell ⟨jb, 4, none⟩ (.bool (x == 70))) := by
  have c4 := hj.c4
  have f4 := hj.free 4
  clear hj
  go_enter_d Try.func59, Try.ntmps59
  go_wp2
  go_end0
  exact ⟨rfl, rfl⟩

theorem app_ret (tmps : Array Value) (w : World) (B : Nat) (x : Int) (h : w.cell? ⟨B, 0, none⟩ = some (.int .i64 x)) (h4 : tmps[4]?.getD undef = .pointer (some ⟨B, 0, none⟩)) :
    (results Try.f39 tmps).run Try.prog w = .ok (.int .i64 x) w := by
  simp [results, Try.results39, go_sem, h4, h]

/-- The two blocks that Append makes. -/
theorem app_new (w : World) (p : Value) : ((w.alloc (.cells #[p] 63)).alloc (.cells #[.int .i64 0] 42)).heap[w.heap.size]? = some (.cells #[p] 63 (0, 0)) ∧
    ((w.alloc (.cells #[p] 63)).alloc (.cells #[.int .i64 0] 42)).heap[w.heap.size + 1]? = some (.cells #[.int .i64 0] 42 (0, 0)) := by
  refine ⟨?_, ?_⟩
  · rw [Below.heap_alloc _ _ _ (by simp)]; exact heap_alloc_new _ _
  · have := heap_alloc_new (w.alloc (.cells #[p] 63)) (.cells #[.int .i64 0] 42)
    simpa using this

set_option maxHeartbeats 1000000 in
theorem Append_broken (jb b : Nat) (M : JM) (r : ByteArray) (w : World) (hj : JAt w jb b M) (hb : M.broken = true) :
    Calls Try.prog 39 #[.pointer (some ⟨jb, 0, none⟩), .string r] w fun e w' => e = .returned (.int .i64 70) ∧ Upd [] [] w w' := by
  have hl := hj.lt
  have hj2 : JAt ((w.alloc (.cells #[.pointer (some ⟨jb, 0, none⟩)] 63)).alloc (.cells #[.int .i64 0] 42)) jb b M := hj.same (by rw [Below.heap_alloc _ _ _ (by simp; omega), Below.heap_alloc _ _ _ hl])
  go_enter_defers Try.func39, Try.ntmps39
  have c0 := hj2.c0
  have c4 := hj2.c4
  rw [hb] at c4
  clear hj hj2 hb
  go_wp2_with fail
  exact ⟨_, app_ret _ _ (w.heap.size + 1) 70 (by simp) rfl, rfl, ((Upd.refl _ _).alloc _).alloc _⟩

set_option maxHeartbeats 1000000 in
theorem Append_many (jb b : Nat) (M : JM) (r : ByteArray) (w : World) (hj : JAt w jb b M) (hb : M.broken = false) (hs : M.space ≤ 1099511627776) (hr : r.size ≤ 1099511627776) (hbig : 16777216 < M.space + r.size + 16 + 256) :
    Calls Try.prog 39 #[.pointer (some ⟨jb, 0, none⟩), .string r] w fun e w' => e = .returned (.int .i64 2) ∧ Upd [] [] w w' := by
  have hl := hj.lt
  have hj2 : JAt ((w.alloc (.cells #[.pointer (some ⟨jb, 0, none⟩)] 63)).alloc (.cells #[.int .i64 0] 42)) jb b M := hj.same (by rw [Below.heap_alloc _ _ _ (by simp; omega), Below.heap_alloc _ _ _ hl])
  go_enter_defers Try.func39, Try.ntmps39
  have c0 := hj2.c0
  have c3 := hj2.c3
  have c4 := hj2.c4
  rw [hb] at c4
  have e1 : decide ((16777216 : Int) < (M.space : Int) + (r.size : Int) + 16 + 256) = true := decide_eq_true (by omega)
  clear hj hj2 hb
  go_wp2_with fail
  exact ⟨_, app_ret _ _ (w.heap.size + 1) 2 (by simp) rfl, rfl, ((Upd.refl _ _).alloc _).alloc _⟩

theorem jwrite_int (jb b : Nat) (M : JM) (D : DiskM) (S : List Nat) (o : Int) (off : Nat) (s : ByteArray) (w : World) (ok : Bool) (D' : DiskM) (hj : JAt w jb b M) (h : DiskAt w b D S) (hjS : jb ∉ S) (hok : D.ok) (hc : D.calls + 2 ≤ 65536) (ho : off + s.size ≤ 16777216)
    (hr : jwrite D off (bs s) = (D', ok)) (hoo : o = (off : Int)) :
    Calls Try.prog 61 #[.pointer (some ⟨jb, 0, none⟩), .int .i64 o, .string s] w (WritePost b D' S w ok) := by
  subst hoo; exact jwrite_any jb b M D S off s w ok D' hj h hjS hok hc ho hr
theorem number_int (n : Int) (m : Nat) (w : World) (hn : n = (m : Int)) (hm : m ≤ 1099511627776) : Calls Try.prog 60 #[.int .i64 n] w
    (fun e w' => ∃ r : ByteArray, Hid (bs r = numL m) ∧ e = .returned (.string r) ∧ Upd [] [] w w') := by
  subst hn; exact number_any m w hm

/-- Append, the power perhaps failing. -/
def AppPost (jb b : Nat) (M : JM) (D : DiskM) (F r : List UInt8) (S : List Nat) (w : World) (e : Ending) (w' : World) : Prop :=
  ∃ S', jb ∉ S' ∧ DiskAt w' b (appendD D F r).1 S' ∧ Upd (jb :: S) (jb :: S') w w' ∧
    (((appendD D F r).2 = true ∧ e = .returned (.int .i64 0) ∧ JAt w' jb b ⟨M.fin + (8 + r.length), M.many + 1, M.space + r.length + 16, false⟩) ∨
     ((appendD D F r).2 = false ∧ e = .returned (.int .i64 70) ∧ JAt w' jb b ⟨M.fin, M.many, M.space, true⟩))

/-- The end of an Append whose power failed. -/
theorem app_failed {w w1 : World} {jb b : Nat} {M : JM} {D D1 : DiskM} {F r : List UInt8} {S S1 : List Nat} (hjl : jb < w.heap.size) (hj : JAt w1 jb b M) (hjS : jb ∉ S1) (hd : DiskAt w1 b D1 S1) (hSl : ∀ k, k ∈ S1 → k ≠ w.heap.size + 1)
    (hu : Upd S S1 w w1) (ha : appendD D F r = (D1, false)) (n : Nat) :
    AppPost jb b M D F r S w (.returned (.int .i64 70)) (((w1.setCell ⟨w.heap.size + 1, 0, none⟩ (.int .i64 70)).drewN n).setCell ⟨jb, 4, none⟩ (.bool true)) := by
  have hjb : (w1.setCell ⟨w.heap.size + 1, 0, none⟩ (.int .i64 70)).heap[jb]? = w1.heap[jb]? := heap_setCell_other _ _ _ _ (by simp; omega)
  refine ⟨S1, hjS, ?_, ?_, .inr ⟨by rw [ha], rfl, ?_⟩⟩
  · rw [ha]
    refine hd.same (fun k hk => ?_)
    rw [heap_setCell_other _ _ _ _ (fun (e : k = jb) => hjS (e ▸ hk))]
    exact heap_setCell_other _ _ _ _ (by simpa using hSl k hk)
  · have h1 : Upd S S1 w ((w1.setCell ⟨w.heap.size + 1, 0, none⟩ (.int .i64 70)).drewN n) := (hu.setNew (p := ⟨w.heap.size + 1, 0, none⟩) (by simp) _).drewN n
    refine Upd.setCell (h1.mono (fun k hk => by simp [hk]) (fun k hk => ?_)) (by simp) _
    simp only [List.mem_cons] at hk ⊢
    rcases hk with h | h
    · exact .inr (.inl h)
    · exact .inl h
  · have : JAt ((w1.setCell ⟨w.heap.size + 1, 0, none⟩ (.int .i64 70)).drewN n) jb b M := hj.same hjb
    exact this.set ⟨M.fin, M.many, M.space, true⟩ 4 (.bool true) rfl

/-- A write of the disk leaves the journal and the two blocks of Append as they were. -/
theorem app_mid {w wA w2 : World} {jb b : Nat} {M : JM} {S S2 : List Nat} (hl : jb < w.heap.size) (hS : ∀ k, k ∈ S → k < w.heap.size ∨ w.heap.size + 1 < k) (hjS : jb ∉ S) (hj : JAt wA jb b M)
    (hb : Hid (wA.heap[w.heap.size]? = some (.cells #[.pointer (some ⟨jb, 0, none⟩)] 63 (0, 0)))) (he : Hid (wA.heap[w.heap.size + 1]? = some (.cells #[.int .i64 0] 42 (0, 0)))) (hu : Upd S S2 wA w2) :
    JAt w2 jb b M ∧ Hid (w2.heap[w.heap.size]? = some (.cells #[.pointer (some ⟨jb, 0, none⟩)] 63 (0, 0))) ∧ Hid (w2.heap[w.heap.size + 1]? = some (.cells #[.int .i64 0] 42 (0, 0))) ∧
      jb ∉ S2 ∧ (∀ k, k ∈ S2 → k < w.heap.size ∨ w.heap.size + 1 < k) ∧ (w2.cell? ⟨w.heap.size, 0, none⟩ = some (.pointer (some ⟨jb, 0, none⟩)) ∧ w2.cell? ⟨jb, 1, none⟩ = some (.int .i64 (M.fin : Int))) := by
  have h1 := blk_lt hb.out
  have h2 := blk_lt he.out
  have hj2 := hj.kept hu hjS
  have hb2 := (hu.block _ h1 (fun m => by have := hS _ m; omega)).trans hb.out
  refine ⟨hj2, hb2, (hu.block _ h2 (fun m => by have := hS _ m; omega)).trans he.out, fun m => ?_, fun k hk => ?_, cell_of_row _ _ 0 _ _ _ hb2, hj2.c1⟩
  · rcases hu.new _ m with g | g
    · exact hjS g
    · omega
  · rcases hu.new _ hk with g | g
    · exact hS k g
    · omega
theorem app_mid2 {w wA w2 : World} {jb b : Nat} {M : JM} (hj : JAt wA jb b M)
    (hb : Hid (wA.heap[w.heap.size]? = some (.cells #[.pointer (some ⟨jb, 0, none⟩)] 63 (0, 0)))) (he : Hid (wA.heap[w.heap.size + 1]? = some (.cells #[.int .i64 0] 42 (0, 0)))) (hu : Upd [] [] wA w2) :
    JAt w2 jb b M ∧ Hid (w2.heap[w.heap.size]? = some (.cells #[.pointer (some ⟨jb, 0, none⟩)] 63 (0, 0))) ∧ Hid (w2.heap[w.heap.size + 1]? = some (.cells #[.int .i64 0] 42 (0, 0))) ∧
      (w2.cell? ⟨w.heap.size, 0, none⟩ = some (.pointer (some ⟨jb, 0, none⟩)) ∧ w2.cell? ⟨jb, 1, none⟩ = some (.int .i64 (M.fin : Int))) := by
  have hj2 := hj.kept hu (by simp)
  have hb2 := (hu.block _ (blk_lt hb.out) (by simp)).trans hb.out
  exact ⟨hj2, hb2, (hu.block _ (blk_lt he.out) (by simp)).trans he.out, cell_of_row _ _ 0 _ _ _ hb2, hj2.c1⟩
end Go.Proofs.Ytbpbmigdfjnneaa
