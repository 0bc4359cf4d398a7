/- A disk in memory, and the contracts of the functions of package disk that touch its fields alone. -/
import Derived.Test.YtbpbmigdfjnneaaDiskPut
import Derived.Test.YtbpbmigdfjnneaaDiskM
namespace Go.Proofs.Ytbpbmigdfjnneaa
open Go.RowKit

def partV (p : Nat × List UInt8) : List Value := [.int .i64 (p.1 : Int), strV p.2]
def partVals (ps : List (Nat × List UInt8)) : List Value := ps.flatMap partV

/-- The disk D lies at block b, over the blocks S. -/
def DiskAt (w : World) (b : Nat) (D : DiskM) (S : List Nat) : Prop :=
  ∃ vc vs vp, w.heap[b]? = some (.cells #[vc, vs, vp, .int .i64 (D.calls : Int), .bool D.failing, .int .i64 (D.left : Int)] 59 (0, 0)) ∧
    w.ownsRow 0 5 1 vc D.now.length (byteVals D.now) ∧ w.ownsRow 0 5 1 vs D.synced.length (byteVals D.synced) ∧ w.ownsRow 0 87 2 vp D.parts.length (partVals D.parts) ∧
    S = b :: (foot vc ++ foot vs ++ foot vp) ∧ S.Nodup

theorem blk_lt {w : World} {b : Nat} {o : Obj} (h : w.heap[b]? = some o) : b < w.heap.size := (Array.getElem?_eq_some_iff.1 h).1

theorem DiskAt.same {w w' : World} {b : Nat} {D : DiskM} {S : List Nat} (h : DiskAt w b D S) (hs : ∀ k, k ∈ S → w'.heap[k]? = w.heap[k]?) : DiskAt w' b D S := by
  obtain ⟨vc, vs, vp, hb, hc, hy, hp, rfl, hn⟩ := h
  exact ⟨vc, vs, vp, (hs b (by simp)).trans hb, row_same hc (fun k hk => hs k (by simp [hk])), row_same hy (fun k hk => hs k (by simp [hk])), row_same hp (fun k hk => hs k (by simp [hk])), rfl, hn⟩
theorem DiskAt.lt {w : World} {b : Nat} {D : DiskM} {S : List Nat} (h : DiskAt w b D S) : ∀ k, k ∈ S → k < w.heap.size := by
  obtain ⟨vc, vs, vp, hb, hc, hy, hp, rfl, hn⟩ := h
  intro k hk
  simp only [List.mem_cons, List.mem_append] at hk
  rcases hk with rfl | (hk | hk) | hk
  · exact blk_lt hb
  · exact row_foot_lt hc k hk
  · exact row_foot_lt hy k hk
  · exact row_foot_lt hp k hk
theorem DiskAt.head {w : World} {b : Nat} {D : DiskM} {S : List Nat} (h : DiskAt w b D S) : b ∈ S := by
  obtain ⟨vc, vs, vp, hb, hc, hy, hp, rfl, hn⟩ := h; simp
theorem DiskAt.alloc {w : World} {b : Nat} {D : DiskM} {S : List Nat} (h : DiskAt w b D S) (o : Obj) : DiskAt (w.alloc o) b D S := h.same fun k hk => Below.heap_alloc _ _ _ (h.lt k hk)
theorem DiskAt.drewN {w : World} {b : Nat} {D : DiskM} {S : List Nat} (h : DiskAt w b D S) (n : Nat) : DiskAt (w.drewN n) b D S := h.same fun _ _ => rfl
theorem DiskAt.drew {w : World} {b : Nat} {D : DiskM} {S : List Nat} (h : DiskAt w b D S) : DiskAt w.drew b D S := h.same fun _ _ => rfl
/-- Another object's change leaves the disk alone. -/
theorem DiskAt.kept {w w' : World} {b : Nat} {D : DiskM} {S T T' : List Nat} (h : DiskAt w b D S) (hu : Upd T T' w w') (hd : ∀ k, k ∈ S → k ∉ T) : DiskAt w' b D S :=
  h.same fun k hk => hu.block k (h.lt k hk) (hd k hk)

set_option maxRecDepth 100000

set_option maxHeartbeats 400000 in
theorem new_disk (w : World) :
    Calls Try.prog 18 #[] w fun e w' => e = .returned (.pointer (some ⟨w.heap.size, 0, none⟩)) ∧ w' = w.alloc (.cells #[.slice none 0 0, .slice none 0 0, .slice none 0 0, .int .i64 0, .bool false, .int .i64 0] 59) := by
  go_enter Try.func18, Try.ntmps18
  go_wp2
  go_ret
  exact ⟨rfl, rfl⟩

theorem diskAt_zero (w : World) : DiskAt (w.alloc (.cells #[.slice none 0 0, .slice none 0 0, .slice none 0 0, .int .i64 0, .bool false, .int .i64 0] 59)) w.heap.size .empty [w.heap.size] :=
  ⟨.slice none 0 0, .slice none 0 0, .slice none 0 0, heap_alloc_new w _, World.ownsRow_nil _ _ _ _, World.ownsRow_nil _ _ _ _, World.ownsRow_nil _ _ _ _, rfl, by simp⟩

theorem New_any (w : World) :
    Calls Try.prog 18 #[] w fun e w' => e = .returned (.pointer (some ⟨w.heap.size, 0, none⟩)) ∧ DiskAt w' w.heap.size .empty [w.heap.size] ∧ Upd [] [w.heap.size] w w' := by
  refine (new_disk w).mono ?_
  rintro e w' ⟨rfl, rfl⟩
  exact ⟨rfl, diskAt_zero w, rfl, rfl, rfl, by simp, fun k hk _ => Below.heap_alloc _ _ _ hk, fun k hk => .inr (by simp at hk; omega)⟩

set_option maxHeartbeats 400000 in
theorem isOff_any (b : Nat) (D : DiskM) (S : List Nat) (w : World) (h : DiskAt w b D S) :
    Calls Try.prog 52 #[.pointer (some ⟨b, 0, none⟩)] w fun e w' => e = .returned (.bool D.off) ∧ w = w' := by
  obtain ⟨vc, vs, vp, hb, hc, hy, hp, rfl, hn⟩ := h
  have h4 : w.cell? ⟨b, 4, none⟩ = some (.bool D.failing) := cell_of_row w b 4 _ _ _ hb
  have h5 : w.cell? ⟨b, 5, none⟩ = some (.int .i64 (D.left : Int)) := cell_of_row w b 5 _ _ _ hb
  clear hb hc hy hp hn
  unfold DiskM.off
  obtain ⟨f, hf⟩ : ∃ f, f = D.failing := ⟨_, rfl⟩
  obtain ⟨l, hl⟩ : ∃ l, l = D.left := ⟨_, rfl⟩
  rw [← hf, ← hl]
  rw [← hf] at h4
  rw [← hl] at h5
  clear hf hl
  cases f
  · go_enter Try.func52, Try.ntmps52
    go_wp2
    go_ret
    exact ⟨rfl, rfl⟩
  · go_enter Try.func52, Try.ntmps52
    go_wp2
    go_ret
    refine ⟨?_, rfl⟩
    have : (((l : Nat) : Int) == 0) = (l == 0) := by rw [Bool.eq_iff_iff]; simp
    simp [this]

/-- A store into one of the last three fields. -/
theorem DiskAt.field {w : World} {b : Nat} {D : DiskM} {S : List Nat} (h : DiskAt w b D S) (D' : DiskM) (i : Nat) (v : Value)
    (hv : ∀ vc vs vp : Value, (#[vc, vs, vp, .int .i64 (D.calls : Int), .bool D.failing, .int .i64 (D.left : Int)] : Array Value).setIfInBounds i v = #[vc, vs, vp, .int .i64 (D'.calls : Int), .bool D'.failing, .int .i64 (D'.left : Int)])
    (h1 : D'.now = D.now) (h2 : D'.synced = D.synced) (h3 : D'.parts = D.parts) : DiskAt (w.setCell ⟨b, i, none⟩ v) b D' S := by
  obtain ⟨vc, vs, vp, hb, hc, hy, hp, rfl, hn⟩ := h
  have hk : ∀ k, k ∈ foot vc ++ foot vs ++ foot vp → (w.setCell ⟨b, i, none⟩ v).heap[k]? = w.heap[k]? := fun k hk => heap_setCell_other w _ k v (fun e => by simp only at e; subst e; exact (List.nodup_cons.1 hn).1 hk)
  refine ⟨vc, vs, vp, ?_, ?_, ?_, ?_, rfl, hn⟩
  · rw [heap_setCell_same w b i _ _ v hb, hv]
  · rw [h1]; exact row_same hc (fun k h => hk k (by simp [h]))
  · rw [h2]; exact row_same hy (fun k h => hk k (by simp [h]))
  · rw [h3]; exact row_same hp (fun k h => hk k (by simp [h]))

set_option maxHeartbeats 400000 in
theorem count_any (b : Nat) (D : DiskM) (S : List Nat) (w : World) (h : DiskAt w b D S) (hok : D.calls ≤ 65536) (hl : D.left ≤ 9223372036854775807) (hoff : D.off = false) :
    Calls Try.prog 54 #[.pointer (some ⟨b, 0, none⟩)] w fun e w' => e = .returned (.tuple #[]) ∧ DiskAt w' b D.count S ∧ Upd S S w w' := by
  have hb0 := h
  obtain ⟨vc, vs, vp, hb, hc, hy, hp, rfl, hn⟩ := hb0
  have h3 : w.cell? ⟨b, 3, none⟩ = some (.int .i64 (D.calls : Int)) := cell_of_row w b 3 _ _ _ hb
  have h4 : w.cell? ⟨b, 4, none⟩ = some (.bool D.failing) := cell_of_row w b 4 _ _ _ hb
  have h5 : w.cell? ⟨b, 5, none⟩ = some (.int .i64 (D.left : Int)) := cell_of_row w b 5 _ _ _ hb
  have f3 : w.frozen? ⟨b, 3, none⟩ = false := frozen_of_row w b 3 _ _ hb
  have f5 : w.frozen? ⟨b, 5, none⟩ = false := frozen_of_row w b 5 _ _ hb
  clear hb hc hy hp hn
  have hd1 := h.field { D with calls := D.calls + 1 } 3 (.int .i64 ((D.calls : Int) + 1)) (fun _ _ _ => rfl) rfl rfl rfl
  have hu1 := (Upd.refl (b :: (foot vc ++ foot vs ++ foot vp)) w).setCell (p := ⟨b, 3, none⟩) (by simp) (.int .i64 ((D.calls : Int) + 1))
  by_cases hf : D.failing = true
  · have hl0 : 0 < D.left := by
      rcases Nat.eq_zero_or_pos D.left with e | e
      · simp [DiskM.off, hf, e] at hoff
      · exact e
    rw [hf] at h4
    have hd2 := hd1.field D.count 5 (.int .i64 ((D.left : Int) - 1)) (fun _ _ _ => by simp only [DiskM.count, hf, cond_true]; have e : ((D.left - 1 : Nat) : Int) = (D.left : Int) - 1 := by omega
                                                                                      rw [e]; rfl) rfl rfl rfl
    have hu2 := hu1.setCell (p := ⟨b, 5, none⟩) (by simp) (.int .i64 ((D.left : Int) - 1))
    have H2 := Lib.hid hd2
    have U2 := Lib.hid hu2
    clear hd1 hd2 hu1 hu2 hf hoff h
    generalize hcl : D.calls = cl at *
    generalize hlf : D.left = lf at *
    have K1 := Lib.hid hcl
    have K2 := Lib.hid hlf
    clear hcl hlf
    go_enter Try.func54, Try.ntmps54
    go_wp2
    go_end0
    exact ⟨rfl, H2.out, U2.out⟩
  · have hf : D.failing = false := by simpa using hf
    rw [hf] at h4
    have hE : ({ D with calls := D.calls + 1 } : DiskM) = D.count := by simp [DiskM.count, hf]
    rw [hE] at hd1
    have H2 := Lib.hid hd1
    have U2 := Lib.hid hu1
    clear hd1 hu1 hf hoff h hE
    generalize hcl : D.calls = cl at *
    have K1 := Lib.hid hcl
    clear hcl
    go_enter Try.func54, Try.ntmps54
    go_wp2
    go_end0
    exact ⟨rfl, H2.out, U2.out⟩
end Go.Proofs.Ytbpbmigdfjnneaa
