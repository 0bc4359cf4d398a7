/- kiosk.Last and Batch of a kiosk that is nil or zero; kiosk.Open with arguments that do not do, and of a disk whose power is off. -/
import Derived.Test.YtabnlklkfgojgaaGreatDoorGL
namespace Go.Proofs.YtabnlklkfgojgaaGreatDoor
open Go.RowKit
set_option maxRecDepth 100000

section
variable {wp : World}
theorem last_new (wp : World) : ∃ w1, wp.alloc (.cells Tryz.zeroCells37 37) = w1 ∧ Upd [] [] wp w1 ∧ w1.heap[wp.heap.size]? = some (.cells Tryz.zeroCells37 37 (0, 0)) := ⟨_, rfl, (Upd.refl _ _).alloc _, heap_alloc_new _ _⟩
set_option maxHeartbeats 2000000 in
theorem Last_shut (q : Value) (hq : ∀ w1 : World, Upd [] [] wp w1 → Calls Tryz.prog 32 #[q] w1 (Ret (.bool false) w1)) : Calls Tryz.prog 18 #[q] wp (MkLast [] wp) := by
  obtain ⟨w1, hw1, u1, hz⟩ := last_new wp
  have hO := Lib.hid (hq _ u1)
  obtain ⟨R, hR⟩ : ∃ R, R = (rcV Rc.zero).toArray := ⟨_, rfl⟩
  obtain ⟨HRI, HRO, HRZ⟩ := rcLet Rc.zero_ok R hR
  have HRE := Lib.hid hR
  have HW1 := Lib.hid hw1
  have HZ := Lib.hid hz
  have HU := Lib.hid u1
  clear hw1 u1 hz hq hR
  go_enter Tryz.func18, Tryz.ntmps18
  go_upto_region 1 with (fail)
  rw [HW1.out]
  go_wp2_with (first | (go_at_call 32; ((with_reducible refine hO.out.mono ?_); rintro e w' ⟨rfl, rfl⟩)) | (refine wpList_buildTo rfl 37 _ rfl _ rfl R (Eq.trans (show Tryz.prog.built 37 _ = some (rcV Rc.zero).toArray by kernel_rfl) (by rw [HRE.out])) ?_) | (refine wpList_store_row rfl 37 _ _ rfl wp.heap.size R rfl rfl _ _ HZ.out HRI.out HRZ.out HRO.out ?_))
  refine bodyPost_ret (results_row_tmp rfl _ _ wp.heap.size _ R _ _ rfl (setRow_heap _ _ _ R _ _ HZ.out) Tryz.underlying37 rfl HRI.out) rfl ⟨?_, HU.out.setRowNew (Nat.le_refl _) _⟩
  rw [HRE.out]
  rfl
set_option maxHeartbeats 2000000 in
theorem Batch_shut (q : Value) (hq : ∀ w1 : World, Upd [] [] wp w1 → Calls Tryz.prog 32 #[q] w1 (Ret (.bool false) w1)) (fr : Int) : Calls Tryz.prog 17 #[q, .int .i64 fr] wp (MkBat 0 [] wp) := by
  obtain ⟨w1, hw1, u1, hz⟩ := bat_new wp
  have hO := Lib.hid (hq _ u1)
  have HW1 := Lib.hid hw1
  have HZ := Lib.hid hz
  have HU := Lib.hid u1
  have BI : Hid ((Tryz.prog.info? 50).map (·.size) = some 2) := by show _ = _; kernel_rfl
  clear hw1 u1 hz hq
  go_enter Tryz.func17, Tryz.ntmps17
  go_upto_region 1 with (fail)
  rw [HW1.out]
  go_wp2_with (first | (go_at_call 32; ((with_reducible refine hO.out.mono ?_); rintro e w' ⟨rfl, rfl⟩)) | (refine wpList_store_row rfl 50 _ _ rfl wp.heap.size #[.int .i64 0, .slice none 0 0] rfl rfl _ _ HZ.out BI.out rfl (by simp [Value.oneCell']) ?_))
  refine bodyPost_ret (results_cell_row rfl _ _ wp.heap.size _ #[.int .i64 0, .slice none 0 0] _ _ rfl (setRow_heap _ _ _ _ _ _ HZ.out) Tryz.underlying50 rfl BI.out) rfl ⟨none, 0, fun k x hx => by simp at hx, Nat.zero_le _, rfl, HU.out.setRowNew (Nat.le_refl _) _⟩
theorem OpenArg_nil (id sec p : Int) : Calls Tryz.prog 10 #[.int .i64 id, .int .i64 sec, .int .i64 p, .pointer none] wp (Ret (.tuple #[.pointer none, .int .i64 1]) wp) := by
  go_enter Tryz.func10, Tryz.ntmps10
  go_wp2_with fail
  go_ret2
  exact ⟨rfl, rfl⟩
theorem OpenArg_paper (id sec p : Int) (b : Nat) (hp : ¬ (0 ≤ p ∧ p ≤ 1000000000)) : Calls Tryz.prog 10 #[.int .i64 id, .int .i64 sec, .int .i64 p, .pointer (some ⟨b, 0, none⟩)] wp (Ret (.tuple #[.pointer none, .int .i64 1]) wp) := by
  by_cases h0 : p < 0
  · clear hp
    go_enter Tryz.func10, Tryz.ntmps10
    go_wp2_with fail
    go_ret2
    exact ⟨rfl, rfl⟩
  · have h1 : 1000000000 < p := by omega
    clear hp
    go_enter Tryz.func10, Tryz.ntmps10
    go_wp2_with fail
    go_ret2
    exact ⟨rfl, rfl⟩
/-- A disk whose power is off is not opened. -/
def OpenNo (b : Nat) (D : DiskM) (S : List Nat) (w : World) (e : Ending) (w' : World) : Prop := ∃ S', e = .returned (.tuple #[.pointer none, .int .i64 70]) ∧ DiskAt w' b D S' ∧ Upd S S' w w'
theorem OpenK_off (id sec p : Int) (b : Nat) (D : DiskM) (S : List Nat) (hp : 0 ≤ p) (hp2 : p ≤ 1000000000) (h : DiskAt wp b D S) (hok : D.ok) (hc : D.calls < 65536) (hoff : D.off = true) :
    Calls Tryz.prog 10 #[.int .i64 id, .int .i64 sec, .int .i64 p, .pointer (some ⟨b, 0, none⟩)] wp (OpenNo b D S wp) := by
  have HO := Lib.hid (Open_off b D S wp h hok hc hoff)
  clear h hok hc hoff
  go_enter Tryz.func10, Tryz.ntmps10
  go_wp2_with fail
  refine HO.out.mono ?_
  rintro e w2 ⟨S2, rfl, hd2, hu2⟩
  have HD := Lib.hid hd2
  have HU := Lib.hid hu2
  clear hd2 hu2 HO
  go_wp2_with fail
  go_ret2
  exact ⟨S2, rfl, HD.out, HU.out⟩
end
end Go.Proofs.YtabnlklkfgojgaaGreatDoor
