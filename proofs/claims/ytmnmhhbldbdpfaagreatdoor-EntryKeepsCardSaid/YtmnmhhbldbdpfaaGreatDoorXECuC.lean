/- The cursor of the reference of receipts: hash. -/
import Derived.Test.YtmnmhhbldbdpfaaGreatDoorXECuB
import Derived.Test.YtmnmhhbldbdpfaaGreatDoorGF
namespace Go.Proofs.YtmnmhhbldbdpfaaGreatDoor
open Go.RowKit
set_option maxRecDepth 100000

/-- What 'hash' gives. -/
def cuHsh (s : ByteArray) (a : Nat) (bad : Bool) (h : List UInt8) (a' : Nat) (bad' : Bool) : Prop :=
  (bad' = false → bad = false ∧ (bs s).drop a = hexL h ++ 32 :: (bs s).drop a') ∧ (∀ k R, k.length = 32 → (bs s).drop a = hexL k ++ 32 :: R → h = k ∧ (bs s).drop a' = R ∧ bad' = bad)
def MkCuH (g : Nat) (s : ByteArray) (a : Nat) (bad : Bool) (w : World) (e : Ending) (w' : World) : Prop :=
  ∃ (h : List UInt8) (a' : Nat) (bad' : Bool), Hid (cuHsh s a bad h a' bad') ∧ h.length = 32 ∧ a ≤ a' ∧ a' ≤ s.size ∧ e = .returned (.agg (byteVals h).toArray) ∧ Hid (CuAt w' g s a' bad') ∧ Upd [g] [] w w'
theorem cuHsh_ok {s l : ByteArray} {a a' : Nat} {bad b : Bool} {h : List UInt8} (hr : cuRel 32 s a bad l a' b) (ho : hexOk (bs l) h true) : cuHsh s a bad h a' b := by
  have e := ho.2.1 rfl
  rcases hr with ⟨h1, h2, h3, h4⟩ | ⟨h1, h2, h3⟩
  · exact ⟨fun h => (by rw [h4] at h; cases h), fun k R _ hk => (not_mem_drop h1 hk).elim⟩
  · refine ⟨fun hb => ⟨h3.symm.trans hb, by rw [← e]; exact h1⟩, fun k R hk he => ?_⟩
    obtain ⟨q1, q2⟩ := split32 h2 (hexL_no32 k) (h1.symm.trans he)
    exact ⟨hexL_inj (e.symm.trans q1), q2, h3⟩
theorem cuHsh_bad {s l : ByteArray} {a a' : Nat} {bad b : Bool} {h : List UInt8} (hr : cuRel 32 s a bad l a' b) (ho : hexOk (bs l) h false) : cuHsh s a bad h a' true := by
  refine ⟨(fun h => by cases h), fun k R hk he => ?_⟩
  rcases hr with ⟨h1, _⟩ | ⟨h1, h2, h3⟩
  · exact (not_mem_drop h1 he).elim
  · obtain ⟨q1, q2⟩ := split32 h2 (hexL_no32 k) (h1.symm.trans he)
    exact absurd q1 ((ho.2.2 rfl).2 k hk)
theorem CuAt.other {w : World} {g L j : Nat} {s : ByteArray} {a : Nat} {bad : Bool} (h : CuAt w g s a bad) (n : g ≠ L) (v : Value) : CuAt (w.setCell ⟨L, j, none⟩ v) g s a bad := row_otherE h n v

set_option maxHeartbeats 1000000 in
theorem cuHash_any (g : Nat) (s : ByteArray) (a : Nat) (bad : Bool) (w : World) (hc : CuAt w g s a bad) (ha : a ≤ s.size) (hs : s.size ≤ 4000000000) :
    Calls Tryz.prog 52 #[.pointer (some ⟨g, 0, none⟩)] w (MkCuH g s a bad w) := by
  have a0 : AB 24 (w.alloc (.cells (byteVals zero32).toArray 24)) w.heap.size zero32 := heap_alloc_new _ _
  have u0 : Upd [] [] w (w.alloc (.cells (byteVals zero32).toArray 24)) := (Upd.refl _ _).alloc _
  have r0 := hc.upd u0
  have hgw : g < w.heap.size := (Array.getElem?_eq_some_iff.1 hc).1
  have hz : zero32.length = 32 := by simp [zero32]
  have HZ := Lib.hid hz
  clear hz
  go_enter Tryz.func52, Tryz.ntmps52
  go_wp2_with fail
  refine (cuUntil_any g s a bad 32 _ r0 ha hs).mono ?_
  rintro e w1 ⟨l, a', b, HR, haa, has, hls, rfl, HC, hu⟩
  have HU := Lib.hid (u0.first2 hu)
  have a1 : AB 24 w1 w.heap.size zero32 := row_updG a0 hu (by omega)
  clear hc r0 hu a0 u0
  go_wp2_with fail
  refine (rhexRead_any l w1).mono ?_
  rintro e w2 ⟨h, ok, HO, rfl, hu2⟩
  have hh := HO.out.1
  have HL := Lib.hid hh
  have r2 := HC.out.upd hu2
  have a2 := a1.upd hu2
  have HU2 := Lib.hid (HU.out.then2 hu2)
  have hg3 : w.heap.size < w2.heap.size := (Array.getElem?_eq_some_iff.1 a2).1
  have z2 : Hid (AB 24 (w2.alloc (.cells (byteVals zero32).toArray 24)) w2.heap.size zero32) := heap_alloc_new _ _
  have u3 : Upd [] [] w2 ((w2.alloc (.cells (byteVals zero32).toArray 24)).setRow w2.heap.size (byteVals h).toArray) := ((Upd.refl _ _).alloc _).setRowNew (Nat.le_refl _) _
  have b3 := z2.out.setRow h
  obtain ⟨w3, hw3⟩ : ∃ w3, (w2.alloc (.cells (byteVals zero32).toArray 24)).setRow w2.heap.size (byteVals h).toArray = w3 := ⟨_, rfl⟩
  rw [hw3] at u3 b3
  have HW3 := Lib.hid hw3
  have r3 := r2.upd u3
  have a3 := a2.upd u3
  have HU3 := Lib.hid (HU2.out.then2 u3)
  obtain ⟨k0, k1, k2, f1, f2⟩ := r3.cells
  have n0 : g ≠ w.heap.size := by omega
  have n1 : w.heap.size ≠ g := by omega
  have n3 : w2.heap.size ≠ g := by omega
  clear hw3
  clear hu2 a1 a2 r2 u3 hh
  cases ok
  · have HF := Lib.hid (cuHsh_bad HR.out HO.out)
    go_wp2_with (first | (refine wpList_store_rowAs rfl 24 _ _ rfl w2.heap.size (byteVals h).toArray rfl rfl _ _ z2.out (hashInfo HL.out) (by simp [byteVals, HL.out, HZ.out]) (hashOne _) w3 HW3.out ?_) | (refine wpList_load_row rfl 24 _ rfl w2.heap.size rfl _ (byteVals h).toArray _ _ (AB.other b3 n3 _) Tryz.underlying24 rfl (hashInfo HL.out) ?_) | (refine wpList_store_row rfl 24 _ _ rfl w.heap.size (byteVals h).toArray rfl rfl _ _ (AB.other a3 n1 _) (hashInfo HL.out) (by simp [byteVals, HL.out, HZ.out]) (hashOne _) ?_))
    refine bodyPost_ret (results_cell_row rfl _ _ w.heap.size _ (byteVals h).toArray _ _ rfl ((AB.other a3 n1 _).setRow h) Tryz.underlying24 rfl (hashInfo HL.out)) rfl ⟨h, a', true, HF, HL.out, haa, has, rfl, row_setRowO (r3.setB _) n0 _, (HU3.out.setOld 2 _).setRowNew (Nat.le_refl _) _⟩
  · have HF := Lib.hid (cuHsh_ok HR.out HO.out)
    go_wp2_with (first | (refine wpList_store_rowAs rfl 24 _ _ rfl w2.heap.size (byteVals h).toArray rfl rfl _ _ z2.out (hashInfo HL.out) (by simp [byteVals, HL.out, HZ.out]) (hashOne _) w3 HW3.out ?_) | (refine wpList_load_row rfl 24 _ rfl w2.heap.size rfl _ (byteVals h).toArray _ _ b3 Tryz.underlying24 rfl (hashInfo HL.out) ?_) | (refine wpList_store_row rfl 24 _ _ rfl w.heap.size (byteVals h).toArray rfl rfl _ _ a3 (hashInfo HL.out) (by simp [byteVals, HL.out, HZ.out]) (hashOne _) ?_))
    refine bodyPost_ret (results_cell_row rfl _ _ w.heap.size _ (byteVals h).toArray _ _ rfl (a3.setRow h) Tryz.underlying24 rfl (hashInfo HL.out)) rfl ⟨h, a', b, HF, HL.out, haa, has, rfl, row_setRowO r3 n0 _, HU3.out.setRowNew (Nat.le_refl _) _⟩
end Go.Proofs.YtmnmhhbldbdpfaaGreatDoor
