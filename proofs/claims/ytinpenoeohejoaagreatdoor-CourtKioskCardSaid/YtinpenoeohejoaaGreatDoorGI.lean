/- The contracts of write and Append. The contract of Append: the walk. Journals on disks: bundles for the laws of layer 25. A kiosk in its blocks. kiosk: isName, isOpen, takes, refuses. kiosk.keep: a record is appended, the power perhaps failing. A slice literal in a region that draws. Loads, stores and copies of receipts and hashes. -/
import Derived.Test.YtinpenoeohejoaaGreatDoorGH
import Derived.Test.YtinpenoeohejoaaGreatDoorGF
import Derived.Test.YtinpenoeohejoaaGreatDoorGE
import Derived.Deep.Upon
namespace Go.Proofs.YtinpenoeohejoaaGreatDoor
open Go.RowKit
set_option maxRecDepth 100000

def WritePost (b : Nat) (D : DiskM) (S : List Nat) (w : World) (ok : Bool) (e : Ending) (w' : World) : Prop := ∃ S', e = .returned (.bool ok) ∧ DiskAt w' b D S' ∧ Upd S S' w w'

set_option maxHeartbeats 1000000 in
theorem jwrite_any (jb b : Nat) (M : JM) (D : DiskM) (S : List Nat) (off : Nat) (s : ByteArray) (w : World) (ok : Bool) (D' : DiskM) (hj : JAt w jb b M) (h : DiskAt w b D S) (hjS : jb ∉ S) (hok : D.ok) (hc : D.calls + 2 ≤ 65536) (ho : off + s.size ≤ 16777216)
    (hr : jwrite D off (bs s) = (D', ok)) :
    Calls Tryz.prog 110 #[.pointer (some ⟨jb, 0, none⟩), .int .i64 (off : Int), .string s] w (WritePost b D' S w ok) := by
  have c0 := hj.c0
  unfold jwrite at hr
  by_cases h1 : D.off = true
  · rw [if_pos h1] at hr
    obtain ⟨rfl, rfl⟩ := Prod.mk.inj hr
    have HW := Lib.hid (Write_off b D S (off : Int) s w h h1 (by omega) (by omega))
    clear hr hj
    go_enter Tryz.func110, Tryz.ntmps110
    go_wp2_with fail
    refine HW.out.mono ?_
    rintro e w' ⟨rfl, rfl⟩
    go_wp2_with fail
    go_ret
    exact ⟨S, rfl, h, Upd.refl _ _⟩
  · rw [if_neg h1] at hr
    have h1' : D.off = false := by simpa using h1
    have HW := Lib.hid (Write_ok b D S off s w h hok (by omega) h1' ho)
    have ok1 : (D.wrote off (bs s)).count.ok := hok.write off (bs s) (by rw [bs_length]; exact ho) (by omega)
    by_cases h2 : (D.wrote off (bs s)).count.off = true
    · rw [if_pos h2] at hr
      obtain ⟨rfl, rfl⟩ := Prod.mk.inj hr
      clear hr h1 h1'
      have H2 := Lib.hid h2
      clear h2
      go_enter Tryz.func110, Tryz.ntmps110
      go_wp2_with fail
      refine HW.out.mono ?_
      rintro e w1 ⟨S1, rfl, hd1, hu1⟩
      have c1 : w1.cell? ⟨jb, 0, none⟩ = some (.pointer (some ⟨b, 0, none⟩)) := (hj.kept hu1 hjS).c0
      go_wp2_with fail
      refine (Sync_off b _ S1 w1 hd1 H2.out).mono ?_
      rintro e w' ⟨rfl, rfl⟩
      go_wp2_with fail
      go_ret
      exact ⟨S1, rfl, hd1, hu1⟩
    · rw [if_neg h2] at hr
      have h2' : (D.wrote off (bs s)).count.off = false := by simpa using h2
      obtain ⟨rfl, rfl⟩ := Prod.mk.inj hr
      clear hr h1 h1' h2
      have H2 := Lib.hid h2'
      clear h2'
      go_enter Tryz.func110, Tryz.ntmps110
      go_wp2_with fail
      refine HW.out.mono ?_
      rintro e w1 ⟨S1, rfl, hd1, hu1⟩
      have c1 : w1.cell? ⟨jb, 0, none⟩ = some (.pointer (some ⟨b, 0, none⟩)) := (hj.kept hu1 hjS).c0
      go_wp2_with fail
      refine (Sync_ok b _ S1 w1 hd1 ok1 (by show D.calls + 1 < _; omega) H2.out).mono ?_
      rintro e w2 ⟨S2, rfl, hd2, hu2⟩
      go_wp2_with fail
      go_ret
      exact ⟨S2, rfl, hd2, hu1.trans hu2⟩

theorem append1_d (B jb b : Nat) (M : JM) (x : Int) (u : FrameMode) (w : World) (hb : w.cell? ⟨B, 0, none⟩ = some (.pointer (some ⟨jb, 0, none⟩))) (he : w.cell? ⟨B + 1, 0, none⟩ = some (.int .i64 x)) (hj : JAt w jb b M) :
    CallsD Tryz.prog 108 #[.pointer (some ⟨B + 1, 0, none⟩), .pointer (some ⟨B, 0, none⟩)] u w fun e u' w' => u' = u ∧ (e = .returned (.tuple #[]) ∧ w' = w.setCell ⟨jb, 4, none⟩ (.bool (x == 70))) := by
  have c4 := hj.c4
  have f4 := hj.free 4
  clear hj
  go_enter_d Tryz.func108, Tryz.ntmps108
  go_wp2
  go_end0
  exact ⟨rfl, rfl⟩

theorem app_ret (tmps : Array Value) (w : World) (B : Nat) (x : Int) (h : w.cell? ⟨B, 0, none⟩ = some (.int .i64 x)) (h4 : tmps[4]?.getD undef = .pointer (some ⟨B, 0, none⟩)) :
    (results Tryz.f59 tmps).run Tryz.prog w = .ok (.int .i64 x) w := by
  simp [results, Tryz.results59, go_sem, h4, h]

theorem app_new (w : World) (p : Value) : ((w.alloc (.cells #[p] 92)).alloc (.cells #[.int .i64 0] 30)).heap[w.heap.size]? = some (.cells #[p] 92 (0, 0)) ∧
    ((w.alloc (.cells #[p] 92)).alloc (.cells #[.int .i64 0] 30)).heap[w.heap.size + 1]? = some (.cells #[.int .i64 0] 30 (0, 0)) := by
  refine ⟨?_, ?_⟩
  · rw [Below.heap_alloc _ _ _ (by simp)]; exact heap_alloc_new _ _
  · have := heap_alloc_new (w.alloc (.cells #[p] 92)) (.cells #[.int .i64 0] 30)
    simpa using this

theorem jwrite_int (jb b : Nat) (M : JM) (D : DiskM) (S : List Nat) (o : Int) (off : Nat) (s : ByteArray) (w : World) (ok : Bool) (D' : DiskM) (hj : JAt w jb b M) (h : DiskAt w b D S) (hjS : jb ∉ S) (hok : D.ok) (hc : D.calls + 2 ≤ 65536) (ho : off + s.size ≤ 16777216)
    (hr : jwrite D off (bs s) = (D', ok)) (hoo : o = (off : Int)) :
    Calls Tryz.prog 110 #[.pointer (some ⟨jb, 0, none⟩), .int .i64 o, .string s] w (WritePost b D' S w ok) := by
  subst hoo; exact jwrite_any jb b M D S off s w ok D' hj h hjS hok hc ho hr
theorem number_int (n : Int) (m : Nat) (w : World) (hn : n = (m : Int)) (hm : m ≤ 1099511627776) : Calls Tryz.prog 109 #[.int .i64 n] w
    (fun e w' => ∃ r : ByteArray, Hid (bs r = numL m) ∧ e = .returned (.string r) ∧ Upd [] [] w w') := by
  subst hn; exact jNumber_any m w hm

def AppPost (jb b : Nat) (M : JM) (D : DiskM) (F r : List UInt8) (S : List Nat) (w : World) (e : Ending) (w' : World) : Prop :=
  ∃ S', jb ∉ S' ∧ DiskAt w' b (appendD D F r).1 S' ∧ Upd (jb :: S) (jb :: S') w w' ∧
    (((appendD D F r).2 = true ∧ e = .returned (.int .i64 0) ∧ JAt w' jb b ⟨M.fin + (8 + r.length), M.many + 1, M.space + r.length + 16, false⟩) ∨
     ((appendD D F r).2 = false ∧ e = .returned (.int .i64 70) ∧ JAt w' jb b ⟨M.fin, M.many, M.space, true⟩))

theorem app_failed {w w1 : World} {jb b : Nat} {M : JM} {D D1 : DiskM} {F r : List UInt8} {S S1 : List Nat} (hjl : jb < w.heap.size) (hj : JAt w1 jb b M) (hjS : jb ∉ S1) (hd : DiskAt w1 b D1 S1) (hSl : ∀ k, k ∈ S1 → k ≠ w.heap.size + 1)
    (hu : Upd S S1 w w1) (ha : appendD D F r = (D1, false)) (n : Nat) :
    AppPost jb b M D F r S w (.returned (.int .i64 70)) (((w1.setCell ⟨w.heap.size + 1, 0, none⟩ (.int .i64 70)).drewN n).setCell ⟨jb, 4, none⟩ (.bool true)) := by
  have hjb : (w1.setCell ⟨w.heap.size + 1, 0, none⟩ (.int .i64 70)).heap[jb]? = w1.heap[jb]? := heap_setCell_other _ _ _ _ (by simp; omega)
  refine ⟨S1, hjS, ?_, ?_, .inr ⟨by rw [ha], rfl, ?_⟩⟩
  · rw [ha]
    refine hd.same (fun k hk => ?_)
    rw [heap_setCell_other _ _ _ _ (fun (e : k = jb) => hjS (e ▸ hk))]
    exact heap_setCell_other _ _ _ _ (by simpa using hSl k hk)
  · have h1 : Upd S S1 w ((w1.setCell ⟨w.heap.size + 1, 0, none⟩ (.int .i64 70)).drewN n) := (hu.setNew (p := ⟨w.heap.size + 1, 0, none⟩) (by simp) _).drewN n
    refine Upd.setCell (h1.mono (fun k hk => by simp [hk]) (fun k hk => ?_)) (by simp) _
    simp only [List.mem_cons] at hk ⊢
    rcases hk with h | h
    · exact .inr (.inl h)
    · exact .inl h
  · have : JAt ((w1.setCell ⟨w.heap.size + 1, 0, none⟩ (.int .i64 70)).drewN n) jb b M := hj.same hjb
    exact this.set ⟨M.fin, M.many, M.space, true⟩ 4 (.bool true) rfl

theorem app_mid {w wA w2 : World} {jb b : Nat} {M : JM} {S S2 : List Nat} (hl : jb < w.heap.size) (hS : ∀ k, k ∈ S → k < w.heap.size ∨ w.heap.size + 1 < k) (hjS : jb ∉ S) (hj : JAt wA jb b M)
    (hb : Hid (wA.heap[w.heap.size]? = some (.cells #[.pointer (some ⟨jb, 0, none⟩)] 92 (0, 0)))) (he : Hid (wA.heap[w.heap.size + 1]? = some (.cells #[.int .i64 0] 30 (0, 0)))) (hu : Upd S S2 wA w2) :
    JAt w2 jb b M ∧ Hid (w2.heap[w.heap.size]? = some (.cells #[.pointer (some ⟨jb, 0, none⟩)] 92 (0, 0))) ∧ Hid (w2.heap[w.heap.size + 1]? = some (.cells #[.int .i64 0] 30 (0, 0))) ∧
      jb ∉ S2 ∧ (∀ k, k ∈ S2 → k < w.heap.size ∨ w.heap.size + 1 < k) ∧ (w2.cell? ⟨w.heap.size, 0, none⟩ = some (.pointer (some ⟨jb, 0, none⟩)) ∧ w2.cell? ⟨jb, 1, none⟩ = some (.int .i64 (M.fin : Int))) := by
  have h1 := blk_lt hb.out
  have h2 := blk_lt he.out
  have hj2 := hj.kept hu hjS
  have hb2 := (hu.block _ h1 (fun m => by have := hS _ m; omega)).trans hb.out
  refine ⟨hj2, hb2, (hu.block _ h2 (fun m => by have := hS _ m; omega)).trans he.out, fun m => ?_, fun k hk => ?_, cell_of_row _ _ 0 _ _ _ hb2, hj2.c1⟩
  · rcases hu.new _ m with g | g
    · exact hjS g
    · omega
  · rcases hu.new _ hk with g | g
    · exact hS k g
    · omega
theorem app_mid2 {w wA w2 : World} {jb b : Nat} {M : JM} (hj : JAt wA jb b M)
    (hb : Hid (wA.heap[w.heap.size]? = some (.cells #[.pointer (some ⟨jb, 0, none⟩)] 92 (0, 0)))) (he : Hid (wA.heap[w.heap.size + 1]? = some (.cells #[.int .i64 0] 30 (0, 0)))) (hu : Upd [] [] wA w2) :
    JAt w2 jb b M ∧ Hid (w2.heap[w.heap.size]? = some (.cells #[.pointer (some ⟨jb, 0, none⟩)] 92 (0, 0))) ∧ Hid (w2.heap[w.heap.size + 1]? = some (.cells #[.int .i64 0] 30 (0, 0))) ∧
      (w2.cell? ⟨w.heap.size, 0, none⟩ = some (.pointer (some ⟨jb, 0, none⟩)) ∧ w2.cell? ⟨jb, 1, none⟩ = some (.int .i64 (M.fin : Int))) := by
  have hj2 := hj.kept hu (by simp)
  have hb2 := (hu.block _ (blk_lt hb.out) (by simp)).trans hb.out
  exact ⟨hj2, hb2, (hu.block _ (blk_lt he.out) (by simp)).trans he.out, cell_of_row _ _ 0 _ _ _ hb2, hj2.c1⟩
end Go.Proofs.YtinpenoeohejoaaGreatDoor

namespace Go.Proofs.YtinpenoeohejoaaGreatDoor
open Go.RowKit
set_option maxRecDepth 100000

set_option maxHeartbeats 4000000 in
theorem Append_go (jb b : Nat) (M : JM) (D : DiskM) (F : List UInt8) (S : List Nat) (r : ByteArray) (w : World) (hj : JAt w jb b M) (h : DiskAt w b D S) (hjS : jb ∉ S) (hok : D.ok) (hc : D.calls + 4 ≤ 65536) (hb : M.broken = false) (hF : M.fin = F.length)
    (hsp : M.space + r.size + 16 + 256 ≤ 16777216) (hfs : M.fin ≤ M.space) (hmany : M.many ≤ 16777216) :
    Calls Tryz.prog 59 #[.pointer (some ⟨jb, 0, none⟩), .string r] w (AppPost jb b M D F (bs r) S w) := by
  have hl := hj.lt
  have hlt := h.lt
  obtain ⟨n1, n2⟩ := app_new w (.pointer (some ⟨jb, 0, none⟩))
  have hj2 : JAt ((w.alloc (.cells #[.pointer (some ⟨jb, 0, none⟩)] 92)).alloc (.cells #[.int .i64 0] 30)) jb b M := hj.same (by rw [Below.heap_alloc _ _ _ (by simp; omega), Below.heap_alloc _ _ _ hl])
  have hd2 := (h.alloc (.cells #[.pointer (some ⟨jb, 0, none⟩)] 92)).alloc (.cells #[.int .i64 0] 30)
  have hu2 : Upd S S w ((w.alloc (.cells #[.pointer (some ⟨jb, 0, none⟩)] 92)).alloc (.cells #[.int .i64 0] 30)) := ((Upd.refl _ _).alloc _).alloc _
  go_enter_defers Tryz.func59, Tryz.ntmps59
  have c0 := hj2.c0
  have c1 := hj2.c1
  have c3 := hj2.c3
  have c4 := hj2.c4
  rw [hb] at c4
  have e1 : decide ((16777216 : Int) < (M.space : Int) + (r.size : Int) + 16 + 256) = false := decide_eq_false (by omega)
  have HF := Lib.hid hF
  have HB := Lib.hid hb
  have HJ2 := Lib.hid hj2
  have HD2 := Lib.hid hd2
  have HU2 := Lib.hid hu2
  have HN1 := Lib.hid n1
  have HN2 := Lib.hid n2
  have HLT := Lib.hid hlt
  clear hj hj2 hb hF hd2 hu2 n1 n2 h hlt
  go_wp2_with fail
  refine (number_int (r.size : Int) r.size _ rfl (by omega)).mono ?_
  rintro e w1 ⟨nm, hnm, rfl, hu1⟩
  have hj1 := HJ2.out.kept hu1 (by simp)
  have hd1 := HD2.out.kept hu1 (by simp)
  have hb1 := (hu1.block _ (blk_lt HN1.out) (by simp)).trans HN1.out
  have he1 := (hu1.block _ (blk_lt HN2.out) (by simp)).trans HN2.out
  have hu3 : Upd S S w w1 := HU2.out.trans (hu1.mono (fun k hk => by simp at hk) (fun k hk => .inr hk))
  clear hu1 HJ2 HD2 HU2 HN1 HN2 c0 c1 c3 c4 e1
  obtain ⟨fr, hfr⟩ : ∃ fr, fr = nm ++ r := ⟨_, rfl⟩
  have hfb : bs fr = frameL (bs r) := by rw [hfr, dBs_append, hnm.out, frameL, bs_length]
  have hfl : fr.size = 8 + r.size := by rw [← bs_length, hfb, frameL_length, bs_length]
  have cb := cell_of_row w1 _ 0 _ _ _ hb1
  have c1 := hj1.c1
  have hnl : nm.size = 8 := by rw [← bs_length, hnm.out, numL_length]
  have HFR := Lib.hid hfr
  have HNL := Lib.hid hnl
  have hnl2 : nm.size ≤ 8 := by omega
  have HFB := Lib.hid hfb
  have HFL := Lib.hid hfl
  have HB1 := Lib.hid hb1
  have HE1 := Lib.hid he1
  clear hfr hfb hfl hb1 he1 hnl
  go_wp2_with fail
  rw [← HFR.out]
  obtain ⟨En, hEn⟩ : ∃ En : Int, En = (M.fin : Int) + ((nm.size : Int) + (r.size : Int)) := ⟨_, rfl⟩
  rw [← hEn]
  have hEn2 : En = ((F.length + (8 + r.size) : Nat) : Int) := by rw [hEn, HNL.out, HF.out]; omega
  have hEn3 : En = ((M.fin + (8 + r.size) : Nat) : Int) := by rw [hEn, HNL.out]; omega
  have HEN := Lib.hid hEn2
  have HEN3 := Lib.hid hEn3
  have hfs2 : fr.size ≤ 8 + r.size := by have := HFL.out; omega
  clear hEn hEn2 hEn3
  have i1 : IntKind.i64.wrap (16 + (M.fin : Int)) = 16 + (M.fin : Int) := IntWalk.i64_in _ (by omega)
  obtain ⟨D1, ok1, hw1⟩ : ∃ D1 ok1, jwrite D (16 + M.fin) (bs fr) = (D1, ok1) := ⟨_, _, rfl⟩
  have hD1c : D1.calls ≤ D.calls + 2 := by have := (jwrite_calls D (16 + M.fin) (bs fr)).1; rw [hw1] at this; exact this
  have hD1o : D1.ok := by have := jwrite_ok hok (by omega) (16 + M.fin) (bs fr) (by rw [bs_length]; omega); rw [hw1] at this; exact this
  have hjA : JAt w1.drew jb b M := hj1.same rfl
  have hdA := hd1.drew
  have HW1 := Lib.hid hw1
  have hbl := blk_lt HB1.out
  have hel := blk_lt HE1.out
  clear hw1 hd1
  cases ok1 with
  | false =>
    refine wp_region_noPanic ?_
    (first | go_region_with (go_at_call 110; ((with_reducible refine (jwrite_int jb b M D S _ (16 + M.fin) fr _ false D1 hjA hdA hjS hok (by omega) (by omega) HW1.out (by omega)).mono ?_); rintro e w2 ⟨S2, rfl, hd2, hu2⟩)) | fail)
    all_goals
      refine NoPanic.normal ?_
      have hn2 : ∀ k, k ∈ S2 → k ≠ w.heap.size + 1 ∧ k ≠ w.heap.size ∧ k ≠ jb := fun k hk => by
        rcases hu2.new k hk with g | g
        · have := HLT.out k g
          exact ⟨by omega, by omega, fun e => hjS (e ▸ g)⟩
        · simp at g; exact ⟨by omega, by omega, by omega⟩
      have hwS : ∀ k, w.heap.size ≤ k → k ∉ S := fun k hk m => by have := HLT.out k m; omega
      have he2 := (hu2.block (w.heap.size + 1) (by simpa using hel) (hwS _ (by omega))).trans HE1.out
      have hb2 := (hu2.block w.heap.size (by simpa using hbl) (hwS _ (by omega))).trans HB1.out
      have hj2 := hjA.kept hu2 hjS
      have ce2 := cell_of_row w2 _ 0 _ _ _ he2
      have fe2 := frozen_of_row w2 _ 0 _ _ he2
      have hu4 : Upd S S2 w w2 := hu3.trans (Upd.trans (Upd.refl _ _).drew hu2)
      have HA : appendD D F (bs r) = (D1, false) := by unfold appendD; rw [← HF.out, ← HFB.out, HW1.out]; rfl
      have HFIN := Lib.hid (app_failed (M := M) (F := F) (r := bs r) hl hj2 (fun m => (hn2 _ m).2.2 rfl) hd2 (fun k hk => (hn2 k hk).1) hu4 HA 0)
      have HJ2 := Lib.hid hj2
      have HB2 := Lib.hid hb2
      have HE2 := Lib.hid he2
      clear hn2 hwS he2 hb2 hj2 hu4 HA i1 cb c1
      go_wp2_with fail
      refine leaves_cons (f := 108) (args := #[.pointer (some ⟨w.heap.size + 1, 0, none⟩), .pointer (some ⟨w.heap.size, 0, none⟩)]) (by simp) (by simp [go_sem]) ?_
      have hx1 : (w2.setCell ⟨w.heap.size + 1, 0, none⟩ (.int .i64 70)).heap[w.heap.size + 1]? = some (.cells #[.int .i64 70] 30 (0, 0)) := by rw [heap_setCell_same _ _ 0 _ _ _ HE2.out]; rfl
      have hx0 : (w2.setCell ⟨w.heap.size + 1, 0, none⟩ (.int .i64 70)).heap[w.heap.size]? = some (.cells #[.pointer (some ⟨jb, 0, none⟩)] 92 (0, 0)) := by rw [heap_setCell_other _ _ _ _ (by simp)]; exact HB2.out
      refine (append1_d w.heap.size jb b M 70 .returning _ (cell_of_row _ _ 0 _ _ _ hx0) (cell_of_row _ _ 0 _ _ _ hx1) (HJ2.out.same (heap_setCell_other _ _ _ _ (by simp; omega)))).mono ?_
      rintro e u' w'' ⟨rfl, rfl, rfl⟩
      exact ⟨_, app_ret _ _ (w.heap.size + 1) 70 (by
        rw [World.cell?_setCell_far _ _ _ _ (by simp; omega)]; exact cell_of_row _ _ 0 _ _ _ hx1) rfl, HFIN.out⟩
  | true =>
    obtain ⟨D2, ok2, hw2⟩ : ∃ D2 ok2, jwrite D1 0 (numL (F.length + (8 + r.size))) = (D2, ok2) := ⟨_, _, rfl⟩
    have HA : appendD D F (bs r) = (D2, ok2) := by unfold appendD; rw [← HF.out, ← HFB.out, HW1.out, if_pos rfl, HF.out, bs_length]; exact hw2
    have hW2 : ∀ nm2 : ByteArray, Hid (bs nm2 = numL (F.length + (8 + r.size))) → jwrite D1 0 (bs nm2) = (D2, ok2) ∧ 0 + nm2.size ≤ 16777216 := fun nm2 hh => by
      rw [hh.out]
      exact ⟨hw2, by rw [← bs_length, hh.out, numL_length]; omega⟩
    have HW2 := Lib.hid hW2
    clear hw2 hW2
    have kB : w1.drew.cell? ⟨w.heap.size, 0, none⟩ = some (.pointer (some ⟨jb, 0, none⟩)) ∧ w1.drew.cell? ⟨jb, 1, none⟩ = some (.int .i64 (M.fin : Int)) := ⟨cb, c1⟩
    have hbA : w1.drew.heap[w.heap.size]? = some (.cells #[.pointer (some ⟨jb, 0, none⟩)] 92 (0, 0)) := HB1.out
    have HBA := Lib.hid hbA
    have HEA : Hid (w1.drew.heap[w.heap.size + 1]? = some (.cells #[.int .i64 0] 30 (0, 0))) := HE1.out
    have hFl : F.length ≤ 16777216 := by rw [← HF.out]; omega
    clear hbA
    have hblA : w.heap.size < w1.drew.heap.size := by simpa using hbl
    have helA : w.heap.size + 1 < w1.drew.heap.size := by simpa using hel
    clear hbl hel hj1 HB1 HE1
    go_region_held3 (fun wp => wp.cell? ⟨w.heap.size, 0, none⟩ = some (.pointer (some ⟨jb, 0, none⟩)) ∧ wp.cell? ⟨jb, 1, none⟩ = some (.int .i64 (M.fin : Int))) (first | exact kB | assumption | go_keep)
      (first
        | (go_at_call 110; ((with_reducible refine (jwrite_int jb b M D S _ (16 + M.fin) fr _ true D1 hjA hdA hjS hok (by omega) (by omega) HW1.out (by omega)).mono ?_); rintro e w2 ⟨S2, rfl, hd2, hu2⟩; obtain ⟨hj2, HB2, HE2, hjS2, hS2, k2⟩ := app_mid hl (fun k hk => .inl (HLT.out k hk)) hjS hjA HBA HEA hu2; have HS2 := Lib.hid hS2; clear hS2))
        | (go_at_call 109; ((with_reducible refine (number_int En (F.length + (8 + r.size)) _ HEN.out (by omega)).mono ?_); rintro e w3 ⟨nm2, hnm2, rfl, hu3'⟩; obtain ⟨hj3, HB3, HE3, k3⟩ := app_mid2 hj2 HB2 HE2 hu3'; have hd3 := hd2.kept hu3' (by simp)))
        | (go_at_call 110; ((with_reducible refine (jwrite_int jb b M D1 S2 0 0 nm2 _ ok2 D2 hj3 hd3 hjS2 hD1o (by omega) (HW2.out nm2 hnm2).2 (HW2.out nm2 hnm2).1 rfl).mono ?_); rintro e w4 ⟨S4, rfl, hd4, hu4⟩; obtain ⟨hj4, HB4, HE4, hjS4, hS4, k4⟩ := app_mid hl HS2.out hjS2 hj3 HB3 HE3 hu4; have HS4 := Lib.hid hS4; clear hS4)))
    have huT : Upd S S4 w w4 := hu3.trans (Upd.trans (Upd.refl _ _).drew (hu2.trans ((hu3'.mono (fun k hk => by simp at hk) (fun k hk => .inr hk)).trans hu4)))
    have ce4 := cell_of_row w4 _ 0 _ _ _ HE4.out
    have fe4 := frozen_of_row w4 _ 0 _ _ HE4.out
    have cj4 := hj4.c1
    have fj4 := hj4.free 1
    have hel4 := blk_lt HE4.out
    clear hu2 hu3' hu4 hu3 hj2 hj3 HB2 HE2 HB3 HE3 hd2 hd3 k2 k3 HBA HEA hjA hdA kB cb c1 i1
    cases ok2 with
    | false =>
      have HFIN := Lib.hid (app_failed (M := M) (F := F) (r := bs r) hl hj4 hjS4 hd4 (fun k hk => by have := HS4.out k hk; omega) huT HA 0)
      have HJ4 := Lib.hid hj4
      clear hj4 hd4 HA huT
      go_wp2_with fail
      refine leaves_cons (f := 108) (args := #[.pointer (some ⟨w.heap.size + 1, 0, none⟩), .pointer (some ⟨w.heap.size, 0, none⟩)]) (by simp) (by simp [go_sem]) ?_
      have hx1 : (w4.setCell ⟨w.heap.size + 1, 0, none⟩ (.int .i64 70)).heap[w.heap.size + 1]? = some (.cells #[.int .i64 70] 30 (0, 0)) := by rw [heap_setCell_same _ _ 0 _ _ _ HE4.out]; rfl
      have hx0 : (w4.setCell ⟨w.heap.size + 1, 0, none⟩ (.int .i64 70)).heap[w.heap.size]? = some (.cells #[.pointer (some ⟨jb, 0, none⟩)] 92 (0, 0)) := by rw [heap_setCell_other _ _ _ _ (by simp)]; exact HB4.out
      refine (append1_d w.heap.size jb b M 70 .returning _ (cell_of_row _ _ 0 _ _ _ hx0) (cell_of_row _ _ 0 _ _ _ hx1) (HJ4.out.same (heap_setCell_other _ _ _ _ (by simp; omega)))).mono ?_
      rintro e u' w'' ⟨rfl, rfl, rfl⟩
      exact ⟨_, app_ret _ _ (w.heap.size + 1) 70 (by
        rw [World.cell?_setCell_far _ _ _ _ (by simp; omega)]; exact cell_of_row _ _ 0 _ _ _ hx1) rfl, HFIN.out⟩
    | true =>
      have hj5 := hj4.set { M with fin := M.fin + (8 + r.size) } 1 (.int .i64 En) (by rw [HEN3.out]; rfl)
      have hk5 : ∀ k, k ≠ jb → (w4.setCell ⟨jb, 1, none⟩ (.int .i64 En)).heap[k]? = w4.heap[k]? := fun k hk => heap_setCell_other _ _ _ _ (by simpa using hk)
      have hb5 := (hk5 w.heap.size (by omega)).trans HB4.out
      have he5 := (hk5 (w.heap.size + 1) (by omega)).trans HE4.out
      have hd5 := hd4.same (fun k hk => hk5 k (fun e => hjS4 (e ▸ hk)))
      have huT5 : Upd (jb :: S) (jb :: S4) w (w4.setCell ⟨jb, 1, none⟩ (.int .i64 En)) := (huT.mono (fun k hk => by simp [hk]) (fun k hk => by
        simp only [List.mem_cons] at hk ⊢
        rcases hk with h | h
        · exact .inr (.inl h)
        · exact .inl h)).setCell (by simp) _
      have cb5 := cell_of_row (w4.setCell ⟨jb, 1, none⟩ (.int .i64 En)) _ 0 _ _ _ hb5
      have cb4 := cell_of_row w4 _ 0 _ _ _ HB4.out
      have HB5 := Lib.hid hb5
      have HE5 := Lib.hid he5
      have HJ5 := Lib.hid hj5
      clear hk5 hb5 he5 hj5 hj4 hd4 huT ce4 fe4
      go_wp2_with fail
      refine (jcount_any jb b _ r _ HJ5.out (by show M.many ≤ _; omega) (by show M.space ≤ _; omega) (by omega)).mono ?_
      rintro e w6 ⟨rfl, hj6, hu6⟩
      have hb6 := (hu6.block w.heap.size (blk_lt HB5.out) (by simp; omega)).trans HB5.out
      have he6 := (hu6.block (w.heap.size + 1) (blk_lt HE5.out) (by simp; omega)).trans HE5.out
      have hd6 := hd5.kept hu6 (by simpa using fun (k : Nat) (hk : k ∈ S4) (e : k = jb) => hjS4 (e ▸ hk))
      have huT6 : Upd (jb :: S) (jb :: S4) w w6 := huT5.trans (hu6.mono (by simp) (fun k hk => .inr hk))
      have ce6 := cell_of_row w6 _ 0 _ _ _ he6
      have fe6 := frozen_of_row w6 _ 0 _ _ he6
      have HB6 := Lib.hid hb6
      have HE6 := Lib.hid he6
      have HJ6 := Lib.hid hj6
      clear hb6 he6 hj6 hu6 hd5 huT5 cb5 cb4 cj4 fj4
      go_wp2_with fail
      refine leaves_cons (f := 108) (args := #[.pointer (some ⟨w.heap.size + 1, 0, none⟩), .pointer (some ⟨w.heap.size, 0, none⟩)]) (by simp) (by simp [go_sem]) ?_
      have hx1 : (w6.setCell ⟨w.heap.size + 1, 0, none⟩ (.int .i64 0)).heap[w.heap.size + 1]? = some (.cells #[.int .i64 0] 30 (0, 0)) := by rw [heap_setCell_same _ _ 0 _ _ _ HE6.out]; rfl
      have hx0 : (w6.setCell ⟨w.heap.size + 1, 0, none⟩ (.int .i64 0)).heap[w.heap.size]? = some (.cells #[.pointer (some ⟨jb, 0, none⟩)] 92 (0, 0)) := by rw [heap_setCell_other _ _ _ _ (by simp)]; exact HB6.out
      have hjx := HJ6.out.same (w' := w6.setCell ⟨w.heap.size + 1, 0, none⟩ (.int .i64 0)) (heap_setCell_other _ _ _ _ (by simp; omega))
      refine (append1_d w.heap.size jb b _ 0 .returning _ (cell_of_row _ _ 0 _ _ _ hx0) (cell_of_row _ _ 0 _ _ _ hx1) hjx).mono ?_
      rintro e u' w'' ⟨rfl, rfl, rfl⟩
      refine ⟨_, app_ret _ _ (w.heap.size + 1) 0 (by
        rw [World.cell?_setCell_far _ _ _ _ (by simp; omega)]; exact cell_of_row _ _ 0 _ _ _ hx1) rfl, S4, hjS4, ?_, ?_, .inl ⟨by rw [HA], rfl, ?_⟩⟩
      · rw [HA]
        refine hd6.same (fun k hk => ?_)
        rw [heap_setCell_other _ _ _ _ (fun (e : k = jb) => hjS4 (e ▸ hk)), heap_setCell_other _ _ _ _ (by have := HS4.out k hk; simp; omega)]
      · exact (huT6.setNew (p := ⟨w.heap.size + 1, 0, none⟩) (by simp) _).setCell (by simp) _
      · exact hjx.set ⟨M.fin + (8 + (bs r).length), M.many + 1, M.space + (bs r).length + 16, false⟩ 4 (.bool false) rfl
end Go.Proofs.YtinpenoeohejoaaGreatDoor

namespace Go.Proofs.YtinpenoeohejoaaGreatDoor
open Go.RowKit
set_option maxRecDepth 100000

structure JSt (w0 : World) (B jb b : Nat) (D : DiskM) (F : List UInt8) (rs : List (List UInt8)) (S : List Nat) (wp : World) : Prop where
  j : JAt wp jb b ⟨F.length, rs.length, spaceL rs, false⟩
  d : DiskAt wp b D S
  jS : jb ∉ S
  clean : JClean D F
  recs : recsL F = (rs, true)
  above : Above B (jb :: S)
  below : Below B w0 wp
  size : B ≤ wp.heap.size

section
variable {w0 wp w1 : World} {B jb b : Nat} {D D' : DiskM} {F F' : List UInt8} {rs rs' : List (List UInt8)} {S S' T T' : List Nat}

theorem JSt.lt (h : JSt w0 B jb b D F rs S wp) : ∀ k, k ∈ jb :: S → k < wp.heap.size := by
  intro k hk
  rcases List.mem_cons.1 hk with rfl | hk
  · exact h.j.lt
  · exact h.d.lt k hk
theorem JSt.size_eq (h : JSt w0 B jb b D F rs S wp) : F.length = sizeL rs := by
  have := (recs_size F.length F (Nat.le_refl _)).2 (by rw [h.recs])
  rw [h.recs] at this
  exact this
theorem JSt.fin (h : JSt w0 B jb b D F rs S wp) : F.length ≤ spaceL rs := by rw [h.size_eq, spaceL_size]; omega
theorem JSt.many (_h : JSt w0 B jb b D F rs S wp) : 8 * rs.length ≤ spaceL rs := by rw [spaceL_size]; omega
theorem JSt.other (h : JSt w0 B jb b D F rs S wp) (hu : Upd T T' wp w1) (hT : Above B T) (hd : ∀ k, k ∈ jb :: S → k ∉ T) : JSt w0 B jb b D F rs S w1 :=
  ⟨h.j.kept hu (hd jb (by simp)), h.d.kept hu (fun k hk => hd k (by simp [hk])), h.jS, h.clean, h.recs, h.above, hu.belowOf h.below hT h.size, Nat.le_trans h.size hu.size⟩
theorem JSt.quiet (h : JSt w0 B jb b D F rs S wp) (hu : Upd [] T' wp w1) : JSt w0 B jb b D F rs S w1 := h.other hu (above_nil B) (by simp)
theorem JSt.drewN (h : JSt w0 B jb b D F rs S wp) (n : Nat) : JSt w0 B jb b D F rs S (wp.drewN n) := h.quiet ((Upd.refl [] wp).drewN n)
theorem JSt.alloc (h : JSt w0 B jb b D F rs S wp) (o : Obj) : JSt w0 B jb b D F rs S (wp.alloc o) := h.quiet ((Upd.refl [] wp).alloc o)
theorem JSt.disk (h : JSt w0 B jb b D F rs S wp) (hd : DiskAt w1 b D' S') (hu : Upd S S' wp w1) (hc : JClean D' F) : JSt w0 B jb b D' F rs S' w1 := by
  have ha : Above B S := fun k hk => h.above k (by simp [hk])
  refine ⟨h.j.kept hu h.jS, hd, fun m => ?_, hc, h.recs, fun k hk => ?_, hu.belowOf h.below ha h.size, Nat.le_trans h.size hu.size⟩
  · rcases hu.new jb m with g | g
    · exact h.jS g
    · have := h.j.lt; omega
  · rcases List.mem_cons.1 hk with rfl | hk
    · exact h.above k (by simp)
    · exact hu.above ha h.size k hk

theorem DiskM.off_of {D : DiskM} (h : D.failing = false) : D.off = false := by simp [DiskM.off, h]
theorem syncS_now {D : DiskM} (h : D.off = false) : D.syncS = D.synced1.count := by unfold DiskM.syncS; rw [h]; rfl

def OpenFine (w0 : World) (B b : Nat) (D : DiskM) (F : List UInt8) (rs : List (List UInt8)) (S : List Nat) (w : World) (e : Ending) (w' : World) : Prop :=
  ∃ jb v S', e = .returned (.tuple #[.pointer (some ⟨jb, 0, none⟩), v, .int .i64 0]) ∧ JSt w0 B jb b D.synced1.count F rs S' w' ∧ StrRow w' v rs ∧ Upd S (jb :: (foot v ++ S')) w w' ∧ (jb :: (foot v ++ S')).Nodup

theorem Open_fine (hd : DiskAt wp b D S) (hcl : JClean D F) (hr : recsL F = (rs, true)) (hoff : D.off = false) (hc : D.calls < 65536) (ha : Above B S) (hbl : Below B w0 wp) (hsz : B ≤ wp.heap.size) :
    Calls Tryz.prog 25 #[.pointer (some ⟨b, 0, none⟩)] wp (OpenFine w0 B b D F rs S wp) := by
  refine (Open_ok b D S F rs wp hd hcl.ok hc hoff (open_car hcl.car hr)).mono ?_
  rintro e w' ⟨jb, v, S', rfl, hd', hj, hv, hu, hn⟩
  rw [syncS_now hoff] at hd'
  have hab := hu.above ha hsz
  refine ⟨jb, v, S', rfl, ⟨hj, hd', fun m => (List.nodup_cons.1 hn).1 (by simp [m]), hcl.sync hc, hr, fun k hk => hab k ?_, hu.belowOf hbl ha hsz, Nat.le_trans hsz hu.size⟩, hv, hu, hn⟩
  simp only [List.mem_cons, List.mem_append] at hk ⊢
  rcases hk with h | h
  · exact .inl h
  · exact .inr (.inr h)

def AppFine (w0 : World) (B jb b : Nat) (D : DiskM) (F : List UInt8) (rs : List (List UInt8)) (r : List UInt8) (S : List Nat) (w : World) (e : Ending) (w' : World) : Prop :=
  ∃ D' S', e = .returned (.int .i64 0) ∧ JSt w0 B jb b D' (F ++ frameL r) (rs ++ [r]) S' w' ∧ Upd (jb :: S) (jb :: S') w w' ∧ D'.failing = D.failing ∧ D'.calls ≤ D.calls + 4
def AppMay (w0 : World) (B jb b : Nat) (D : DiskM) (F : List UInt8) (rs : List (List UInt8)) (r : List UInt8) (S : List Nat) (w : World) (e : Ending) (w' : World) : Prop :=
  AppFine w0 B jb b D F rs r S w e w' ∨
  ∃ D' S', e = .returned (.int .i64 70) ∧ JAt w' jb b ⟨F.length, rs.length, spaceL rs, true⟩ ∧ DiskAt w' b D' S' ∧ JMay D' F (F ++ frameL r) ∧ jb ∉ S' ∧ Above B (jb :: S') ∧ Below B w0 w' ∧ B ≤ w'.heap.size ∧ Upd (jb :: S) (jb :: S') w w' ∧ D'.failing = D.failing ∧ D'.calls ≤ D.calls + 4

theorem App_may (h : JSt w0 B jb b D F rs S wp) (r : ByteArray) (hc : D.calls + 4 ≤ 65536) (hfit : spaceL rs + r.size + 16 + 256 ≤ 16777216) :
    Calls Tryz.prog 59 #[.pointer (some ⟨jb, 0, none⟩), .string r] wp (AppMay w0 B jb b D F rs (bs r) S wp) := by
  have h1 := h.fin
  have h2 := h.many
  refine (Append_go jb b _ D F S r wp h.j h.d h.jS h.clean.ok hc rfl rfl hfit h1 (by show rs.length ≤ _; omega)).mono ?_
  rintro e w' ⟨S', hjS, hd', hu, hcase⟩
  obtain ⟨l1, l2⟩ := append_law h.clean (bs r) (by rw [bs_length]; omega) hc
  obtain ⟨c1, c2, c3⟩ := appendD_calls D F (bs r)
  have hab := hu.above h.above h.size
  have hbe := hu.belowOf h.below h.above h.size
  have hsz := Nat.le_trans h.size hu.size
  rcases hcase with ⟨ho, rfl, hj⟩ | ⟨ho, rfl, hj⟩
  · refine .inl ⟨_, S', rfl, ⟨?_, hd', hjS, l1 ho, ?_, hab, hbe, hsz⟩, hu, c2, c1⟩
    · rw [List.length_append, frameL_length, List.length_append, spaceL_snoc]
      exact hj
    · exact recs_snoc (bs r) (by rw [bs_length]; omega) F.length F rs (Nat.le_refl _) h.recs
  · exact .inr ⟨_, S', rfl, hj, hd', l2 ho, hjS, hab, hbe, hsz, hu, c2, c1⟩

theorem App_fine (h : JSt w0 B jb b D F rs S wp) (r : ByteArray) (hf : D.failing = false) (hc : D.calls + 4 ≤ 65536) (hfit : spaceL rs + r.size + 16 + 256 ≤ 16777216) :
    Calls Tryz.prog 59 #[.pointer (some ⟨jb, 0, none⟩), .string r] wp (AppFine w0 B jb b D F rs (bs r) S wp) := by
  have h1 := h.fin
  have h2 := h.many
  refine (Append_go jb b _ D F S r wp h.j h.d h.jS h.clean.ok hc rfl rfl hfit h1 (by show rs.length ≤ _; omega)).mono ?_
  rintro e w' ⟨S', hjS, hd', hu, hcase⟩
  obtain ⟨l1, l2⟩ := append_law h.clean (bs r) (by rw [bs_length]; omega) hc
  obtain ⟨c1, c2, c3⟩ := appendD_calls D F (bs r)
  rcases hcase with ⟨ho, rfl, hj⟩ | ⟨ho, rfl, hj⟩
  · refine ⟨_, S', rfl, ⟨?_, hd', hjS, l1 ho, ?_, hu.above h.above h.size, hu.belowOf h.below h.above h.size, Nat.le_trans h.size hu.size⟩, hu, c2, c1⟩
    · rw [List.length_append, frameL_length, List.length_append, spaceL_snoc]
      exact hj
    · exact recs_snoc (bs r) (by rw [bs_length]; omega) F.length F rs (Nat.le_refl _) h.recs
  · rw [c3 hf] at ho; cases ho

end
end Go.Proofs.YtinpenoeohejoaaGreatDoor

namespace Go.Proofs.YtinpenoeohejoaaGreatDoor
open Go.RowKit
set_option maxRecDepth 100000

def kqV (jb : Nat) (m : KM) (v : Value) (br : Bool) : List Value := [.pointer (some ⟨jb, 0, none⟩), .int .i64 m.id, .int .i64 m.sec, v, .int .i64 (m.paper : Int), .int .i64 (m.round : Int)] ++ (byteVals m.out ++ [.bool br])
theorem kqV_len {jb : Nat} {m : KM} {v : Value} {br : Bool} (h : m.out.length = 32) : (kqV jb m v br).length = 39 := by simp [kqV, byteVals_length, h]
theorem kqV_38 {jb : Nat} {m : KM} {v : Value} {br : Bool} (h : m.out.length = 32) : (kqV jb m v br)[38]? = some (.bool br) := by
  unfold kqV
  rw [List.getElem?_append_right (by simp), List.getElem?_append_right (by simp [byteVals_length, h])]
  simp [byteVals_length, h]
structure KBody (wp : World) (kb jb : Nat) (m : KM) (v : Value) (br : Bool) : Prop where
  k : wp.heap[kb]? = some (.cells (kqV jb m v br).toArray 97 (0, 0))
  own : wp.ownsRow 0 41 102 v m.rs.length (rcVals m.rs)
  kv : kb ∉ foot v
  ok : m.ok
section
variable {w0 wp w1 : World} {B kb jb b : Nat} {m : KM} {v : Value} {br : Bool} {T T' : List Nat}
theorem KBody.lt (h : KBody wp kb jb m v br) : kb < wp.heap.size := blk_lt h.k
theorem KBody.vlt (h : KBody wp kb jb m v br) : ∀ x, x ∈ foot v → x < wp.heap.size := row_foot_lt h.own
theorem KBody.same (h : KBody wp kb jb m v br) (h1 : w1.heap[kb]? = wp.heap[kb]?) (h2 : ∀ x, x ∈ foot v → w1.heap[x]? = wp.heap[x]?) : KBody w1 kb jb m v br := ⟨h1.trans h.k, row_same h.own h2, h.kv, h.ok⟩
theorem KBody.kept (h : KBody wp kb jb m v br) (u : Upd T T' wp w1) (hk : kb ∉ T) (hv : ∀ x, x ∈ foot v → x ∉ T) : KBody w1 kb jb m v br :=
  h.same (u.block kb h.lt hk) (fun x hx => u.block x (h.vlt x hx) (hv x hx))
theorem KBody.quiet (h : KBody wp kb jb m v br) (u : Upd [] T' wp w1) : KBody w1 kb jb m v br := h.kept u (by simp) (by simp)
theorem KBody.c (h : KBody wp kb jb m v br) (i : Nat) : wp.cell? ⟨kb, i, none⟩ = (kqV jb m v br)[i]? := by rw [cell_of_row _ _ _ _ _ _ h.k, List.getElem?_toArray]
theorem KBody.c0 (h : KBody wp kb jb m v br) : wp.cell? ⟨kb, 0, none⟩ = some (.pointer (some ⟨jb, 0, none⟩)) := h.c 0
theorem KBody.c1 (h : KBody wp kb jb m v br) : wp.cell? ⟨kb, 1, none⟩ = some (.int .i64 m.id) := h.c 1
theorem KBody.c2 (h : KBody wp kb jb m v br) : wp.cell? ⟨kb, 2, none⟩ = some (.int .i64 m.sec) := h.c 2
theorem KBody.c3 (h : KBody wp kb jb m v br) : wp.cell? ⟨kb, 3, none⟩ = some v := h.c 3
theorem KBody.c4 (h : KBody wp kb jb m v br) : wp.cell? ⟨kb, 4, none⟩ = some (.int .i64 (m.paper : Int)) := h.c 4
theorem KBody.c5 (h : KBody wp kb jb m v br) : wp.cell? ⟨kb, 5, none⟩ = some (.int .i64 (m.round : Int)) := h.c 5
theorem KBody.c38 (h : KBody wp kb jb m v br) : wp.cell? ⟨kb, 38, none⟩ = some (.bool br) := (h.c 38).trans (kqV_38 h.ok.out)
theorem KBody.free (h : KBody wp kb jb m v br) (i : Nat) : wp.frozen? ⟨kb, i, none⟩ = false := frozen_of_row _ _ _ _ _ h.k
theorem KBody.out (h : KBody wp kb jb m v br) : wp.rangeAt kb 6 (byteVals m.out) := by
  intro j u hj
  rw [h.c (6 + j)]
  unfold kqV
  rw [List.getElem?_append_right (by simp)]
  have : j < (byteVals m.out).length := (List.getElem?_eq_some_iff.1 hj).1
  rw [List.getElem?_append_left (by simp; simpa using this)]
  simpa using hj
theorem KBody.slice (h : KBody wp kb jb m v br) : ∃ ao cap, v = .slice ao m.rs.length cap ∧ m.rs.length ≤ cap ∧ RcsIn wp ao m.rs := rcs_of_row h.own (fun x hx => ⟨(h.ok.each x hx).1, by have := (h.ok.each x hx).2.1; omega⟩)

structure KSt (w0 : World) (B kb jb b : Nat) (D : DiskM) (F : List UInt8) (rs : List (List UInt8)) (S : List Nat) (m : KM) (v : Value) (wp : World) : Prop where
  body : KBody wp kb jb m v false
  j : JSt w0 B jb b D F rs S wp
  kS : kb ∉ jb :: S
  vS : ∀ x, x ∈ foot v → x ∉ jb :: S
  hk : B ≤ kb
  hv : ∀ x, x ∈ foot v → B ≤ x
def kF (kb jb : Nat) (v : Value) (S : List Nat) : List Nat := kb :: (foot v ++ (jb :: S))
variable {D D' : DiskM} {F F' : List UInt8} {rs rs' : List (List UInt8)} {S S' : List Nat}
theorem KSt.quiet (h : KSt w0 B kb jb b D F rs S m v wp) (u : Upd [] T' wp w1) : KSt w0 B kb jb b D F rs S m v w1 :=
  ⟨h.body.quiet u, h.j.quiet u, h.kS, h.vS, h.hk, h.hv⟩
theorem KSt.other (h : KSt w0 B kb jb b D F rs S m v wp) (u : Upd T T' wp w1) (hT : Above B T) (hd : ∀ k, k ∈ kF kb jb v S → k ∉ T) : KSt w0 B kb jb b D F rs S m v w1 :=
  ⟨h.body.kept u (hd kb (by simp [kF])) (fun x hx => hd x (by simp [kF, hx])), h.j.other u hT (fun k hk => hd k (by
    simp only [kF, List.mem_cons, List.mem_append] at hk ⊢
    exact .inr (.inr hk))), h.kS, h.vS, h.hk, h.hv⟩
theorem KSt.up (h : KSt w0 w0.heap.size kb jb b D F rs S m v wp) : Upd [] [] w0 wp :=
  ⟨h.j.below.os, h.j.below.tape, h.j.below.output, h.j.below.size, fun k hk _ => h.j.below.block k hk, fun _ hk => by simp at hk⟩
theorem KSt.lt (h : KSt w0 B kb jb b D F rs S m v wp) : ∀ k, k ∈ kF kb jb v S → k < wp.heap.size := by
  intro k hk
  simp only [kF, List.mem_cons, List.mem_append] at hk
  rcases hk with rfl | hk | hk
  · exact h.body.lt
  · exact h.body.vlt k hk
  · exact h.j.lt k (by simpa using hk)
theorem KSt.above (h : KSt w0 B kb jb b D F rs S m v wp) : Above B (kF kb jb v S) := by
  intro k hk
  simp only [kF, List.mem_cons, List.mem_append] at hk
  rcases hk with rfl | hk | hk
  · exact h.hk
  · exact h.hv k hk
  · exact h.j.above k (by simpa using hk)
theorem KSt.jour (h : KSt w0 B kb jb b D F rs S m v wp) (u : Upd (jb :: S) (jb :: S') wp w1) (j : JSt w0 B jb b D' F' rs' S' w1) : KSt w0 B kb jb b D' F' rs' S' m v w1 := by
  refine ⟨h.body.kept u h.kS (fun x hx => h.vS x hx), j, fun hm => ?_, fun x hx hm => ?_, h.hk, h.hv⟩
  · rcases u.new kb hm with h1 | h1
    · exact h.kS h1
    · have := h.body.lt; omega
  · rcases u.new x hm with h1 | h1
    · exact h.vS x hx h1
    · have := h.body.vlt x hx; omega
theorem KSt.set (h : KSt w0 B kb jb b D F rs S m v wp) (m' : KM) (i : Nat) (u : Value) (hm : m'.ok) (hr : m'.rs = m.rs)
    (hv : (kqV jb m v false).toArray.setIfInBounds i u = (kqV jb m' v false).toArray) : KSt w0 B kb jb b D F rs S m' v (wp.setCell ⟨kb, i, none⟩ u) := by
  have hu : Upd [kb] [kb] wp (wp.setCell ⟨kb, i, none⟩ u) := (Upd.refl _ _).setCell (by simp) _
  have hkv := h.body.kv
  have hne : ∀ x, x ∈ foot v → x ≠ kb := fun x hx e => hkv (e ▸ hx)
  refine ⟨⟨?_, ?_, hkv, hm⟩, h.j.other hu (by intro k hk; simp at hk; rw [hk]; exact h.hk) (fun k hk hm => ?_), h.kS, h.vS, h.hk, h.hv⟩
  · rw [heap_setCell_same _ _ _ _ _ _ h.body.k, hv]
  · rw [hr]
    exact row_same h.body.own (fun x hx => heap_setCell_other _ _ _ _ (hne x hx))
  · simp at hm
    exact h.kS (hm ▸ hk)
end
end Go.Proofs.YtinpenoeohejoaaGreatDoor

namespace Go.Proofs.YtinpenoeohejoaaGreatDoor
open Go.RowKit
set_option maxRecDepth 100000

def MkI (v : Int) (w : World) (e : Ending) (w' : World) : Prop := ∃ x : Int, Hid (x = v) ∧ e = .returned (.int .i64 x) ∧ Upd [] [] w w'
theorem nameOk_long {l : List UInt8} (h : 30 < l.length) : nameOk l = false := by
  unfold nameOk
  rw [decide_eq_false (by omega : ¬ l.length ≤ 30)]
  simp
theorem nameOk_bad {l : List UInt8} {k : Nat} {c : UInt8} (h : l[k]? = some c) (hc : nameC c = false) : nameOk l = false := by
  have hm : c ∈ l := List.mem_of_getElem? h
  have : l.all nameC = false := by
    rw [List.all_eq_false]
    exact ⟨c, hm, by simp [hc]⟩
  unfold nameOk
  rw [this]
  simp
theorem nameOk_all {l : List UInt8} (h1 : 1 ≤ l.length) (h2 : l.length ≤ 30) (h : ∀ (j : Nat) c, l[j]? = some c → nameC c = true) : nameOk l = true := by
  unfold nameOk
  rw [decide_eq_true h1, decide_eq_true h2]
  simp only [Bool.true_and]
  rw [List.all_eq_true]
  intro c hc
  obtain ⟨j, hj⟩ := List.mem_iff_getElem?.1 hc
  exact h j c hj
theorem nameC_iff (c : UInt8) : nameC c = (decide (97 ≤ c.toNat ∧ c.toNat ≤ 122 ∨ 65 ≤ c.toNat ∧ c.toNat ≤ 90 ∨ 48 ≤ c.toNat ∧ c.toNat ≤ 57 ∨ c.toNat = 95)) := by
  unfold nameC
  simp only [Bool.decide_or, Bool.decide_and, Bool.or_assoc]
set_option maxHeartbeats 2000000 in
theorem isName_any (s : ByteArray) (w : World) (hs : s.size ≤ 9223372036854775807) : Calls Tryz.prog 66 #[.string s] w (MkB (nameOk (bs s)) w) := by
  by_cases h0 : s.size = 0
  · have hb : bs s = [] := List.eq_nil_of_length_eq_zero (by rw [bs_length]; exact h0)
    obtain rfl : s = ⟨#[]⟩ := by
      have : s.data.toList = [] := hb
      cases s with
      | mk d => simp at this; rw [this]
    go_enter Tryz.func66, Tryz.ntmps66
    go_wp2_with fail
    go_ret
    exact ⟨_, rfl, rfl, Upd.refl _ _⟩
  · have hne : s.toList.isEmpty = false := by
      rw [List.isEmpty_eq_false_iff, ← List.length_pos_iff, ByteArray.toList_eq]
      have : (bs s).length = s.size := bs_length s
      unfold bs at this
      omega
    by_cases h30 : 30 < s.size
    · have HN := Lib.hid (nameOk_long (l := bs s) (by rw [bs_length]; exact h30))
      go_enter Tryz.func66, Tryz.ntmps66
      go_wp2_with fail
      go_ret
      exact ⟨_, HN.out.symm, rfl, Upd.refl _ _⟩
    · have h30' : s.size ≤ 30 := by omega
      clear h30 hs
      go_enter Tryz.func66, Tryz.ntmps66
      go_wp2_with fail
      go_loopw [14] (fun i wr => ∃ k : Nat, i = .int .i64 (k : Int) ∧ k ≤ s.size ∧ Hid (∀ j c, j < k → (bs s)[j]? = some c → nameC c = true) ∧ wr = w) (fun i _ => s.size - (intOf i).toNat)
      case atStart => exact ⟨0, rfl, Nat.zero_le _, fun j c h => absurd h (Nat.not_lt_zero j), rfl⟩
      case round =>
        obtain ⟨k, rfl, hk, HA, rfl⟩ := hrel
        by_cases hlt : k < s.size
        · have hg : (bs s)[k]? = some s[k] := by
            rw [List.getElem?_eq_getElem (show k < (bs s).length from hlt)]
            rfl
          have HG := Lib.hid hg
          clear hg hne
          have hix : s[k]'hlt = (bs s)[k]'hlt := rfl
          obtain ⟨c, hc⟩ : ∃ c, c = s[k]'hlt := ⟨_, rfl⟩
          have HG2 : Hid ((bs s)[k]? = some c) := by show _ = _; rw [HG.out, hc]
          clear HG hix
          go_upto_region 7 with (fail)
          rw [← hc]
          have hcn : c.toNat < 256 := UInt8.toNat_lt _
          have HC : Hid (nameC c = (decide (97 ≤ c.toNat ∧ c.toNat ≤ 122 ∨ 65 ≤ c.toNat ∧ c.toNat ≤ 90 ∨ 48 ≤ c.toNat ∧ c.toNat ≤ 57 ∨ c.toNat = 95))) := nameC_iff c
          generalize c.toNat = n at *
          clear hc
          have hcase : (97 ≤ n ∧ n ≤ 122) ∨ (97 ≤ n ∧ 122 < n) ∨ (n < 97 ∧ 65 ≤ n ∧ n ≤ 90) ∨ (n < 97 ∧ 90 < n ∧ n = 95) ∨ (n < 97 ∧ 90 < n ∧ n ≠ 95) ∨ (n < 65 ∧ 48 ≤ n ∧ n ≤ 57) ∨ (n < 65 ∧ 57 < n) ∨ n < 48 := by omega
          have HOK : Hid (nameC c = true → ∀ (j : Nat) c, j < k + 1 → (bs s)[j]? = some c → nameC c = true) := by
            intro hh
            intro j d hj hd
            by_cases hjk : j < k
            · exact HA.out j d hjk hd
            · obtain rfl : j = k := by omega
              rw [HG2.out] at hd
              cases hd
              exact hh
          have HBAD : Hid (nameC c = false → false = nameOk (bs s)) := fun hh => (nameOk_bad HG2.out hh).symm
          clear HA HG2
          rcases hcase with ⟨h1, h2⟩ | ⟨h1, h2⟩ | ⟨h1, h2, h3⟩ | ⟨h1, h2, h3⟩ | ⟨h1, h2, h3⟩ | ⟨h1, h2, h3⟩ | ⟨h1, h2⟩ | h1
          all_goals
            go_wp2_with fail
          all_goals
            first
              | exact ⟨⟨k + 1, by go_num, by omega, HOK.out (by rw [HC.out]; exact decide_eq_true (by omega)), trivial⟩, by simp [intOf]; omega⟩
              | (go_ret; exact ⟨false, HBAD.out (by rw [HC.out]; exact decide_eq_false (by omega)), rfl, Upd.refl _ _⟩)
              | (exfalso; clear HC HOK HBAD; simp only [Bool.not_eq_eq_eq_not, Bool.not_false, decide_eq_true_eq, beq_iff_eq] at *; omega)
        · obtain rfl : k = s.size := by omega
          have HN : Hid (nameOk (bs s) = true) := nameOk_all (by rw [bs_length]; omega) (by rw [bs_length]; omega) (fun j c hj => HA.out j c (by have := (List.getElem?_eq_some_iff.1 hj).1; rw [bs_length] at this; exact this) hj)
          clear HA hlt hk
          go_wp2_with fail
          go_ret
          exact ⟨true, HN.out.symm, rfl, Upd.refl _ _⟩

def refE (m : KM) (d : List UInt8) : Int := if nameOk d = false then 13 else if m.paper = 0 then 50 else if 2000 ≤ m.rs.length then 2 else 0
section
variable {wp : World} {kb jb : Nat} {m : KM} {v : Value} {br : Bool}
theorem isOpen_any (h : KBody wp kb jb m v br) : Calls Tryz.prog 30 #[.pointer (some ⟨kb, 0, none⟩)] wp (Ret (.bool true) wp) := by
  have c0 := h.c0
  clear h
  go_enter Tryz.func30, Tryz.ntmps30
  go_wp2_with fail
  go_ret
  exact ⟨rfl, rfl⟩
theorem takes_any (h : KBody wp kb jb m v br) (n : Int) (hn : i64in n) : Calls Tryz.prog 114 #[.pointer (some ⟨kb, 0, none⟩), .int .i64 n] wp (RetB (decide (1 ≤ n ∧ n ≤ 1000000000 - (m.paper : Int))) wp) := by
  have c4 := h.c4
  have hp := h.ok.paper
  clear h
  obtain ⟨hn1, hn2⟩ := hn
  by_cases h1 : 1 ≤ n
  · by_cases h2 : n ≤ 1000000000 - (m.paper : Int)
    all_goals
      generalize m.paper = p at *
      go_enter Tryz.func114, Tryz.ntmps114
      go_wp2_with fail
      go_ret
      refine ⟨_, ?_, rfl, rfl⟩
      simp [Hid, h1, h2]
  · go_enter Tryz.func114, Tryz.ntmps114
    go_wp2_with fail
    go_ret
    refine ⟨_, ?_, rfl, rfl⟩
    simp [Hid]
    try omega
theorem refuses_any (h : KBody wp kb jb m v br) (d : ByteArray) (hd : d.size ≤ 9223372036854775807) : Calls Tryz.prog 31 #[.pointer (some ⟨kb, 0, none⟩), .string d] wp (MkI (refE m (bs d)) wp) := by
  obtain ⟨ao, cap, rfl, hcap, _⟩ := h.slice
  have HH := Lib.hid h
  have hm := h.ok.many
  clear h
  go_enter Tryz.func31, Tryz.ntmps31
  go_wp2_with fail
  refine (isName_any d wp hd).mono ?_
  rintro e w1 ⟨b, HB, rfl, hu⟩
  have h1 := HH.out.quiet hu
  have c3 := h1.c3
  have c4 := h1.c4
  have HU := Lib.hid hu
  clear hu h1 HH
  have HR : Hid (refE m (bs d) = if b = false then 13 else if m.paper = 0 then 50 else if 2000 ≤ m.rs.length then 2 else 0) := by rw [HB.out]; rfl
  generalize m.paper = p at *
  generalize m.rs.length = n at *
  cases b with
  | false =>
    go_wp2_with fail
    go_ret
    exact ⟨_, HR.out.symm, rfl, HU.out⟩
  | true =>
    by_cases h0 : p = 0
    · subst h0
      go_wp2_with fail
      go_ret
      exact ⟨_, HR.out.symm, rfl, HU.out⟩
    · by_cases h2 : 2000 ≤ n
      · go_wp2_with fail
        go_ret
        refine ⟨_, ?_, rfl, HU.out⟩
        show _ = _
        rw [HR.out]
        simp [h0, h2]
      · go_wp2_with fail
        go_ret
        refine ⟨_, ?_, rfl, HU.out⟩
        show _ = _
        rw [HR.out]
        simp [h0, h2]
end
end Go.Proofs.YtinpenoeohejoaaGreatDoor

namespace Go.Proofs.YtinpenoeohejoaaGreatDoor
open Go.RowKit
set_option maxRecDepth 100000

theorem kqV_set38 {jb : Nat} {m : KM} {v : Value} {br : Bool} (h : m.out.length = 32) (c : Bool) : (kqV jb m v br).toArray.setIfInBounds 38 (.bool c) = (kqV jb m v c).toArray := by
  unfold kqV
  rw [List.setIfInBounds_toArray, List.set_append_right _ _ (by simp), List.set_append_right _ _ (by simp [byteVals_length, h])]
  simp [byteVals_length, h]
structure KBr (w0 : World) (B kb jb b : Nat) (D : DiskM) (F G : List UInt8) (S : List Nat) (m : KM) (v : Value) (wp : World) : Prop where
  body : KBody wp kb jb m v true
  d : DiskAt wp b D S
  may : JMay D F G
  kS : kb ∉ jb :: S
  vS : ∀ x, x ∈ foot v → x ∉ jb :: S
  jS : jb ∉ S
  jlt : jb < wp.heap.size
  above : Above B (kF kb jb v S)
  below : Below B w0 wp
  size : B ≤ wp.heap.size
section
variable {w0 wp w1 : World} {B kb jb b : Nat} {m : KM} {v : Value} {D : DiskM} {F G : List UInt8} {rs : List (List UInt8)} {S S' T T' : List Nat}
theorem KBr.lt (h : KBr w0 B kb jb b D F G S m v wp) : ∀ k, k ∈ kF kb jb v S → k < wp.heap.size := by
  intro k hk
  simp only [kF, List.mem_cons, List.mem_append] at hk
  rcases hk with rfl | hk | rfl | hk
  · exact h.body.lt
  · exact h.body.vlt k hk
  · exact h.jlt
  · exact h.d.lt k hk
theorem KBr.other (h : KBr w0 B kb jb b D F G S m v wp) (u : Upd T T' wp w1) (hT : Above B T) (hd : ∀ k, k ∈ kF kb jb v S → k ∉ T) : KBr w0 B kb jb b D F G S m v w1 :=
  ⟨h.body.kept u (hd kb (by simp [kF])) (fun x hx => hd x (by simp [kF, hx])), h.d.kept u (fun k hk => hd k (by simp [kF, hk])), h.may, h.kS, h.vS, h.jS, Nat.lt_of_lt_of_le h.jlt u.size, h.above, u.belowOf h.below hT h.size, Nat.le_trans h.size u.size⟩
theorem KBr.quiet (h : KBr w0 B kb jb b D F G S m v wp) (u : Upd [] T' wp w1) : KBr w0 B kb jb b D F G S m v w1 := h.other u (above_nil B) (by simp)
theorem KBr.up (h : KBr w0 w0.heap.size kb jb b D F G S m v wp) : Upd [] [] w0 wp :=
  ⟨h.below.os, h.below.tape, h.below.output, h.below.size, fun k hk _ => h.below.block k hk, fun _ hk => by simp at hk⟩

def KFine (w0 : World) (B kb jb b : Nat) (D : DiskM) (F : List UInt8) (rs : List (List UInt8)) (r : List UInt8) (S : List Nat) (_m m' : KM) (v : Value) (w w' : World) : Prop :=
  ∃ D' S' v', KSt w0 B kb jb b D' (F ++ frameL r) (rs ++ [r]) S' m' v' w' ∧ Upd (kF kb jb v S) (kF kb jb v' S') w w' ∧ D'.failing = D.failing ∧ D'.calls ≤ D.calls + 4
def KFell (w0 : World) (B kb jb b : Nat) (D : DiskM) (F : List UInt8) (r : List UInt8) (S : List Nat) (m : KM) (v : Value) (w w' : World) : Prop :=
  ∃ D' S', KBr w0 B kb jb b D' F (F ++ frameL r) S' m v w' ∧ Upd (kF kb jb v S) (kF kb jb v S') w w' ∧ D.failing = true ∧ D'.failing = true ∧ D'.calls ≤ D.calls + 4

theorem App_go (h : JSt w0 B jb b D F rs S wp) (r : ByteArray) (hc : D.calls + 4 ≤ 65536) (hfit : spaceL rs + r.size + 16 + 256 ≤ 16777216) :
    Calls Tryz.prog 59 #[.pointer (some ⟨jb, 0, none⟩), .string r] wp (fun e w' => AppFine w0 B jb b D F rs (bs r) S wp e w' ∨ (D.failing = true ∧ AppMay w0 B jb b D F rs (bs r) S wp e w')) := by
  cases hf : D.failing with
  | false => exact (App_fine h r hf hc hfit).mono fun _ _ k => .inl k
  | true => exact (App_may h r hc hfit).mono fun _ _ k => .inr ⟨rfl, k⟩

theorem keep_new (w : World) (p : Value) : ((w.alloc (.cells #[p] 29)).alloc (.cells #[.int .i64 0] 30)).heap[w.heap.size]? = some (.cells #[p] 29 (0, 0)) ∧
    ((w.alloc (.cells #[p] 29)).alloc (.cells #[.int .i64 0] 30)).heap[w.heap.size + 1]? = some (.cells #[.int .i64 0] 30 (0, 0)) := by
  refine ⟨?_, ?_⟩
  · rw [Below.heap_alloc _ _ _ (by simp)]; exact heap_alloc_new _ _
  · have := heap_alloc_new (w.alloc (.cells #[p] 29)) (.cells #[.int .i64 0] 30)
    simpa using this
theorem keep1_d (A : Nat) (x : Int) (u : FrameMode) (w : World) (hb : w.cell? ⟨A, 0, none⟩ = some (.pointer (some ⟨kb, 0, none⟩))) (he : w.cell? ⟨A + 1, 0, none⟩ = some (.int .i64 x)) (hk : KBody w kb jb m v false) :
    CallsD Tryz.prog 58 #[.pointer (some ⟨A, 0, none⟩), .pointer (some ⟨A + 1, 0, none⟩)] u w fun e u' w' => u' = u ∧ (e = .returned (.tuple #[]) ∧ w' = (w.setCell ⟨kb, 38, none⟩ (.bool (x == 70))).drew) := by
  have c38 := hk.c38
  have f38 := hk.free 38
  clear hk
  go_enter_d Tryz.func58, Tryz.ntmps58
  go_wp2_with fail
  refine wp_region_noPanic ?_
  go_region_with (fail)
  all_goals
    refine NoPanic.normal ?_
    go_wp2_with fail
    go_end0
    exact ⟨rfl, rfl⟩
theorem keep_ret (tmps : Array Value) (w : World) (B : Nat) (x : Int) (h : w.cell? ⟨B, 0, none⟩ = some (.int .i64 x)) (h4 : tmps[4]?.getD undef = .pointer (some ⟨B, 0, none⟩)) :
    (results Tryz.f26 tmps).run Tryz.prog w = .ok (.int .i64 x) w := by
  simp [results, Tryz.results26, go_sem, h4, h]
def KeepTo (w0 : World) (B kb jb b : Nat) (D : DiskM) (F : List UInt8) (rs : List (List UInt8)) (r : List UInt8) (S : List Nat) (m : KM) (v : Value) (w : World) (e : Ending) (w' : World) : Prop :=
  (e = .returned (.int .i64 0) ∧ ∃ D' S', KSt w0 B kb jb b D' (F ++ frameL r) (rs ++ [r]) S' m v w' ∧ Upd (kF kb jb v S) (kF kb jb v S') w w' ∧ D'.failing = D.failing ∧ D'.calls ≤ D.calls + 4) ∨
  (e = .returned (.int .i64 70) ∧ KFell w0 B kb jb b D F r S m v w w')
theorem kF_mono {S S' : List Nat} {kb jb : Nat} {v : Value} {n : Nat} (h : ∀ k, k ∈ jb :: S' → k ∈ jb :: S ∨ n ≤ k) : ∀ k, k ∈ kF kb jb v S' → k ∈ kF kb jb v S ∨ n ≤ k := by
  intro k hk
  simp only [kF, List.mem_cons, List.mem_append] at hk ⊢
  rcases hk with rfl | hk | hk
  · exact .inl (.inl rfl)
  · exact .inl (.inr (.inl hk))
  · rcases h k (by simpa using hk) with h | h
    · exact .inl (.inr (.inr (by simpa using h)))
    · exact .inr h
theorem keep_end {w2 w3 : World} (A : Nat) (_x : Int) (hA : A + 1 < w2.heap.size) (hnew : ∀ k, k ∈ kF kb jb v S → k < A) (hu : Upd (jb :: S) (jb :: S') w2 w3) :
    Upd (kF kb jb v S) (kF kb jb v S') w2 w3 ∧ A ∉ kF kb jb v S' ∧ A + 1 ∉ kF kb jb v S' := by
  have hn := kF_mono (kb := kb) (v := v) hu.new
  refine ⟨⟨hu.os, hu.tape, hu.output, hu.size, fun k hk hn => hu.block k hk (fun hm => hn ?_), hn⟩, fun hm => ?_, fun hm => ?_⟩
  · simp only [kF, List.mem_cons, List.mem_append] at hm ⊢
    exact .inr (.inr hm)
  · rcases hn A hm with h | h
    · have := hnew A h; omega
    · omega
  · rcases hn (A + 1) hm with h | h
    · have := hnew (A + 1) h; omega
    · omega
set_option maxHeartbeats 2000000 in
theorem keep_any (h : KSt w0 B kb jb b D F rs S m v wp) (r : ByteArray) (hc : D.calls + 4 ≤ 65536) (hfit : spaceL rs + r.size + 16 + 256 ≤ 16777216) :
    Calls Tryz.prog 26 #[.pointer (some ⟨kb, 0, none⟩), .string r] wp (KeepTo w0 B kb jb b D F rs (bs r) S m v wp) := by
  obtain ⟨n1, n2⟩ := keep_new wp (.pointer (some ⟨kb, 0, none⟩))
  have hq : Upd [] [] wp ((wp.alloc (.cells #[.pointer (some ⟨kb, 0, none⟩)] 29)).alloc (.cells #[.int .i64 0] 30)) := ((Upd.refl _ _).alloc _).alloc _
  have hA : wp.heap.size + 1 < ((wp.alloc (.cells #[.pointer (some ⟨kb, 0, none⟩)] 29)).alloc (.cells #[.int .i64 0] 30)).heap.size := by simp
  have h2 := h.quiet hq
  have HB := Lib.hid h.j.size
  have HLT := Lib.hid h.lt
  have HQ := Lib.hid hq
  have HA := Lib.hid hA
  have c0 := h2.body.c0
  have H2 := Lib.hid h2
  have N1 := Lib.hid n1
  have N2 := Lib.hid n2
  clear h hq h2 n1 n2 hA
  go_enter_defers Tryz.func26, Tryz.ntmps26
  go_wp2_with fail
  refine (App_go H2.out.j r hc hfit).mono ?_
  rintro e w3 hpost
  obtain ⟨x, S', he, hu3, hx⟩ : ∃ (x : Int) (S' : List Nat), e = .returned (.int .i64 x) ∧ Upd (jb :: S) (jb :: S') ((wp.alloc (.cells #[.pointer (some ⟨kb, 0, none⟩)] 29)).alloc (.cells #[.int .i64 0] 30)) w3 ∧
      Hid ((x = 0 ∧ ∃ D', JSt w0 B jb b D' (F ++ frameL (bs r)) (rs ++ [bs r]) S' w3 ∧ D'.failing = D.failing ∧ D'.calls ≤ D.calls + 4) ∨
        (x = 70 ∧ D.failing = true ∧ ∃ D', DiskAt w3 b D' S' ∧ JMay D' F (F ++ frameL (bs r)) ∧ jb ∉ S' ∧ Above B (jb :: S') ∧ Below B w0 w3 ∧ B ≤ w3.heap.size ∧ D'.failing = D.failing ∧ D'.calls ≤ D.calls + 4)) := by
    have fine : AppFine w0 B jb b D F rs (bs r) S ((wp.alloc (.cells #[.pointer (some ⟨kb, 0, none⟩)] 29)).alloc (.cells #[.int .i64 0] 30)) e w3 → ∃ (x : Int) (S' : List Nat), e = .returned (.int .i64 x) ∧ Upd (jb :: S) (jb :: S') ((wp.alloc (.cells #[.pointer (some ⟨kb, 0, none⟩)] 29)).alloc (.cells #[.int .i64 0] 30)) w3 ∧
      Hid ((x = 0 ∧ ∃ D', JSt w0 B jb b D' (F ++ frameL (bs r)) (rs ++ [bs r]) S' w3 ∧ D'.failing = D.failing ∧ D'.calls ≤ D.calls + 4) ∨
        (x = 70 ∧ D.failing = true ∧ ∃ D', DiskAt w3 b D' S' ∧ JMay D' F (F ++ frameL (bs r)) ∧ jb ∉ S' ∧ Above B (jb :: S') ∧ Below B w0 w3 ∧ B ≤ w3.heap.size ∧ D'.failing = D.failing ∧ D'.calls ≤ D.calls + 4)) := by
      rintro ⟨D', S', he, hj, hu, hf, hc'⟩
      exact ⟨0, S', he, hu, .inl ⟨rfl, D', hj, hf, hc'⟩⟩
    rcases hpost with hp | ⟨hf, hp | ⟨D', S', he, _, hd, hm, hj, ha, hb, hs, hu, hf', hc'⟩⟩
    · exact fine hp
    · exact fine hp
    · exact ⟨70, S', he, hu, .inr ⟨rfl, hf, D', hd, hm, hj, ha, hb, hs, hf', hc'⟩⟩
  subst he
  clear hpost c0
  have hA := HA.out
  have hlt := HLT.out
  have HE := Lib.hid (keep_end wp.heap.size x hA hlt hu3)
  have hAn : ∀ k, wp.heap.size ≤ k → k ∉ jb :: S := fun k hk hm => by
    have := hlt k (by
      simp only [kF, List.mem_cons, List.mem_append] at hm ⊢
      exact .inr (.inr hm))
    omega
  have e3 := (hu3.block _ hA (hAn _ (by omega))).trans N2.out
  have b3 := (hu3.block wp.heap.size (by omega) (hAn _ (Nat.le_refl _))).trans N1.out
  have fe := frozen_of_row _ _ 0 _ _ e3
  have ce := cell_of_row _ _ 0 _ _ _ e3
  have hbody := H2.out.body.kept hu3 H2.out.kS H2.out.vS
  have kA : wp.heap.size + 1 ≠ kb := fun e => by have := hlt kb (by simp [kF]); omega
  have vA : ∀ y, y ∈ foot v → y ≠ wp.heap.size + 1 := fun y hy e => by have := hlt y (by simp [kF, hy]); omega
  have body4 : KBody (w3.setCell ⟨wp.heap.size + 1, 0, none⟩ (.int .i64 x)) kb jb m v false :=
    hbody.same (heap_setCell_other _ _ _ _ (fun e => kA e.symm)) (fun y hy => heap_setCell_other _ _ _ _ (vA y hy))
  have x1 : (w3.setCell ⟨wp.heap.size + 1, 0, none⟩ (.int .i64 x)).heap[wp.heap.size + 1]? = some (.cells #[.int .i64 x] 30 (0, 0)) := by rw [heap_setCell_same _ _ 0 _ _ _ e3]; rfl
  have x0 : (w3.setCell ⟨wp.heap.size + 1, 0, none⟩ (.int .i64 x)).heap[wp.heap.size]? = some (.cells #[.pointer (some ⟨kb, 0, none⟩)] 29 (0, 0)) := by rw [heap_setCell_other _ _ _ _ (by simp)]; exact b3
  have X0 := Lib.hid x0
  have X1 := Lib.hid x1
  have B4 := Lib.hid body4
  have KA := Lib.hid kA
  have HU3 := Lib.hid hu3
  clear hA hlt hAn e3 b3 hbody vA body4 x0 x1 hu3 kA
  go_wp2_with fail
  refine leaves_cons (f := 58) (args := #[.pointer (some ⟨wp.heap.size, 0, none⟩), .pointer (some ⟨wp.heap.size + 1, 0, none⟩)]) (by simp) (by simp [go_sem]) ?_
  refine (keep1_d wp.heap.size x .returning _ (cell_of_row _ _ 0 _ _ _ X0.out) (cell_of_row _ _ 0 _ _ _ X1.out) B4.out).mono ?_
  rintro e u' w'' ⟨rfl, rfl, rfl⟩
  refine ⟨_, keep_ret _ _ (wp.heap.size + 1) x (by
    show ((w3.setCell ⟨wp.heap.size + 1, 0, none⟩ (.int .i64 x)).setCell ⟨kb, 38, none⟩ (.bool (x == 70))).cell? _ = _
    rw [World.cell?_setCell_far _ _ _ _ (Ne.symm KA.out)]; exact cell_of_row _ _ 0 _ _ _ X1.out) rfl, ?_⟩
  obtain ⟨uE, nA, nA1⟩ := HE.out
  have uT : Upd (kF kb jb v S) (kF kb jb v S') wp ((w3.setCell ⟨wp.heap.size + 1, 0, none⟩ (.int .i64 x)).setCell ⟨kb, 38, none⟩ (.bool (x == 70))).drew :=
    ((((HQ.out.quiet (T := kF kb jb v S)).trans uE).setNew (p := ⟨wp.heap.size + 1, 0, none⟩) (by simp) _).setCell (p := ⟨kb, 38, none⟩) (by simp [kF]) _).drew
  have ho : m.out.length = 32 := H2.out.body.ok.out
  have aA : Above B [wp.heap.size + 1] := fun k hk => by
    have := HB.out
    simp at hk
    omega
  have uA : Upd [wp.heap.size + 1] [wp.heap.size + 1] w3 (w3.setCell ⟨wp.heap.size + 1, 0, none⟩ (.int .i64 x)) := (Upd.refl _ _).setCell (by simp) _
  have dA : ∀ k, k ∈ kF kb jb v S' → k ∉ [wp.heap.size + 1] := fun k hk hm => by
    simp at hm
    exact nA1 (hm ▸ hk)
  rcases hx.out with ⟨rfl, D', hj, hf, hc'⟩ | ⟨rfl, hf, D', hd, hm, hjS, ha, hb, hs, hf', hc'⟩
  · have st4 := (H2.out.jour HU3.out hj).other uA aA dA
    have st5 := st4.set m 38 (.bool false) st4.body.ok rfl (kqV_set38 ho false)
    exact .inl ⟨rfl, D', S', st5.quiet ((Upd.refl _ _).drew), uT, hf, hc'⟩
  · refine .inr ⟨rfl, D', S', ?_, uT, hf, hf'.trans hf, hc'⟩
    have hkv := B4.out.kv
    have hne : ∀ y, y ∈ foot v → y ≠ kb := fun y hy e => hkv (e ▸ hy)
    have kS' : kb ∉ jb :: S' := fun hm => by
      rcases HU3.out.new kb hm with h1 | h1
      · exact H2.out.kS h1
      · have := H2.out.body.lt; omega
    have vS' : ∀ y, y ∈ foot v → y ∉ jb :: S' := fun y hy hm => by
      rcases HU3.out.new y hm with h1 | h1
      · exact H2.out.vS y hy h1
      · have := H2.out.body.vlt y hy; omega
    have b5 : KBody ((w3.setCell ⟨wp.heap.size + 1, 0, none⟩ (.int .i64 70)).setCell ⟨kb, 38, none⟩ (.bool (70 == (70 : Int)))).drew kb jb m v true := by
      refine ⟨?_, row_same B4.out.own (fun y hy => ?_), hkv, B4.out.ok⟩
      · show ((w3.setCell ⟨wp.heap.size + 1, 0, none⟩ (.int .i64 70)).setCell ⟨kb, 38, none⟩ (.bool true)).heap[kb]? = _
        rw [heap_setCell_same _ _ _ _ _ _ B4.out.k, kqV_set38 ho true]
      · show ((w3.setCell ⟨wp.heap.size + 1, 0, none⟩ (.int .i64 70)).setCell ⟨kb, 38, none⟩ (.bool true)).heap[y]? = _
        exact heap_setCell_other _ _ _ _ (hne y hy)
    have habove : Above B (kF kb jb v S') := fun k hk => by
      simp only [kF, List.mem_cons, List.mem_append] at hk
      rcases hk with rfl | hk | hk
      · exact H2.out.hk
      · exact H2.out.hv k hk
      · exact ha k (by simpa using hk)
    refine ⟨b5, ?_, hm, kS', vS', hjS, ?_, habove, ?_, ?_⟩
    · refine hd.same (fun k hk => ?_)
      show ((w3.setCell ⟨wp.heap.size + 1, 0, none⟩ (.int .i64 70)).setCell ⟨kb, 38, none⟩ (.bool true)).heap[k]? = _
      rw [heap_setCell_other _ _ _ _ (fun (e : k = kb) => kS' (by rw [← e]; simp [hk])), heap_setCell_other _ _ _ _ (fun (e : k = wp.heap.size + 1) => dA k (by simp [kF, hk]) (by simp [e]))]
    · have h1 : jb < w3.heap.size := Nat.lt_of_lt_of_le (H2.out.j.lt jb (by simp)) HU3.out.size
      simpa using h1
    · have h1 : Upd (kb :: [wp.heap.size + 1]) (kb :: [wp.heap.size + 1]) w3 ((w3.setCell ⟨wp.heap.size + 1, 0, none⟩ (.int .i64 70)).setCell ⟨kb, 38, none⟩ (.bool true)).drew := (((Upd.refl _ _).setCell (p := ⟨wp.heap.size + 1, 0, none⟩) (by simp) _).setCell (p := ⟨kb, 38, none⟩) (by simp) _).drew
      refine h1.belowOf hb (fun k hk => ?_) hs
      rcases List.mem_cons.1 hk with rfl | hk
      · exact H2.out.hk
      · exact aA k hk
    · simpa using hs
end
end Go.Proofs.YtinpenoeohejoaaGreatDoor

namespace Go.Proofs.YtinpenoeohejoaaGreatDoor
open Go.RowKit
set_option maxRecDepth 100000

theorem wp_buildRun {P : Program} {o : Oper} {a : Act} {w : World} {K : Act → World → Prop} {Q : Exit → Act → World → Prop} (t : TypeId) (len : Nat) (parts : Array (Nat × Operand)) (ho : o.op = .buildSlice t len parts)
    (v : Value) (w' : World) (hr : (Instr.buildSlice t len (parts.map fun (i, x) => (i, a.eval x))).run P w = .ok v w') (h : K (a.put o.dst v) w') : o.wp P a w K Q := by
  unfold Oper.wp execOp
  simp only [ho, Sem.run_bind, hr, Result.andThen_ok]
  exact h
end Go.Proofs.YtinpenoeohejoaaGreatDoor

namespace Go.Proofs.YtinpenoeohejoaaGreatDoor
open Go.RowKit
set_option maxRecDepth 100000

theorem yieldsIf_loadW {P : Program} {ops : Array Oper} {S : World → Prop} {op : Oper} {a : Act} (hw : Region.wanted op (yielded ops a.tmps) = true) (ty : TypeId) (x : Operand) (ho : op.op = .load ty x) (v : Value) (hx : a.eval x = v) (C : Array Value)
    (hS : ∀ w, S w → (Instr.loadAt ty v).run P w = .ok (.agg C) w) : YieldsIf P ops S op (.agg C) a :=
  .inl ⟨hw, fun w hw' => by
    unfold execOp
    simp only [ho, hx, Sem.run_bind, Sem.run_pure, Result.andThen_ok, hS w hw']⟩
theorem blk_new (wB : World) (T : TypeId) (Z C : Array Value) : ∃ wC : World, Hid ((wB.alloc (.cells Z T)).heap[wB.heap.size]? = some (.cells Z T (0, 0))) ∧ Hid ((wB.alloc (.cells Z T)).setRow wB.heap.size C = wC) ∧ Hid (wC.heap[wB.heap.size]? = some (.cells C T (0, 0))) ∧ Upd [] [] wB wC := by
  have h := heap_alloc_new wB (.cells Z T)
  exact ⟨_, h, rfl, setRow_heap _ _ _ _ _ _ h, ((Upd.refl _ _).alloc _).setRowNew (Nat.le_refl _) _⟩
theorem alloc_let (W : World) (ob : Obj) : ∃ (g : Nat) (W' : World), g = W.heap.size ∧ W' = W.alloc ob ∧ Hid (W'.heap[g]? = some ob) ∧ Upd [] [] W W' := ⟨_, _, rfl, rfl, heap_alloc_new _ _, (Upd.refl _ _).alloc _⟩
theorem alloc_letD (W : World) (ob : Obj) : ∃ (g : Nat) (W' : World), g = W.heap.size ∧ W' = (W.alloc ob).drew ∧ Hid (W'.heap[g]? = some ob) ∧ Upd [] [] W W' := ⟨_, _, rfl, rfl, heap_alloc_new _ _, ((Upd.refl _ _).alloc _).drew⟩
theorem verify22_is (p : Int) (x : Rc) (b : Bool) (hp : i64in p) (hx : x.ok) (hd : x.draw.size ≤ 1000000000) (h : verB p (bodyL x) x.r x.s = b) (w : World) (htab : Tabs w) : Calls Tryz.prog 131 #[.int .i64 p, .agg (rcV x).toArray] w (fun e w' => e = .returned (.bool b) ∧ Upd [] [] w w') := by
  rw [← h]
  exact verify22_any p x hp hx hd w htab
theorem printR_ver (k s n : Int) (d : ByteArray) (a b c : List UInt8) (x : Int) : verB (gP (expN x) : Int) (bodyL (printR k s n d a b c x)) (printR k s n d a b c x).r (printR k s n d a b c x).s = true :=
  ver_with (expN x) (nonceN (expN x) (bodyL ⟨k, s, n, d, a, b, c, 0, 0⟩)) (bodyL ⟨k, s, n, d, a, b, c, 0, 0⟩)
theorem RcAt.load {w : World} {g : Nat} {x : Rc} (h : RcAt w g x) (hx : x.ok) (R : Array Value) (hR : R = (rcV x).toArray) : (Instr.loadAt 41 (.pointer (some ⟨g, 0, none⟩))).run Tryz.prog w = .ok (.agg R) w := by
  rw [hR]
  exact run_loadAt_mid w g 0 _ _ _ h.all Tryz.underlying41 rfl (rcInfo hx)
theorem rcLet {x : Rc} (h : x.ok) (R : Array Value) (hR : R = (rcV x).toArray) : Hid ((Tryz.prog.info? 41).map (·.size) = some R.size) ∧ Hid (R.all (·.oneCell') = true) ∧ Hid ((Tryz.zeroCells41).size = R.size) := by
  rw [hR]
  refine ⟨rcSz h, rcOne _, ?_⟩
  show _ = _
  simp [rcV_len h]
theorem hash_load {w : World} {g : Nat} {l : List UInt8} (hl : l.length = 32) (H : Array Value) (hH : H = (byteVals l).toArray) (h : w.heap[g]? = some (.cells H 37 (0, 0))) : (Instr.loadAt 37 (.pointer (some ⟨g, 0, none⟩))).run Tryz.prog w = .ok (.agg H) w := by
  subst hH
  refine run_loadAt_mid w g 0 _ _ _ (fun j v hv => ?_) Tryz.underlying37 rfl (hashLen hl)
  rw [Nat.zero_add, cell_of_row _ _ _ _ _ _ h, List.getElem?_toArray]
  exact hv
theorem rcVals_len2 (l : List Rc) (h : ∀ x ∈ l, x.ok) : (rcVals l).length = l.length * 102 := by
  induction l with
  | nil => rfl
  | cons x r ih =>
    have h1 := rcV_len (h x (by simp))
    have h2 := ih (fun y hy => h y (by simp [hy]))
    unfold rcVals at h2 ⊢
    rw [List.flatMap_cons, List.length_append, h1, h2, List.length_cons]
    omega
theorem rcVals_get2 : ∀ (l : List Rc) (k : Nat) (x : Rc), (∀ y ∈ l, y.ok) → l[k]? = some x → ∀ j v, (rcV x)[j]? = some v → (rcVals l)[k * 102 + j]? = some v := by
  intro l
  induction l with
  | nil => intro k x _ h; simp at h
  | cons a r ih =>
    intro k x hok h j v hv
    have la := rcV_len (hok a (by simp))
    unfold rcVals at ih ⊢
    rw [List.flatMap_cons]
    cases k with
    | zero =>
      simp at h
      subst h
      rw [List.getElem?_append_left (by have := (List.getElem?_eq_some_iff.1 hv).1; omega)]
      simpa using hv
    | succ k =>
      rw [List.getElem?_append_right (by omega), la, show (k + 1) * 102 + j - 102 = k * 102 + j by omega]
      exact ih k x (fun y hy => hok y (List.mem_cons_of_mem _ hy)) (by simpa using h) j v hv
theorem rcs_copy (w : World) (g : Nat) (l : List Rc) (ao : Option Addr) (cap : Nat) (hl : l.length ≤ 1000000) (h : RcsIn w ao l) :
    ∃ (ao2 : Option Addr) (cap2 : Nat) (w' : World), Hid ((Builtin.append_ #[33, 33] 33 #[.slice (some ⟨g, 0, none⟩) 0 0, .slice ao l.length cap]).run Tryz.prog w = .ok (.slice ao2 l.length cap2) w') ∧ Hid (RcsIn w' ao2 l) ∧ l.length ≤ cap2 ∧ Upd [] [] w w' := by
  obtain ⟨i, hi, hz, hs, hb⟩ := rcI
  cases l with
  | nil =>
    refine ⟨some ⟨g, 0, none⟩, 0, w, ?_, fun k x h => by simp at h, Nat.le_refl _, Upd.refl _ _⟩
    refine run_append_nothing (P := Tryz.prog) w 33 33 33 41 i Tryz.underlying33 hi (some ⟨g, 0, none⟩) 0 0 (Nat.le_refl _) _ ⟨.inl ⟨_, Tryz.underlying33⟩, fun w' => rfl, ?_, ?_, by simp, by simp⟩
    · cases ao <;> simp [Builtin.firstCells, loadCells, loadCellsFrom]
    · cases ao <;> simp [Builtin.firstCells, loadCells, loadCellsFrom]
  | cons x r =>
    obtain ⟨_, _, g0, o, rfl, hg0, _⟩ := h 0 x rfl
    have hok : ∀ y ∈ (x :: r), y.ok := fun y hy => by
      obtain ⟨k, hk⟩ := List.mem_iff_getElem?.1 hy
      exact (h k y hk).1
    have hlen := rcVals_len2 (x :: r) hok
    have hnews : ∀ j v, (rcVals (x :: r))[j]? = some v → w.cell? ((⟨g0, o, none⟩ : Addr).add j) = some v := by
      intro j v hv
      have hj := (List.getElem?_eq_some_iff.1 hv).1
      have hk : j / 102 < (x :: r).length := by rw [hlen] at hj; omega
      obtain ⟨y, hy⟩ : ∃ y, (x :: r)[j / 102]? = some y := ⟨_, List.getElem?_eq_getElem hk⟩
      obtain ⟨hyo, _, g1, o1, e, _, hr⟩ := h _ y hy
      simp only [Option.some.injEq, Addr.mk.injEq, and_true] at e
      obtain ⟨rfl, rfl⟩ := e
      have hm : j % 102 < (rcV y).length := by rw [rcV_len hyo]; omega
      obtain ⟨u, hu⟩ : ∃ u, (rcV y)[j % 102]? = some u := ⟨_, List.getElem?_eq_getElem hm⟩
      have e1 := rcVals_get2 (x :: r) _ y hok hy _ u hu
      rw [show j / 102 * 102 + j % 102 = j by omega, hv] at e1
      injection e1 with e1
      subst e1
      have e2 : (⟨g0, o, none⟩ : Addr).add j = ⟨g0, o + j, none⟩ := by simp [Addr.add]
      rw [e2]
      have := hr (j % 102) v hu
      rw [show o + j / 102 * 102 + j % 102 = o + j by omega] at this
      exact this
    have hq := run_append_grow (P := Tryz.prog) w 33 33 41 i _ Tryz.underlying33 hi hz ⟨g, 0, none⟩ 0 0 [] (by simp) (by simp) ⟨g0, o, none⟩ (x :: r).length cap (rcVals (x :: r)) (by rw [hs]; exact hlen) hnews (by simp) (by omega) (by
      rw [hb]
      refine growslice_fits (need := 0 + (x :: r).length) (old := 0) (by simp) (by omega))
    rw [Nat.zero_add] at hq
    refine ⟨_, _, _, hq, ?_, ?_, (Upd.refl _ w).drew.alloc _⟩
    · intro k y hk
      have hkl : k < (x :: r).length := (List.getElem?_eq_some_iff.1 hk).1
      refine ⟨(h k y hk).1, (h k y hk).2.1, w.heap.size, 0, rfl, by simp, fun j v hv => ?_⟩
      have e1 := rcVals_get2 (x :: r) k y hok hk j v hv
      have hjl := (List.getElem?_eq_some_iff.1 e1).1
      rw [Nat.zero_add]
      refine (cell_of_row _ w.drew.heap.size (k * 102 + j) _ _ _ (heap_alloc_new w.drew _)).trans ?_
      rw [Array.getElem?_append_left (by simp; omega), Array.getElem?_append_right (by simp)]
      simp only [List.size_toArray, List.length_nil, Nat.sub_zero, List.getElem?_toArray]
      exact e1
    · exact grownCap_ge w (x :: r).length 0 41
theorem rcs_empty (W : World) : (Instr.buildSlice 33 0 #[]).run Tryz.prog W = .ok (.slice (some ⟨W.heap.size, 0, none⟩) 0 0) (W.alloc (.cells #[] 41)) := by
  obtain ⟨i, hi, hz, hs, hb⟩ := rcI
  simp [Instr.buildSlice, run_underlying Tryz.underlying33, sizeOf, typeInfo, hi, newRow, Instr.fill]
  rw [show (Array.range 0 : Array Nat) = #[] from by apply Array.ext'; simp]
  simp
theorem wpList_buildRun {P : Program} {ops : Array Oper} {rest : List Oper} {o : Oper} {a : Act} {w : World} {Q : Exit → Act → World → Prop} (hg : o.guard = none) (t : TypeId) (len : Nat) (parts : Array (Nat × Operand)) (ho : o.op = .buildSlice t len parts)
    (v : Value) (w' : World) (hr : (Instr.buildSlice t len (parts.map fun (i, x) => (i, a.eval x))).run P w = .ok v w')
    (h : wpList P ops Q rest (a.put o.dst v) w') : wpList P ops Q (o :: rest) a w :=
  wpList_plain hg fun _ hK => by
    unfold Oper.wp execOp
    simp only [ho, Sem.run_bind, hr, Result.andThen_ok]
    exact hK _ _ h

end Go.Proofs.YtinpenoeohejoaaGreatDoor
