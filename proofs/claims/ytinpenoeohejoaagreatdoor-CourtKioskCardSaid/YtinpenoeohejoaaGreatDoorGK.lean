/- kiosk.Learn. kiosk: Refill, Paper. -/
import Derived.Test.YtinpenoeohejoaaGreatDoorGZ
import Derived.Test.YtinpenoeohejoaaGreatDoorGJ
namespace Go.Proofs.YtinpenoeohejoaaGreatDoor
open Go.RowKit
set_option maxRecDepth 100000

theorem Upd.setCellsIn {S S' : List Nat} {a : World} {g : Nat} (hg : g ∈ S) : ∀ (V : List Value) (o : Nat) (b : World), Upd S S' a b → Upd S S' a (b.setCells g o V)
  | [], _, _, h => h
  | v :: V, o, b, h => by
    rw [World.setCells]
    exact Upd.setCellsIn hg V (o + 1) _ (h.setCell (p := ⟨g, o, none⟩) hg v)
section
variable {w0 wp w1 : World} {B kb jb b : Nat} {m m' : KM} {v : Value} {br : Bool} {D : DiskM} {F G : List UInt8} {rs : List (List UInt8)} {S S' T T' : List Nat}
def KM.lrn (m : KM) (r : Nat) (hs : List UInt8) : KM := { m with round := r, out := hs }
theorem KSt.lrn (h : KSt w0 B kb jb b D F rs S m v wp) (r : Nat) (hs : List UInt8) (hl : hs.length = 32) (hm' : (m.lrn r hs).ok) :
    KSt w0 B kb jb b D F rs S (m.lrn r hs) v ((wp.setCell ⟨kb, 5, none⟩ (.int .i64 (r : Int))).drew.setCells kb 6 (byteVals hs)) ∧ Upd [kb] [kb] wp ((wp.setCell ⟨kb, 5, none⟩ (.int .i64 (r : Int))).drew.setCells kb 6 (byteVals hs)) := by
  have hu : Upd [kb] [kb] wp ((wp.setCell ⟨kb, 5, none⟩ (.int .i64 (r : Int))).drew.setCells kb 6 (byteVals hs)) := Upd.setCellsIn (by simp) _ _ _ ((Upd.refl _ _).setCell (p := ⟨kb, 5, none⟩) (by simp) _).drew
  have hkv := h.body.kv
  have hne : ∀ x, x ∈ foot v → x ≠ kb := fun x hx e => hkv (e ▸ hx)
  refine ⟨⟨⟨?_, ?_, hkv, hm'⟩, h.j.other hu (by intro k hk; simp at hk; rw [hk]; exact h.hk) (fun k hk hm => ?_), h.kS, h.vS, h.hk, h.hv⟩, hu⟩
  · have e1 := heap_setCell_same wp kb 5 _ _ (.int .i64 (r : Int)) h.body.k
    have e2 : (kqV jb m v false).toArray.setIfInBounds 5 (.int .i64 (r : Int)) = (([.pointer (some ⟨jb, 0, none⟩), .int .i64 m.id, .int .i64 m.sec, v, .int .i64 (m.paper : Int), .int .i64 (r : Int)] : List Value) ++ (byteVals m.out ++ [Value.bool false])).toArray := rfl
    rw [e2] at e1
    exact row_setCells (byteVals hs) 6 _ [.pointer (some ⟨jb, 0, none⟩), .int .i64 m.id, .int .i64 m.sec, v, .int .i64 (m.paper : Int), .int .i64 (r : Int)] (byteVals m.out) [.bool false] e1 rfl (by rw [byteVals_length, byteVals_length, hl, h.body.ok.out])
  · exact row_same h.body.own (fun x hx => hu.block x (h.body.vlt x hx) (by simpa using hne x hx))
  · simp at hm
    exact h.kS (hm ▸ hk)
def learnE (m : KM) (r : Int) (hs : List UInt8) : Int := if r < 1 ∨ 1000000000 < r then 15 else if r < (m.round : Int) then 32 else if r = (m.round : Int) then (if hs = m.out then 0 else 42) else -1
def RetI (x : Int) (w : World) (e : Ending) (w' : World) : Prop := e = .returned (.int .i64 x) ∧ Upd [] [] w w'
theorem Learn_broken (h : KBody wp kb jb m v true) (r : Int) (H : Array Value) : Calls Tryz.prog 10 #[.pointer (some ⟨kb, 0, none⟩), .int .i64 r, .agg H] wp (RetI 70 wp) := by
  have u2 : Upd [] [] wp (wp.alloc (.cells H 37)) := (Upd.refl _ _).alloc _
  have h2 := h.quiet u2
  have hO := Lib.hid (isOpen_any h2)
  have c38 := h2.c38
  have HU2 := Lib.hid u2
  clear u2 h2 h
  go_enter Tryz.func10, Tryz.ntmps10
  go_wp2_with (go_at_call 30; ((with_reducible refine hO.out.mono ?_); rintro e w' ⟨rfl, rfl⟩))
  go_ret
  exact ⟨rfl, HU2.out⟩
set_option maxHeartbeats 2000000 in
theorem Learn_no (h : KBody wp kb jb m v false) (r : Int) (hs : List UInt8) (hr : i64in r) (hl : hs.length = 32) (x : Int) (hx : learnE m r hs = x) (hx1 : x ≠ -1) : Calls Tryz.prog 10 #[.pointer (some ⟨kb, 0, none⟩), .int .i64 r, .agg (byteVals hs).toArray] wp (RetI x wp) := by
  obtain ⟨H, hH⟩ : ∃ H, H = (byteVals hs).toArray := ⟨_, rfl⟩
  obtain ⟨O, hO⟩ : ∃ O, O = (byteVals m.out).toArray := ⟨_, rfl⟩
  have u2 : Upd [] [] wp (wp.alloc (.cells H 37)) := (Upd.refl _ _).alloc _
  have rA : (wp.alloc (.cells H 37)).heap[wp.heap.size]? = some (.cells H 37 (0, 0)) := heap_alloc_new _ _
  have h2 := h.quiet u2
  have hOp := Lib.hid (isOpen_any h2)
  have c38 := h2.c38
  have c5 := h2.c5
  obtain ⟨hr1, hr2⟩ := hr
  have hmr := h.ok.round
  have HU2 := Lib.hid u2
  rw [← hH]
  by_cases h15 : r < 1 ∨ 1000000000 < r
  · unfold learnE at hx
    rw [if_pos h15] at hx
    subst hx
    clear u2 rA h2 hH hO h hx1
    by_cases h1 : r < 1
    · clear h15
      go_enter Tryz.func10, Tryz.ntmps10
      go_wp2_with (go_at_call 30; ((with_reducible refine hOp.out.mono ?_); rintro e w' ⟨rfl, rfl⟩))
      go_ret
      exact ⟨rfl, HU2.out⟩
    · have h3 : 1000000000 < r := by omega
      clear h15
      go_enter Tryz.func10, Tryz.ntmps10
      go_wp2_with (go_at_call 30; ((with_reducible refine hOp.out.mono ?_); rintro e w' ⟨rfl, rfl⟩))
      go_ret
      exact ⟨rfl, HU2.out⟩
  · obtain ⟨g1, g2⟩ : ¬ r < 1 ∧ ¬ 1000000000 < r := by omega
    by_cases h32 : r < (m.round : Int)
    · unfold learnE at hx
      rw [if_neg h15, if_pos h32] at hx
      subst hx
      clear u2 rA h2 hH hO h hx1 h15
      generalize m.round = z at *
      go_enter Tryz.func10, Tryz.ntmps10
      go_wp2_with (go_at_call 30; ((with_reducible refine hOp.out.mono ?_); rintro e w' ⟨rfl, rfl⟩))
      go_ret
      exact ⟨rfl, HU2.out⟩
    · have heqr : r = (m.round : Int) := by
        by_cases e : r = (m.round : Int)
        · exact e
        · unfold learnE at hx
          rw [if_neg h15, if_neg h32, if_neg e] at hx
          exact absurd hx.symm hx1
      have hx' : (if hs = m.out then (0 : Int) else 42) = x := by
        unfold learnE at hx
        rw [if_neg h15, if_neg h32, if_pos heqr] at hx
        exact hx
      obtain ⟨e, he⟩ : ∃ e : Bool, e = decide (hs = m.out) := ⟨_, rfl⟩
      have HEQ : Hid (∀ W : World, (Op.equalIn 10000 37 (.agg H) (.agg O)).run Tryz.prog W = .ok e W) := by
        intro W
        rw [hH, hO, show (10000 : Nat) = 9998 + 2 from rfl, eqHash_run 9998 _ _ W hl h.ok.out, he]
      have HX : Hid (x = if e then 0 else 42) := by
        show _ = _
        rw [← hx', he]
        by_cases k : hs = m.out <;> simp [k]
      have HB := Lib.hid h2
      have RA := Lib.hid rA
      obtain ⟨w2, hw2⟩ : ∃ w2, wp.alloc (.cells H 37) = w2 := ⟨_, rfl⟩
      have HW2 := Lib.hid hw2
      rw [hw2] at HU2 HB RA hOp c38 c5
      have HK : Hid (∀ W : World, Upd [] [] w2 W → W.cell? ⟨kb, 5, none⟩ = some (.int .i64 (m.round : Int)) ∧ (Instr.loadAt 37 (.pointer (some ⟨kb, 6, none⟩))).run Tryz.prog W = .ok (.agg O) W ∧ (Instr.loadAt 37 (.pointer (some ⟨wp.heap.size, 0, none⟩))).run Tryz.prog W = .ok (.agg H) W) := by
        intro W u
        have hb := HB.out.quiet u
        exact ⟨hb.c5, hb.outLoad O hO, hash_load hl H hH (row_updH RA.out u)⟩
      have ud0 : Upd [] [] w2 w2.drew := (Upd.refl _ _).drew
      have heq := HEQ.out
      have g3 : ¬ r < (m.round : Int) := h32
      clear u2 rA h2 hw2 hH hO h hx1 h15 hx hx' he h32 HEQ
      generalize m.round = z at *
      subst heqr
      cases e
      · skip
        go_enter Tryz.func10, Tryz.ntmps10
        go_upto_region 1 with (fail)
        rw [HW2.out]
        go_upto_region 9 with (go_at_call 30; ((with_reducible refine hOp.out.mono ?_); rintro e w' ⟨rfl, rfl⟩))
        refine @id ((?pj1 : Prop) → _) (fun hJ => ?mj1) ?jj1
        case mj1 =>
          refine wp_region_noPanic ?_
          refine wp_region_held_drew (S := fun wp' => wp'.cell? ⟨kb, 5, none⟩ = some (.int .i64 (z : Int)) ∧ (Instr.loadAt 37 (.pointer (some ⟨kb, 6, none⟩))).run Tryz.prog wp' = .ok (.agg O) wp' ∧ (Instr.loadAt 37 (.pointer (some ⟨wp.heap.size, 0, none⟩))).run Tryz.prog wp' = .ok (.agg H) wp') (by kernel_rfl) ?_ (fun hHeld => ?_)
          · exact HK.out _ ud0
          refine tkY 0 hHeld ?_
          refine tkY 1 hHeld ?_
          refine tkY 2 hHeld ?_
          refine tkY 3 hHeld ?_
          refine tkY 4 hHeld ?_
          refine tkY 5 hHeld ?_
          refine tkY 6 hHeld ?_
          refine tkL 7 hHeld H (fun w hSw => hSw.2.2) ?_
          refine tkY 8 hHeld ?_
          refine tkY 9 hHeld ?_
          refine tkY 10 hHeld ?_
          refine tkL 11 hHeld O (fun w hSw => hSw.2.1) ?_
          refine tkY 12 hHeld ?_
          refine tkY 13 hHeld ?_
          refine tkY 14 hHeld ?_
          refine wpAnyH_done (by kernel_rfl) ?_ _
          refine NoPanic.normal ?_
          exact hJ
        clear c5 c38
        have c5 : w2.drew.cell? ⟨kb, 5, none⟩ = some (.int .i64 (z : Int)) := (HK.out _ ud0).1
        go_wp2_with fail
        go_ret
        exact ⟨by rw [HX.out]; rfl, HU2.out.trans ud0⟩
      · skip
        go_enter Tryz.func10, Tryz.ntmps10
        go_upto_region 1 with (fail)
        rw [HW2.out]
        go_upto_region 9 with (go_at_call 30; ((with_reducible refine hOp.out.mono ?_); rintro e w' ⟨rfl, rfl⟩))
        refine @id ((?pj15 : Prop) → _) (fun hJ => ?mj15) ?jj15
        case mj15 =>
          refine wp_region_noPanic ?_
          refine wp_region_held_drew (S := fun wp' => wp'.cell? ⟨kb, 5, none⟩ = some (.int .i64 (z : Int)) ∧ (Instr.loadAt 37 (.pointer (some ⟨kb, 6, none⟩))).run Tryz.prog wp' = .ok (.agg O) wp' ∧ (Instr.loadAt 37 (.pointer (some ⟨wp.heap.size, 0, none⟩))).run Tryz.prog wp' = .ok (.agg H) wp') (by kernel_rfl) ?_ (fun hHeld => ?_)
          · exact HK.out _ ud0
          refine tkY 0 hHeld ?_
          refine tkY 1 hHeld ?_
          refine tkY 2 hHeld ?_
          refine tkY 3 hHeld ?_
          refine tkY 4 hHeld ?_
          refine tkY 5 hHeld ?_
          refine tkY 6 hHeld ?_
          refine tkL 7 hHeld H (fun w hSw => hSw.2.2) ?_
          refine tkY 8 hHeld ?_
          refine tkY 9 hHeld ?_
          refine tkY 10 hHeld ?_
          refine tkL 11 hHeld O (fun w hSw => hSw.2.1) ?_
          refine tkY 12 hHeld ?_
          refine tkY 13 hHeld ?_
          refine tkY 14 hHeld ?_
          refine wpAnyH_done (by kernel_rfl) ?_ _
          refine NoPanic.normal ?_
          exact hJ
        clear c5 c38
        have c5 : w2.drew.cell? ⟨kb, 5, none⟩ = some (.int .i64 (z : Int)) := (HK.out _ ud0).1
        go_wp2_with fail
        go_ret
        exact ⟨by rw [HX.out]; rfl, HU2.out.trans ud0⟩
def KeepX (w0 : World) (B kb jb b : Nat) (D : DiskM) (F : List UInt8) (rs : List (List UInt8)) (r : List UInt8) (S' : List Nat) (m : KM) (v : Value) (x : Int) (w' : World) : Prop :=
  (x = 0 ∧ ∃ D', KSt w0 B kb jb b D' (F ++ frameL r) (rs ++ [r]) S' m v w' ∧ D'.failing = D.failing ∧ D'.calls ≤ D.calls + 4) ∨
  (x = 70 ∧ ∃ D', KBr w0 B kb jb b D' F (F ++ frameL r) S' m v w' ∧ D.failing = true ∧ D'.failing = true ∧ D'.calls ≤ D.calls + 4)
theorem keep_split {w : World} {e : Ending} {w' : World} {r : List UInt8} (h : KeepTo w0 B kb jb b D F rs r S m v w e w') : ∃ (x : Int) (S' : List Nat), e = .returned (.int .i64 x) ∧ Upd (kF kb jb v S) (kF kb jb v S') w w' ∧ Hid (KeepX w0 B kb jb b D F rs r S' m v x w') := by
  rcases h with ⟨he, D', S', hst, hup, hf, hc⟩ | ⟨he, D', S', hbr, hup, hf, hf', hc⟩
  · exact ⟨0, S', he, hup, .inl ⟨rfl, D', hst, hf, hc⟩⟩
  · exact ⟨70, S', he, hup, .inr ⟨rfl, D', hbr, hf, hf', hc⟩⟩
def DoneTo (w0 : World) (B kb jb b : Nat) (D : DiskM) (F : List UInt8) (rs : List (List UInt8)) (r : List UInt8) (S : List Nat) (m m' : KM) (v : Value) (w : World) (e : Ending) (w' : World) : Prop :=
  (e = .returned (.int .i64 0) ∧ KFine w0 B kb jb b D F rs r S m m' v w w') ∨ (e = .returned (.int .i64 70) ∧ KFell w0 B kb jb b D F r S m v w w')
theorem KM.lrn_ok {r : Nat} {hs : List UInt8} (h : m.ok) (hr : m.round < r) (hr2 : r ≤ 1000000000) (hl : hs.length = 32) : (m.lrn r hs).ok ∧ m.step (.lrn r hs) = some (m.lrn r hs) := by
  have e : m.step (.lrn r hs) = some (m.lrn r hs) := by
    simp only [KM.step]
    rw [if_pos ⟨hr, hr2, hl⟩]
    rfl
  exact ⟨KM.ok_step h e, e⟩
set_option maxHeartbeats 4000000 in
theorem Learn_go (h : KSt w0 B kb jb b D F rs S m v wp) (r : Nat) (hs : List UInt8) (hl : hs.length = 32) (hr : m.round < r) (hr2 : r ≤ 1000000000) (hc : D.calls + 4 ≤ 65536) (hfit : spaceL rs + 800 ≤ 16777216) (htab : Tabs wp) :
    Calls Tryz.prog 10 #[.pointer (some ⟨kb, 0, none⟩), .int .i64 (r : Int), .agg (byteVals hs).toArray] wp (DoneTo w0 B kb jb b D F rs (recE (.lrn r hs)) S m (m.lrn r hs) v wp) := by
  obtain ⟨H, hH⟩ : ∃ H, H = (byteVals hs).toArray := ⟨_, rfl⟩
  have HHI : Hid ((Tryz.prog.info? 37).map (·.size) = some H.size) := by show _ = _; rw [hH]; exact hashInfo hl
  have HH1 : Hid (H.all (·.oneCell') = true) := by show _ = _; rw [hH]; exact hashOne _
  obtain ⟨w2, hw2⟩ : ∃ w2, wp.alloc (.cells H 37) = w2 := ⟨_, rfl⟩
  have u2 : Upd [] [] wp w2 := by rw [← hw2]; exact (Upd.refl _ _).alloc _
  have rA : w2.heap[wp.heap.size]? = some (.cells H 37 (0, 0)) := by rw [← hw2]; exact heap_alloc_new _ _
  have h2 := h.body.quiet u2
  have hOp := Lib.hid (isOpen_any h2)
  have c38 := h2.c38
  have c5 := h2.c5
  have i5 : i64in (r : Int) := by unfold i64in; omega
  have hIt : Hid (∀ W, Upd [] [] wp W → Calls Tryz.prog 27 #[.int .i64 (r : Int)] W (MkS (Lib.itoa (r : Int)) W)) := fun W u => itoa_any (r : Int) W i5 (htab.upd u)
  have hHx : Hid (∀ W, Calls Tryz.prog 35 #[.agg H] W (MkS (hexL hs) W)) := fun W => by rw [hH]; exact hexText_any hs hl W
  have hKp : Hid (∀ (W : World) (y1 y2 : ByteArray), Upd [] [] wp W → bs y1 = Lib.itoa (r : Int) → bs y2 = hexL hs → Calls Tryz.prog 26 #[.pointer (some ⟨kb, 0, none⟩), .string (ByteArray.mk #[108, 101, 97, 114, 110, 32] ++ y1 ++ ByteArray.mk #[32] ++ y2)] W (KeepTo w0 B kb jb b D F rs (recE (.lrn r hs)) S m v W)) := by
    intro W y1 y2 u e1 e2
    have k1 : y1.size ≤ 20 := by rw [← bs_length, e1]; exact itoa_len _ i5
    have k2 : y2.size = 64 := by rw [← bs_length, e2, hexL_len, hl]
    have e3 : bs (ByteArray.mk #[108, 101, 97, 114, 110, 32] ++ y1 ++ ByteArray.mk #[32] ++ y2) = recE (.lrn r hs) := by
      rw [dBs_append, dBs_append, dBs_append, e1, e2]
      show _ = wLrn ++ (Lib.itoa (r : Int) ++ 32 :: hexL hs)
      show (wLrn ++ Lib.itoa (r : Int) ++ [32]) ++ hexL hs = _
      simp
    have k3 : (ByteArray.mk #[108, 101, 97, 114, 110, 32] ++ y1 ++ ByteArray.mk #[32] ++ y2).size ≤ 100 := by
      simp only [ByteArray.size_append]
      show 6 + y1.size + 1 + y2.size ≤ _
      omega
    have k4 := keep_any (h.quiet u) (ByteArray.mk #[108, 101, 97, 114, 110, 32] ++ y1 ++ ByteArray.mk #[32] ++ y2) hc (by omega)
    rw [e3] at k4
    exact k4
  obtain ⟨hmo, _⟩ := KM.lrn_ok h.body.ok hr hr2 hl
  have hFin : Hid (∀ (W : World) (D' : DiskM) (F' : List UInt8) (rs' : List (List UInt8)) (S' : List Nat), KSt w0 B kb jb b D' F' rs' S' m v W → KSt w0 B kb jb b D' F' rs' S' (m.lrn r hs) v ((W.setCell ⟨kb, 5, none⟩ (.int .i64 (r : Int))).drew.setCells kb 6 H.toList) ∧ Upd [kb] [kb] W ((W.setCell ⟨kb, 5, none⟩ (.int .i64 (r : Int))).drew.setCells kb 6 H.toList) ∧ W.frozen? ⟨kb, 5, none⟩ = false ∧ (W.setCell ⟨kb, 5, none⟩ (.int .i64 (r : Int))).there kb 6 H.size) := by
    intro W D' F' rs' S' k
    obtain ⟨a1, a2⟩ := k.lrn r hs hl hmo
    have e : H.toList = byteVals hs := by rw [hH]
    have hz : H.size = 32 := by rw [hH, hashSz hl]
    rw [e, hz]
    refine ⟨a1, a2, k.body.free 5, fun j hj => ?_⟩
    have e1 := heap_setCell_same W kb 5 _ _ (.int .i64 (r : Int)) k.body.k
    refine ⟨?_, frozen_of_row _ _ _ _ _ e1⟩
    rw [cell_of_row _ _ _ _ _ _ e1]
    have hlen : ((kqV jb m v false).toArray.setIfInBounds 5 (.int .i64 (r : Int))).size = 39 := by simp [kqV_len k.body.ok.out]
    rw [Array.getElem?_eq_getElem (by rw [hlen]; omega)]
    rfl
  have hld : ∀ W : World, W.heap[wp.heap.size]? = some (.cells H 37 (0, 0)) → (Instr.loadAt 37 (.pointer (some ⟨wp.heap.size, 0, none⟩))).run Tryz.prog W = .ok (.agg H) W := fun W hA => hash_load hl H hH hA
  have HLD := Lib.hid hld
  have HLT := Lib.hid h.lt
  have HOFF : Hid (wp.heap.size ∉ kF kb jb v S) := fun hm => absurd (h.lt _ hm) (Nat.lt_irrefl _)
  have HXL : Hid ((hexL hs).length = 64) := by show _ = _; rw [hexL_len, hl]
  have HKB : Hid (kb < wp.heap.size) := h.body.lt
  have hmr := h.body.ok.round
  have RA := Lib.hid rA
  have HU2 := Lib.hid u2
  have HW2 := Lib.hid hw2
  have g1 : ¬ ((r : Int) < 1) := by omega
  have g2 : ¬ (1000000000 : Int) < (r : Int) := by omega
  have g3 : ¬ (r : Int) < (m.round : Int) := by omega
  have g4 : ¬ (r : Int) = (m.round : Int) := by omega
  have hk5 : ∀ W, Upd [] [] w2 W → W.cell? ⟨kb, 5, none⟩ = some (.int .i64 (m.round : Int)) := fun W u => (h2.quiet u).c5
  have HK5 := Lib.hid hk5
  have ud0 : Upd [] [] w2 w2.drew := (Upd.refl _ _).drew
  have hbn : ((r : Int) == (m.round : Int)) = false := by rw [beq_eq_false_iff_ne]; exact g4
  obtain ⟨E, hE⟩ : ∃ E, E = recE (.lrn r hs) := ⟨_, rfl⟩
  rw [← hE] at hKp
  rw [← hH, ← hE]
  obtain ⟨M', hM'⟩ : ∃ M', M' = m.lrn r hs := ⟨_, rfl⟩
  rw [← hM'] at hFin ⊢
  clear hw2 u2 rA h2 hH hld h hr hl hmo hk5 hc hfit hE hM' i5
  generalize m.round = z at *
  go_enter Tryz.func10, Tryz.ntmps10
  go_upto_region 1 with (fail)
  rw [HW2.out]
  clear HW2
  go_upto_region 9 with (go_at_call 30; ((with_reducible refine hOp.out.mono ?_); rintro e w' ⟨rfl, rfl⟩))
  refine @id ((?pj29 : Prop) → _) (fun hJ => ?mj29) ?jj29
  case mj29 =>
    refine wp_region_noPanic ?_
    refine wp_region_held_drew (S := fun wp' => wp'.cell? ⟨kb, 5, none⟩ = some (.int .i64 (z : Int))) (by kernel_rfl) ?_ (fun hHeld => ?_)
    · exact HK5.out _ ud0
    refine tkY 0 hHeld ?_
    refine tkY 1 hHeld ?_
    refine tkY 2 hHeld ?_
    refine tkY 3 hHeld ?_
    refine tkY 4 hHeld ?_
    refine tkY 5 hHeld ?_
    refine tkY 6 hHeld ?_
    refine tkN 7 hHeld ?_
    refine tkN 8 hHeld ?_
    refine tkN 9 hHeld ?_
    refine tkN 10 hHeld ?_
    refine tkN 11 hHeld ?_
    refine tkN 12 hHeld ?_
    refine tkY 13 hHeld ?_
    refine tkY 14 hHeld ?_
    refine wpAnyH_done (by kernel_rfl) ?_ _
    refine NoPanic.normal ?_
    exact hJ
  clear c5 c38
  have c5 : w2.drew.cell? ⟨kb, 5, none⟩ = some (.int .i64 (z : Int)) := HK5.out _ ud0
  go_upto_region 13 with (fail)
  obtain ⟨w3, hw3⟩ : ∃ w3, w3 = w2.drew := ⟨_, rfl⟩
  have RA3 : Hid (w3.heap[wp.heap.size]? = some (.cells H 37 (0, 0))) := by rw [hw3]; exact RA.out
  have HU3 : Hid (Upd [] [] wp w3) := by rw [hw3]; exact HU2.out.trans ud0
  rw [← hw3]
  clear hw3 c5 ud0 RA HU2 HK5
  have ue0 : Upd [] [] w3 w3.drew := (Upd.refl _ _).drew
  refine @id ((∀ (y1 y2 : ByteArray) (x : Int) (S' : List Nat) (W1 W : World), Upd [] [] w3 W1 → Hid (Upd (kF kb jb v S) (kF kb jb v S') W1 W) → Hid (W.heap[wp.heap.size]? = some (.cells H 37 (0, 0))) → Hid (KeepX w0 B kb jb b D F rs E S' m v x W) → (?pj39 : ByteArray → ByteArray → Int → List Nat → World → World → Prop) y1 y2 x S' W1 W) → _) (fun hJ => ?mj39) ?jj39
  case mj39 =>
    refine wp_region_noPanic ?_
    refine wp_region_held_drew (S := fun wp' => (Instr.loadAt 37 (.pointer (some ⟨wp.heap.size, 0, none⟩))).run Tryz.prog wp' = .ok (.agg H) wp') (by kernel_rfl) ?_ (fun hHeld => ?_)
    · exact HLD.out _ RA3.out
    refine tkY 0 hHeld ?_
    refine tkY 1 hHeld ?_
    refine tkL 5 hHeld H (fun w hSw => hSw) ?_
    refine wpAnyH_ready (rs := [2]) (by kernel_rfl) (by simp) ?_
    refine AllReadyH.cons (by simp only [List.getElem?_toArray, List.getElem?_cons_succ, List.getElem?_cons_zero] <;> rfl) (fun K hK => ?_) ?_
    · go_simp; refine (hIt.out _ (HU3.out.trans ue0)).mono ?_; rintro e wv1 ⟨y1, HY1, hy1, rfl, hq⟩; have hs1 : y1.size ≤ 20 := (Nat.le_trans hy1 (itoa_len _ (by unfold i64in; omega))); clear hy1; have s1 : ¬ 9223372036854775807 < 6 + y1.size := (by omega); have s2 : ¬ 9223372036854775807 < 6 + y1.size + 1 := (by omega); have ue1 := ue0.trans hq; clear hq; go_wp2_with fail
      refine hK.out _ _ ?_ (fun hHeld => ?_)
      · exact HLD.out _ (row_updH RA3.out ue1)
      clear hK K
      try simp only [Act.put, List.setIfInBounds_toArray, List.set_cons_zero, List.set_cons_succ]
      refine tkY 3 hHeld ?_
      refine tkY 4 hHeld ?_
      refine wpAnyH_ready (rs := [6]) (by kernel_rfl) (by simp) ?_
      refine AllReadyH.cons (by simp only [List.getElem?_toArray, List.getElem?_cons_succ, List.getElem?_cons_zero] <;> rfl) (fun K hK => ?_) ?_
      · go_simp; refine (hHx.out _).mono ?_; rintro e wv2 ⟨y2, HY2, hy2, rfl, hq⟩; have hs2 : y2.size ≤ 64 := (by rw [← bs_length, HY2.out, HXL.out]; omega); clear hy2; have ue2 := ue1.trans hq; clear hq; have s3 : ¬ 9223372036854775807 < 6 + y1.size + 1 + y2.size := (by omega); go_wp2_with fail
        refine hK.out _ _ ?_ (fun hHeld => ?_)
        · exact HLD.out _ (row_updH RA3.out ue2)
        clear hK K
        try simp only [Act.put, List.setIfInBounds_toArray, List.set_cons_zero, List.set_cons_succ]
        refine tkY 7 hHeld ?_
        refine wpAnyH_ready (rs := [8]) (by kernel_rfl) (by simp) ?_
        refine AllReadyH.cons (by simp only [List.getElem?_toArray, List.getElem?_cons_succ, List.getElem?_cons_zero] <;> rfl) (fun K hK => ?_) ?_
        · go_simp; refine (hKp.out _ y1 y2 (HU3.out.trans ue2) HY1.out HY2.out).mono ?_; rintro e wv3 hpost; obtain ⟨x, S', rfl, hup, HX⟩ := keep_split hpost; have RA4 : Hid (wv3.heap[wp.heap.size]? = some (.cells H 37 (0, 0))) := (by have k := row_updH RA3.out ue2; rw [← k]; exact hup.block _ (blk_lt k) (fun hm => HOFF.out hm)); have HUP := Lib.hid hup; clear hpost hup; go_wp2_with fail
          refine hK.out _ _ ?_ (fun hHeld => ?_)
          · exact HLD.out _ RA4.out
          clear hK K
          try simp only [Act.put, List.setIfInBounds_toArray, List.set_cons_zero, List.set_cons_succ]
          refine tkY 9 hHeld ?_
          refine wpAnyH_done (by kernel_rfl) ?_ _
          refine NoPanic.normal ?_
          exact hJ y1 y2 x S' wv2 wv3 ue2 HUP RA4 HX
        exact AllReadyH.nil
      exact AllReadyH.nil
    exact AllReadyH.nil
  intro y1 y2 x S' w4 w5 u4 HUP RA5 HX
  have HUW : Hid (Upd (kF kb jb v S) (kF kb jb v S') wp w5) := by
    show Upd _ _ _ _
    exact ((HU3.out.trans u4).quiet (T := kF kb jb v S)).trans HUP.out
  clear hIt hHx hKp HXL HUP u4 RA3
  rcases HX.out with ⟨rfl, D', hst, hf, hc⟩ | ⟨rfl, D', hbr, hf, hf', hc⟩
  · obtain ⟨k1, k2, k3, k4⟩ := hFin.out w5 D' _ _ S' hst
    have HD : Hid (DoneTo w0 B kb jb b D F rs E S m M' v wp (.returned (.int .i64 0)) ((w5.setCell ⟨kb, 5, none⟩ (.int .i64 (r : Int))).drew.setCells kb 6 H.toList)) :=
      .inl ⟨rfl, D', S', v, k1, HUW.out.trans (k2.mono (fun k hk => by simp at hk; rw [hk]; simp [kF]) (fun k hk => .inr hk)), hf, hc⟩
    have HTH := Lib.hid k4
    have HN : Hid (wp.heap.size ≠ kb) := by show _ ≠ _; have := HKB.out; omega
    have hfz : w5.frozen? ⟨kb, 5, none⟩ = false := k3
    obtain ⟨cv5, hc5⟩ : ∃ cv5, w5.cell? ⟨kb, 5, none⟩ = some cv5 := ⟨_, hst.body.c5⟩
    clear k1 k2 k3 k4 hst HX hFin hf hc
    go_upto_region 15 with (fail)
    refine @id ((?pj46 : Prop) → _) (fun hJ => ?mj46) ?jj46
    case mj46 =>
      refine wp_region_noPanic ?_
      refine wp_region_held_drew (S := fun wp' => (Instr.loadAt 37 (.pointer (some ⟨wp.heap.size, 0, none⟩))).run Tryz.prog wp' = .ok (.agg H) wp') (by kernel_rfl) ?_ (fun hHeld => ?_)
      · exact HLD.out _ RA5.out
      refine tkY 0 hHeld ?_
      refine tkY 1 hHeld ?_
      refine tkY 2 hHeld ?_
      refine tkL 3 hHeld H (fun w hSw => hSw) ?_
      refine tkY 4 hHeld ?_
      refine tkY 5 hHeld ?_
      refine wpAnyH_ready (rs := [6]) (by kernel_rfl) (by simp) ?_
      refine AllReadyH.cons (by simp only [List.getElem?_toArray, List.getElem?_cons_succ, List.getElem?_cons_zero] <;> rfl) (fun K hK => ?_) ?_
      · go_simp
        refine hK.out _ _ ?_ (fun hHeld => ?_)
        · exact HLD.out _ (row_otherE RA5.out HN.out _)
        clear hK K
        try simp only [Act.put]
        refine tkY 7 hHeld ?_
        refine tkY 8 hHeld ?_
        refine wpAnyH_ready (rs := [9]) (by kernel_rfl) (by simp) ?_
        refine AllReadyH.cons (by simp only [List.getElem?_toArray, List.getElem?_cons_succ, List.getElem?_cons_zero] <;> rfl) (fun K hK => ?_) ?_
        · rw [if_pos (by rfl)]; refine wp_store_mid 37 _ _ rfl kb 6 H rfl rfl HTH.out HHI.out HH1.out ?_
          refine hK.out _ _ ?_ (fun hHeld => ?_)
          · exact HLD.out _ (row_setCellsO HN.out _ _ _ (row_otherE RA5.out HN.out _))
          clear hK K
          try simp only [Act.put]
          refine wpAnyH_done (by kernel_rfl) ?_ _
          refine NoPanic.normal ?_
          exact hJ
        exact AllReadyH.nil
      exact AllReadyH.nil
    go_wp2_with fail
    go_ret
    exact HD.out
  · have HD : Hid (DoneTo w0 B kb jb b D F rs E S m M' v wp (.returned (.int .i64 70)) w5) := .inr ⟨rfl, D', S', hbr, HUW.out, hf, hf', hc⟩
    clear hbr HX hFin hf hf' hc
    go_wp2_with fail
    go_ret
    exact HD.out
end
end Go.Proofs.YtinpenoeohejoaaGreatDoor

namespace Go.Proofs.YtinpenoeohejoaaGreatDoor
open Go.RowKit
set_option maxRecDepth 100000

section
variable {w0 wp w1 : World} {B kb jb b : Nat} {m m' : KM} {v : Value} {br : Bool} {D : DiskM} {F G : List UInt8} {rs : List (List UInt8)} {S S' T T' : List Nat}
def KM.fill (m : KM) (n : Nat) : KM := { m with paper := m.paper + n }
end
end Go.Proofs.YtinpenoeohejoaaGreatDoor
