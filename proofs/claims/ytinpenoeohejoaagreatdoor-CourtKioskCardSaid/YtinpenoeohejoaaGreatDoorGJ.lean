/- kiosk: Last, next, hand. kiosk: hand. kiosk.Sell. -/
import Derived.Test.YtinpenoeohejoaaGreatDoorGZ
import Derived.Test.YtinpenoeohejoaaGreatDoorGI
namespace Go.Proofs.YtinpenoeohejoaaGreatDoor
open Go.RowKit
set_option maxRecDepth 100000

section
variable {w0 wp w1 : World} {B kb jb b : Nat} {m : KM} {v : Value} {br : Bool} {D : DiskM} {F G : List UInt8} {rs : List (List UInt8)} {S S' T T' : List Nat}
def lastR (rs : List Rc) : Rc := rs.getLast?.getD Rc.zero
def lastB (rs : List Rc) : Bool := rs.getLast?.isSome
theorem prevK_last (rs : List Rc) : prevK rs = if lastB rs then sha (textL (lastR rs)) else zero32 := by
  unfold prevK lastB lastR
  cases rs.getLast? <;> rfl
theorem lastR_ok {m : KM} (h : m.ok) : (lastR m.rs).ok ∧ (lastR m.rs).draw.size ≤ 100 := by
  unfold lastR
  cases hl : m.rs.getLast? with
  | none => exact ⟨Rc.zero_ok, by decide⟩
  | some x =>
    have := h.each x (List.mem_of_getLast? hl)
    exact ⟨this.1, by have := this.2.1; show x.draw.size ≤ _; omega⟩
theorem lastR_get {rs : List Rc} {k : Nat} (h : rs.length = k + 1) : rs[k]? = some (lastR rs) ∧ lastB rs = true := by
  have h1 : rs.getLast? = rs[k]? := by rw [List.getLast?_eq_getElem?, h]; rfl
  have h2 : rs[k]? = some rs[k] := List.getElem?_eq_getElem (by omega)
  unfold lastR lastB
  rw [h1, h2]
  exact ⟨rfl, rfl⟩
theorem rcs_load {w : World} {g o : Nat} {l : List Rc} (h : RcsIn w (some ⟨g, o, none⟩) l) {k : Nat} {x : Rc} (hk : l[k]? = some x) (X : Array Value) (hX : X = (rcV x).toArray) : (Instr.loadAt 41 (.pointer (some ⟨g, o + k * 102, none⟩))).run Tryz.prog w = .ok (.agg X) w := by
  obtain ⟨h1, _, g', o', e, _, hr⟩ := h k x hk
  injection e with e
  injection e with e1 e2
  subst e1 e2
  rw [hX]
  exact run_loadAt_mid w _ _ _ _ _ hr Tryz.underlying41 rfl (rcInfo h1)
def MkLast (rs : List Rc) (w : World) (e : Ending) (w' : World) : Prop := e = .returned (.tuple #[.agg (rcV (lastR rs)).toArray, .bool (lastB rs)]) ∧ Upd [] [] w w'
set_option maxHeartbeats 2000000 in
theorem Last_any (h : KBody wp kb jb m v br) : Calls Tryz.prog 67 #[.pointer (some ⟨kb, 0, none⟩)] wp (MkLast m.rs wp) := by
  obtain ⟨ao, cap, rfl, hcap, hin⟩ := h.slice
  have hm := h.ok.many
  obtain ⟨HLO, HLD⟩ := lastR_ok h.ok
  obtain ⟨w1, hw1⟩ : ∃ w1, wp.alloc (.cells Tryz.zeroCells41 41) = w1 := ⟨_, rfl⟩
  have hu : Upd [] [] wp w1 := by rw [← hw1]; exact (Upd.refl _ _).alloc _
  have hz : w1.heap[wp.heap.size]? = some (.cells Tryz.zeroCells41 41 (0, 0)) := by rw [← hw1]; exact heap_alloc_new _ _
  have h1 := h.quiet hu
  have HIN := Lib.hid hin
  have H0 := Lib.hid h
  have HZ := Lib.hid hz
  have HU := Lib.hid hu
  have HW1 := Lib.hid hw1
  have hO := Lib.hid (isOpen_any h1)
  have c3 := h1.c3
  obtain ⟨rs, hrs⟩ : ∃ rs, rs = m.rs := ⟨_, rfl⟩
  rw [← hrs] at hm HIN c3 hcap HLO HLD ⊢
  obtain ⟨R, hR⟩ : ∃ R, R = (rcV (lastR rs)).toArray := ⟨_, rfl⟩
  obtain ⟨HRI, HRO, HRZ⟩ := rcLet HLO R hR
  have HR := Lib.hid hR
  obtain ⟨n, hn⟩ : ∃ n, n = rs.length := ⟨_, rfl⟩
  rw [← hn] at c3 hcap hm
  have HN := Lib.hid hn
  have HO := Lib.hid HLO
  clear h h1 hu hz hin HLO HLD hrs hR hn hw1
  cases n with
  | zero =>
    have hnil : rs = [] := List.eq_nil_of_length_eq_zero HN.out.symm
    subst hnil
    go_enter Tryz.func67, Tryz.ntmps67
    go_upto_region 1 with (fail)
    rw [HW1.out]
    go_wp2_with (first | (go_at_call 30; ((with_reducible refine hO.out.mono ?_); rintro e w' ⟨rfl, rfl⟩)) | (refine wpList_buildTo rfl 41 _ rfl _ rfl R (Eq.trans (show Tryz.prog.built 41 _ = some (rcV Rc.zero).toArray by kernel_rfl) (by rw [HR.out]; rfl)) ?_) | (refine wpList_store_row rfl 41 _ _ rfl wp.heap.size R rfl rfl _ _ HZ.out HRI.out HRZ.out HRO.out ?_))
    refine bodyPost_ret (results_row_tmp rfl _ _ wp.heap.size _ R _ _ rfl (setRow_heap _ _ _ R _ _ HZ.out) Tryz.underlying41 rfl HRI.out) rfl ⟨?_, HU.out.setRowNew (Nat.le_refl _) _⟩
    rw [HR.out]
    rfl
  | succ k =>
    obtain ⟨hg, hb⟩ := lastR_get (rs := rs) (k := k) HN.out.symm
    obtain ⟨g, o, rfl⟩ : ∃ g o, ao = some ⟨g, o, none⟩ := by
      obtain ⟨_, _, g, o, e, _⟩ := HIN.out k _ hg
      exact ⟨g, o, e⟩
    have HB := Lib.hid hb
    have HG := Lib.hid hg
    have hw : IntKind.i64.wrap (k : Int) = (k : Int) := wrap_in (by omega) (by omega)
    have hk0 : (0 : Int) ≤ (k : Int) := by omega
    have hk1 : (k : Int) < (k : Int) + 1 := by omega
    clear hg hb
    go_enter Tryz.func67, Tryz.ntmps67
    go_upto_region 1 with (fail)
    rw [HW1.out]
    go_upto_region 3 with (first | (go_at_call 30; ((with_reducible refine hO.out.mono ?_); rintro e w' ⟨rfl, rfl⟩)))
    have HK : Hid (∀ W : World, Upd [] [] wp W → W.cell? ⟨kb, 3, none⟩ = some (.slice (some ⟨g, o, none⟩) (k + 1) cap) ∧ (Instr.loadAt 41 (.pointer (some ⟨g, o + k * 102, none⟩))).run Tryz.prog W = .ok (.agg R) W) := by
      intro W u
      have h3 := (H0.out.quiet u).c3
      rw [((H0.out.quiet HU.out).c3).symm.trans c3 |> Option.some.inj] at h3
      exact ⟨h3, rcs_load (HIN.out.upd u) HG.out R HR.out⟩
    have ud0 : Upd [] [] wp w1.drew := HU.out.drew
    have ud1 : Upd [] [] wp (w1.setRow wp.heap.size R).drew := (HU.out.setRowNew (Nat.le_refl _) R).drew
    refine wp_region_noPanic ?_
    refine wp_region_held_drew (S := fun wp => wp.cell? ⟨kb, 3, none⟩ = some (.slice (some ⟨g, o, none⟩) (k + 1) cap) ∧ (Instr.loadAt 41 (.pointer (some ⟨g, o + k * 102, none⟩))).run Tryz.prog wp = .ok (.agg R) wp) (by kernel_rfl) ?_ (fun hHeld => ?_)
    · exact HK.out _ ud0
    refine tkY 0 hHeld ?_
    refine tkY 1 hHeld ?_
    refine tkY 2 hHeld ?_
    refine tkY 3 hHeld ?_
    refine tkY 4 hHeld ?_
    refine tkY 5 hHeld ?_
    refine tkY 6 hHeld ?_
    refine tkY 7 hHeld ?_
    refine tkY 8 hHeld ?_
    refine tkY 9 hHeld ?_
    refine tkY 10 hHeld ?_
    refine tkL 11 hHeld R (fun w hSw => hSw.2) ?_
    refine wpAnyH_ready (rs := [12]) (by kernel_rfl) (by simp) ?_
    refine AllReadyH.cons (by simp only [List.getElem?_toArray, List.getElem?_cons_succ, List.getElem?_cons_zero] <;> rfl) (fun K hK => ?_) ?_
    · rw [if_pos (by rfl)]; refine wp_store_row 41 _ _ rfl wp.heap.size R rfl rfl _ _ HZ.out HRI.out HRZ.out HRO.out ?_
      refine hK.out _ _ ?_ (fun hHeld => ?_)
      · exact HK.out _ ud1
      clear hK K
      try simp only [Act.put]
      refine tkY 13 hHeld ?_
      refine wpAnyH_done (by kernel_rfl) ?_ _
      refine NoPanic.normal ?_
      go_wp2_with fail
      refine bodyPost_ret (results_row_tmp rfl _ _ wp.heap.size _ R _ _ rfl (setRow_heap _ _ _ R _ _ HZ.out) Tryz.underlying41 rfl HRI.out) rfl ⟨?_, ud1⟩
      rw [HR.out, HB.out]
      rfl
    exact AllReadyH.nil
theorem KBody.outLoad {w : World} (h : KBody w kb jb m v br) (O : Array Value) (hO : O = (byteVals m.out).toArray) : (Instr.loadAt 37 (.pointer (some ⟨kb, 6, none⟩))).run Tryz.prog w = .ok (.agg O) w := by
  subst hO
  exact run_loadAt_mid w kb 6 _ _ _ h.out Tryz.underlying37 rfl (hashLen h.ok.out)
set_option maxHeartbeats 4000000 in
theorem next_any (h : KBody wp kb jb m v br) (d : ByteArray) (hs : List UInt8) (hd : d.size ≤ 1000000000) (hl : hs.length = 32) (htab : Tabs wp) : Calls Tryz.prog 32 #[.pointer (some ⟨kb, 0, none⟩), .string d, .agg (byteVals hs).toArray] wp (Mk (.agg (rcV (nextK m d hs)).toArray) wp) := by
  obtain ⟨H, hH⟩ : ∃ H, H = (byteVals hs).toArray := ⟨_, rfl⟩
  rw [← hH]
  obtain ⟨w3, hw3⟩ : ∃ w3, ((wp.alloc (.cells H 37)).alloc (.cells Tryz.zeroCells41 41)).alloc (.cells (byteVals zero32).toArray 37) = w3 := ⟨_, rfl⟩
  have u3 : Upd [] [] wp w3 := by rw [← hw3]; exact (((Upd.refl _ _).alloc _).alloc _).alloc _
  have rA : w3.heap[wp.heap.size]? = some (.cells H 37 (0, 0)) := by
    rw [← hw3]
    exact row_updH (heap_alloc_new wp (.cells H 37)) (((Upd.refl [] _).alloc _).alloc _)
  have rG : w3.heap[wp.heap.size + 1]? = some (.cells Tryz.zeroCells41 41 (0, 0)) := by
    rw [← hw3]
    have h := row_updH (heap_alloc_new (wp.alloc (.cells H 37)) (.cells Tryz.zeroCells41 41)) ((Upd.refl [] _).alloc (.cells (byteVals zero32).toArray 37))
    rw [World.size_alloc] at h
    exact h
  have rP : w3.heap[wp.heap.size + 1 + 1]? = some (.cells (byteVals zero32).toArray 37 (0, 0)) := by
    rw [← hw3]
    have h := heap_alloc_new ((wp.alloc (.cells H 37)).alloc (.cells Tryz.zeroCells41 41)) (.cells (byteVals zero32).toArray 37)
    rw [World.size_alloc, World.size_alloc] at h
    exact h
  have z3 : w3.heap.size = wp.heap.size + 1 + 1 + 1 := by rw [← hw3]; simp
  have RA := Lib.hid rA
  have RG := Lib.hid rG
  have RP := Lib.hid rP
  have Z3 := Lib.hid z3
  have HW3 := Lib.hid hw3
  have HB := Lib.hid h
  have H3 := Lib.hid (h.quiet u3)
  obtain ⟨HLO, HLD⟩ := lastR_ok h.ok
  obtain ⟨L, hL⟩ : ∃ L, L = (rcV (lastR m.rs)).toArray := ⟨_, rfl⟩
  obtain ⟨HLI, HL1, HLZ⟩ := rcLet HLO L hL
  have HL := Lib.hid hL
  have hLast := Lib.hid (Last_any (h.quiet u3))
  have hok := h.ok
  have hNO : (nextK m d hs).ok := nextK_ok hok hl
  obtain ⟨R, hR⟩ : ∃ R, R = (rcV (nextK m d hs)).toArray := ⟨_, rfl⟩
  obtain ⟨HRI, HRO, HRZ⟩ := rcLet hNO R hR
  have hpl := prevK_len m.rs
  obtain ⟨P, hP⟩ : ∃ P, P = (byteVals (prevK m.rs)).toArray := ⟨_, rfl⟩
  have HPI : Hid ((Tryz.prog.info? 37).map (·.size) = some P.size) := by show _ = _; rw [hP]; exact hashInfo hpl
  have HP1 : Hid (P.all (·.oneCell') = true) := by show _ = _; rw [hP]; exact hashOne _
  have HPZ : Hid ((byteVals zero32).toArray.size = P.size) := by show _ = _; rw [hP, hashSz hpl]; rfl
  obtain ⟨O, hO⟩ : ∃ O, O = (byteVals m.out).toArray := ⟨_, rfl⟩
  obtain ⟨n, hn⟩ : ∃ n, n = m.rs.length := ⟨_, rfl⟩
  have HPR : Hid (∀ W, Tabs W → Calls Tryz.prog 69 #[.int .i64 m.id, .int .i64 m.sec, .int .i64 ((n : Int) + 1), .string d, .int .i64 (m.round : Int), .agg O, .agg H, .agg P] W (Mk (.agg R) W)) := by
    intro W hW
    have hm := hok.many
    have hr := hok.round
    have e : ((m.rs.length + 1 : Nat) : Int) = (n : Int) + 1 := by rw [hn]; omega
    have k := print22_any m.id m.sec ((m.rs.length + 1 : Nat) : Int) (m.round : Int) d m.out hs (prevK m.rs) hok.id hok.sec (by unfold i64in; omega) (by unfold i64in; omega) hd hok.out hl hpl W hW
    rw [hR, hO, hH, hP, ← e]
    exact k
  have HHS : Hid (∀ W, Tabs W → Calls Tryz.prog 68 #[.agg L] W (Mk (.agg (byteVals (sha (textL (lastR m.rs)))).toArray) W)) := by
    intro W hW
    rw [HL.out]
    exact hash22_any _ HLO (by omega) W hW
  have HPE : Hid (P = (byteVals (if lastB m.rs then sha (textL (lastR m.rs)) else zero32)).toArray) := by show _ = _; rw [hP, prevK_last]
  have HK : Hid (∀ W : World, KBody W kb jb m v br → W.heap[wp.heap.size]? = some (.cells H 37 (0, 0)) → W.heap[wp.heap.size + 1 + 1]? = some (.cells P 37 (0, 0)) →
      W.cell? ⟨kb, 1, none⟩ = some (.int .i64 m.id) ∧ W.cell? ⟨kb, 2, none⟩ = some (.int .i64 m.sec) ∧ W.cell? ⟨kb, 5, none⟩ = some (.int .i64 (m.round : Int)) ∧ (Instr.loadAt 37 (.pointer (some ⟨kb, 6, none⟩))).run Tryz.prog W = .ok (.agg O) W ∧
      (Instr.loadAt 37 (.pointer (some ⟨wp.heap.size, 0, none⟩))).run Tryz.prog W = .ok (.agg H) W ∧ (Instr.loadAt 37 (.pointer (some ⟨wp.heap.size + 1 + 1, 0, none⟩))).run Tryz.prog W = .ok (.agg P) W) := by
    intro W hb hA hp
    exact ⟨hb.c1, hb.c2, hb.c5, hb.outLoad O hO, hash_load hl H hH hA, hash_load hpl P hP hp⟩
  have HLT := Lib.hid h.lt
  have HVT := Lib.hid h.vlt
  obtain ⟨ao, cap, hv, hcap, _⟩ := h.slice
  have c3 : ∀ W : World, KBody W kb jb m v br → W.cell? ⟨kb, 3, none⟩ = some (.slice ao n cap) := fun W k => by rw [k.c3, hv, hn]
  have C3 := Lib.hid c3
  have hm : n ≤ 2000 := by rw [hn]; exact hok.many
  have HRE := Lib.hid hR
  have HPS := Lib.hid hP
  clear rA rG rP z3 hw3 h HLO HLD hok hNO hR hpl hP hO hn hv hcap c3 hH hL
  go_enter Tryz.func32, Tryz.ntmps32
  go_upto_region 2 with (fail)
  rw [show (((wp.alloc (.cells H 37)).alloc (.cells Tryz.zeroCells41 41)).alloc (.cells #[.int .u8 0, .int .u8 0, .int .u8 0, .int .u8 0, .int .u8 0, .int .u8 0, .int .u8 0, .int .u8 0, .int .u8 0, .int .u8 0, .int .u8 0, .int .u8 0, .int .u8 0, .int .u8 0, .int .u8 0, .int .u8 0, .int .u8 0, .int .u8 0, .int .u8 0, .int .u8 0, .int .u8 0, .int .u8 0, .int .u8 0, .int .u8 0, .int .u8 0, .int .u8 0, .int .u8 0, .int .u8 0, .int .u8 0, .int .u8 0, .int .u8 0, .int .u8 0] 37)) = w3 from HW3.out]
  clear HW3
  go_wp2_with fail
  refine hLast.out.mono ?_
  rintro e w4 ⟨rfl, hq⟩
  have HQ4 := Lib.hid (u3.trans hq)
  have RA4 := Lib.hid (row_updH RA.out hq)
  have RG4 := Lib.hid (row_updH RG.out hq)
  have RP4 := Lib.hid (row_updH RP.out hq)
  rw [← HL.out]
  obtain ⟨w5, HZ5, HW5, HR5, hq'⟩ := blk_new w4 41 Tryz.zeroCells41 L
  have HQ5 := Lib.hid (HQ4.out.trans hq')
  have RA5 := Lib.hid (row_updH RA4.out hq')
  have RG5 := Lib.hid (row_updH RG4.out hq')
  have RP5 := Lib.hid (row_updH RP4.out hq')
  have B5 := Lib.hid (HB.out.quiet HQ5.out)
  clear hq hq' hLast RA RG RP RA4 RG4 RP4 H3 HB
  go_upto_region 3 with (first | (refine wpList_store_rowAs rfl 41 _ _ rfl w4.heap.size L rfl rfl _ _ HZ5.out HLI.out HLZ.out HL1.out w5 HW5.out ?_))
  cases hb : lastB m.rs with
  | true =>
    rw [hb, if_pos rfl] at HPE
    rw [← HPE.out] at HHS
    go_wp2_with (first | (refine wpList_load_row rfl 41 _ rfl w4.heap.size rfl _ L _ _ HR5.out Tryz.underlying41 rfl HLI.out ?_))
    refine (HHS.out _ (htab.upd HQ5.out)).mono ?_
    rintro e w6 ⟨rfl, hq⟩
    have HQ6 := Lib.hid (HQ5.out.trans hq)
    have RA6 := Lib.hid (row_updH RA5.out hq)
    have RG6 := Lib.hid (row_updH RG5.out hq)
    have RP6 := Lib.hid (row_updH RP5.out hq)
    have B6 := Lib.hid (B5.out.quiet hq)
    obtain ⟨w7, hw7⟩ : ∃ w7, w6.setRow (wp.heap.size + 1 + 1) P = w7 := ⟨_, rfl⟩
    have HQ7 : Hid (Upd [] [] wp w7) := by show Upd _ _ _ _; rw [← hw7]; exact HQ6.out.setRowNew (by omega) _
    have RP7 : Hid (w7.heap[wp.heap.size + 1 + 1]? = some (.cells P 37 (0, 0))) := by show _ = _; rw [← hw7]; exact setRow_heap _ _ _ _ _ _ RP6.out
    have RA7 : Hid (w7.heap[wp.heap.size]? = some (.cells H 37 (0, 0))) := by show _ = _; rw [← hw7]; exact row_setRowO RA6.out (by omega) P
    have RG7 : Hid (w7.heap[wp.heap.size + 1]? = some (.cells Tryz.zeroCells41 41 (0, 0))) := by show _ = _; rw [← hw7]; exact row_setRowO RG6.out (by omega) P
    have B7 : Hid (KBody w7 kb jb m v br) := by
      show KBody _ _ _ _ _ _
      rw [← hw7]
      exact B6.out.same (setRow_other _ _ _ _ (by have := HLT.out; omega)) (fun y hy => setRow_other _ _ _ _ (by have := HVT.out y hy; omega))
    have HW7 := Lib.hid hw7
    clear hq hw7
    go_upto_region 5 with (first | (refine wpList_store_rowAs rfl 37 _ _ rfl (wp.heap.size + 1 + 1) P rfl rfl _ _ RP6.out HPI.out HPZ.out HP1.out w7 HW7.out ?_))
    clear RA6 RG6 RP6 B6 HQ6 HHS HW7
    clear RA5 RG5 RP5 B5 HQ5 HR5 HZ5 HW5 HLI HL1 HLZ HL
    have c3 := C3.out w7 B7.out
    go_wp2_with fail
    refine wp_region_noPanic ?_
    refine wp_region_held_drew (S := fun wp' => wp'.cell? ⟨kb, 1, none⟩ = some (.int .i64 m.id) ∧ wp'.cell? ⟨kb, 2, none⟩ = some (.int .i64 m.sec) ∧ wp'.cell? ⟨kb, 5, none⟩ = some (.int .i64 (m.round : Int)) ∧ (Instr.loadAt 37 (.pointer (some ⟨kb, 6, none⟩))).run Tryz.prog wp' = .ok (.agg O) wp' ∧ (Instr.loadAt 37 (.pointer (some ⟨wp.heap.size, 0, none⟩))).run Tryz.prog wp' = .ok (.agg H) wp' ∧ (Instr.loadAt 37 (.pointer (some ⟨wp.heap.size + 1 + 1, 0, none⟩))).run Tryz.prog wp' = .ok (.agg P) wp') (by kernel_rfl) ?_ (fun hHeld => ?_)
    · exact HK.out _ (B7.out.quiet (Upd.refl [] _).drew) RA7.out RP7.out
    refine tkY 0 hHeld ?_
    refine tkY 1 hHeld ?_
    refine tkY 2 hHeld ?_
    refine tkY 3 hHeld ?_
    refine tkY 4 hHeld ?_
    refine tkY 5 hHeld ?_
    refine tkY 6 hHeld ?_
    refine tkY 7 hHeld ?_
    refine tkY 8 hHeld ?_
    refine tkY 9 hHeld ?_
    refine tkY 10 hHeld ?_
    refine tkY 11 hHeld ?_
    refine tkY 12 hHeld ?_
    refine tkY 13 hHeld ?_
    refine tkY 14 hHeld ?_
    refine tkY 15 hHeld ?_
    refine tkY 16 hHeld ?_
    refine tkL 17 hHeld O (fun w hSw => hSw.2.2.2.1) ?_
    refine tkL 18 hHeld H (fun w hSw => hSw.2.2.2.2.1) ?_
    refine tkL 19 hHeld P (fun w hSw => hSw.2.2.2.2.2) ?_
    refine wpAnyH_ready (rs := [20]) (by kernel_rfl) (by simp) ?_
    refine AllReadyH.cons (by simp only [List.getElem?_toArray, List.getElem?_cons_succ, List.getElem?_cons_zero] <;> rfl) (fun K hK => ?_) ?_
    · go_simp; refine (HPR.out _ (htab.upd HQ7.out.drew)).mono ?_; rintro e w8 ⟨rfl, hq⟩; have hq' := (Upd.refl [] w7).drew.trans hq; have B8 := Lib.hid (B7.out.quiet hq'); have RA8 := Lib.hid (row_updH RA7.out hq'); have RG8 := Lib.hid (row_updH RG7.out hq'); have RP8 := Lib.hid (row_updH RP7.out hq'); have HQ8 := Lib.hid (HQ7.out.trans hq'); clear hq hq'; go_wp2_with fail
      refine hK.out _ _ ?_ (fun hHeld => ?_)
      · exact HK.out _ B8.out RA8.out RP8.out
      clear hK K
      try simp only [Act.put, List.setIfInBounds_toArray, List.set_cons_zero, List.set_cons_succ]
      refine wpAnyH_ready (rs := [21]) (by kernel_rfl) (by simp) ?_
      refine AllReadyH.cons (by simp only [List.getElem?_toArray, List.getElem?_cons_succ, List.getElem?_cons_zero] <;> rfl) (fun K hK => ?_) ?_
      · rw [if_pos (by rfl)]; refine wp_store_row 41 _ _ rfl (wp.heap.size + 1) R rfl rfl _ _ RG8.out HRI.out HRZ.out HRO.out ?_
        refine hK.out _ _ ?_ (fun hHeld => ?_)
        · exact HK.out _ (B8.out.same (setRow_other _ _ _ _ (by have := HLT.out; omega)) (fun y hy => setRow_other _ _ _ _ (by have := HVT.out y hy; omega))) (row_setRowO RA8.out (by omega) R) (row_setRowO RP8.out (by omega) R)
        clear hK K
        try simp only [Act.put]
        refine wpAnyH_done (by kernel_rfl) ?_ _
        refine NoPanic.normal ?_
        go_wp2_with fail
        refine bodyPost_ret (results_cell_row rfl _ _ (wp.heap.size + 1) _ R _ _ rfl (setRow_heap _ _ _ R _ _ RG8.out) Tryz.underlying41 rfl HRI.out) rfl ⟨by rw [HRE.out], HQ8.out.setRowNew (by omega) _⟩
      exact AllReadyH.nil
    exact AllReadyH.nil
  | false =>
    rw [hb] at HPE
    have hPE : P = (byteVals zero32).toArray := HPE.out
    obtain ⟨w7, hw7⟩ : ∃ w7, w7 = w5 := ⟨_, rfl⟩
    rw [← hw7]
    rw [← hPE] at RP5
    have HQ7 := HQ5
    have RA7 := RA5
    have RG7 := RG5
    have RP7 := RP5
    have B7 := B5
    rw [← hw7] at HQ7 RA7 RG7 RP7 B7
    clear hw7 hPE HHS
    clear RA5 RG5 RP5 B5 HQ5 HR5 HZ5 HW5 HLI HL1 HLZ HL
    have c3 := C3.out w7 B7.out
    go_wp2_with fail
    refine wp_region_noPanic ?_
    refine wp_region_held_drew (S := fun wp' => wp'.cell? ⟨kb, 1, none⟩ = some (.int .i64 m.id) ∧ wp'.cell? ⟨kb, 2, none⟩ = some (.int .i64 m.sec) ∧ wp'.cell? ⟨kb, 5, none⟩ = some (.int .i64 (m.round : Int)) ∧ (Instr.loadAt 37 (.pointer (some ⟨kb, 6, none⟩))).run Tryz.prog wp' = .ok (.agg O) wp' ∧ (Instr.loadAt 37 (.pointer (some ⟨wp.heap.size, 0, none⟩))).run Tryz.prog wp' = .ok (.agg H) wp' ∧ (Instr.loadAt 37 (.pointer (some ⟨wp.heap.size + 1 + 1, 0, none⟩))).run Tryz.prog wp' = .ok (.agg P) wp') (by kernel_rfl) ?_ (fun hHeld => ?_)
    · exact HK.out _ (B7.out.quiet (Upd.refl [] _).drew) RA7.out RP7.out
    refine tkY 0 hHeld ?_
    refine tkY 1 hHeld ?_
    refine tkY 2 hHeld ?_
    refine tkY 3 hHeld ?_
    refine tkY 4 hHeld ?_
    refine tkY 5 hHeld ?_
    refine tkY 6 hHeld ?_
    refine tkY 7 hHeld ?_
    refine tkY 8 hHeld ?_
    refine tkY 9 hHeld ?_
    refine tkY 10 hHeld ?_
    refine tkY 11 hHeld ?_
    refine tkY 12 hHeld ?_
    refine tkY 13 hHeld ?_
    refine tkY 14 hHeld ?_
    refine tkY 15 hHeld ?_
    refine tkY 16 hHeld ?_
    refine tkL 17 hHeld O (fun w hSw => hSw.2.2.2.1) ?_
    refine tkL 18 hHeld H (fun w hSw => hSw.2.2.2.2.1) ?_
    refine tkL 19 hHeld P (fun w hSw => hSw.2.2.2.2.2) ?_
    refine wpAnyH_ready (rs := [20]) (by kernel_rfl) (by simp) ?_
    refine AllReadyH.cons (by simp only [List.getElem?_toArray, List.getElem?_cons_succ, List.getElem?_cons_zero] <;> rfl) (fun K hK => ?_) ?_
    · go_simp; refine (HPR.out _ (htab.upd HQ7.out.drew)).mono ?_; rintro e w8 ⟨rfl, hq⟩; have hq' := (Upd.refl [] w7).drew.trans hq; have B8 := Lib.hid (B7.out.quiet hq'); have RA8 := Lib.hid (row_updH RA7.out hq'); have RG8 := Lib.hid (row_updH RG7.out hq'); have RP8 := Lib.hid (row_updH RP7.out hq'); have HQ8 := Lib.hid (HQ7.out.trans hq'); clear hq hq'; go_wp2_with fail
      refine hK.out _ _ ?_ (fun hHeld => ?_)
      · exact HK.out _ B8.out RA8.out RP8.out
      clear hK K
      try simp only [Act.put, List.setIfInBounds_toArray, List.set_cons_zero, List.set_cons_succ]
      refine wpAnyH_ready (rs := [21]) (by kernel_rfl) (by simp) ?_
      refine AllReadyH.cons (by simp only [List.getElem?_toArray, List.getElem?_cons_succ, List.getElem?_cons_zero] <;> rfl) (fun K hK => ?_) ?_
      · rw [if_pos (by rfl)]; refine wp_store_row 41 _ _ rfl (wp.heap.size + 1) R rfl rfl _ _ RG8.out HRI.out HRZ.out HRO.out ?_
        refine hK.out _ _ ?_ (fun hHeld => ?_)
        · exact HK.out _ (B8.out.same (setRow_other _ _ _ _ (by have := HLT.out; omega)) (fun y hy => setRow_other _ _ _ _ (by have := HVT.out y hy; omega))) (row_setRowO RA8.out (by omega) R) (row_setRowO RP8.out (by omega) R)
        clear hK K
        try simp only [Act.put]
        refine wpAnyH_done (by kernel_rfl) ?_ _
        refine NoPanic.normal ?_
        go_wp2_with fail
        refine bodyPost_ret (results_cell_row rfl _ _ (wp.heap.size + 1) _ R _ _ rfl (setRow_heap _ _ _ R _ _ RG8.out) Tryz.underlying41 rfl HRI.out) rfl ⟨by rw [HRE.out], HQ8.out.setRowNew (by omega) _⟩
      exact AllReadyH.nil
    exact AllReadyH.nil
end
end Go.Proofs.YtinpenoeohejoaaGreatDoor

namespace Go.Proofs.YtinpenoeohejoaaGreatDoor
open Go.RowKit
set_option maxRecDepth 100000

section
variable {w0 wp w1 : World} {B kb jb b : Nat} {m m' : KM} {v : Value} {br : Bool} {D : DiskM} {F G : List UInt8} {rs : List (List UInt8)} {S S' T T' : List Nat}
def HandTo (w0 : World) (B kb jb b : Nat) (D : DiskM) (F : List UInt8) (rs : List (List UInt8)) (S : List Nat) (m' : KM) (v : Value) (w : World) (e : Ending) (w' : World) : Prop :=
  e = .returned (.tuple #[]) ∧ ∃ v', KSt w0 B kb jb b D F rs S m' v' w' ∧ Upd (kF kb jb v S) (kF kb jb v' S) w w'
theorem KSt.hand {w2 : World} {v' : Value} (h : KSt w0 B kb jb b D F rs S m v wp) (x : Rc) (hm' : m'.ok) (e : m' = { m with rs := m.rs ++ [x], paper := m.paper - 1 }) (hown : w2.ownsRow 0 41 102 v' (m.rs ++ [x]).length (rcVals (m.rs ++ [x])))
    (u : Upd (foot v) (foot v') wp w2) (z : Int) (hz : z = (m'.paper : Int)) : KSt w0 B kb jb b D F rs S m' v' ((w2.setCell ⟨kb, 3, none⟩ v').setCell ⟨kb, 4, none⟩ (.int .i64 z)) ∧ Upd (kF kb jb v S) (kF kb jb v' S) wp ((w2.setCell ⟨kb, 3, none⟩ v').setCell ⟨kb, 4, none⟩ (.int .i64 z)) := by
  have hkl := h.body.lt
  have hv' : ∀ y, y ∈ foot v' → y ∈ foot v ∨ wp.heap.size ≤ y := u.new
  have hkv' : kb ∉ foot v' := fun hm => by
    rcases hv' kb hm with k | k
    · exact h.body.kv k
    · omega
  have hne : ∀ y, y ∈ foot v' → y ≠ kb := fun y hy e => hkv' (e ▸ hy)
  have ha : Above B (foot v) := fun k hk => h.hv k hk
  have hj2 : JSt w0 B jb b D F rs S w2 := h.j.other u ha (fun k hk hm => h.vS k hm hk)
  have hk2 : w2.heap[kb]? = some (.cells (kqV jb m v false).toArray 97 (0, 0)) := (u.block kb hkl h.body.kv).trans h.body.k
  have uk : Upd [kb] [kb] w2 ((w2.setCell ⟨kb, 3, none⟩ v').setCell ⟨kb, 4, none⟩ (.int .i64 z)) := ((Upd.refl _ _).setCell (p := ⟨kb, 3, none⟩) (by simp) _).setCell (p := ⟨kb, 4, none⟩) (by simp) _
  refine ⟨⟨⟨?_, ?_, hkv', hm'⟩, hj2.other uk (by intro k hk; simp at hk; rw [hk]; exact h.hk) (fun k hk hm => ?_), h.kS, fun y hy hm => ?_, h.hk, fun y hy => ?_⟩, ?_⟩
  · have e1 := heap_setCell_same w2 kb 3 _ _ v' hk2
    rw [heap_setCell_same _ kb 4 _ _ _ e1, e, hz, e]
    rfl
  · rw [e]
    exact row_same hown (fun y hy => by rw [heap_setCell_other _ _ _ _ (hne y hy), heap_setCell_other _ _ _ _ (hne y hy)])
  · simp at hm
    exact h.kS (hm ▸ hk)
  · rcases hv' y hy with k | k
    · exact h.vS y k hm
    · have := h.j.lt y hm; omega
  · rcases hv' y hy with k | k
    · exact h.hv y k
    · have := h.j.size; omega
  · have uw : Upd (kF kb jb v S) (kF kb jb v' S) wp w2 := ⟨u.os, u.tape, u.output, u.size, fun k hk hn => u.block k hk (fun hm => hn (by simp [kF, hm])), fun k hk => by
      simp only [kF, List.mem_cons, List.mem_append] at hk ⊢
      rcases hk with rfl | hk | hk
      · exact .inl (.inl rfl)
      · rcases hv' k hk with g | g
        · exact .inl (.inr (.inl g))
        · exact .inr g
      · exact .inl (.inr (.inr hk))⟩
    exact (uw.setCell (p := ⟨kb, 3, none⟩) (by simp [kF]) _).setCell (p := ⟨kb, 4, none⟩) (by simp [kF]) _
set_option maxHeartbeats 2000000 in
theorem hand_any (h : KSt w0 B kb jb b D F rs S m v wp) (x : Rc) (m' : KM) (hx : x.ok) (hp : 1 ≤ m.paper) (hm' : m'.ok) (e : m' = { m with rs := m.rs ++ [x], paper := m.paper - 1 }) :
    Calls Tryz.prog 33 #[.pointer (some ⟨kb, 0, none⟩), .agg (rcV x).toArray] wp (HandTo w0 B kb jb b D F rs S m' v wp) := by
  obtain ⟨R, hR⟩ : ∃ R, R = (rcV x).toArray := ⟨_, rfl⟩
  obtain ⟨HRI, HRO, HRZ⟩ := rcLet hx R hR
  obtain ⟨w1, hw1⟩ : ∃ w1, wp.alloc (.cells R 41) = w1 := ⟨_, rfl⟩
  have u1 : Upd [] [] wp w1 := by rw [← hw1]; exact (Upd.refl _ _).alloc _
  have r1 : w1.heap[wp.heap.size]? = some (.cells R 41 (0, 0)) := by rw [← hw1]; exact heap_alloc_new _ _
  have h1 := h.quiet u1.drew
  have hm := h.body.ok.many
  have hpp := h.body.ok.paper
  have hub : Upd [] [] w1.drew (w1.drew.alloc (.cells R 41)) := (Upd.refl _ _).alloc _
  obtain ⟨v2, w2, hrun, hown, hup⟩ := append_rc w1.drew v m.rs x hx h1.body.own (by omega)
  obtain ⟨ao, cap, hvE, _, _⟩ := row_slice h1.body.own
  obtain ⟨ao2, cap2, hv2E, _, _⟩ := row_slice hown
  obtain ⟨n2, hn2⟩ : ∃ n2, n2 = (m.rs ++ [x]).length := ⟨_, rfl⟩
  obtain ⟨n, hn⟩ : ∃ n, n = m.rs.length := ⟨_, rfl⟩
  rw [← hn2] at hv2E
  rw [← hn] at hvE
  rw [hvE, hv2E, ← hR] at hrun
  have HRN := Lib.hid hrun
  have HBR : Hid (∀ W : World, (Instr.buildSlice 33 1 #[(0, .agg R)]).run Tryz.prog W = .ok (.slice (some ⟨W.heap.size, 0, none⟩) 1 1) (W.alloc (.cells R 41))) := fun W => by rw [hR]; exact rc_build x hx W
  have HLD : Hid (∀ W : World, W.heap[wp.heap.size]? = some (.cells R 41 (0, 0)) → (Instr.loadAt 41 (.pointer (some ⟨wp.heap.size, 0, none⟩))).run Tryz.prog W = .ok (.agg R) W) := fun W hW => RcAt.load (by rw [hR] at hW; exact hW) hx R hR
  have hb2 : ∀ W : World, KBody W kb jb m v false → W.cell? ⟨kb, 3, none⟩ = some (.slice ao n cap) := fun W k => by rw [k.c3, hvE]
  have HB2 := Lib.hid hb2
  have h2 : w2.heap[kb]? = some (.cells (kqV jb m v false).toArray 97 (0, 0)) := (hup.block kb h1.body.lt h1.body.kv).trans h1.body.k
  have r2 : w2.heap[wp.heap.size]? = some (.cells R 41 (0, 0)) := (hup.block wp.heap.size (by have := (Array.getElem?_eq_some_iff.1 r1).1; simpa using this) (fun hm => by have := h.body.vlt _ hm; omega)).trans r1
  have c32 : w2.cell? ⟨kb, 3, none⟩ = some (.slice ao n cap) := by rw [cell_of_row _ _ _ _ _ _ h2, ← hvE]; rfl
  have c34 : w2.cell? ⟨kb, 4, none⟩ = some (.int .i64 (m.paper : Int)) := by rw [cell_of_row _ _ _ _ _ _ h2]; rfl
  have f32 := frozen_of_row _ _ 3 _ _ h2
  have f34 := frozen_of_row _ _ 4 _ _ h2
  obtain ⟨p, hp'⟩ : ∃ p, p = m.paper := ⟨_, rfl⟩
  rw [← hp'] at c34 hp hpp
  have HE : Hid (KSt w0 B kb jb b D F rs S m' v2 ((w2.setCell ⟨kb, 3, none⟩ v2).setCell ⟨kb, 4, none⟩ (.int .i64 ((p : Int) - 1))) ∧ Upd (kF kb jb v S) (kF kb jb v2 S) wp ((w2.setCell ⟨kb, 3, none⟩ v2).setCell ⟨kb, 4, none⟩ (.int .i64 ((p : Int) - 1)))) := by
    obtain ⟨k1, k2⟩ := h1.hand x hm' e hown hup ((p : Int) - 1) (by rw [e]; show _ = ((m.paper - 1 : Nat) : Int); omega)
    exact ⟨k1, ((u1.drew).quiet (T := kF kb jb v S)).trans k2⟩
  rw [hv2E] at HE
  have hv2 := Lib.hid hv2E
  have HK : Hid (∀ W : World, KBody W kb jb m v false → W.heap[wp.heap.size]? = some (.cells R 41 (0, 0)) → W.cell? ⟨kb, 3, none⟩ = some (.slice ao n cap) ∧ (Instr.loadAt 41 (.pointer (some ⟨wp.heap.size, 0, none⟩))).run Tryz.prog W = .ok (.agg R) W) := fun W a b => ⟨HB2.out W a, HLD.out W b⟩
  have HL2 := Lib.hid (HLD.out w2 r2)
  have HLT := Lib.hid h.body.lt
  have H2 := Lib.hid h2
  have R2 := Lib.hid r2
  have H1 := Lib.hid h1
  have R1 := Lib.hid r1
  have HW1 := Lib.hid hw1
  have HUB := Lib.hid hub
  rw [← hR]
  clear hR hw1 u1 r1 h1 hub hrun hown hup hvE hv2E hn2 hn hb2 h2 r2 hp' h hm' e hm hx HRI HRO HRZ
  go_enter Tryz.func33, Tryz.ntmps33
  go_upto_region 1 with (fail)
  rw [HW1.out]
  have c3A : w1.drew.cell? ⟨kb, 3, none⟩ = some (.slice ao n cap) := HB2.out _ H1.out.body
  have c3B : (w1.alloc (.cells R 41)).cell? ⟨kb, 3, none⟩ = some (.slice ao n cap) := HB2.out (w1.drew.alloc (.cells R 41)) (H1.out.body.quiet HUB.out)
  have hne : Hid (wp.heap.size ≠ kb) := by show _ ≠ _; have := HLT.out; omega
  refine @id ((?pj1 : Prop) → _) (fun hJ => ?mj1) ?jj1
  case mj1 =>
    refine wp_region_noPanic ?_
    refine wp_region_held_drew (S := fun wp' => (Instr.loadAt 41 (.pointer (some ⟨wp.heap.size, 0, none⟩))).run Tryz.prog wp' = .ok (.agg R) wp') (by kernel_rfl) ?_ (fun hHeld => ?_)
    · exact HLD.out _ R1.out
    refine tkY 0 hHeld ?_
    refine tkY 1 hHeld ?_
    refine tkY 2 hHeld ?_
    refine tkY 3 hHeld ?_
    refine tkL 5 hHeld R (fun w hSw => hSw) ?_
    refine wpAnyH_ready (rs := [4, 6]) (by kernel_rfl) (by simp) ?_
    refine AllReadyH.cons (by simp only [List.getElem?_toArray, List.getElem?_cons_succ, List.getElem?_cons_zero] <;> rfl) (fun K hK => ?_) ?_
    · go_simp
      refine hK.out _ _ ?_ (fun hHeld => ?_)
      · exact HLD.out _ R1.out
      clear hK K
      try simp only [Act.put, List.setIfInBounds_toArray, List.set_cons_zero, List.set_cons_succ]
      refine wpAnyH_ready (rs := [6]) (by kernel_rfl) (by simp) ?_
      refine AllReadyH.cons (by simp only [List.getElem?_toArray, List.getElem?_cons_succ, List.getElem?_cons_zero] <;> rfl) (fun K hK => ?_) ?_
      · rw [if_pos (by rfl)]; refine wp_buildRun 33 1 _ rfl _ _ (Eq.trans (congrArg (fun z => (Instr.buildSlice 33 1 z).run Tryz.prog w1.drew) (by kernel_rfl)) (HBR.out w1.drew)) ?_
        refine hK.out _ _ ?_ (fun hHeld => ?_)
        · exact HLD.out _ (row_updH (w := w1.drew) R1.out HUB.out)
        clear hK K
        try simp only [Act.put, List.setIfInBounds_toArray, List.set_cons_zero, List.set_cons_succ]
        refine wpAnyH_ready (rs := [7]) (by kernel_rfl) (by simp) ?_
        refine AllReadyH.cons (by simp only [List.getElem?_toArray, List.getElem?_cons_succ, List.getElem?_cons_zero] <;> rfl) (fun K hK => ?_) ?_
        · refine step_append_run _ rfl _ _ _ _ rfl (.slice ao n cap) (.slice (some ⟨w1.drew.heap.size, 0, none⟩) 1 1) (.slice ao2 n2 cap2) w2 rfl rfl HRN.out ?_
          refine hK.out _ _ ?_ (fun hHeld => ?_)
          · exact HL2.out
          clear hK K
          try simp only [Act.put, List.setIfInBounds_toArray, List.set_cons_zero, List.set_cons_succ]
          refine tkY 8 hHeld ?_
          refine tkY 9 hHeld ?_
          refine wpAnyH_ready (rs := [10]) (by kernel_rfl) (by simp) ?_
          refine AllReadyH.cons (by simp only [List.getElem?_toArray, List.getElem?_cons_succ, List.getElem?_cons_zero] <;> rfl) (fun K hK => ?_) ?_
          · go_simp
            refine hK.out _ _ ?_ (fun hHeld => ?_)
            · exact HLD.out _ ((heap_setCell_other _ _ _ _ hne.out).trans R2.out)
            clear hK K
            try simp only [Act.put]
            refine wpAnyH_done (by kernel_rfl) ?_ _
            refine NoPanic.normal ?_
            exact hJ
          exact AllReadyH.nil
        exact AllReadyH.nil
      exact AllReadyH.nil
    refine AllReadyH.cons (by simp only [List.getElem?_toArray, List.getElem?_cons_succ, List.getElem?_cons_zero] <;> rfl) (fun K hK => ?_) ?_
    · rw [if_pos (by rfl)]; refine wp_buildRun 33 1 _ rfl _ _ (Eq.trans (congrArg (fun z => (Instr.buildSlice 33 1 z).run Tryz.prog w1.drew) (by kernel_rfl)) (HBR.out w1.drew)) ?_
      refine hK.out _ _ ?_ (fun hHeld => ?_)
      · exact HLD.out _ (row_updH (w := w1.drew) R1.out HUB.out)
      clear hK K
      try simp only [Act.put, List.setIfInBounds_toArray, List.set_cons_zero, List.set_cons_succ]
      refine wpAnyH_ready (rs := [4]) (by kernel_rfl) (by simp) ?_
      refine AllReadyH.cons (by simp only [List.getElem?_toArray, List.getElem?_cons_succ, List.getElem?_cons_zero] <;> rfl) (fun K hK => ?_) ?_
      · go_simp
        refine hK.out _ _ ?_ (fun hHeld => ?_)
        · exact HLD.out _ (row_updH (w := w1.drew) R1.out HUB.out)
        clear hK K
        try simp only [Act.put, List.setIfInBounds_toArray, List.set_cons_zero, List.set_cons_succ]
        refine wpAnyH_ready (rs := [7]) (by kernel_rfl) (by simp) ?_
        refine AllReadyH.cons (by simp only [List.getElem?_toArray, List.getElem?_cons_succ, List.getElem?_cons_zero] <;> rfl) (fun K hK => ?_) ?_
        · refine step_append_run _ rfl _ _ _ _ rfl (.slice ao n cap) (.slice (some ⟨w1.drew.heap.size, 0, none⟩) 1 1) (.slice ao2 n2 cap2) w2 rfl rfl HRN.out ?_
          refine hK.out _ _ ?_ (fun hHeld => ?_)
          · exact HL2.out
          clear hK K
          try simp only [Act.put, List.setIfInBounds_toArray, List.set_cons_zero, List.set_cons_succ]
          refine tkY 8 hHeld ?_
          refine tkY 9 hHeld ?_
          refine wpAnyH_ready (rs := [10]) (by kernel_rfl) (by simp) ?_
          refine AllReadyH.cons (by simp only [List.getElem?_toArray, List.getElem?_cons_succ, List.getElem?_cons_zero] <;> rfl) (fun K hK => ?_) ?_
          · go_simp
            refine hK.out _ _ ?_ (fun hHeld => ?_)
            · exact HLD.out _ ((heap_setCell_other _ _ _ _ hne.out).trans R2.out)
            clear hK K
            try simp only [Act.put]
            refine wpAnyH_done (by kernel_rfl) ?_ _
            refine NoPanic.normal ?_
            exact hJ
          exact AllReadyH.nil
        exact AllReadyH.nil
      exact AllReadyH.nil
    exact AllReadyH.nil
  clear c3A c3B c32
  have f4 : (w2.setCell ⟨kb, 3, none⟩ (.slice ao2 n2 cap2)).frozen? ⟨kb, 4, none⟩ = false := frozen_of_row _ _ 4 _ _ (heap_setCell_same w2 kb 3 _ _ (.slice ao2 n2 cap2) H2.out)
  go_wp2_with fail
  go_end0
  exact ⟨rfl, _, HE.out.1, HE.out.2⟩
end
end Go.Proofs.YtinpenoeohejoaaGreatDoor

namespace Go.Proofs.YtinpenoeohejoaaGreatDoor
open Go.RowKit
set_option maxRecDepth 100000

section
variable {w0 wp w1 : World} {B kb jb b : Nat} {m m' : KM} {v : Value} {br : Bool} {D : DiskM} {F G : List UInt8} {rs : List (List UInt8)} {S S' T T' : List Nat}
def SellNo (x : Int) (w : World) (e : Ending) (w' : World) : Prop := e = .returned (.tuple #[.agg (rcV Rc.zero).toArray, .int .i64 x]) ∧ Upd [] [] w w'
def KM.sold (m : KM) (x : Rc) : KM := { m with rs := m.rs ++ [x], paper := m.paper - 1 }
def SellTo (w0 : World) (B kb jb b : Nat) (D : DiskM) (F : List UInt8) (rs : List (List UInt8)) (S : List Nat) (m : KM) (v : Value) (x : Rc) (w : World) (e : Ending) (w' : World) : Prop :=
  (e = .returned (.tuple #[.agg (rcV x).toArray, .int .i64 0]) ∧ KFine w0 B kb jb b D F rs (wSel ++ textL x) S m (m.sold x) v w w') ∨ (e = .returned (.tuple #[.agg (rcV Rc.zero).toArray, .int .i64 70]) ∧ KFell w0 B kb jb b D F (wSel ++ textL x) S m v w w')
theorem refE_zero {m : KM} {d : List UInt8} (h : refE m d = 0) : nameOk d = true ∧ 0 < m.paper ∧ m.rs.length < 2000 := by
  unfold refE at h
  split at h
  · omega
  · rename_i h1
    split at h
    · omega
    · split at h
      · omega
      · exact ⟨by simpa using h1, by omega, by omega⟩
theorem step_sold {m : KM} {d : ByteArray} {hs : List UInt8} (h : refE m (bs d) = 0) (hl : hs.length = 32) : m.step (.sel (nextK m d hs)) = some (m.sold (nextK m d hs)) := by
  obtain ⟨h1, h2, h3⟩ := refE_zero h
  have e : (nextK m d hs).draw = d ∧ (nextK m d hs).hash = hs := ⟨rfl, rfl⟩
  simp only [KM.step]
  rw [e.1, e.2, if_pos ⟨h1, h2, h3, hl, eqRc_refl _⟩]
  rfl
theorem sell_new (wp : World) (H : Array Value) : ∃ w2, (wp.alloc (.cells H 37)).alloc (.cells Tryz.zeroCells41 41) = w2 ∧ Upd [] [] wp w2 ∧ w2.heap[wp.heap.size]? = some (.cells H 37 (0, 0)) ∧ w2.heap[wp.heap.size + 1]? = some (.cells Tryz.zeroCells41 41 (0, 0)) ∧ w2.heap.size = wp.heap.size + 1 + 1 := by
  refine ⟨_, rfl, ((Upd.refl _ _).alloc _).alloc _, row_updH (heap_alloc_new wp (.cells H 37)) ((Upd.refl [] _).alloc _), ?_, by simp⟩
  have h := heap_alloc_new (wp.alloc (.cells H 37)) (.cells Tryz.zeroCells41 41)
  rw [World.size_alloc] at h
  exact h
set_option maxHeartbeats 2000000 in
theorem Sell_no (h : KBody wp kb jb m v false) (d : ByteArray) (H : Array Value) (hd : d.size ≤ 9223372036854775807) (x : Int) (hx : refE m (bs d) = x) (hx0 : x ≠ 0) : Calls Tryz.prog 8 #[.pointer (some ⟨kb, 0, none⟩), .string d, .agg H] wp (SellNo x wp) := by
  obtain ⟨w2, hw2, u2, _, rG, z2⟩ := sell_new wp H
  have h2 := h.quiet u2
  have hO := Lib.hid (isOpen_any h2)
  have hR := Lib.hid (refuses_any h2 d hd)
  have c38 := h2.c38
  obtain ⟨R, hRz⟩ : ∃ R, R = (rcV Rc.zero).toArray := ⟨_, rfl⟩
  obtain ⟨HRI, HRO, HRZ⟩ := rcLet Rc.zero_ok R hRz
  have HRE := Lib.hid hRz
  have HW2 := Lib.hid hw2
  have RG := Lib.hid rG
  have HU2 := Lib.hid u2
  have HX := Lib.hid hx
  clear hw2 u2 rG z2 h2 h hx hRz
  go_enter Tryz.func8, Tryz.ntmps8
  go_upto_region 1 with (fail)
  rw [HW2.out]
  go_wp2_with (go_at_call 30; ((with_reducible refine hO.out.mono ?_); rintro e w' ⟨rfl, rfl⟩))
  refine hR.out.mono ?_
  rintro e w3 ⟨y, HY, rfl, hq⟩
  obtain rfl : y = x := HY.out.trans HX.out
  have RG3 := Lib.hid (row_updH RG.out hq)
  have HU3 := Lib.hid (HU2.out.trans hq)
  clear hq RG HU2 c38
  go_wp2_with (first | (refine wpList_buildTo rfl 41 _ rfl _ rfl R (Eq.trans (show Tryz.prog.built 41 _ = some (rcV Rc.zero).toArray by kernel_rfl) (by rw [HRE.out])) ?_) | (refine wpList_store_row rfl 41 _ _ rfl (wp.heap.size + 1) R rfl rfl _ _ RG3.out HRI.out HRZ.out HRO.out ?_))
  refine bodyPost_ret (results_row_tmp rfl _ _ (wp.heap.size + 1) _ R _ _ rfl (setRow_heap _ _ _ R _ _ RG3.out) Tryz.underlying41 rfl HRI.out) rfl ⟨?_, HU3.out.setRowNew (by omega) _⟩
  rw [HRE.out]
  rfl
set_option maxHeartbeats 2000000 in
theorem Sell_broken (h : KBody wp kb jb m v true) (d : ByteArray) (H : Array Value) : Calls Tryz.prog 8 #[.pointer (some ⟨kb, 0, none⟩), .string d, .agg H] wp (SellNo 70 wp) := by
  obtain ⟨w2, hw2, u2, _, rG, z2⟩ := sell_new wp H
  have h2 := h.quiet u2
  have hO := Lib.hid (isOpen_any h2)
  have c38 := h2.c38
  obtain ⟨R, hRz⟩ : ∃ R, R = (rcV Rc.zero).toArray := ⟨_, rfl⟩
  obtain ⟨HRI, HRO, HRZ⟩ := rcLet Rc.zero_ok R hRz
  have HRE := Lib.hid hRz
  have HW2 := Lib.hid hw2
  have RG := Lib.hid rG
  have HU2 := Lib.hid u2
  clear hw2 u2 rG z2 h2 h hRz
  go_enter Tryz.func8, Tryz.ntmps8
  go_upto_region 1 with (fail)
  rw [HW2.out]
  go_wp2_with (first | (go_at_call 30; ((with_reducible refine hO.out.mono ?_); rintro e w' ⟨rfl, rfl⟩)) | (refine wpList_buildTo rfl 41 _ rfl _ rfl R (Eq.trans (show Tryz.prog.built 41 _ = some (rcV Rc.zero).toArray by kernel_rfl) (by rw [HRE.out])) ?_) | (refine wpList_store_row rfl 41 _ _ rfl (wp.heap.size + 1) R rfl rfl _ _ RG.out HRI.out HRZ.out HRO.out ?_))
  refine bodyPost_ret (results_row_tmp rfl _ _ (wp.heap.size + 1) _ R _ _ rfl (setRow_heap _ _ _ R _ _ RG.out) Tryz.underlying41 rfl HRI.out) rfl ⟨?_, HU2.out.setRowNew (by omega) _⟩
  rw [HRE.out]
  rfl
theorem Upd.setRowIn {S S' : List Nat} {w w' : World} {g : Nat} (h : Upd S S' w w') (hg : g ∈ S) (cs : Array Value) : Upd S S' w (w'.setRow g cs) :=
  ⟨h.os, h.tape, h.output, by simp; exact h.size, fun k hk hn => (setRow_other _ _ _ _ (fun (e : k = g) => hn (e ▸ hg))).trans (h.block k hk hn), h.new⟩
theorem sel_len {x : Rc} (hx : x.ok) (hd : x.draw.size ≤ 30) (s : ByteArray) (hs : bs s = textL x) : s.size ≤ 430 := by
  have h := textL_len hx
  rw [← hs, bs_length] at h
  omega
theorem KM.sold_ok {x : Rc} {hs : List UInt8} {d : ByteArray} (h : m.ok) (hr : refE m (bs d) = 0) (hl : hs.length = 32) (hx : x = nextK m d hs) : (m.sold x).ok := by
  subst hx
  exact KM.ok_step h (step_sold hr hl)
set_option maxHeartbeats 4000000 in
theorem Sell_go (h : KSt w0 B kb jb b D F rs S m v wp) (d : ByteArray) (hs : List UInt8) (hl : hs.length = 32) (hr : refE m (bs d) = 0) (hc : D.calls + 4 ≤ 65536) (hfit : spaceL rs + 800 ≤ 16777216) (htab : Tabs wp) :
    Calls Tryz.prog 8 #[.pointer (some ⟨kb, 0, none⟩), .string d, .agg (byteVals hs).toArray] wp (SellTo w0 B kb jb b D F rs S m v (nextK m d hs) wp) := by
  obtain ⟨hname, hpap, hmany⟩ := refE_zero hr
  have hd := nameOk_size hname
  obtain ⟨X, hX⟩ : ∃ X, X = nextK m d hs := ⟨_, rfl⟩
  have hXo : X.ok := by rw [hX]; exact nextK_ok h.body.ok hl
  have hXd : X.draw.size ≤ 30 := by rw [hX]; exact hd
  have hso := KM.sold_ok h.body.ok hr hl hX
  obtain ⟨H, hH⟩ : ∃ H, H = (byteVals hs).toArray := ⟨_, rfl⟩
  obtain ⟨R, hR⟩ : ∃ R, R = (rcV X).toArray := ⟨_, rfl⟩
  obtain ⟨HRI, HRO, HRZ⟩ := rcLet hXo R hR
  obtain ⟨Z, hZ⟩ : ∃ Z, Z = (rcV Rc.zero).toArray := ⟨_, rfl⟩
  obtain ⟨HZI, HZO, HZZ⟩ := rcLet Rc.zero_ok Z hZ
  have HHI : Hid ((Tryz.prog.info? 37).map (·.size) = some H.size) := by show _ = _; rw [hH]; exact hashInfo hl
  obtain ⟨w2, hw2, u2, rA, rG, z2⟩ := sell_new wp H
  have h2 := h.body.quiet u2
  have hO := Lib.hid (isOpen_any h2)
  have hRef := Lib.hid (refuses_any h2 d (by omega))
  have hNx : Hid (∀ W, Upd [] [] wp W → Calls Tryz.prog 32 #[.pointer (some ⟨kb, 0, none⟩), .string d, .agg H] W (Mk (.agg R) W)) := by
    intro W u
    rw [hH, hR, hX]
    exact next_any (h.body.quiet u) d hs (by omega) hl (htab.upd u)
  have hTx : Hid (∀ W, Upd [] [] wp W → Calls Tryz.prog 14 #[.agg R] W (MkS (textL X) W)) := by
    intro W u
    rw [hR]
    exact text22_any X hXo (by omega) W (htab.upd u)
  have hKp : Hid (∀ (W : World) (s : ByteArray), Upd [] [] wp W → bs s = textL X → Calls Tryz.prog 26 #[.pointer (some ⟨kb, 0, none⟩), .string (ByteArray.mk #[115, 101, 108, 108, 32] ++ s)] W (KeepTo w0 B kb jb b D F rs (wSel ++ textL X) S m v W)) := by
    intro W s u e
    have k := sel_len hXo hXd s e
    have e2 : bs (ByteArray.mk #[115, 101, 108, 108, 32] ++ s) = wSel ++ textL X := by rw [dBs_append, e]; rfl
    have k2 : (ByteArray.mk #[115, 101, 108, 108, 32] ++ s).size ≤ 435 := by rw [ByteArray.size_append]; show 5 + s.size ≤ _; omega
    have k3 := keep_any (h.quiet u) (ByteArray.mk #[115, 101, 108, 108, 32] ++ s) hc (by omega)
    rw [e2] at k3
    exact k3
  have hHd : Hid (∀ (W : World) (D' : DiskM) (F' : List UInt8) (rs' : List (List UInt8)) (S' : List Nat), KSt w0 B kb jb b D' F' rs' S' m v W → Calls Tryz.prog 33 #[.pointer (some ⟨kb, 0, none⟩), .agg R] W (HandTo w0 B kb jb b D' F' rs' S' (m.sold X) v W)) := by
    intro W D' F' rs' S' k
    rw [hR]
    exact hand_any k X (m.sold X) hXo (by omega) hso rfl
  have hsl : ∀ s : ByteArray, bs s = textL X → s.size ≤ 430 := fun s e => sel_len hXo hXd s e
  have HSL := Lib.hid hsl
  have c38 := h2.c38
  have HLT := Lib.hid h.lt
  have HB := Lib.hid h.j.size
  have HW2 := Lib.hid hw2
  have RA := Lib.hid rA
  have RG := Lib.hid rG
  have HU2 := Lib.hid u2
  have HX := Lib.hid hX
  have HRR := Lib.hid hr
  have HRE := Lib.hid hR
  have HZE := Lib.hid hZ
  have HZ2 := Lib.hid z2
  rw [← hH, ← hX]
  clear hw2 u2 rA rG z2 h2 h hX hr hH hR hZ hsl hso hXo hXd hname hpap hmany hd hl
  go_enter Tryz.func8, Tryz.ntmps8
  go_upto_region 1 with (fail)
  rw [HW2.out]
  go_wp2_with (go_at_call 30; ((with_reducible refine hO.out.mono ?_); rintro e w' ⟨rfl, rfl⟩))
  refine hRef.out.mono ?_
  rintro e w3 ⟨y, HY, rfl, hq⟩
  obtain rfl : y = 0 := HY.out.trans HRR.out
  have RA3 := Lib.hid (row_updH RA.out hq)
  have RG3 := Lib.hid (row_updH RG.out hq)
  have HU3 := Lib.hid (HU2.out.trans hq)
  have HZ3 : Hid (wp.heap.size + 1 + 1 ≤ w3.heap.size) := by show _ ≤ _; have := HZ2.out; have := hq.size; omega
  clear hq RG RA HU2 c38 hO hRef HW2 HRR HY HZ2
  go_wp2_with (first | (refine wpList_load_row rfl 37 _ rfl wp.heap.size rfl _ H _ _ RA3.out Tryz.underlying37 rfl HHI.out ?_))
  refine (hNx.out _ HU3.out).mono ?_
  rintro e w4 ⟨rfl, hq⟩
  obtain ⟨w5, HZ5, HW5, HR5, hq'⟩ := blk_new w4 41 Tryz.zeroCells41 R
  have HU5 := Lib.hid (HU3.out.trans (hq.trans hq'))
  have RG5 := Lib.hid (row_updH RG3.out (hq.trans hq'))
  have HZ4 : Hid (wp.heap.size + 1 + 1 ≤ w4.heap.size) := by show _ ≤ _; have := HZ3.out; have := hq.size; omega
  clear hq hq' RG3 RA3 HU3 hNx HZ3
  go_wp2_with (first | (refine wpList_store_rowAs rfl 41 _ _ rfl w4.heap.size R rfl rfl _ _ HZ5.out HRI.out HRZ.out HRO.out w5 HW5.out ?_) | (refine wpList_load_row rfl 41 _ rfl w4.heap.size rfl _ R _ _ HR5.out Tryz.underlying41 rfl HRI.out ?_))
  refine (hTx.out _ HU5.out).mono ?_
  rintro e w6 ⟨s, HS, hs, rfl, hq⟩
  have hss := HSL.out s HS.out
  have HU6 := Lib.hid (HU5.out.trans hq)
  have RG6 := Lib.hid (row_updH RG5.out hq)
  have RX6 := Lib.hid (row_updH HR5.out hq)
  obtain ⟨gX, hgX⟩ : ∃ gX, gX = w4.heap.size := ⟨_, rfl⟩
  rw [← hgX] at RX6 HZ4 ⊢
  clear hq RG5 HR5 HU5 hTx HSL HZ5 HW5 hgX hs
  go_wp2_with fail
  refine (hKp.out _ s HU6.out HS.out).mono ?_
  rintro e w7 hpost
  have hoff : ∀ k, wp.heap.size ≤ k → k ∉ kF kb jb v S := fun k hk hm => by have := HLT.out k hm; omega
  have HXlt := Lib.hid (blk_lt RX6.out)
  have HGlt := Lib.hid (blk_lt RG6.out)
  rcases hpost with ⟨rfl, D', S', hst, hup, hf, hc'⟩ | ⟨rfl, hfell⟩
  · have RX7 : Hid (w7.heap[gX]? = some (.cells R 41 (0, 0))) := by show _ = _; rw [hup.block gX (blk_lt RX6.out) (hoff gX (by have := HZ4.out; omega))]; exact RX6.out
    have RG7 : Hid (w7.heap[wp.heap.size + 1]? = some (.cells Tryz.zeroCells41 41 (0, 0))) := by show _ = _; rw [hup.block _ (blk_lt RG6.out) (hoff _ (by omega))]; exact RG6.out
    have HUP := Lib.hid hup
    have HST := Lib.hid hst
    have HC := Lib.hid hc'
    have HF := Lib.hid hf
    clear hup hst hoff RX6 RG6 hc' hf hKp
    go_wp2_with (first | (refine wpList_load_row rfl 41 _ rfl gX rfl _ R _ _ RX7.out Tryz.underlying41 rfl HRI.out ?_))
    refine (hHd.out _ _ _ _ _ HST.out).mono ?_
    rintro e w8 ⟨rfl, v', hst8, hup8⟩
    have hU8 := HUP.out.trans hup8
    have hoff' : ∀ k, wp.heap.size ≤ k → k < w6.heap.size → k ∉ kF kb jb v S' := fun k hk hk2 hm => by
      rcases HUP.out.new k hm with g | g
      · have := HLT.out k g; omega
      · omega
    have RX8 : Hid (w8.heap[gX]? = some (.cells R 41 (0, 0))) := by show _ = _; rw [hup8.block gX (blk_lt RX7.out) (hoff' gX (by have := HZ4.out; omega) HXlt.out)]; exact RX7.out
    have RG8 : Hid (w8.heap[wp.heap.size + 1]? = some (.cells Tryz.zeroCells41 41 (0, 0))) := by show _ = _; rw [hup8.block _ (blk_lt RG7.out) (hoff' _ (by omega) HGlt.out)]; exact RG7.out
    have hG : ∀ k, k ∈ kF kb jb v' S' → k ∉ [wp.heap.size + 1] := fun k hk hm => by
      simp at hm
      subst hm
      rcases hup8.new _ hk with g | g
      · exact hoff' _ (by omega) HGlt.out g
      · have := blk_lt RG7.out; omega
    have hB : B ≤ wp.heap.size + 1 := by have := HB.out; omega
    have HFIN : Hid (KFine w0 B kb jb b D F rs (wSel ++ textL X) S m (m.sold X) v wp (w8.setRow (wp.heap.size + 1) R)) :=
      ⟨D', S', v', hst8.other ((Upd.refl [wp.heap.size + 1] _).setRowIn (by simp) R) (fun k hk => by simp at hk; omega) hG, (((HU6.out.quiet (T := kF kb jb v S)).trans hU8).setRowNew (by omega) R), HF.out, HC.out⟩
    clear hoff' hst8 hup8 hU8 hG hB HUP HST HC HF RX7 RG7 hHd
    go_wp2_with (first | (refine wpList_load_row rfl 41 _ rfl gX rfl _ R _ _ RX8.out Tryz.underlying41 rfl HRI.out ?_) | (refine wpList_store_row rfl 41 _ _ rfl (wp.heap.size + 1) R rfl rfl _ _ RG8.out HRI.out HRZ.out HRO.out ?_))
    refine bodyPost_ret (results_row_tmp rfl _ _ (wp.heap.size + 1) _ R _ _ rfl (setRow_heap _ _ _ R _ _ RG8.out) Tryz.underlying41 rfl HRI.out) rfl (.inl ⟨?_, HFIN.out⟩)
    rw [HRE.out]
    rfl
  · obtain ⟨D', S', hbr, hup, hf, hf', hc'⟩ := hfell
    have RG7 : Hid (w7.heap[wp.heap.size + 1]? = some (.cells Tryz.zeroCells41 41 (0, 0))) := by show _ = _; rw [hup.block _ (blk_lt RG6.out) (hoff _ (by omega))]; exact RG6.out
    have hG : ∀ k, k ∈ kF kb jb v S' → k ∉ [wp.heap.size + 1] := fun k hk hm => by
      simp at hm
      subst hm
      rcases hup.new _ hk with g | g
      · exact hoff _ (by omega) g
      · have := HGlt.out; omega
    have hB : B ≤ wp.heap.size + 1 := by have := HB.out; omega
    have HFIN : Hid (KFell w0 B kb jb b D F (wSel ++ textL X) S m v wp (w7.setRow (wp.heap.size + 1) Z)) :=
      ⟨D', S', hbr.other ((Upd.refl [wp.heap.size + 1] _).setRowIn (by simp) Z) (fun k hk => by simp at hk; omega) hG, (((HU6.out.quiet (T := kF kb jb v S)).trans hup).setRowNew (by omega) Z), hf, hf', hc'⟩
    clear hbr hup hf hf' hc' hG hB hoff RG6 RX6 hKp hHd
    go_wp2_with (first | (refine wpList_buildTo rfl 41 _ rfl _ rfl Z (Eq.trans (show Tryz.prog.built 41 _ = some (rcV Rc.zero).toArray by kernel_rfl) (by rw [HZE.out])) ?_) | (refine wpList_store_row rfl 41 _ _ rfl (wp.heap.size + 1) Z rfl rfl _ _ RG7.out HZI.out HZZ.out HZO.out ?_))
    refine bodyPost_ret (results_row_tmp rfl _ _ (wp.heap.size + 1) _ Z _ _ rfl (setRow_heap _ _ _ Z _ _ RG7.out) Tryz.underlying41 rfl HZI.out) rfl (.inr ⟨?_, HFIN.out⟩)
    rw [HZE.out]
    rfl
end
end Go.Proofs.YtinpenoeohejoaaGreatDoor
