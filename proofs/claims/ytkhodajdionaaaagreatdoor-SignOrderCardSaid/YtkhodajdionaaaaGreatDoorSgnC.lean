/- strconv.Itoa and Atoi in this text's forms; sign.Text, sign.Read. -/
import Derived.Test.YtkhodajdionaaaaGreatDoorSgnB
import Derived.Test.YtkhodajdionaaaaGreatDoorDec
namespace Go.Proofs.YtkhodajdionaaaaGreatDoor
open Go.RowKit
set_option maxRecDepth 100000

theorem alloc_sizeW (w : World) (o : Obj) : (w.alloc o).heap.size = w.heap.size + 1 := by simp
theorem upd_grow (os : Array Obj) (w : World) : Upd [] [] w (Go.Sort.grow w os) :=
  ⟨rfl, rfl, rfl, by simp [Go.Sort.grow], fun k hk _ => by simp [Go.Sort.grow, Array.getElem?_append, hk], fun _ hk => absurd hk (by simp)⟩

theorem itoa_any (n : Int) (w : World) (hn : i64in n) (htab : Tabs w) : Calls Tryz.prog 66 #[.int .i64 n] w (MkS (Lib.itoa n) w) := by
  refine (Tryz.strconv_Itoa n hn.1 hn.2 w htab.p).mono ?_
  rintro e w' ⟨rfl, k, os, rfl⟩
  exact ⟨⟨(Lib.itoa n).toArray⟩, rfl, Nat.le_refl _, rfl, ((Upd.refl [] w).drewN k).trans (upd_grow os _)⟩

set_option maxHeartbeats 1000000 in
theorem text_any (r s : Int) (w : World) (hr : i64in r) (hs : i64in s) (htab : Tabs w) : Calls Tryz.prog 50 #[.agg #[.int .i64 r, .int .i64 s]] w (MkS (pairL r s) w) := by
  have h1 := SigAt.start w r s
  have h4 := h1.upd (Upd.refl _ _).drew
  have k4 := h4.cells
  have hlr := itoa_len r hr
  have hls := itoa_len s hs
  go_enter Tryz.func50, Tryz.ntmps50
  go_wp2_with fail
  clear h1
  go_region_held3 (fun wp => wp.cell? ⟨w.heap.size, 0, none⟩ = some (.int .i64 r) ∧ wp.cell? ⟨w.heap.size, 1, none⟩ = some (.int .i64 s)) (first | exact k4 | assumption)
    (first
      | (go_at_call 66; ((with_reducible refine (itoa_any r _ hr (htab.upd h4.up)).mono ?_); rintro e wq ⟨y1, HY1, hy1, rfl, hq⟩; have t1 : ¬ 9223372036854775807 < y1.size + 1 := (by omega); have g1 := h4.upd hq; have kq := g1.cells; clear hq))
      | (go_at_call 66; ((with_reducible refine (itoa_any s _ hs (htab.upd g1.up)).mono ?_); rintro e wq ⟨y2, HY2, hy2, rfl, hq⟩; have t2 : ¬ 9223372036854775807 < y1.size + 1 + y2.size := (by omega); have g2 := g1.upd hq; have kq := g2.cells; clear hq)))
  go_wp2_with fail
  go_ret
  refine ⟨_, ?_, ?_, rfl, g2.up⟩
  · show _ = _
    rw [bs_append, bs_append, HY1.out, HY2.out]
    rfl
  · have e1 := bs_size HY1.out
    have e2 := bs_size HY2.out
    have e3 : (ByteArray.mk #[46]).size = 1 := rfl
    simp [ByteArray.size_append, pairL, e1, e2, e3]
    omega

theorem upd_bytes (w : World) (e : TypeId) (t : ByteArray) : Upd [] [] w (Lib.bytesWorld w e t) := by
  exact upd_of_below (Lib.bytesWorld_below _ _ _)

theorem atoi_ok (s : ByteArray) (v : Int) (w : World) (hs : s.size ≤ 140737488355000) (h : Lib.atoiAll (bs s) = .ok v) :
    Calls Tryz.prog 65 #[.string s] w (fun e w' => e = .returned (.tuple #[.int .i64 v, .nilIface]) ∧ Upd [] [] w w') := by
  refine (Tryz.strconv_Atoi_ok s (by omega) v h w).mono ?_
  rintro e w' ⟨rfl, hw⟩
  refine ⟨rfl, ?_⟩
  rcases hw with rfl | ⟨t, rfl⟩
  · exact Upd.refl _ _
  · exact upd_bytes _ _ _

def AtoiBad (w : World) (e : Ending) (w' : World) : Prop := ∃ (v : Int) (N : Nat), e = .returned (.tuple #[.int .i64 v, .iface 119 (.pointer (some ⟨N, 0, none⟩))]) ∧ i64in v ∧ Upd [] [] w w'
theorem atoi_bad (s : ByteArray) (w : World) (hs : s.size ≤ 140737488355000) (h : ∀ v, Lib.atoiAll (bs s) ≠ .ok v) (htab : Tabs w) :
    Calls Tryz.prog 65 #[.string s] w (AtoiBad w) := by
  cases hq : Lib.atoiAll (bs s) with
  | ok v => exact absurd hq (h v)
  | «syntax» =>
    obtain ⟨tp, p, hv⟩ := htab.es
    refine (Tryz.strconv_Atoi_syntax_var s (by omega) hq tp p w hv).mono ?_
    rintro e w' ⟨N, rfl, _, _, hb⟩
    exact ⟨0, N, rfl, ⟨by omega, by omega⟩, upd_of_below hb⟩
  | range =>
    obtain ⟨tp, p, hv⟩ := htab.er
    refine (Tryz.strconv_Atoi_range_var s (by omega) hq tp p w hv).mono ?_
    rintro e w' ⟨N, rfl, _, _, hb⟩
    refine ⟨_, N, rfl, ?_, upd_of_below hb⟩
    unfold Lib.atoiSat i64in
    split <;> omega

theorem atoi_some (s : ByteArray) (w : World) (hs : s.size ≤ 140737488355000) (htab : Tabs w) :
    Calls Tryz.prog 65 #[.string s] w (fun e w' => ∃ (v : Int) (ev : Value), e = .returned (.tuple #[.int .i64 v, ev]) ∧ i64in v ∧ Upd [] [] w w') := by
  by_cases h : ∃ v, Lib.atoiAll (bs s) = .ok v
  · obtain ⟨v, hv⟩ := h
    exact (atoi_ok s v w hs hv).mono fun e w' ⟨h1, h2⟩ => ⟨v, _, h1, Lib.atoiAll_bounds hv, h2⟩
  · exact (atoi_bad s w hs (fun v e => h ⟨v, e⟩) htab).mono fun e w' ⟨v, N, h1, h2, h3⟩ => ⟨v, _, h1, h2, h3⟩

theorem SigAt.free {w wp : World} {r s : Int} (h : SigAt w wp r s) : wp.frozen? ⟨w.heap.size, 0, none⟩ = false ∧ wp.frozen? ⟨w.heap.size, 1, none⟩ = false :=
  ⟨frozen_of_row _ _ _ _ _ h.row, frozen_of_row _ _ _ _ _ h.row⟩

theorem bs_inj {a b : ByteArray} (h : bs a = bs b) : a = b := by
  cases a; cases b
  simp only [bs, Array.toList_inj] at h
  rw [h]

theorem cutPoint_any (s : ByteArray) (w : World) (hs : s.size ≤ 4000000000) (htab : Tabs w) :
    Calls Tryz.prog 64 #[.string s, .string ⟨#[46]⟩] w (fun e w' => ∃ (l r : ByteArray) (b : Bool), Hid (bs l = (Lib.cut (bs s) [46]).1) ∧ Hid (bs r = (Lib.cut (bs s) [46]).2.1) ∧ l.size ≤ s.size ∧ r.size ≤ s.size ∧ e = .returned (.tuple #[.string l, .string r, .bool b]) ∧ Upd [] [] w w') := by
  obtain ⟨m, hm⟩ := htab.mc
  refine (Tryz.strings_Cut s ⟨#[46]⟩ m w (by omega) hm).mono ?_
  rintro e w' ⟨rfl, n, rfl⟩
  have h : (Lib.cut (bs s) [46]).1.length ≤ s.size ∧ (Lib.cut (bs s) [46]).2.1.length ≤ s.size := by
    unfold Lib.cut
    split
    · simp [bs_length]; omega
    · simp [bs_length]
  exact ⟨⟨(Lib.cut (bs s) [46]).1.toArray⟩, ⟨(Lib.cut (bs s) [46]).2.1.toArray⟩, _, rfl, rfl, h.1, h.2, rfl, (Upd.refl _ _).drewN n⟩

/-- It returns what is read. -/
def MkRead (l : List UInt8) (w : World) (e : Ending) (w' : World) : Prop := ∃ (a b : Int) (ok : Bool), Hid (readV l = (a, b, ok)) ∧ i64in a ∧ i64in b ∧ e = .returned (.tuple #[.agg #[.int .i64 a, .int .i64 b], .bool ok]) ∧ Upd [] [] w w'

theorem readV_no1 {l : List UInt8} (h : ∀ v, Lib.atoiAll (Lib.cut l [46]).1 ≠ .ok v) : readV l = (0, 0, false) := by
  have : readL l = none := by
    unfold readL
    split
    · rename_i x y hx hy; exact absurd hx (h x)
    · rfl
  rw [readV, this]
theorem readV_no2 {l : List UInt8} (h : ∀ v, Lib.atoiAll (Lib.cut l [46]).2.1 ≠ .ok v) : readV l = (0, 0, false) := by
  have : readL l = none := by
    unfold readL
    split
    · rename_i x y hx hy; exact absurd hy (h y)
    · rfl
  rw [readV, this]
theorem readV_ok {l : List UInt8} {a b : Int} (h1 : Lib.atoiAll (Lib.cut l [46]).1 = .ok a) (h2 : Lib.atoiAll (Lib.cut l [46]).2.1 = .ok b) : readV l = if pairL a b = l then (a, b, true) else (0, 0, false) := by
  rw [readV, readL, h1, h2]
  dsimp only
  split
  · rename_i x y h
    split at h
    · rename_i hp
      rw [if_pos hp]
      cases h; rfl
    · cases h
  · rename_i h
    split at h
    · cases h
    · rename_i hp
      rw [if_neg hp]

set_option maxHeartbeats 1000000 in
theorem read_any (s : ByteArray) (w : World) (hs : s.size ≤ 4000000000) (htab : Tabs w) : Calls Tryz.prog 49 #[.string s] w (MkRead (bs s) w) := by
  have h1 := SigAt.start w 0 0
  by_cases hl : ∃ v, Lib.atoiAll (Lib.cut (bs s) [46]).1 = .ok v
  case neg =>
    have hl' : ∀ v, Lib.atoiAll (Lib.cut (bs s) [46]).1 ≠ .ok v := fun v e => hl ⟨v, e⟩
    have HL := Lib.hid hl'
    clear hl hl'
    go_enter Tryz.func49, Tryz.ntmps49
    go_wp2_with fail
    refine (cutPoint_any s _ hs (htab.upd h1.up)).mono ?_
    rintro e w2 ⟨l, r, b, HB1, HB2, hl, hr, rfl, hu2⟩
    have h2 := h1.upd hu2
    clear h1
    go_wp2_with fail
    refine (atoi_bad l w2 (by omega) (by rw [HB1.out]; exact HL.out) (htab.upd h2.up)).mono ?_
    rintro e w3 ⟨v1, N1, rfl, hv1, hu3⟩
    have h3 := h2.upd hu3
    clear h2
    go_wp2_with fail
    refine (atoi_some r w3 (by omega) (htab.upd h3.up)).mono ?_
    rintro e w4 ⟨v2, ev, rfl, hv2, hu4⟩
    have h4 := h3.upd hu4
    clear h3
    have h5 := h4.upd ((Upd.refl _ _).alloc (.cells #[.int .i64 v1, .int .i64 v2] 43))
    obtain ⟨k0, k1⟩ := h5.cells
    obtain ⟨f0, f1⟩ := h5.free
    go_wp2_with fail
    refine bodyPost_ret (v := .tuple #[.agg #[.int .i64 0, .int .i64 0], .bool false]) (by simp [results, Tryz.results49, go_sem, k0, k1]) rfl ⟨0, 0, false, readV_no1 HL.out, ⟨by omega, by omega⟩, ⟨by omega, by omega⟩, rfl, ?_⟩
    exact (h5.up.setNew (p := ⟨_, _, none⟩) (Nat.le_refl _) _).setNew (p := ⟨_, _, none⟩) (Nat.le_refl _) _
  case pos =>
    obtain ⟨a, ha⟩ := hl
    by_cases hr : ∃ v, Lib.atoiAll (Lib.cut (bs s) [46]).2.1 = .ok v
    case neg =>
      have hr' : ∀ v, Lib.atoiAll (Lib.cut (bs s) [46]).2.1 ≠ .ok v := fun v e => hr ⟨v, e⟩
      have HR := Lib.hid hr'
      have HA := Lib.hid ha
      clear hr hr' ha
      go_enter Tryz.func49, Tryz.ntmps49
      go_wp2_with fail
      refine (cutPoint_any s _ hs (htab.upd h1.up)).mono ?_
      rintro e w2 ⟨l, r, b, HB1, HB2, hl, hr, rfl, hu2⟩
      have h2 := h1.upd hu2
      clear h1
      go_wp2_with fail
      refine (atoi_ok l a w2 (by omega) (by rw [HB1.out]; exact HA.out)).mono ?_
      rintro e w3 ⟨rfl, hu3⟩
      have h3 := h2.upd hu3
      clear h2
      go_wp2_with fail
      refine (atoi_bad r w3 (by omega) (by rw [HB2.out]; exact HR.out) (htab.upd h3.up)).mono ?_
      rintro e w4 ⟨v2, N, rfl, hv2, hu4⟩
      have h4 := h3.upd hu4
      clear h3
      have h5 := h4.upd ((Upd.refl _ _).alloc (.cells #[.int .i64 a, .int .i64 v2] 43))
      obtain ⟨k0, k1⟩ := h5.cells
      obtain ⟨f0, f1⟩ := h5.free
      go_wp2_with fail
      refine bodyPost_ret (v := .tuple #[.agg #[.int .i64 0, .int .i64 0], .bool false]) (by simp [results, Tryz.results49, go_sem, k0, k1]) rfl ⟨0, 0, false, readV_no2 HR.out, ⟨by omega, by omega⟩, ⟨by omega, by omega⟩, rfl, ?_⟩
      exact (h5.up.setNew (p := ⟨_, _, none⟩) (Nat.le_refl _) _).setNew (p := ⟨_, _, none⟩) (Nat.le_refl _) _
    case pos =>
      obtain ⟨c, hc⟩ := hr
      have hac := And.intro (Lib.atoiAll_bounds ha) (Lib.atoiAll_bounds hc)
      have HV := Lib.hid (readV_ok ha hc)
      have HA := Lib.hid ha
      have HC := Lib.hid hc
      clear ha hc
      go_enter Tryz.func49, Tryz.ntmps49
      go_wp2_with fail
      refine (cutPoint_any s _ hs (htab.upd h1.up)).mono ?_
      rintro e w2 ⟨l, r, b, HB1, HB2, hl, hr, rfl, hu2⟩
      have h2 := h1.upd hu2
      clear h1
      go_wp2_with fail
      refine (atoi_ok l a w2 (by omega) (by rw [HB1.out]; exact HA.out)).mono ?_
      rintro e w3 ⟨rfl, hu3⟩
      have h3 := h2.upd hu3
      clear h2
      go_wp2_with fail
      refine (atoi_ok r c w3 (by omega) (by rw [HB2.out]; exact HC.out)).mono ?_
      rintro e w4 ⟨rfl, hu4⟩
      have h4 := h3.upd hu4
      clear h3
      have h5 := h4.upd ((Upd.refl _ _).alloc (.cells #[.int .i64 a, .int .i64 c] 43))
      have s5 := SigAt.start w4 a c
      obtain ⟨q0, q1⟩ := s5.cells
      go_wp2_with fail
      refine (text_any a c _ hac.1 hac.2 (htab.upd h5.up)).mono ?_
      rintro e w6 ⟨y, HY, hy, rfl, hu6⟩
      have h6 := h5.upd hu6
      have s6 := s5.upd hu6
      clear h5 s5 q0 q1 h4
      obtain ⟨q0, q1⟩ := s6.cells
      obtain ⟨k0, k1⟩ := h6.cells
      obtain ⟨f0, f1⟩ := h6.free
      by_cases heq : pairL a c = bs s
      · have hys : y = s := bs_inj (HY.out.trans heq)
        subst hys
        go_wp2_with fail
        refine bodyPost_ret (v := .tuple #[.agg #[.int .i64 a, .int .i64 c], .bool true]) (by simp [results, Tryz.results49, go_sem, k0, k1]) rfl ⟨a, c, true, ?_, hac.1, hac.2, rfl, ?_⟩
        · show _ = _
          rw [HV.out, if_pos heq]
        · exact (h6.up.setNew (p := ⟨_, _, none⟩) (Nat.le_refl _) _).setNew (p := ⟨_, _, none⟩) (Nat.le_refl _) _
      · have h7 : (y.toList == s.toList) = false := by
          rw [beq_eq_false_iff_ne, ByteArray.toList_eq, ByteArray.toList_eq]
          exact fun e => heq (HY.out.symm.trans e)
        go_wp2_with fail
        refine bodyPost_ret (v := .tuple #[.agg #[.int .i64 0, .int .i64 0], .bool false]) (by simp [results, Tryz.results49, go_sem, k0, k1]) rfl ⟨0, 0, false, ?_, ⟨by omega, by omega⟩, ⟨by omega, by omega⟩, rfl, ?_⟩
        · show _ = _
          rw [HV.out, if_neg heq]
        · exact (h6.up.setNew (p := ⟨_, _, none⟩) (Nat.le_refl _) _).setNew (p := ⟨_, _, none⟩) (Nat.le_refl _) _
end Go.Proofs.YtkhodajdionaaaaGreatDoor
