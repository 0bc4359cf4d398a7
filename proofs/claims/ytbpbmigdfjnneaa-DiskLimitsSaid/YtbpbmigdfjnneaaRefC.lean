/- The contracts of package sortesref24 (3): Write, Crash. -/
import Derived.Test.YtbpbmigdfjnneaaRefB
namespace Go.Proofs.Ytbpbmigdfjnneaa
open Go.RowKit
set_option maxRecDepth 100000

theorem info_rpart : (Try.prog.info? 90).map (fun i => (i.zero, i.size, i.bytes)) = some (some (.agg #[.int .i64 0, .string ⟨#[]⟩]), 2, 24) := by kernel_rfl

theorem radd_run (w : World) (b : Nat) (M : RefM) (vp : Value) (o : Nat) (s : ByteArray) (hb : w.heap[b]? = some (.cells #[strV M.now, strV M.synced, vp, .int .i64 M.n, .int .i64 M.left, .bool M.limit] 83 (0, 0)))
    (hp : w.ownsRow 0 90 2 vp M.parts.length (partVals M.parts)) (hn : (b :: foot vp).Nodup) (hlen : M.parts.length ≤ 2199023255552) :
    ∃ ao n cap w1 S', (Builtin.append_ #[81, 81] 81 #[vp, .slice (some ⟨w.heap.size, 0, none⟩) 1 1]).run Try.prog (w.alloc (.cells #[.int .i64 (o : Int), .string s] 90)).drew = .ok (.slice ao n cap) w1 ∧
      RefAt (w1.setCell ⟨b, 2, none⟩ (.slice ao n cap)) b { M with parts := M.parts ++ [(o, bs s)] } S' ∧ Upd (b :: foot vp) S' w (w1.setCell ⟨b, 2, none⟩ (.slice ao n cap)) ∧ w1.cell? ⟨b, 2, none⟩ = some vp ∧ w1.frozen? ⟨b, 2, none⟩ = false := by
  obtain ⟨i0, hi, hz0, hz1, hz2⟩ := info_parts info_rpart
  have hbl := blk_lt hb
  have hnb : b ∉ foot vp := (List.nodup_cons.1 hn).1
  obtain ⟨vp', w1, hr, hrow, hup⟩ := append_block (P := Try.prog) (w.alloc (.cells #[.int .i64 (o : Int), .string s] 90)).drew 81 81 90 i0 _ 2 24 Try.underlying81 hi hz0 hz1 hz2 rfl (by omega) vp M.parts.length (partVals M.parts)
    (row_same hp (fun k hk => by have := row_foot_lt hp k hk; rw [heap_drew, Below.heap_alloc _ _ _ (by omega)])) ⟨w.heap.size, 0, none⟩ 1 1 (partV (o, bs s)) rfl
    (by intro j u hj; match j, hj with
        | 0, hj => simp [partV] at hj; subst hj; simp [Addr.add]
        | 1, hj => simp [partV] at hj; subst hj; simp [Addr.add]; rfl)
    (by intro u hu; simp [partV] at hu; rcases hu with rfl | rfl <;> rfl) (by omega) (by simp [maxLen]; omega)
  have hup' : Upd (foot vp) (foot vp') w w1 := Upd.fore (o := .cells #[.int .i64 (o : Int), .string s] 90) ⟨hup.os, hup.tape, hup.output, hup.size, hup.block, hup.new⟩
  have hbb : w1.heap[b]? = w.heap[b]? := hup'.block b hbl hnb
  obtain ⟨ao, cap, rfl, _, _⟩ := row_slice hrow
  have hfresh : b ∉ foot (.slice ao (M.parts.length + 1) cap) := fun e => by rcases hup'.new b e with h | h; exact hnb h; omega
  refine ⟨ao, _, cap, w1, b :: foot (.slice ao (M.parts.length + 1) cap), hr, ⟨_, ?_, ?_, rfl, ?_⟩, ?_, ?_, ?_⟩
  · rw [heap_setCell_same w1 b 2 _ _ _ (hbb.trans hb)]; rfl
  · have := row_same (w' := w1.setCell ⟨b, 2, none⟩ (.slice ao (M.parts.length + 1) cap)) hrow (fun k hk => heap_setCell_other _ _ _ _ (fun (e : k = b) => hfresh (e ▸ hk)))
    simpa [partVals] using this
  · rw [List.nodup_cons]; exact ⟨hfresh, foot_nodup _⟩
  · refine Upd.setCell ?_ (by simp) _
    refine hup'.mono (fun k hk => by simp [hk]) (fun k hk => ?_)
    simp only [List.mem_cons] at hk ⊢
    rcases hk with h | h
    · exact .inr (.inl h)
    · exact .inl h
  · exact (World.cell?_of_block (a := ⟨b, 2, none⟩) hbb).trans (cell_of_row w b 2 _ _ _ hb)
  · exact (World.frozen?_of_block (a := ⟨b, 2, none⟩) hbb).trans (frozen_of_row w b 2 _ _ hb)

set_option maxHeartbeats 400000 in
theorem RWrite_arg (b : Nat) (off : Int) (s : ByteArray) (w : World) (hs : s.size ≤ 9223372036854775807) (ho : off < 0 ∨ 16777216 - (s.size : Int) < off) (hw : -9223372036854775808 ≤ off) (hw2 : off ≤ 9223372036854775807) (hs2 : s.size ≤ 1099511627776) :
    Calls Try.prog 33 #[.pointer (some ⟨b, 0, none⟩), .int .i64 off, .string s] w fun e w' => e = .returned (.int .i64 1) ∧ w = w' := by
  by_cases h1 : off < 0
  · go_enter Try.func33, Try.ntmps33
    go_wp2_with fail
    go_ret
    exact ⟨rfl, rfl⟩
  · by_cases h2 : 16777216 < off
    all_goals
      go_enter Try.func33, Try.ntmps33
      go_wp2_with fail
      go_ret
      exact ⟨rfl, rfl⟩

set_option maxHeartbeats 400000 in
theorem RWrite_off (b : Nat) (M : RefM) (S : List Nat) (off : Int) (s : ByteArray) (w : World) (h : RefAt w b M S) (hoff : M.off = true) (ho : 0 ≤ off) (ho2 : off ≤ 16777216 - (s.size : Int)) :
    Calls Try.prog 33 #[.pointer (some ⟨b, 0, none⟩), .int .i64 off, .string s] w fun e w' => e = .returned (.int .i64 70) ∧ w = w' := by
  have HI := Lib.hid (Roff_yes b M S w h hoff)
  clear hoff
  go_enter Try.func33, Try.ntmps33
  go_wp2_with fail
  refine HI.out.mono ?_
  rintro e w' ⟨rfl, rfl⟩
  go_wp2_with fail
  go_ret
  exact ⟨rfl, rfl⟩

theorem parts_rround (off a : Nat) (s : ByteArray) (m : Nat) (h : a < s.size) (hm : m = min (64 - (off + a) % 64) (s.size - a)) :
    partsL (off + a) ((bs s).drop a) = (off + a, bs (s.extract a (a + m))) :: partsL (off + (a + m)) ((bs s).drop (a + m)) := by
  have hl : ((bs s).drop a).length = s.size - a := by rw [List.length_drop, bs_length]
  have h0 : (bs s).drop a ≠ [] := fun e => by rw [e] at hl; have e0 : ([] : List UInt8).length = 0 := rfl; omega
  rw [partsL_step (off + a) _ h0, hl, bs_extract]
  have e1 : min (s.size - a) (64 - (off + a) % 64) = m := by omega
  have e2 : a + m - a = m := by omega
  rw [e1, List.drop_drop, e2, Nat.add_assoc off a m]

set_option maxHeartbeats 1600000 in
theorem RWrite_ok (b : Nat) (M : RefM) (S : List Nat) (off : Nat) (s : ByteArray) (w : World) (h : RefAt w b M S) (hoff : M.off = false) (hn1 : -1000000 ≤ M.n) (hn2 : M.n ≤ 1000000) (hl1 : -1000000 ≤ M.left) (hl2 : M.left ≤ 9223372036854775807)
    (hnow : M.now.length ≤ 1099511627776) (hpl : M.parts.length ≤ 1099511627776) (ho2 : off + s.size ≤ 16777216) :
    Calls Try.prog 33 #[.pointer (some ⟨b, 0, none⟩), .int .i64 (off : Int), .string s] w fun e w' => ∃ S', e = .returned (.int .i64 0) ∧ RefAt w' b { M.count with now := putL M.now off (bs s), parts := M.parts ++ partsL off (bs s) } S' ∧ Upd S S' w w' := by
  have HI := Lib.hid (Roff_no b M S w h hoff hn1 hn2 hl1 hl2)
  clear hoff hn1 hn2 hl1 hl2 h
  have e1 : decide ((off : Int) < 0) = false := by simp
  have e2 : decide (16777216 < (off : Int) + (s.size : Int)) = false := by simp; omega
  have e3 : decide (16777216 < (off : Int)) = false := by simp; omega
  go_enter Try.func33, Try.ntmps33
  go_wp2_with fail
  refine HI.out.mono ?_
  rintro e w1 ⟨rfl, h1, hu1⟩
  have hS := h1.head
  have h1' := h1
  obtain ⟨vp, hb, hp, hSe, hn⟩ := h1'
  obtain ⟨c, hc⟩ : ∃ c : ByteArray, c = ⟨M.now.toArray⟩ := ⟨_, rfl⟩
  have hcs : c.size ≤ 1099511627776 := by rw [hc]; exact hnow
  have c0 : w1.cell? ⟨b, 0, none⟩ = some (.string c) := by rw [hc]; exact cell_of_row w1 b 0 _ _ _ hb
  have f0 : w1.frozen? ⟨b, 0, none⟩ = false := frozen_of_row w1 b 0 _ _ hb
  have hbl := blk_lt hb
  have HC := Lib.hid hc
  clear hb hp hSe hn hc
  go_wp2_with fail
  refine (RPut_any c s off w1 hcs (by omega)).mono ?_
  rintro e w2 ⟨r, rfl, hr, hu2⟩
  have hcb : bs c = M.now := by rw [HC.out]; rfl
  rw [hcb] at hr
  have d0 : w2.cell? ⟨b, 0, none⟩ = some (.string c) := (hu2.cell (p := ⟨b, 0, none⟩) hbl (by simp)).trans c0
  have d1 : w2.frozen? ⟨b, 0, none⟩ = false := (hu2.frozen (p := ⟨b, 0, none⟩) hbl (by simp)).trans f0
  have h2 := h1.kept hu2 (by simp)
  have h3 := h2.field { M.count with now := putL M.now off (bs s) } 0 (.string r) (fun vp => by rw [str_eq hr]; rfl) rfl
  have hu3 : Upd S S w (w2.setCell ⟨b, 0, none⟩ (.string r)) := Upd.setCell (hu1.trans (hu2.mono (by simp) (fun k hk => .inr hk))) hS _
  have H3 := Lib.hid h3
  have U3 := Lib.hid hu3
  clear h3 hu3 hcb hr h2 h1 hu1 hu2 c0 f0 hbl hS HI HC
  clear e1 e2 e3
  go_wp2_with fail
  generalize w2.setCell ⟨b, 0, none⟩ (.string r) = w3 at *
  clear d0 d1
  go_loopw [8] (fun i wr => ∃ (a : Nat) (ps : List (Nat × List UInt8)) (S' : List Nat), i = .int .i64 (a : Int) ∧ a ≤ s.size ∧ Hid (partsL off (bs s) = ps ++ partsL (off + a) ((bs s).drop a)) ∧
      RefAt wr b { M.count with now := putL M.now off (bs s), parts := M.parts ++ ps } S' ∧ Upd S S' w wr ∧ ps.length ≤ a) (fun i _ => s.size - (intOf i).toNat)
  case atStart =>
    refine ⟨0, [], S, rfl, Nat.zero_le _, rfl, ?_, U3.out, by simp⟩
    simpa [RefM.count] using H3.out
  case round =>
    obtain ⟨a, ps, S', rfl, ha, HP, hd, hu, hps⟩ := hrel
    by_cases h0 : a < s.size
    · obtain ⟨m, hm⟩ : ∃ m : Nat, m = min (64 - (off + a) % 64) (s.size - a) := ⟨_, rfl⟩
      have hx := parts_rround off a s m h0 hm
      have HX := Lib.hid hx
      have hm1 : 1 ≤ m := by omega
      have hm2 : a + m ≤ s.size := by omega
      obtain ⟨vp, hb, hp, hSe, hn⟩ := hd
      have hc2 : wr.cell? ⟨b, 2, none⟩ = some vp := cell_of_row wr b 2 _ _ _ hb
      have hbl := blk_lt hb
      rw [hSe] at hn hu
      obtain ⟨ao, n, cap, w4, S4, hrun, hat, hup, g1, g2⟩ := radd_run wr b _ vp (off + a) (s.extract a (a + m)) hb hp hn (by simp; omega)
      rw [Int.natCast_add] at hrun
      have HR := Lib.hid hrun
      have HA := Lib.hid hat
      have HU := Lib.hid (hu.trans hup)
      clear hx hb hp hSe hn hrun hat hup
      by_cases hm3 : 64 - (off + a) % 64 ≤ s.size - a
      · have hm4 : m = 64 - (off + a) % 64 := by omega
        have HM := Lib.hid hm4
        have hm5 : m ≤ 64 := by omega
        have HM0 := Lib.hid hm
        clear hm hm4
        go_wp2_with fail
        rw [show (64 : Int) - ((off : Int) + (a : Int)) % 64 = ((m : Nat) : Int) from by have := HM.out; omega]
        clear hm3
        have k2 : (0 : Int) ≤ (a : Int) + (m : Int) := by omega
        have k4 : (a : Int) ≤ (a : Int) + (m : Int) := by omega
        have k5 : (a : Int) + (m : Int) ≤ (s.size : Int) := by omega
        have k1 : IntKind.i64.wrap ((a : Int) + (m : Int)) = (a : Int) + (m : Int) := IntWalk.i64_in _ (by omega)
        have k6 : IntKind.i64.wrap ((off : Int) + (a : Int)) = (off : Int) + (a : Int) := IntWalk.i64_in _ (by omega)
        have k3 : ((a : Int) + (m : Int)).toNat = a + m := by omega
        go_region_law (refine step_append_run _ rfl _ _ _ _ rfl _ _ _ _ rfl rfl HR.out ?_)
        all_goals
          clear k1 k2 k3 k4 k5 k6
          go_wp2_with fail
          go_roundw
          case rel =>
            refine ⟨a + m, ps ++ [(off + a, bs (s.extract a (a + m)))], S4, by go_num, by omega, ?_, ?_, HU.out, by simp; omega⟩
            · show _ = _
              rw [HP.out, HX.out]; simp
            · simpa using HA.out
          case measure => simp [intOf]; omega
      · have hm4 : m = s.size - a := by omega
        have HM := Lib.hid hm4
        have hm5 : m ≤ 64 := by omega
        have HM0 := Lib.hid hm
        clear hm hm4
        go_wp2_with fail
        rw [show (s.size : Int) - (a : Int) = ((m : Nat) : Int) from by have := HM.out; omega]
        clear hm3
        have k2 : (0 : Int) ≤ (a : Int) + (m : Int) := by omega
        have k4 : (a : Int) ≤ (a : Int) + (m : Int) := by omega
        have k5 : (a : Int) + (m : Int) ≤ (s.size : Int) := by omega
        have k1 : IntKind.i64.wrap ((a : Int) + (m : Int)) = (a : Int) + (m : Int) := IntWalk.i64_in _ (by omega)
        have k6 : IntKind.i64.wrap ((off : Int) + (a : Int)) = (off : Int) + (a : Int) := IntWalk.i64_in _ (by omega)
        have k3 : ((a : Int) + (m : Int)).toNat = a + m := by omega
        go_region_law (refine step_append_run _ rfl _ _ _ _ rfl _ _ _ _ rfl rfl HR.out ?_)
        all_goals
          clear k1 k2 k3 k4 k5 k6
          go_wp2_with fail
          go_roundw
          case rel =>
            refine ⟨a + m, ps ++ [(off + a, bs (s.extract a (a + m)))], S4, by go_num, by omega, ?_, ?_, HU.out, by simp; omega⟩
            · show _ = _
              rw [HP.out, HX.out]; simp
            · simpa using HA.out
          case measure => simp [intOf]; omega
    · have ha2 : a = s.size := by omega
      have hP := HP.out
      rw [ha2, drop_nil_of (bs s) s.size (by rw [bs_length]; exact Nat.le_refl _), partsL_nil, List.append_nil] at hP
      rw [← hP] at hd
      have HD := Lib.hid hd
      clear hd hP ha2
      go_wp2_with fail
      go_ret
      first | exact ⟨S', rfl, HD.out, hu⟩ | exact ⟨rfl, S', HD.out, hu⟩
end Go.Proofs.Ytbpbmigdfjnneaa
