/- The contracts of list.add, Size, Calls, Fail, Read. -/
import Derived.Test.YtbpbmigdfjnneaaDiskA
namespace Go.Proofs.Ytbpbmigdfjnneaa
open Go.RowKit
set_option maxRecDepth 100000

theorem info_part : (Try.prog.info? 87).map (fun i => (i.zero, i.size, i.bytes)) = some (some (.agg #[.int .i64 0, .string ⟨#[]⟩]), 2, 24) := by kernel_rfl

set_option maxHeartbeats 400000 in
theorem add_raw (b : Nat) (vp : Value) (ps : List (Nat × List UInt8)) (p : Nat × List UInt8) (w : World) (hb : w.cell? ⟨b, 2, none⟩ = some vp) (hf : w.frozen? ⟨b, 2, none⟩ = false) (hnb : b ∉ foot vp)
    (hp : w.ownsRow 0 87 2 vp ps.length (partVals ps)) (hlen : ps.length ≤ 2199023255552) :
    Calls Try.prog 53 #[.pointer (some ⟨b, 2, none⟩), .agg #[.int .i64 (p.1 : Int), strV p.2]] w fun e w' => ∃ vp' w1, e = .returned (.tuple #[]) ∧ w' = w1.setCell ⟨b, 2, none⟩ vp' ∧
      w1.ownsRow 0 87 2 vp' (ps ++ [p]).length (partVals (ps ++ [p])) ∧ Upd (foot vp) (foot vp') w w1 ∧ w1.heap[b]? = w.heap[b]? := by
  obtain ⟨i0, hi, hz0, hz1, hz2⟩ := info_parts info_part
  have hbl : b < w.heap.size := World.block_lt_of_cell? _ _ hb
  obtain ⟨vp', w1, hr, hrow, hup⟩ := append_block (P := Try.prog) ((w.alloc (.cells #[.int .i64 (p.1 : Int), strV p.2] 87)).alloc (.cells #[.int .i64 (p.1 : Int), strV p.2] 87)).drew 55 55 87 i0 _ 2 24 Try.underlying55 hi hz0 hz1 hz2 rfl (by omega) vp ps.length (partVals ps)
    (row_same hp (fun k hk => by have := row_foot_lt hp k hk; rw [heap_drew, Below.heap_alloc _ _ _ (by simp; omega), Below.heap_alloc _ _ _ (by omega)])) ⟨w.heap.size + 1, 0, none⟩ 1 1 (partV p) rfl
    (by intro j u hj; match j, hj with
        | 0, hj => simp [partV] at hj; subst hj; simp [Addr.add]
        | 1, hj => simp [partV] at hj; subst hj; simp [Addr.add])
    (by intro u hu; simp [partV] at hu; rcases hu with rfl | rfl <;> rfl) (by omega) (by simp [maxLen]; omega)
  clear hi hz0 hz1 hz2
  have hup' : Upd (foot vp) (foot vp') w w1 := Upd.fore (Upd.fore (w := w.alloc _) ⟨hup.os, hup.tape, hup.output, hup.size, hup.block, hup.new⟩)
  have hbb : w1.heap[b]? = w.heap[b]? := hup'.block b hbl hnb
  have hb1 : w1.cell? ⟨b, 2, none⟩ = some vp := (World.cell?_of_block (a := ⟨b, 2, none⟩) hbb).trans hb
  have hf1 : w1.frozen? ⟨b, 2, none⟩ = false := (World.frozen?_of_block (a := ⟨b, 2, none⟩) hbb).trans hf
  obtain ⟨ao, cap, rfl, hcap, hcm⟩ := row_slice hp
  obtain ⟨ao', cap', rfl, hcap', hcm'⟩ := row_slice hrow
  have HR := Lib.hid hr
  have HB := Lib.hid hbb
  clear hr hbb
  obtain ⟨p1, p2⟩ := p
  simp only at HR hrow ⊢
  generalize strV p2 = sv at *
  go_enter Try.func53, Try.ntmps53
  go_wp2
  have hR : w1.ownsRow 0 87 2 (.slice ao' (ps.length + 1) cap') (ps ++ [(p1, p2)]).length (partVals (ps ++ [(p1, p2)])) := by simpa [partVals] using hrow
  have HF : Hid (w1.ownsRow 0 87 2 (.slice ao' (ps.length + 1) cap') (ps ++ [(p1, p2)]).length (partVals (ps ++ [(p1, p2)]))) := hR
  clear hR hrow
  go_region_law (refine step_append_run _ rfl _ _ _ _ rfl _ _ _ _ rfl rfl HR.out ?_)
  all_goals
    go_end0
    exact ⟨_, w1, rfl, rfl, HF.out, hup', HB.out⟩

theorem add_any (b : Nat) (D : DiskM) (S : List Nat) (p : Nat × List UInt8) (w : World) (h : DiskAt w b D S) (hlen : D.parts.length ≤ 2199023255552) :
    Calls Try.prog 53 #[.pointer (some ⟨b, 2, none⟩), .agg #[.int .i64 (p.1 : Int), strV p.2]] w fun e w' => ∃ S', e = .returned (.tuple #[]) ∧ DiskAt w' b { D with parts := D.parts ++ [p] } S' ∧ Upd S S' w w' := by
  have h0 := h
  obtain ⟨vc, vs, vp, hb, hc, hy, hp, rfl, hn⟩ := h0
  have hn0 := hn
  rw [List.nodup_cons, List.nodup_append] at hn
  have hbp : b ∉ foot vp := fun e => hn.1 (by simp [e])
  refine (add_raw b vp D.parts p w (cell_of_row w b 2 _ _ _ hb) (frozen_of_row w b 2 _ _ hb) hbp hp hlen).mono ?_
  rintro e w' ⟨vp', w1, rfl, rfl, hrow, hup, hbb⟩
  have hl := h.lt
  have hnew : ∀ k, k ∈ foot vp' → k ∉ b :: (foot vc ++ foot vs) := by
    intro k hk hm
    rcases hup.new k hk with h1 | h1
    · rcases List.mem_cons.1 hm with rfl | hm
      · exact hn.1 (by simp [h1])
      · exact hn.2.2.2 k hm k h1 rfl
    · have : k < w.heap.size := hl k (by simp only [List.mem_cons, List.mem_append] at hm ⊢; rcases hm with h | h | h <;> simp [h])
      omega
  have hkeep : ∀ k, k ∈ foot vc ++ foot vs → (w1.setCell ⟨b, 2, none⟩ vp').heap[k]? = w.heap[k]? := by
    intro k hk
    have hkb : k ≠ b := fun e => hn.1 (by subst e; simp only [List.mem_append] at hk ⊢; exact .inl hk)
    rw [heap_setCell_other _ _ _ _ hkb]
    exact hup.block k (hl k (by simp only [List.mem_cons, List.mem_append] at hk ⊢; exact .inr (.inl hk))) (fun e => hn.2.2.2 k hk k e rfl)
  refine ⟨b :: (foot vc ++ foot vs ++ foot vp'), rfl, ⟨vc, vs, vp', ?_, ?_, ?_, ?_, rfl, ?_⟩, ?_⟩
  · rw [heap_setCell_same w1 b 2 _ _ vp' (hbb.trans hb)]; rfl
  · exact row_same hc (fun k hk => hkeep k (by simp [hk]))
  · exact row_same hy (fun k hk => hkeep k (by simp [hk]))
  · exact row_same hrow (fun k hk => heap_setCell_other _ _ _ _ (fun (e : k = b) => hnew k hk (by simp [e])))
  · rw [List.nodup_cons, List.nodup_append]
    refine ⟨?_, hn.2.1, ?_, ?_⟩
    · intro hm
      simp only [List.mem_append] at hm
      rcases hm with hm | hm
      · exact hn.1 (by simp only [List.mem_append]; exact .inl hm)
      · exact hnew b hm (by simp)
    · simp only [foot]; cases vp'.ownBlock <;> simp
    · intro x hx y hy e
      subst e
      exact hnew x hy (by simp only [List.mem_cons]; exact .inr hx)
  · refine Upd.setCell ?_ (by simp) _
    exact hup.mono (fun k hk => by simp [hk]) (fun k hk => by
      simp only [List.mem_cons, List.mem_append] at hk ⊢
      rcases hk with h | (h | h) | h
      · exact .inr (.inl h)
      · exact .inr (.inr (.inl (.inl h)))
      · exact .inr (.inr (.inl (.inr h)))
      · exact .inl h)

set_option maxHeartbeats 400000 in
theorem Size_any (b : Nat) (D : DiskM) (S : List Nat) (w : World) (h : DiskAt w b D S) :
    Calls Try.prog 29 #[.pointer (some ⟨b, 0, none⟩)] w fun e w' => e = .returned (.int .i64 (D.now.length : Int)) ∧ w = w' := by
  obtain ⟨vc, vs, vp, hb, hc, hy, hp, rfl, hn⟩ := h
  have h0 : w.cell? ⟨b, 0, none⟩ = some vc := cell_of_row w b 0 _ _ _ hb
  obtain ⟨ao, cap, rfl, hcap, hcm⟩ := row_slice hc
  clear hb hc hy hp hn hcm hcap
  generalize D.now.length = n at *
  go_enter Try.func29, Try.ntmps29
  go_wp2
  go_ret
  exact ⟨rfl, rfl⟩

set_option maxHeartbeats 400000 in
theorem Calls_any (b : Nat) (D : DiskM) (S : List Nat) (w : World) (h : DiskAt w b D S) :
    Calls Try.prog 31 #[.pointer (some ⟨b, 0, none⟩)] w fun e w' => e = .returned (.int .i64 (D.calls : Int)) ∧ w = w' := by
  obtain ⟨vc, vs, vp, hb, hc, hy, hp, rfl, hn⟩ := h
  have h0 : w.cell? ⟨b, 3, none⟩ = some (.int .i64 (D.calls : Int)) := cell_of_row w b 3 _ _ _ hb
  clear hb hc hy hp hn
  generalize D.calls = n at *
  go_enter Try.func31, Try.ntmps31
  go_wp2
  go_ret
  exact ⟨rfl, rfl⟩

set_option maxHeartbeats 400000 in
theorem Fail_any (b : Nat) (D : DiskM) (S : List Nat) (n : Int) (w : World) (h : DiskAt w b D S) :
    Calls Try.prog 35 #[.pointer (some ⟨b, 0, none⟩), .int .i64 n] w fun e w' => e = .returned (.tuple #[]) ∧ DiskAt w' b (D.fail n) S ∧ Upd S S w w' := by
  have h0 := h
  have hS := h.head
  obtain ⟨vc, vs, vp, hb, hc, hy, hp, hSe, hn⟩ := h0
  clear hSe
  have h4 : w.cell? ⟨b, 4, none⟩ = some (.bool D.failing) := cell_of_row w b 4 _ _ _ hb
  have h5 : w.cell? ⟨b, 5, none⟩ = some (.int .i64 (D.left : Int)) := cell_of_row w b 5 _ _ _ hb
  have f4 : w.frozen? ⟨b, 4, none⟩ = false := frozen_of_row w b 4 _ _ hb
  have f5 : w.frozen? ⟨b, 5, none⟩ = false := frozen_of_row w b 5 _ _ hb
  clear hb hc hy hp hn
  by_cases hn0 : 0 ≤ n
  · have hd1 := h.field { D with failing := true } 4 (.bool true) (fun _ _ _ => rfl) rfl rfl rfl
    have hd2 := hd1.field (D.fail n) 5 (.int .i64 n) (fun _ _ _ => by simp [DiskM.fail, hn0]; omega) rfl rfl rfl
    have hu2 := ((Upd.refl S w).setCell (p := ⟨b, 4, none⟩) hS (.bool true)).setCell (p := ⟨b, 5, none⟩) hS (.int .i64 n)
    have H2 := Lib.hid hd2
    have U2 := Lib.hid hu2
    clear hd1 hd2 hu2 h
    have hmax : ¬ n < 0 := by omega
    go_enter Try.func35, Try.ntmps35
    go_wp2
    all_goals
      go_end0
      exact ⟨rfl, H2.out, U2.out⟩
  · have hd1 := h.field { D with failing := false } 4 (.bool false) (fun _ _ _ => rfl) rfl rfl rfl
    have hd2 := hd1.field (D.fail n) 5 (.int .i64 0) (fun _ _ _ => by have : n.toNat = 0 := by omega
                                                                      simp [DiskM.fail, hn0, this]) rfl rfl rfl
    have hu2 := ((Upd.refl S w).setCell (p := ⟨b, 4, none⟩) hS (.bool false)).setCell (p := ⟨b, 5, none⟩) hS (.int .i64 0)
    have H2 := Lib.hid hd2
    have U2 := Lib.hid hu2
    clear hd1 hd2 hu2 h
    have hmax : n < 0 := by omega
    go_enter Try.func35, Try.ntmps35
    go_wp2
    all_goals
      go_end0
      exact ⟨rfl, H2.out, U2.out⟩

def readL (c : List UInt8) (off n : Int) : List UInt8 := if off < 0 ∨ (c.length : Int) ≤ off ∨ n < 1 then [] else (c.drop off.toNat).take n.toNat

set_option maxHeartbeats 400000 in
theorem Read_any (b : Nat) (D : DiskM) (S : List Nat) (off n : Int) (w : World) (h : DiskAt w b D S) (hl : D.now.length ≤ 1099511627776) :
    Calls Try.prog 30 #[.pointer (some ⟨b, 0, none⟩), .int .i64 off, .int .i64 n] w fun e w' => e = .returned (strV (readL D.now off n)) ∧ w = w' := by
  obtain ⟨vc, vs, vp, hb, hc, hy, hp, hSe, hn⟩ := h
  clear hSe
  have h0 : w.cell? ⟨b, 0, none⟩ = some vc := cell_of_row w b 0 _ _ _ hb
  clear hb hy hp hn
  generalize D.now = c at *
  by_cases hbad : off < 0 ∨ (c.length : Int) ≤ off ∨ n < 1
  · have hz : readL c off n = [] := if_pos hbad
    rw [hz]
    clear hz
    obtain ⟨ao, cap, rfl, hcap, hcm⟩ := row_slice hc
    clear hcap hcm hc
    generalize c.length = cl at *
    rcases hbad with hbad | hbad | hbad
    · go_enter Try.func30, Try.ntmps30
      go_wp2
      go_ret
      exact ⟨rfl, rfl⟩
    · by_cases h1 : off < 0
      all_goals
        go_enter Try.func30, Try.ntmps30
        go_wp2
        go_ret
        exact ⟨rfl, rfl⟩
    · by_cases h1 : off < 0
      · go_enter Try.func30, Try.ntmps30
        go_wp2
        go_ret
        exact ⟨rfl, rfl⟩
      · by_cases h2 : (cl : Int) ≤ off
        all_goals
          go_enter Try.func30, Try.ntmps30
          go_wp2
          go_ret
          exact ⟨rfl, rfl⟩
  · have hz : readL c off n = (c.drop off.toNat).take n.toNat := if_neg hbad
    rw [hz]
    clear hz
    have hb1 : 0 ≤ off := by omega
    have hb2 : off < c.length := by omega
    have hb3 : 1 ≤ n := by omega
    clear hbad
    obtain ⟨o, rfl⟩ := Int.eq_ofNat_of_zero_le hb1
    obtain ⟨m, rfl⟩ := Int.eq_ofNat_of_zero_le (show 0 ≤ n by omega)
    simp only [Int.toNat_natCast]
    obtain ⟨g, cap, cur, rfl, hg, hcap, hcm, hcs, htk⟩ := row_pos hc (by omega)
    have hcm : cap ≤ 9223372036854775807 := hcm
    rw [Nat.mul_one] at htk
    have hcv := conv_bytes (P := Try.prog) w 52 9 5 Try.underlying52 Try.underlying5 Try.underlying9 g cur _ _ hg c htk
    have HC := Lib.hid hcv
    clear hcv htk hcs hg hc
    by_cases hmn : m ≤ c.length - o
    · go_enter Try.func30, Try.ntmps30
      go_wp2
      rw [HC.out o _ _ (by omega)]
      go_wp2
      go_ret
      exact ⟨by congr 4, rfl⟩
    · have hz : (c.drop o).take m = (c.drop o).take (c.length - o) := by rw [List.take_of_length_le (by simp; omega), List.take_of_length_le (by simp)]
      rw [hz]
      clear hz
      go_enter Try.func30, Try.ntmps30
      go_wp2
      rw [HC.out o _ _ (by omega)]
      go_wp2
      go_ret
      exact ⟨by congr 4, rfl⟩
end Go.Proofs.Ytbpbmigdfjnneaa
