/- The contract of journal.Open. -/
import Derived.Test.YtbpbmigdfjnneaaJOpenI
namespace Go.Proofs.Ytbpbmigdfjnneaa
open Go.RowKit
attribute [local go_sem] Oper.semAt_some
set_option maxRecDepth 100000

theorem new_j (w1 : World) (b : Nat) : ((w1.alloc (.cells #[.pointer (some ⟨b, 0, none⟩), .int .i64 0, .int .i64 0, .int .i64 0, .bool false] 93)).alloc (.cells #[.pointer (some ⟨w1.heap.size, 0, none⟩)] 63)).heap[w1.heap.size]? = some (.cells #[.pointer (some ⟨b, 0, none⟩), .int .i64 0, .int .i64 0, .int .i64 0, .bool false] 93 (0, 0)) := by
  rw [Below.heap_alloc _ _ _ (by simp)]; exact heap_alloc_new _ _
theorem new_jv (w1 : World) (b : Nat) : ((w1.alloc (.cells #[.pointer (some ⟨b, 0, none⟩), .int .i64 0, .int .i64 0, .int .i64 0, .bool false] 93)).alloc (.cells #[.pointer (some ⟨w1.heap.size, 0, none⟩)] 63)).heap[w1.heap.size + 1]? = some (.cells #[.pointer (some ⟨w1.heap.size, 0, none⟩)] 63 (0, 0)) := by
  have := heap_alloc_new (w1.alloc (.cells #[.pointer (some ⟨b, 0, none⟩), .int .i64 0, .int .i64 0, .int .i64 0, .bool false] 93)) (.cells #[.pointer (some ⟨w1.heap.size, 0, none⟩)] 63)
  simpa using this

set_option maxHeartbeats 4000000 in
theorem Open_go (b : Nat) (D : DiskM) (S : List Nat) (w : World) (h : DiskAt w b D S) (hok : D.ok) (hc : D.calls < 65536) (hoff : D.off = false) :
    Calls Try.prog 37 #[.pointer (some ⟨b, 0, none⟩)] w (OpenPost b D S w) := by
  refine callsIn_wide.1 (callsIn_of_wp_marks (n := 0) Try.func37 rfl trivial ?_ rfl)
  simp only [Try.ntmps37, List.size_toArray, List.length_cons, List.length_nil, Nat.reduceAdd, Nat.reduceSub, Array.replicate_succ, Array.replicate_zero, List.push_toArray, List.append_toArray, List.nil_append, List.cons_append]
  refine wpIn_wide.2 ?_
  have hd := ((h.alloc (.cells #[.pointer none] 63)).alloc (.cells #[.slice none 0 0] 61)).alloc (.cells #[.int .i64 0] 42)
  have hlt := h.lt
  have HOFF := Lib.hid hoff
  clear hoff
  go_wp2_with fail
  refine (Sync_to b D S _ 0 hd hok hc (by rw [HOFF.out]; rfl)).mono ?_
  rintro e w1 ⟨S1, rfl, hd1, hu1⟩
  have far := hu1.far hlt
  have hr1 := (res_new w).kept hu1 (fun k hk => .inl (hlt k hk))
  have hu2 := hu1.fore.fore.fore
  have hnow : D.syncS.now = D.now := by unfold DiskM.syncS; rw [HOFF.out]; rfl
  clear hu1 hd
  have hd2 := (hd1.alloc (.cells #[.pointer (some ⟨b, 0, none⟩), .int .i64 0, .int .i64 0, .int .i64 0, .bool false] 93)).alloc (.cells #[.pointer (some ⟨w1.heap.size, 0, none⟩)] 63)
  have HNOW := Lib.hid hnow
  clear hnow
  go_wp2_with fail
  refine (Size_to b _ S1 _ (D.now.length : Int) hd2 (by rw [HNOW.out])).mono ?_
  rintro e w' ⟨rfl, rfl⟩
  have hn1 := new_j w1 b
  have hn2 := new_jv w1 b
  generalize hw2 : (w1.alloc (.cells #[.pointer (some ⟨b, 0, none⟩), .int .i64 0, .int .i64 0, .int .i64 0, .bool false] 93)).alloc (.cells #[.pointer (some ⟨w1.heap.size, 0, none⟩)] 63) = w2 at *
  have c5 : w2.cell? ⟨w1.heap.size + 1, 0, none⟩ = some (.pointer (some ⟨w1.heap.size, 0, none⟩)) := cell_of_row _ _ 0 _ _ _ hn2
  have cE : w2.cell? ⟨w1.heap.size, 1, none⟩ = some (.int .i64 0) := cell_of_row _ _ 1 _ _ _ hn1
  have fE : w2.frozen? ⟨w1.heap.size, 1, none⟩ = false := frozen_of_row _ _ 1 _ _ hn1
  by_cases hz : D.now.length = 0
  · have e0 : (((D.now.length : Nat) : Int) == 0) = true := by rw [beq_iff_eq]; omega
    have HZ := Lib.hid hz
    clear hz
    have hk2 : ∀ k, k < w1.heap.size → w2.heap[k]? = w1.heap[k]? := fun k hk => by
      rw [← hw2, Below.heap_alloc _ _ _ (by simp; omega), Below.heap_alloc _ _ _ hk]
    have hr2 : ResAt w2 w.heap.size (.pointer none) (.slice none 0 0) 0 := hr1.same (hk2 _ (blk_lt hr1.p)) (hk2 _ (blk_lt hr1.v)) (hk2 _ (blk_lt hr1.e))
    have hB : w.heap.size + 1 + 1 < w1.heap.size := blk_lt hr1.e
    have hu5 : Upd S S1 w w2 := by rw [← hw2]; exact (hu2.alloc _).alloc _
    obtain ⟨hr4, hk4⟩ := hr2.set (.pointer (some ⟨w1.heap.size, 0, none⟩)) (.slice none 0 0) 0
    have hu4 := hu5.res (.pointer (some ⟨w1.heap.size, 0, none⟩)) (.slice none 0 0) (.int .i64 0)
    have hd4 := hd2.same (fun k hk => hk4 k (far k hk))
    have hj4 : JAt _ w1.heap.size b ⟨0, 0, 0, false⟩ := (hk4 w1.heap.size (.inr hB)).trans hn1
    have hlt1 := hd1.lt
    have hnd : (w1.heap.size :: (foot (.slice none 0 0) ++ S1)).Nodup := by
      rw [List.nodup_cons]
      refine ⟨fun m => ?_, by simpa [foot, Value.ownBlock] using hd1.nodup⟩
      simp only [List.mem_append, foot, Value.ownBlock, Option.toList_none, List.not_mem_nil, false_or] at m
      have := hlt1 _ m
      omega
    have hu6 : Upd S (w1.heap.size :: (foot (.slice none 0 0) ++ S1)) w _ := ⟨hu4.os, hu4.tape, hu4.output, hu4.size, hu4.block, fun k hk => by
      simp only [List.mem_cons, List.mem_append, foot, Value.ownBlock, Option.toList_none, List.not_mem_nil, false_or] at hk
      rcases hk with rfl | hk
      · right; omega
      · exact hu4.new k hk⟩
    have cp := hr2.cp
    have cv := hr2.cv
    have ce := hr2.ce
    have g1 := hr2.fp
    have g2 := hr2.fv
    have g3 := hr2.fe
    have HR := Lib.hid hr4
    have HD := Lib.hid hd4
    have HU := Lib.hid hu6
    have HJ := Lib.hid hj4
    have HN := Lib.hid hnd
    have HB := Lib.hid hB
    clear hr4 hd4 hu6 hj4 hnd hu4 hk4 hu5 hk2 hlt1 hn1 hn2 hd2 hr2 hd1 hr1 hu2 hlt h far hB hw2
    go_wp2_with fail
    refine ⟨_, open_ret _ _ w.heap.size _ none 0 0 0 HR.out rfl rfl rfl, fun F rs he => ?_, fun he => ?_⟩
    · have hno : openR D.now = some ([], []) := by unfold openR; rw [if_pos HZ.out]
      rw [hno] at he
      cases he
      exact ⟨w1.heap.size, .slice none 0 0, S1, rfl, HD.out, HJ.out, strRow_nil _, HU.out, HN.out⟩
    · exfalso
      unfold openR at he
      rw [if_pos HZ.out] at he
      cases he
  have hne : 0 < D.now.length := by omega
  have HF1 := Lib.hid far
  have e0 : (((D.now.length : Nat) : Int) == 0) = false := beq_eq_false_iff_ne.2 (by omega)
  go_wp2_with fail
  obtain ⟨s8, hs8⟩ : ∃ s8 : ByteArray, s8 = ⟨(readL D.now 0 8).toArray⟩ := ⟨_, rfl⟩
  have hb8 : bs s8 = readL D.now 0 8 := by rw [hs8]; rfl
  have hl8 : s8.size ≤ 16777216 := by rw [← bs_length, hb8]; exact Nat.le_trans (readL_len _ _ _) hok.now
  obtain ⟨E, hE⟩ : ∃ E, E = valueL (readL D.now 0 8) := ⟨_, rfl⟩
  have hRd : ∀ wx, DiskAt wx b D.syncS S1 → Calls Try.prog 30 #[.pointer (some ⟨b, 0, none⟩), .int .i64 0, .int .i64 8] wx (Same (.string s8) wx) := fun wx hx =>
    Read_to b _ S1 0 8 wx s8 hx (by rw [HNOW.out]; have := hok.now; omega) (by rw [HNOW.out, hb8])
  have hVl : ∀ wx, Calls Try.prog 56 #[.string s8] wx (Same (.int .i64 E) wx) := fun wx => by
    have := value_any s8 wx (by omega)
    rw [hb8, ← hE] at this
    exact this
  have HRD := Lib.hid hRd
  have HVL := Lib.hid hVl
  have HE := Lib.hid hE
  clear hRd hVl hE hb8 hs8
  have hd2' := hd2.drew
  go_region_held3 (fun wp => wp.cell? ⟨w1.heap.size + 1, 0, none⟩ = some (.pointer (some ⟨w1.heap.size, 0, none⟩))) (first | assumption | go_keep)
    (first
      | (go_at_call 30; ((with_reducible refine (HRD.out _ hd2').mono ?_); rintro e wq ⟨rfl, rfl⟩))
      | (go_at_call 56; ((with_reducible refine (HVL.out _).mono ?_); rintro e wq ⟨rfl, rfl⟩)))
  have hlt1 := hd1.lt
  have hjS : ∀ k, k ∈ S1 → k < w1.heap.size := hlt1
  obtain ⟨w3, hw3⟩ : ∃ w3, w3 = (w2.setCell ⟨w1.heap.size, 1, none⟩ (.int .i64 E)).drew := ⟨_, rfl⟩
  have hs2 : w2.heap.size = w1.heap.size + 2 := by rw [← hw2]; simp
  have hs3 : w3.heap.size = w1.heap.size + 2 := by rw [hw3]; simpa using hs2
  have hk3 : ∀ k, k < w1.heap.size → w3.heap[k]? = w1.heap[k]? := fun k hk => by
    rw [hw3, heap_drew, heap_setCell_other _ _ _ _ (by simp; omega), ← hw2, Below.heap_alloc _ _ _ (by simp; omega), Below.heap_alloc _ _ _ hk]
  have hj3 : w3.heap[w1.heap.size]? = some (.cells #[.pointer (some ⟨b, 0, none⟩), .int .i64 E, .int .i64 0, .int .i64 0, .bool false] 93 (0, 0)) := by
    rw [hw3, heap_drew, heap_setCell_same w2 _ 1 _ _ _ hn1]; rfl
  have hv3 : w3.heap[w1.heap.size + 1]? = some (.cells #[.pointer (some ⟨w1.heap.size, 0, none⟩)] 63 (0, 0)) := by
    rw [hw3, heap_drew, heap_setCell_other _ _ _ _ (by simp)]; exact hn2
  have hu3 : Upd S S1 w w3 := by
    rw [hw3, ← hw2]; exact (((hu2.alloc _).alloc _).setNew (by exact hu2.size) _).drew
  have hd3 : DiskAt w3 b D.syncS S1 := hd1.same (fun k hk => hk3 k (hlt1 k hk))
  have hr3 : ResAt w3 w.heap.size (.pointer none) (.slice none 0 0) 0 := hr1.same (hk3 _ (blk_lt hr1.p)) (hk3 _ (blk_lt hr1.v)) (hk3 _ (blk_lt hr1.e))
  have hB : w.heap.size + 1 + 1 < w1.heap.size := blk_lt hr1.e
  have hsw : w.heap.size ≤ w1.heap.size := hu2.size
  clear hn1 hn2 c5 cE fE hd2 hd2' far hz
  rw [← hw3]
  have c5 : w3.cell? ⟨w1.heap.size + 1, 0, none⟩ = some (.pointer (some ⟨w1.heap.size, 0, none⟩)) := cell_of_row _ _ 0 _ _ _ hv3
  have cE : w3.cell? ⟨w1.heap.size, 1, none⟩ = some (.int .i64 E) := cell_of_row _ _ 1 _ _ _ hj3
  have HJ3 := Lib.hid hj3
  have HV3 := Lib.hid hv3
  have HK3 := Lib.hid hk3
  have HLT1 := Lib.hid hlt1
  have HS3 := Lib.hid hs3
  clear hw3 hw2 hs2 hs3 hj3 hv3 hk3 hlt1 hjS hlt h hd1 hr1 hu2 HRD HVL
  clear HK3
  generalize w1.heap.size = jb at *
  obtain ⟨fr, hfr⟩ : ∃ fr : ByteArray, fr = ⟨(readL D.now 16 E).toArray⟩ := ⟨_, rfl⟩
  have hfb : bs fr = readL D.now 16 E := by rw [hfr]; rfl
  have hfl : fr.size ≤ 16777216 := by rw [← bs_length, hfb]; exact Nat.le_trans (readL_len _ _ _) hok.now
  have HFB := Lib.hid hfb
  clear hfr hfb
  have cp := hr3.cp
  have cv := hr3.cv
  have ce := hr3.ce
  have g1 := hr3.fp
  have g2 := hr3.fv
  have g3 := hr3.fe
  go_wp2_with fail
  refine (Read_to b _ S1 16 E _ fr hd3 (by rw [HNOW.out]; have := hok.now; omega) (by rw [HNOW.out, HFB.out])).mono ?_
  rintro e w' ⟨rfl, rfl⟩
  have bad : (D.now.length < 16 ∨ (fr.size : Int) ≠ E) → openR D.now = none := fun hh => by
    unfold openR
    rw [if_neg (by omega), if_pos]
    rw [← HE.out, ← HFB.out, bs_length]
    exact hh
  have HBAD := Lib.hid bad
  clear bad
  obtain ⟨hr4, hk4⟩ := hr3.set (.pointer none) (.slice none 0 0) 11
  have hu4 := hu3.res (.pointer none) (.slice none 0 0) (.int .i64 11)
  have hd4 := hd3.same (fun k hk => hk4 k (HF1.out k hk))
  have HR4 := Lib.hid hr4
  have HD4 := Lib.hid hd4
  have HU4 := Lib.hid hu4
  clear hr4 hk4 hu4 hd4
  by_cases h16 : D.now.length < 16
  · go_wp2_with fail
    refine (Size_to b _ S1 _ (D.now.length : Int) hd3 (by rw [HNOW.out])).mono ?_
    rintro e w' ⟨rfl, rfl⟩
    go_wp2_with fail
    refine ⟨_, open_ret _ _ w.heap.size _ none 0 0 11 HR4.out rfl rfl rfl, fun F rs he => ?_, fun he => ⟨S1, rfl, HD4.out, HU4.out⟩⟩
    rw [HBAD.out (.inl h16)] at he
    cases he
  · by_cases hEq : (fr.size : Int) = E
    · subst hEq
      have h16' : 16 ≤ D.now.length := by omega
      go_wp2_with fail
      refine (Size_to b _ S1 _ (D.now.length : Int) hd3 (by rw [HNOW.out])).mono ?_
      rintro e w' ⟨rfl, rfl⟩
      go_wp2_with fail
      refine (records_any fr _).mono ?_
      rintro e w' ⟨rfl, rfl⟩
      go_wp2_with fail
      have hs3 := HS3.out
      obtain ⟨w5, hw5⟩ : ∃ w5, w5 = (w3.alloc (.cells #[.slice none 0 0] 61)).alloc (.cells #[.string fr] 9) := ⟨_, rfl⟩
      have hk5 : ∀ k, k < w3.heap.size → w5.heap[k]? = w3.heap[k]? := fun k hk => by
        rw [hw5, Below.heap_alloc _ _ _ (by simp; omega), Below.heap_alloc _ _ _ hk]
      have ha5 : w5.heap[w3.heap.size]? = some (.cells #[.slice none 0 0] 61 (0, 0)) := by
        rw [hw5, Below.heap_alloc _ _ _ (by simp)]; exact heap_alloc_new _ _
      have hb5 : w5.heap[w3.heap.size + 1]? = some (.cells #[.string fr] 9 (0, 0)) := by
        rw [hw5]
        have := heap_alloc_new (w3.alloc (.cells #[.slice none 0 0] 61)) (.cells #[.string fr] 9)
        simpa using this
      have hn5 : OpenN w5 jb w3.heap.size := ⟨hs3, by rw [hw5]; simp⟩
      have hu5 : Upd S S1 w w5 := by rw [hw5]; exact (hu3.alloc _).alloc _
      have hd5 : DiskAt w5 b D.syncS S1 := by rw [hw5]; exact (hd3.alloc _).alloc _
      have hj5 : JAt w5 jb b ⟨fr.size, 0, 0, false⟩ := (hk5 jb (by omega)).trans HJ3.out
      have hv5 : w5.heap[jb + 1]? = some (.cells #[.pointer (some ⟨jb, 0, none⟩)] 63 (0, 0)) := (hk5 (jb + 1) (by omega)).trans HV3.out
      have hr5 : ResAt w5 w.heap.size (.pointer none) (.slice none 0 0) 0 := hr3.same (hk5 _ (by omega)) (hk5 _ (by omega)) (hk5 _ (by omega))
      rw [← hw5]
      clear hw5 hk5 hu3 hd3 hr3 HJ3 HV3 HS3 HR4 HD4 HU4 cp cv ce g1 g2 g3 c5 cE HBAD
      generalize w3.heap.size = va at *
      clear hs3
      refine wp_range_records (va + 1) fr rfl hb5 hfl (fun pre W => ∃ v, OpenI w5 jb b va fr.size pre W v) (fun W => OpenX w5 jb va w.heap.size W) ?hset ?hput ?hxput ?h0 ?a1 ?hassign ?hon ?hout ?hdone ?hstop
      case hassign => intro x y W K hK; gi_wp2; exact hK
      case hset => rintro pre W u ⟨v, h⟩; exact ⟨v, h.set hn5 u⟩
      case hput => rintro pre W o ⟨v, h⟩; exact ⟨v, h.put hn5 o⟩
      case hxput => intro W o h; exact h.put hn5 hB o
      case h0 => intro o; exact ⟨_, OpenI.start hn5 hj5 ha5 _ _⟩
      case hon =>
        rintro pre r W ⟨v, hi⟩ hr ht
        have hn51 := hn5.at_
        have hn52 := hn5.n
        have hpl : pre.length ≤ 16777216 ∧ spaceL pre ≤ 1099511627776 := by
          obtain ⟨t, ht⟩ := ht
          have h1 := (recs_size fr.size (bs fr) (Nat.le_of_eq (bs_length fr))).1
          rw [ht, sizeL_append, sizeL_append, bs_length] at h1
          have h2 := sizeL_len pre
          have h3 := spaceL_size pre
          omega
        obtain ⟨v', w1', hap, hrow, hup⟩ := append_str W v pre r hi.row (by omega)
        have cva : W.cell? ⟨va, 0, none⟩ = some v := cell_of_row _ _ 0 _ _ _ hi.a
        have hv6 : W.heap[jb + 1]? = some (.cells #[.pointer (some ⟨jb, 0, none⟩)] 63 (0, 0)) := (hi.keep (jb + 1) (by omega) (by omega) (by omega) (by omega)).trans hv5
        have hva1 : w1'.heap[va]? = some (.cells #[v] 61 (0, 0)) := (hup.block va (blk_lt hi.a) (fun m => by have := hi.fresh va m; omega)).trans hi.a
        have cva1 : w1'.cell? ⟨va, 0, none⟩ = some v := cell_of_row _ _ 0 _ _ _ hva1
        have fva1 : w1'.frozen? ⟨va, 0, none⟩ = false := frozen_of_row _ _ 0 _ _ hva1
        have hv7 : (w1'.setCell ⟨va, 0, none⟩ v').heap[jb + 1]? = some (.cells #[.pointer (some ⟨jb, 0, none⟩)] 63 (0, 0)) := by
          rw [heap_setCell_other _ _ _ _ (by simp; omega), hup.block _ (blk_lt hv6) (fun m => by have := hi.fresh _ m; omega)]; exact hv6
        have cv7 : (w1'.setCell ⟨va, 0, none⟩ v').cell? ⟨jb + 1, 0, none⟩ = some (.pointer (some ⟨jb, 0, none⟩)) := cell_of_row _ _ 0 _ _ _ hv7
        have hj7 : JAt (w1'.setCell ⟨va, 0, none⟩ v') jb b ⟨fr.size, pre.length, spaceL pre, false⟩ := hi.j.same (by
          rw [heap_setCell_other _ _ _ _ (by simp; omega), hup.block _ (hi.j.lt) (fun m => by have := hi.fresh _ m; omega)])
        obtain ⟨ao, cap, rfl, _, _⟩ := row_slice hi.row
        obtain ⟨ao', cap', rfl, _, _⟩ := row_slice hrow
        have el : (pre ++ [bs r]).length = pre.length + 1 := by simp
        rw [el] at hap hup cv7 hj7 hrow
        clear el
        have HAP := Lib.hid hap
        have HROW := Lib.hid hrow
        have HUP := Lib.hid hup
        have HI := Lib.hid hi
        have HJ7 := Lib.hid hj7
        clear hap hrow hup hi hj7 hv6 hva1 hv7 ht hn51 hn52
        gi_wp2_with (gi_at_builtin; refine wpListIn_append_run _ rfl _ _ _ _ rfl _ _ _ _ rfl rfl HAP.out ?_)
        refine ⟨trivial, rfl, (CallsIn.inRound (w5.heap.size + 1) (callsIn_wide.2 (jcount_any jb b _ r _ HJ7.out (by show pre.length ≤ _; omega) hpl.2 (by omega)))).mono ?_⟩
        rintro e W' ⟨rfl, hjj, huu⟩
        gi_wp2
        obtain ⟨q1, q2, q3, q4⟩ := HI.out.step hn5 HROW.out HUP.out hjj huu
        exact ⟨⟨_, q1⟩, q2, q3, q4⟩
      case hout =>
        rintro pre W ⟨v, hi⟩
        have hr6 := hi.res hn5 hB hr5
        have hx := hi.broken hn5 hB hr6
        have cp := hr6.cp
        have cv := hr6.cv
        have ce := hr6.ce
        have g1 := hr6.fp
        have g2 := hr6.fv
        have g3 := hr6.fe
        obtain ⟨hrs, hks⟩ := hr6.set (.pointer none) (.slice none 0 0) 11
        have HX := Lib.hid hx
        have HKS := Lib.hid hks
        clear hx hks hrs hi hr6
        gi_wp2
        have q1 := hn5.at_
        have q2 := hn5.n
        exact ⟨HX.out, HKS.out _ (by omega), HKS.out _ (by omega)⟩
      case hstop =>
        intro W ht hx hD
        have q1 := hn5.at_
        have q2 := hn5.n
        obtain ⟨g1, g2, g3⟩ := open_broken (W4 := W.putObj w5.heap.size (.deferred none)) hn5 rfl hB hx hu5 hd5 HLT1.out HF1.out (fun k hk => World.putObj_heap_other hk) rfl rfl rfl (by simp)
        refine ⟨by simp, .inl ⟨_, _, rfl, run_takeDeferred hD, ⟨_, open_ret _ _ w.heap.size _ none 0 0 11 g1 rfl rfl rfl, fun F rs he => ?_, fun he => ⟨S1, rfl, g2, g3⟩⟩⟩⟩
        exfalso
        obtain ⟨c1, c2⟩ := car_open he
        unfold openR at he
        rw [if_neg (by omega)] at he
        split at he
        · cases he
        · rw [← HE.out, ← HFB.out, ht] at he
          cases he
      case hdone =>
        rintro W ht ⟨v, hi⟩ hD
        have hn51 := hn5.at_
        have hn52 := hn5.n
        have hr6 := hi.res hn5 hB hr5
        have cva : W.cell? ⟨va, 0, none⟩ = some v := cell_of_row _ _ 0 _ _ _ hi.a
        have hv6 : W.heap[jb + 1]? = some (.cells #[.pointer (some ⟨jb, 0, none⟩)] 63 (0, 0)) := (hi.keep (jb + 1) (by omega) (by omega) (by omega) (by omega)).trans hv5
        have c5 : W.cell? ⟨jb + 1, 0, none⟩ = some (.pointer (some ⟨jb, 0, none⟩)) := cell_of_row _ _ 0 _ _ _ hv6
        have cp := hr6.cp
        have cv := hr6.cv
        have ce := hr6.ce
        have g1 := hr6.fp
        have g2 := hr6.fv
        have g3 := hr6.fe
        have HR6 := Lib.hid hr6
        have HI := Lib.hid hi
        have HD := Lib.hid hD
        have HT := Lib.hid ht
        obtain ⟨ao, cap, rfl, _, _⟩ := row_slice hi.row
        have m1 : w.heap.size ≠ va := by omega
        have m2 : w.heap.size + 1 ≠ va := by omega
        have m3 : w.heap.size + 1 + 1 ≠ va := by omega
        have m4 : w.heap.size ≠ jb + 1 := by omega
        have m5 : w.heap.size + 1 ≠ jb + 1 := by omega
        have m6 : w.heap.size + 1 + 1 ≠ jb + 1 := by omega
        have m7 : w.heap.size ≠ jb := by omega
        have m8 : w.heap.size + 1 ≠ jb := by omega
        clear hr6 hi hD hv6 hn51 hn52 ht
        go_wp2_with fail
        go_region_held3 (fun wp => wp.cell? ⟨jb + 1, 0, none⟩ = some (.pointer (some ⟨jb, 0, none⟩)) ∧ wp.cell? ⟨va, 0, none⟩ = some (.slice ao (recsL (bs fr)).1.length cap)) (first | assumption | go_keep) (fail)
        go_wp2_with fail
        have q1 := hn5.at_
        have q2 := hn5.n
        have hopen : openR D.now = some (bs fr, (recsL (bs fr)).1) := by
          unfold openR
          rw [if_neg (by omega), ← HE.out, ← HFB.out, if_neg (by rw [bs_length]; omega), if_pos HT.out]
        obtain ⟨hrs, hks⟩ := HR6.out.set (.pointer (some ⟨jb, 0, none⟩)) (.slice ao (recsL (bs fr)).1.length cap) 0
        have hD' := (hks w5.heap.size (by omega)).trans HD.out
        have hrs' : ResAt (((((W.setCell ⟨w.heap.size, 0, none⟩ (.pointer (some ⟨jb, 0, none⟩))).setCell ⟨w.heap.size + 1, 0, none⟩ (.slice ao (recsL (bs fr)).1.length cap)).setCell ⟨w.heap.size + 1 + 1, 0, none⟩ (.int .i64 0)).drew).putObj w5.heap.size (.deferred none)) w.heap.size (.pointer (some ⟨jb, 0, none⟩)) (.slice ao (recsL (bs fr)).1.length cap) 0 :=
          hrs.same (World.putObj_heap_other (by omega)) (World.putObj_heap_other (by omega)) (World.putObj_heap_other (by omega))
        obtain ⟨k1, k2, k3, k4, k5⟩ := open_done (W4 := ((((W.setCell ⟨w.heap.size, 0, none⟩ (.pointer (some ⟨jb, 0, none⟩))).setCell ⟨w.heap.size + 1, 0, none⟩ (.slice ao (recsL (bs fr)).1.length cap)).setCell ⟨w.heap.size + 1 + 1, 0, none⟩ (.int .i64 0)).drew).putObj w5.heap.size (.deferred none)) hn5 rfl hB HI.out hu5 hd5 HLT1.out HF1.out
          (fun k h1 h2 => (World.putObj_heap_other h2).trans (hks k h1)) rfl rfl rfl (by simp)
        refine ⟨by simp, .inl ⟨_, _, rfl, run_takeDeferred hD', ⟨_, open_ret _ _ w.heap.size _ _ _ _ 0 hrs' rfl rfl rfl, fun F rs he => ?_, fun he => ?_⟩⟩⟩
        · rw [hopen] at he
          cases he
          exact ⟨jb, _, S1, rfl, k1, by rw [bs_length]; exact k2, k3, k4, k5⟩
        · rw [hopen] at he
          cases he
    · have hne2 : ((fr.size : Int) != E) = true := by simp [hEq]
      have HBE := Lib.hid (HBAD.out (.inr hEq))
      clear hEq
      go_wp2_with fail
      refine (Size_to b _ S1 _ (D.now.length : Int) hd3 (by rw [HNOW.out])).mono ?_
      rintro e w' ⟨rfl, rfl⟩
      go_wp2_with fail
      refine ⟨_, open_ret _ _ w.heap.size _ none 0 0 11 HR4.out rfl rfl rfl, fun F rs he => ?_, fun he => ⟨S1, rfl, HD4.out, HU4.out⟩⟩
      rw [HBE.out] at he
      cases he

/-- Open of a disk that carries F. -/
theorem Open_ok (b : Nat) (D : DiskM) (S : List Nat) (F : List UInt8) (rs : List (List UInt8)) (w : World) (h : DiskAt w b D S) (hok : D.ok) (hc : D.calls < 65536) (hoff : D.off = false) (ho : openR D.now = some (F, rs)) :
    Calls Try.prog 37 #[.pointer (some ⟨b, 0, none⟩)] w fun e w' => ∃ jb v S', e = .returned (.tuple #[.pointer (some ⟨jb, 0, none⟩), v, .int .i64 0]) ∧ DiskAt w' b D.syncS S' ∧ JAt w' jb b ⟨F.length, rs.length, spaceL rs, false⟩ ∧ StrRow w' v rs ∧
      Upd S (jb :: (foot v ++ S')) w w' ∧ (jb :: (foot v ++ S')).Nodup :=
  (Open_go b D S w h hok hc hoff).mono fun _ _ hp => hp.1 F rs ho
theorem Open_form (b : Nat) (D : DiskM) (S : List Nat) (w : World) (h : DiskAt w b D S) (hok : D.ok) (hc : D.calls < 65536) (hoff : D.off = false) (ho : openR D.now = none) :
    Calls Try.prog 37 #[.pointer (some ⟨b, 0, none⟩)] w fun e w' => ∃ S', e = .returned (.tuple #[.pointer none, .slice none 0 0, .int .i64 11]) ∧ DiskAt w' b D.syncS S' ∧ Upd S S' w w' :=
  (Open_go b D S w h hok hc hoff).mono fun _ _ hp => hp.2 ho
end Go.Proofs.Ytbpbmigdfjnneaa
