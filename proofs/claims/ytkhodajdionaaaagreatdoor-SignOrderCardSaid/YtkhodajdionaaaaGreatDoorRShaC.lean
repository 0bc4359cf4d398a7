/- sortesref03.Sum is SHA-256. -/
import Derived.Test.YtkhodajdionaaaaGreatDoorRShaE
namespace Go.Proofs.YtkhodajdionaaaaGreatDoor
open Go.RowKit
set_option maxRecDepth 100000

theorem block_w (A B C D E F G H : W32) (s : ByteArray) (w : World) (hs : s.size = 64) :
    Calls Tryz.prog 85 #[.agg #[.int .u32 (A.toNat : Int), .int .u32 (B.toNat : Int), .int .u32 (C.toNat : Int), .int .u32 (D.toNat : Int), .int .u32 (E.toNat : Int), .int .u32 (F.toNat : Int), .int .u32 (G.toNat : Int), .int .u32 (H.toNat : Int)], .string s] w (fun e w' => ∃ A' B' C' D' E' F' G' H' : W32, Hid (mixS ⟨A, B, C, D, E, F, G, H⟩ (bs s) = ⟨A', B', C', D', E', F', G', H'⟩) ∧ e = .returned (.agg #[.int .u32 (A'.toNat : Int), .int .u32 (B'.toNat : Int), .int .u32 (C'.toNat : Int), .int .u32 (D'.toNat : Int), .int .u32 (E'.toNat : Int), .int .u32 (F'.toNat : Int), .int .u32 (G'.toNat : Int), .int .u32 (H'.toNat : Int)]) ∧ Upd [] [] w w') := by
  refine (block_any ⟨A, B, C, D, E, F, G, H⟩ s w hs).mono ?_
  rintro e w' ⟨rfl, hu⟩
  obtain ⟨V, hV⟩ : ∃ V, V = mixS ⟨A, B, C, D, E, F, G, H⟩ (bs s) := ⟨_, rfl⟩
  obtain ⟨A', B', C', D', E', F', G', H'⟩ := V
  rw [← hV]
  exact ⟨A', B', C', D', E', F', G', H', rfl, rfl, hu⟩


set_option maxHeartbeats 2000000 in
theorem rsum_any (s : ByteArray) (w : World) (hs : s.size ≤ 281474976710656) :
    Calls Tryz.prog 72 #[.string s] w (Mk (.agg (byteVals (sha (bs s))).toArray) w) := by
  obtain ⟨V, hV⟩ : ∃ V, V = firstS := ⟨_, rfl⟩
  have h0 := SumW.start w firstS
  have HVV := Lib.hid hV
  clear hV
  obtain ⟨R, hR⟩ : ∃ R, R = Value.agg (byteVals (sha (bs s))).toArray := ⟨_, rfl⟩
  rw [← hR]
  have HRR := Lib.hid hR
  clear hR
  go_enter Tryz.func72, Tryz.ntmps72
  go_wp2_with fail
  refine (padded_any s _ hs).mono ?_
  rintro e w3 ⟨T, HT, rfl, hu3⟩
  have hm3 := SumW.upd h0 hu3
  clear h0
  have hTl : T.size = (padS (bs s)).length := by rw [← bs_length, HT.out]
  obtain ⟨m, hm0⟩ : ∃ m, T.size = 64 * m := by
    refine ⟨T.size / 64, ?_⟩
    have := padS_mod (bs s)
    omega
  have hT40 : T.size ≤ 281474976711000 := by
    rw [hTl, padS_length, bs_length, zerosN]
    omega
  have HTL := Lib.hid hTl
  have HM0 := Lib.hid hm0
  clear hTl
  have hm1 : (T.size : Int) = 64 * (m : Int) := by omega
  clear hm0
  go_wp2_with fail
  go_loopw [5] (fun i wr => ∃ (k j : Nat) (x : St), i = .int .i64 (k : Int) ∧ k = 64 * j ∧ j ≤ m ∧ SumW w wr x ∧ Hid (x = mixesS firstS (padS (bs s)) j)) (fun i _ => 64 * m - (intOf i).toNat)
  case atStart => exact ⟨0, 0, _, rfl, rfl, Nat.zero_le _, hm3, rfl⟩
  case round =>
    clear hm3 hm1
    obtain ⟨k, j, ⟨A, B, C, D, E, F, G, H⟩, rfl, hkj, hjm, hm, HX⟩ := hrel
    have hm1 : T.size = 64 * m := HM0.out
    by_cases hlt : j < m
    · obtain ⟨c0, c1, c2, c3, c4, c5, c6, c7⟩ := hm.cells
      obtain ⟨k64, hk64⟩ : ∃ k64 : Nat, k64 = k + 64 := ⟨_, rfl⟩
      have i64 : IntKind.i64.wrap ((k : Int) + 64) = (k64 : Int) := by rw [wrap_in (by omega) (by omega)]; omega
      have b1 : (k64 : Int) ≤ (T.size : Int) := by omega
      have b2 : (k : Int) ≤ (k64 : Int) := by omega
      have b3 : k ≤ k64 := by omega
      have b4 : k64 ≤ T.size := by omega
      have b5 : k < T.size := by omega
      have HKN := Lib.hid (And.intro hkj hk64)
      have hsx : (T.extract k k64).size = 64 := by simp [ByteArray.size_extract]; omega
      clear hkj hk64 hm1
      have HSX := Lib.hid hsx
      clear hsx
      go_wp2_with fail
      go_still_tail 6, (by kernel_rfl)
      go_wp2_with fail
      refine (block_w A B C D E F G H _ _ HSX.out).mono ?_
      rintro e w5 ⟨A', B', C', D', E', F', G', H', HM, rfl, hu5⟩
      have hm5 := hm.drew.upd hu5
      obtain ⟨d0, d1, d2, d3, d4, d5, d6, d7⟩ := hm5.cells
      have z0 := hm5.fz 0
      have z1 := hm5.fz 1
      have z2 := hm5.fz 2
      have z3 := hm5.fz 3
      have z4 := hm5.fz 4
      have z5 := hm5.fz 5
      have z6 := hm5.fz 6
      have z7 := hm5.fz 7
      go_wp2_with fail
      refine ⟨⟨k64, j + 1, _, rfl, by have := HKN.out.1; have := HKN.out.2; omega, by omega, hm5.store, ?_⟩, ?_⟩
      · show _ = _
        rw [mixesS, ← HX.out, ← HM.out, bs_extract, HKN.out.2, HKN.out.1, HT.out, show 64 * j + 64 - 64 * j = 64 by omega]
      · have := HKN.out.1
        have := HKN.out.2
        have := HM0.out
        simp [intOf]; omega
    · have hk64 : (k : Int) = (T.size : Int) := by omega
      obtain rfl : j = m := by omega
      rw [hk64]
      clear hlt hkj hk64 hjm hm1
      obtain ⟨X, hX⟩ : ∃ X : St, X = ⟨A, B, C, D, E, F, G, H⟩ := ⟨_, rfl⟩
      rw [← hX] at hm HX
      have h9 : (wr.alloc (.cells (byteVals (List.replicate 32 0)).toArray 98)).heap[wr.heap.size]? = some (.cells (byteVals (List.replicate 32 0)).toArray 98 (0, 0)) := heap_alloc_new _ _
      have hm9 := hm.upd ((Upd.refl [] wr).alloc (.cells (byteVals (List.replicate 32 0)).toArray 98))
      have hgt : w.heap.size + 1 < wr.heap.size := (Array.getElem?_eq_some_iff.1 hm.hs).1
      have H9 := Lib.hid h9
      clear hX h9 hm
      generalize hg : wr.heap.size = g at *
      go_wp2_with fail
      go_loopw [7] (fun i wr => ∃ k : Nat, i = .int .i64 (k : Int) ∧ k ≤ 32 ∧ SumW w wr X ∧ Hid (wr.heap[g]? = some (.cells (byteVals ((outS X).take k ++ List.replicate (32 - k) 0)).toArray 98 (0, 0)))) (fun i _ => 32 - (intOf i).toNat)
      case atStart => exact ⟨0, rfl, Nat.zero_le _, hm9, H9.out⟩
      case round =>
        clear hm9 H9 hg
        obtain ⟨k, rfl, hk, hm, HR9⟩ := hrel
        by_cases hlt : k < 32
        · obtain ⟨j, hj⟩ : ∃ j, j = k / 4 := ⟨_, rfl⟩
          obtain ⟨m4, hm4⟩ : ∃ m4, m4 = k % 4 := ⟨_, rfl⟩
          obtain ⟨m8, hm8⟩ : ∃ m8, m8 = m4 * 8 := ⟨_, rfl⟩
          obtain ⟨c8, hc8⟩ : ∃ c8, c8 = 8 * (3 - m4) := ⟨_, rfl⟩
          have q1 := hm.st (k := j) (by omega)
          obtain ⟨x, hx⟩ : ∃ x, x = X.l.getD j 0 := ⟨_, rfl⟩
          rw [← hx] at q1
          have i1 : IntKind.i64.wrap ((k : Int) / 4) = (j : Int) := by rw [wrap_in (by omega) (by omega)]; omega
          have i2 : IntKind.i64.wrap ((k : Int) % 4) = (m4 : Int) := by rw [wrap_in (by omega) (by omega)]; omega
          have i3 : IntKind.i64.wrap ((m4 : Int) * 8) = (m8 : Int) := by rw [wrap_in (by omega) (by omega)]; omega
          have i4 : IntKind.i64.wrap (24 - (m8 : Int)) = (c8 : Int) := by rw [wrap_in (by omega) (by omega)]; omega
          have j8 : (j : Int) < 8 := by omega
          have k32 : (k : Int) < 32 := by omega
          have hk2 : ∃ v0, wr.cell? ⟨g, k, none⟩ = some v0 := by
            rw [cell_of_row wr g k _ _ _ HR9.out]
            exact ⟨_, Array.getElem?_eq_getElem (by simp [byteVals, outS_length]; omega)⟩
          obtain ⟨v0, hv0⟩ := hk2
          have hf0 : wr.frozen? ⟨g, k, none⟩ = false := frozen_of_row wr g k _ _ HR9.out
          have h3 := heap_setCell_same wr g k _ _ (byteV (UInt8.ofNat (x.toNat / 2 ^ c8))) HR9.out
          rw [outS_step X k x c8 hlt (by rw [hx, hj]) (by rw [hc8, hm4])] at h3
          have H3 := Lib.hid h3
          have HK := Lib.hid (And.intro hj (And.intro hm4 (And.intro hm8 hc8)))
          have HX9 := Lib.hid hx
          clear h3 hj hm4 hm8 hc8 hx
          go_wp2_with fail
          have hc9 : 8 * (3 - k % 4) = c8 := by have := HK.out; omega
          rw [hc9]
          have hv9 : Value.int .u8 ((x.toNat : Int) / 2 ^ c8 % 256) = byteV (UInt8.ofNat (x.toNat / 2 ^ c8)) := by
            show _ = Value.int .u8 ((((UInt8.ofNat (x.toNat / 2 ^ c8)).toNat : Nat)) : Int)
            have : (UInt8.ofNat (x.toNat / 2 ^ c8)).toNat = x.toNat / 2 ^ c8 % 256 := by simp
            rw [this]
            simp
          rw [hv9]
          have hnew : w.heap.size + 1 < g := hgt
          refine ⟨⟨k + 1, by go_num, by omega, ⟨?_, ?_, hm.up.setNew (by show w.heap.size ≤ g; omega) _⟩, H3.out⟩, by simp [intOf]; omega⟩
          · rw [Below.heap_setCell _ _ _ _ (by show w.heap.size ≠ g; omega)]; exact hm.hr
          · rw [Below.heap_setCell _ _ _ _ (by show w.heap.size + 1 ≠ g; omega)]; exact hm.hs
        · have hk32 : k = 32 := by omega
          have hk33 : (k : Int) = 32 := by omega
          have hR9 := HR9.out
          rw [hk32, List.take_of_length_le (by rw [outS_length]; omega), Nat.sub_self, List.replicate_zero, List.append_nil] at hR9
          have H10 := Lib.hid hR9
          rw [hk33]
          clear hlt hk hk32 hk33 hR9 HR9
          obtain ⟨cs, hcs⟩ : ∃ cs : Array Value, cs = (byteVals (outS X)).toArray := ⟨_, rfl⟩
          have hcz : cs.size = 32 := by rw [hcs]; simp [byteVals, outS_length]
          have hc1 : cs.all (·.oneCell') = true := by
            rw [Array.all_eq_true_iff_forall_mem]
            intro v hv
            rw [hcs] at hv
            exact byteVals_one _ v (by simpa using hv)
          have h10 := H10.out
          rw [← hcs] at h10
          have HCS := Lib.hid hcs
          have HC1 := Lib.hid hc1
          have HCZ := Lib.hid (And.intro hcz h10)
          have HHR := Lib.hid hm.hr
          have HUP := Lib.hid hm.up
          have HHR2 : (wr.setRow w.heap.size cs).heap[w.heap.size]? = some (.cells cs 98 (0, 0)) := setRow_heap wr w.heap.size _ _ _ _ hm.hr
          have HH2 := Lib.hid HHR2
          have hi32 : (Tryz.prog.info? 98).map (·.size) = some cs.size := by rw [hcz]; kernel_rfl
          have HI := Lib.hid hi32
          clear hcs hc1 hcz H10 h10 HHR2 hi32 hm
          go_wp2_with (first | (refine wpList_load_row rfl 98 _ rfl g rfl _ cs _ _ HCZ.out.2 Tryz.underlying98 rfl HI.out ?_) | (refine wpList_store_row rfl 98 _ _ rfl w.heap.size cs rfl rfl _ _ HHR.out HI.out (by rw [HCZ.out.1]; simp [byteVals]) HC1.out ?_))
          refine bodyPost_ret (results_cell_row rfl _ _ w.heap.size _ cs _ _ rfl HH2.out Tryz.underlying98 rfl HI.out) rfl ⟨?_, HUP.out.setRowNew (Nat.le_refl _) cs⟩
          have hnj : (padS (bs s)).length / 64 = j := by
            have e1 := HTL.out
            have e2 := HM0.out
            omega
          rw [HRR.out, HCS.out, HX.out, sha, hnj]
end Go.Proofs.YtkhodajdionaaaaGreatDoor
