/- DiskBytes returns true: the walk. -/
import Derived.Test.YtbpbmigdfjnneaaLawSynced
namespace Go.Proofs.Ytbpbmigdfjnneaa
open Go.RowKit
set_option maxRecDepth 100000

theorem crashF_getD (sv : List Int) (i : Nat) : ∀ (ps : List (Nat × List UInt8)) (k : Nat) (c : List UInt8), (crashF sv k ps c).getD i 0 = c.getD i 0 ∨ ∃ p, p ∈ ps ∧ p.1 ≤ i ∧ i < p.1 + p.2.length ∧ (crashF sv k ps c).getD i 0 = p.2.getD (i - p.1) 0
  | [], _, _ => .inl rfl
  | p :: ps, k, c => by
    simp only [crashF]
    rcases crashF_getD sv i ps (k + 1) (if survives sv k then putL c p.1 p.2 else c) with h | ⟨q, hq, h1, h2, h3⟩
    · rw [h]
      split
      · rw [putL_getD]
        split
        · rename_i hr; exact .inr ⟨p, by simp, hr.1, hr.2, rfl⟩
        · exact .inl rfl
      · exact .inl rfl
    · exact .inr ⟨q, by simp [hq], h1, h2, h3⟩
theorem crashF_ge (sv : List Int) : ∀ (ps : List (Nat × List UInt8)) (k : Nat) (c : List UInt8), c.length ≤ (crashF sv k ps c).length
  | [], _, _ => Nat.le_refl _
  | p :: ps, k, c => by
    simp only [crashF]
    refine Nat.le_trans ?_ (crashF_ge sv ps (k + 1) _)
    split
    · rw [putL_length]; omega
    · exact Nat.le_refl _
theorem partsL_rep (x : UInt8) (m : Nat) : ∀ (off n : Nat), n ≤ m → ∀ p, p ∈ partsL off (List.replicate n x) → off ≤ p.1 ∧ p.1 + p.2.length ≤ off + n ∧ ∀ j, j < p.2.length → p.2.getD j 0 = x := by
  induction m with
  | zero => intro off n h p hp; have : n = 0 := by omega
            subst this; simp [partsL_nil] at hp
  | succ m ih =>
    intro off n h p hp
    by_cases h0 : n = 0
    · subst h0; simp [partsL_nil] at hp
    · have hne : List.replicate n x ≠ [] := by simp [h0]
      have hmm : off % 64 < 64 := Nat.mod_lt _ (by omega)
      rw [partsL_step off _ hne] at hp
      simp only [List.length_replicate, List.take_replicate, List.drop_replicate] at hp
      rcases List.mem_cons.1 hp with rfl | hp
      · refine ⟨Nat.le_refl _, by simp; omega, fun j hj => ?_⟩
        simp only [List.length_replicate] at hj
        simp only [List.getD, List.getElem?_replicate]
        rw [if_pos hj]; rfl
      · obtain ⟨g1, g2, g3⟩ := ih _ _ (by omega) p hp
        exact ⟨by omega, by omega, g3⟩

/-- After a crash each byte is the old one, or 0xee within the second Write. -/
theorem bytes_law (a : List UInt8) (off n : Nat) (sv : List Int) (x : UInt8) (i : Nat) :
    (crashF sv 0 (partsL off (List.replicate n x)) a).getD i 0 = a.getD i 0 ∨ (off ≤ i ∧ i < off + n ∧ (crashF sv 0 (partsL off (List.replicate n x)) a).getD i 0 = x) := by
  rcases crashF_getD sv i (partsL off (List.replicate n x)) 0 a with h | ⟨p, hp, h1, h2, h3⟩
  · exact .inl h
  · obtain ⟨g1, g2, g3⟩ := partsL_rep x n off n (Nat.le_refl _) p hp
    exact .inr ⟨by omega, by omega, by rw [h3]; exact g3 _ (by omega)⟩
theorem bytes_len (a : List UInt8) (off n : Nat) (sv : List Int) (x : UInt8) : a.length ≤ (crashF sv 0 (partsL off (List.replicate n x)) a).length ∧ (crashF sv 0 (partsL off (List.replicate n x)) a).length ≤ max a.length (off + n) :=
  ⟨crashF_ge _ _ _ _, crashF_le sv _ _ 0 a (by omega) (fun p hp => by have := (partsL_rep x n off n (Nat.le_refl _) p hp).2.1; omega)⟩
theorem readL_all (c : List UInt8) (n : Int) (h1 : (c.length : Int) ≤ n) : readL c 0 n = c := by
  unfold readL
  split
  · rename_i h
    exact (List.eq_nil_of_length_eq_zero (by omega)).symm
  · simp only [Int.toNat_zero, List.drop_zero]
    exact List.take_of_length_le (by omega)
theorem getD_get (s : ByteArray) (k : Nat) (h : k < s.size) : (bs s).getD k 0 = s[k] := by
  have h' : k < (bs s).length := h
  simp only [List.getD, List.getElem?_eq_getElem h', Option.getD_some]
  rfl

set_option maxHeartbeats 6400000 in
theorem walk_DiskBytes (s : ByteArray) (t0 t1 : Int) (vq : Value) (zq : List Int) (w : World) (hs : s.size ≤ maxLen) (_ht1 : -9223372036854775808 ≤ t0) (_ht2 : t0 ≤ 9223372036854775807) (_ht3 : -9223372036854775808 ≤ t1) (_ht4 : t1 ≤ 9223372036854775807) (hq : IntsAt w vq zq) :
    Calls Try.prog 4 #[.string s, .agg #[.int .i64 t0, .int .i64 t1], vq] w (TrueB w) := by
  have hs2 : s.size ≤ 9223372036854775807 := hs
  clear hs
  obtain ⟨off, hm0⟩ : ∃ m : Nat, (m : Int) = t0 % 250 := ⟨(t0 % 250).toNat, by omega⟩
  obtain ⟨m1, hm1⟩ : ∃ m : Nat, (m : Int) = t1 % 200 := ⟨(t1 % 200).toNat, by omega⟩
  have b0 : off < 250 := by omega
  have b1 : m1 < 200 := by omega
  have HM0 := Lib.hid hm0
  have HM1 := Lib.hid hm1
  clear hm0 hm1
  obtain ⟨W, hW⟩ : ∃ W, W = w.alloc (.cells #[.int .i64 t0, .int .i64 t1] 40) := ⟨_, rfl⟩
  have hq1 : IntsAt W vq zq := by rw [hW]; exact hq.alloc _
  have fin : ∀ w', Below W.heap.size W w' → Below w.heap.size w w' := fun w' h => by rw [hW] at h; exact below_fore h
  have HW := Lib.hid hW
  have FIN := Lib.hid fin
  clear hW hq fin
  obtain ⟨a, ha⟩ : ∃ a : ByteArray, a = (if s.size ≤ 200 then s else s.extract 0 200) := ⟨_, rfl⟩
  have hal : a.size ≤ 200 := by
    rw [ha]
    split
    · omega
    · rw [ByteArray.size_extract]; omega
  have HA := Lib.hid ha
  clear ha
  go_enter Try.func4, Try.ntmps4
  go_wp2_with fail
  rw [← HW.out]
  go_wp2_with fail
  refine (sanity24 W).mono ?_
  rintro e w1 ⟨rfl, hb⟩
  go_wp2_with fail
  refine (New_to w1).mono ?_
  rintro e w2 ⟨bd, Sd, rfl, hd2, hu2⟩
  have d2 := DiskOk.start hb hb.size hd2 hu2
  clear hb hd2 hu2
  obtain ⟨e1, e2⟩ := arr_cells HW.out d2.below
  by_cases hsl : s.size ≤ 200
  all_goals
    go_wp2_with fail
    first
      | rw [show s.extract 0 200 = a from by rw [HA.out, if_neg hsl]]
      | rw [show s = a from by rw [HA.out, if_pos hsl]]
    clear hsl HA
    refine (Mod_any t0 250 _ (by omega) (by omega)).mono ?_
    rintro e w' ⟨rfl, rfl⟩
    rw [← HM0.out]
    go_wp2_with fail
    refine (Mod_any t1 200 _ (by omega) (by omega)).mono ?_
    rintro e w' ⟨rfl, rfl⟩
    rw [← HM1.out]
    go_wp2_with fail
    have hrep := repeated_any 238 238 (by decide) (1 + m1) w2 (by omega)
    rw [show (((1 + m1 : Nat)) : Int) = 1 + (m1 : Int) from by omega] at hrep
    refine hrep.mono ?_
    rintro e w3 ⟨r, hr, rfl, hu3⟩
    have hrl : r.size = 1 + m1 := by rw [← bs_length, hr.out]; simp
    obtain ⟨n, hn⟩ : ∃ n, n = 1 + m1 := ⟨_, rfl⟩
    rw [← hn] at hr hrl
    have hn2 : n ≤ 200 := by omega
    have hn3 : 1 ≤ n := by omega
    have hrl2 : r.size ≤ n := by omega
    have hrl3 : n ≤ r.size := by omega
    clear hn hrl hrep e1 e2
    have d3 := d2.quiet hu3
    clear d2 hu3
    go_wp2_with fail
    obtain ⟨D1, hD1⟩ : ∃ D1, D1 = (DiskM.empty).writeS 0 (bs a) := ⟨_, rfl⟩
    have f1 : D1.failing = false ∧ D1.calls ≤ 1 ∧ D1.ok ∧ D1.now = bs a ∧ D1.synced1.synced = bs a := by
      rw [hD1]
      refine ⟨(writeS_calls _ _ _).2, (writeS_calls _ _ _).1, writeS_ok DiskM.ok_empty (by decide) _ _, ?_, ?_⟩
      · rw [writeS_good (by omega) (by rw [bs_length]; omega) rfl]; exact putL_nil _
      · have hr := Rel.empty.writeS (by decide) 0 (bs a)
        have hi := hr.inv
        have e : (DiskM.empty.writeS 0 (bs a)).now = bs a := by rw [writeS_good (by omega) (by rw [bs_length]; omega) rfl]; exact putL_nil _
        show putL (putParts (DiskM.empty.writeS 0 (bs a)).synced (DiskM.empty.writeS 0 (bs a)).parts) (DiskM.empty.writeS 0 (bs a)).now.length [] = _
        rw [hi, e]
    refine (Write_to bd _ Sd 0 a w3 0 D1 d3.at_ DiskM.ok_empty (by decide) (by omega) (errR_no (by omega) (by rw [bs_length]; omega) rfl) hD1.symm).mono ?_
    rintro e w4 ⟨S4, rfl, hd4, hu4⟩
    have d4 := d3.step hd4 hu4
    clear d3 hd4 hu4 hD1
    go_wp2_with fail
    refine (Sync_to bd D1 S4 w4 0 d4.at_ f1.2.2.1 (by omega) (sync_no f1.1)).mono ?_
    rintro e w5 ⟨S5, rfl, hd5, hu5⟩
    have d5 := d4.step hd5 hu5
    clear d4 hd5 hu5
    obtain ⟨D2, hD2⟩ : ∃ D2, D2 = D1.syncS := ⟨_, rfl⟩
    have f2 : D2.failing = false ∧ D2.calls ≤ 2 ∧ D2.ok ∧ D2.synced = bs a ∧ D2.parts = [] := by
      rw [hD2]
      refine ⟨(syncS_calls _).2.trans f1.1, Nat.le_trans (syncS_calls _).1 (by omega), syncS_ok f1.2.2.1 (by omega), ?_, ?_⟩
      · rw [syncS_good f1.1]; exact f1.2.2.2.2
      · rw [syncS_good f1.1]; rfl
    rw [← hD2] at d5
    clear hD2 f1
    go_wp2_with fail
    obtain ⟨D3, hD3⟩ : ∃ D3, D3 = D2.writeS (off : Int) (bs r) := ⟨_, rfl⟩
    have f3 : D3.ok ∧ (D3.crash zq).now = crashF zq 0 (partsL off (List.replicate n 238)) (bs a) := by
      rw [hD3]
      refine ⟨writeS_ok f2.2.2.1 (by omega) _ _, ?_⟩
      rw [writeS_good (by omega) (by rw [bs_length]; omega) f2.1]
      show crashF zq 0 (D2.parts ++ partsL (off : Int).toNat (bs r)) D2.synced = _
      rw [f2.2.2.2.1, f2.2.2.2.2, hr.out]; rfl
    refine (Write_to bd D2 S5 (off : Int) r w5 0 D3 d5.at_ f2.2.2.1 (by omega) (by omega) (errR_no (by omega) (by rw [bs_length]; omega) f2.1) hD3.symm).mono ?_
    rintro e w6 ⟨S6, rfl, hd6, hu6⟩
    have d6 := d5.step hd6 hu6
    clear d5 hd6 hu6 hD3 f2
    go_wp2_with fail
    refine (Crash_to bd D3 S6 vq zq w6 d6.at_ (hq1.below d6.below) f3.1).mono ?_
    rintro e w7 ⟨bc, Sc, rfl, hc7, hu7⟩
    have c7 := d6.born hc7 hu7
    have hby := fun i => bytes_law (bs a) off n zq 238 i
    have hbl := bytes_len (bs a) off n zq 238
    rw [← f3.2] at hbl
    rw [bs_length] at hbl
    have okc := f3.1.crash zq
    have hby2 : ∀ i, (D3.crash zq).now.getD i 0 = (bs a).getD i 0 ∨ (off ≤ i ∧ i < off + n ∧ (D3.crash zq).now.getD i 0 = 238) := fun i => by rw [f3.2]; exact hby i
    obtain ⟨C, hC⟩ : ∃ C, C = D3.crash zq := ⟨_, rfl⟩
    rw [← hC] at c7 hbl okc hby2
    have HBY := Lib.hid hby2
    have hcl1 := hbl.1
    have hcl2 := hbl.2
    clear hC hby hby2 f3 d6 hc7 hu7 hbl hr
    obtain ⟨cl, hcl⟩ : ∃ cl, cl = C.now.length := ⟨_, rfl⟩
    rw [← hcl] at hcl1 hcl2
    have hszc : ((C.now.length : Nat) : Int) = (cl : Int) := by rw [hcl]
    have HCL := Lib.hid hcl
    have HSZ := Lib.hid hszc
    clear hcl hszc
    have hcl3 : cl ≤ 16777216 := by rw [HCL.out]; exact okc.now
    go_wp2_with fail
    refine (Size_to bc C Sc w7 (cl : Int) c7.at_ HSZ.out).mono ?_
    rintro e w' ⟨rfl, rfl⟩
    go_wp2_with fail
    refine (Size_to bc C Sc w7 (cl : Int) c7.at_ HSZ.out).mono ?_
    rintro e w' ⟨rfl, rfl⟩
    rcases (show (a.size : Int) < (off : Int) + (r.size : Int) ∨ (off : Int) + (r.size : Int) ≤ (a.size : Int) by omega) with hmx | hmx
    all_goals
      have hmm : ¬ max (a.size : Int) ((off : Int) + (r.size : Int)) < (cl : Int) := by omega
      go_wp2_with fail
      refine (Size_to bc C Sc w7 (cl : Int) c7.at_ HSZ.out).mono ?_
      rintro e w' ⟨rfl, rfl⟩
      go_wp2_with fail
      refine (Read_str bc C Sc 0 (cl : Int) w7 c7.at_ (by have := okc.now; omega)).mono ?_
      rintro e w' ⟨got, hgot, rfl, rfl⟩
      have hg1 : bs got = C.now := by rw [hgot.out]; exact readL_all _ _ (by rw [HCL.out]; omega)
      have hg2 : (got.size : Int) = (cl : Int) := by rw [← bs_length, hg1, HCL.out]
      have HG1 := Lib.hid hg1
      have hgs : (((got.size : Int)) != (cl : Int)) = false := by rw [hg2]; simp
      have hgle : got.size ≤ 16777216 := by omega
      clear hg1 hg2 hgot
      go_wp2_with fail
      refine (Size_to bc C Sc w7 (cl : Int) c7.at_ HSZ.out).mono ?_
      rintro e w' ⟨rfl, rfl⟩
      go_wp2_with fail
      clear hcl1 hcl2 hcl3 hmm hgs hmx HCL HSZ okc
      go_loopw [17] (fun i wr => ∃ k nd : Nat, i = .int .i64 (k : Int) ∧ k ≤ got.size ∧ wr = w7.drewN nd) (fun i _ => got.size - (intOf i).toNat)
      case atStart => exact ⟨0, 0, rfl, Nat.zero_le _, rfl⟩
      case round =>
        obtain ⟨k, nd, rfl, hk, rfl⟩ := hrel
        by_cases hlt : k < got.size
        · have hby := HBY.out k
          rw [← HG1.out, getD_get got k hlt] at hby
          have hN1 : (((got[k]).toNat : Int) == 238) = decide (got[k] = 238) := by
            rw [Bool.eq_iff_iff]; simp [← UInt8.toNat_inj]; omega
          have hN2 : (((got[k]).toNat : Int) == 0) = decide (got[k] = 0) := by
            rw [Bool.eq_iff_iff]; simp [← UInt8.toNat_inj]; try omega
          clear HBY HG1
          by_cases ha : k < a.size
          · rw [getD_get a k ha] at hby
            by_cases e1 : got[k] = a[k]
            · have hE : (((got[k]).toNat : Int) == ((a[k]).toNat : Int)) = true := by rw [e1]; simp
              clear hby hN2
              go_wp2_with fail
              go_quiet (fail)
              go_wp2_with fail
              all_goals
                refine ⟨⟨k + 1, _, by go_num, by omega, rfl⟩, ?_⟩
                simp [intOf]; omega
            · have hE : (((got[k]).toNat : Int) == ((a[k]).toNat : Int)) = false := by
                rw [Bool.eq_false_iff]; intro hx; apply e1; rw [← UInt8.toNat_inj]; have := eq_of_beq hx; omega
              have hx := hby.resolve_left e1
              have ho : off ≤ k := hx.1
              have hp : (k : Int) < (off : Int) + (r.size : Int) := by omega
              have hN : (((got[k]).toNat : Int) == 238) = true := by rw [hN1, hx.2.2]; rfl
              clear hby hx hN1 hN2
              go_wp2_with fail
              go_quiet (fail)
              go_wp2_with fail
              all_goals
                refine ⟨⟨k + 1, _, by go_num, by omega, rfl⟩, ?_⟩
                simp [intOf]; omega
          · by_cases e1 : got[k] = 0
            · have hN : (((got[k]).toNat : Int) == 0) = true := by rw [hN2, e1]; rfl
              clear hby hN2
              go_wp2_with fail
              go_quiet (fail)
              go_wp2_with fail
              all_goals
                refine ⟨⟨k + 1, _, by go_num, by omega, rfl⟩, ?_⟩
                simp [intOf]; omega
            · have hx : off ≤ k ∧ k < off + n ∧ got[k] = 238 := by
                refine hby.resolve_left fun hz => e1 (hz.trans ?_)
                simp only [List.getD, List.getElem?_eq_none (show (bs a).length ≤ k by rw [bs_length]; omega), Option.getD_none]
              have ho : off ≤ k := hx.1
              have hp : (k : Int) < (off : Int) + (r.size : Int) := by omega
              have hN : (((got[k]).toNat : Int) == 238) = true := by rw [hN1, hx.2.2]; rfl
              clear hby hx hN1
              go_wp2_with fail
              go_quiet (fail)
              go_wp2_with fail
              all_goals
                refine ⟨⟨k + 1, _, by go_num, by omega, rfl⟩, ?_⟩
                simp [intOf]; omega
        · go_wp2_with fail
          go_ret
          refine ⟨rfl, FIN.out _ ?_⟩
          exact (c7.quiet ((Upd.refl [] w7).drewN _)).below
end Go.Proofs.Ytbpbmigdfjnneaa
