/- sortesref04.Member; sortesref06: joined, Challenge, power, side, ProveWith, Prove. -/
import Derived.Test.YtkhodajdionaaaaGreatDoorREqA
import Derived.Test.YtkhodajdionaaaaGreatDoorEqC
namespace Go.Proofs.YtkhodajdionaaaaGreatDoor
open Go.RowKit
set_option maxRecDepth 100000

theorem rpow_at (a n m : Int) (N : Nat) (hN : n = (N : Int)) (w : World) (ha : -9223372036854775808 ≤ a ∧ a ≤ 9223372036854775807) (hn : n ≤ 9223372036854775807) (hm : 1 ≤ m ∧ m ≤ 9223372036854775807) :
    Calls Tryz.prog 51 #[.int .i64 a, .int .i64 n, .int .i64 m] w (RetZ .i64 m (powZ a N m) w) := by
  subst hN
  exact rPow_any a m N w ha (by omega) hm
theorem rmember_any (a : Int) (w : World) (ha : -9223372036854775808 ≤ a ∧ a ≤ 9223372036854775807) :
    Calls Tryz.prog 37 #[.int .i64 a] w (RetB (memB a) w) := by
  by_cases h1 : 1 ≤ a
  · by_cases h2 : a < 2305843009213691579
    · have HM := Lib.hid (memB_mid h1 (by omega))
      go_enter Tryz.func37, Tryz.ntmps37
      go_wp2_with (go_at_call 51; ((with_reducible refine (rpow_at a _ _ 1152921504606845789 qCast _ (by omega) (by omega) (by omega)).mono ?_); rintro e w' ⟨r, HR, r0, r1, rfl, rfl⟩))
      go_ret
      refine ⟨_, ?_, rfl, rfl⟩
      show _ = _
      rw [HM.out, ← HR.out]
      rfl
    · have h3 : 2305843009213691579 ≤ a := by omega
      have HM := Lib.hid (memB_high (a := a) (by omega))
      clear h2
      go_enter Tryz.func37, Tryz.ntmps37
      go_wp2_with fail
      go_ret
      exact ⟨_, HM.out.symm, rfl, rfl⟩
  · have h3 : a < 1 := by omega
    have HM := Lib.hid (memB_low h3)
    clear h1
    go_enter Tryz.func37, Tryz.ntmps37
    go_wp2_with fail
    go_ret
    exact ⟨_, HM.out.symm, rfl, rfl⟩
theorem rmember_is (a : Int) (b : Bool) (w : World) (ha : i64in a) (h : memB a = b) : Calls Tryz.prog 37 #[.int .i64 a] w (fun e w' => e = .returned (.bool b) ∧ w = w') := by
  refine (rmember_any a w ha).mono ?_
  rintro e w' ⟨r, HR, rfl, rfl⟩
  exact ⟨by rw [HR.out, h], rfl⟩

theorem join_snoc (l : List (List UInt8)) (x : List UInt8) (h : l ≠ []) : Lib.join (l ++ [x]) [47] = Lib.join l [47] ++ [47] ++ x := by
  cases l with
  | nil => exact absurd rfl h
  | cons y r =>
    rw [List.cons_append, Lib.join_cons, Lib.join_cons]
    simp [Lib.joinTail, List.append_assoc]
theorem joined_len {xs : List Int} (h : ∀ x ∈ xs, i64in x) (k : Nat) : (Lib.join ((xs.take k).map Lib.itoa) [47]).length ≤ 21 * xs.length := by
  have h1 := joinL_len ((xs.take k).map Lib.itoa) (by
    intro z hz
    simp only [List.mem_map] at hz
    obtain ⟨v, hv, rfl⟩ := hz
    exact itoa_len v (h v (List.mem_of_mem_take hv)))
  rw [List.length_map, List.length_take] at h1
  omega

set_option maxHeartbeats 1000000 in
theorem joined_any (xs : List Int) (g c n : Nat) (w : World) (hx : IntsIn w g xs) (hn : n = xs.length) (hl : n ≤ 1000) :
    Calls Tryz.prog 39 #[.slice (some ⟨g, 0, none⟩) n c] w (MkS (Lib.join (xs.map Lib.itoa) [47]) w) := by
  have HX := Lib.hid hx
  have HN := Lib.hid hn
  clear hx hn
  go_enter Tryz.func39, Tryz.ntmps39
  go_wp2_with fail
  go_loopw [3, 4] (fun s i wr => ∃ (k : Nat) (t : ByteArray), i = .int .i64 (k : Int) ∧ s = .string t ∧ k ≤ n ∧ t.size ≤ 21000 ∧ Hid (bs t = Lib.join ((xs.take k).map Lib.itoa) [47]) ∧ Hid (Upd [] [] w wr)) (fun _ i _ => n - (intOf i).toNat)
  case atStart => exact ⟨0, ⟨#[]⟩, rfl, rfl, Nat.zero_le _, by decide, rfl, Upd.refl _ _⟩
  case round =>
    obtain ⟨k, t, rfl, rfl, hk, ht, HT, HUP⟩ := hrel
    by_cases hlt : k < n
    · have hkl : k < xs.length := by have := HN.out; omega
      obtain ⟨x, hx⟩ : ∃ x, xs[k]? = some x := ⟨_, List.getElem?_eq_getElem hkl⟩
      have hi := HX.out.upd HUP.out
      have q1 := hi.2.1 k x hx
      have hxi : i64in x := hi.2.2 x (List.mem_of_getElem? hx)
      have htk : xs.take (k + 1) = xs.take k ++ [x] := by rw [List.take_add_one, hx]; rfl
      have hlen : (Lib.join ((xs.take (k + 1)).map Lib.itoa) [47]).length ≤ 21000 := by
        have := joined_len HX.out.2.2 (k + 1)
        have := HN.out
        omega
      have HTK := Lib.hid htk
      have HLEN := Lib.hid hlen
      have hil := itoa_len x hxi
      have h47 : (ByteArray.mk #[47]).size = 1 := rfl
      clear hx htk hi hlen hkl
      by_cases h0 : k = 0
      · subst h0
        have hte : t = ⟨#[]⟩ := bs_inj (by rw [HT.out]; rfl)
        subst hte
        go_wp2_with fail
        refine (decimal6_any x wr hxi).mono ?_
        rintro e w2 ⟨y, HY, hy, rfl, hu2⟩
        have hy2 : y.size ≤ 20 := by omega
        go_wp2_with fail
        refine ⟨⟨1, y, rfl, by congr 1, by omega, by omega, ?_, HUP.out.trans hu2⟩, by simp [intOf]; omega⟩
        show _ = _
        rw [HTK.out, HY.out]
        simp [Lib.join_one]
      · have hk0 : 0 < k := by omega
        have HK0 := Lib.hid h0
        clear h0
        go_wp2_with fail
        refine (decimal6_any x wr hxi).mono ?_
        rintro e w2 ⟨y, HY, hy, rfl, hu2⟩
        have hy2 : y.size ≤ 20 := by omega
        have hfin : bs (t ++ ⟨#[47]⟩ ++ y) = Lib.join ((xs.take (k + 1)).map Lib.itoa) [47] := by
          have hne : (xs.take k).map Lib.itoa ≠ [] := by
            intro e
            have h1 := congrArg List.length e
            rw [List.length_map, List.length_take] at h1
            simp only [List.length_nil] at h1
            have h2 := HN.out
            have h3 := HK0.out
            omega
          rw [bs_append, bs_append, HT.out, HY.out, HTK.out, List.map_append, List.map_cons, List.map_nil, join_snoc _ _ hne]
          rfl
        have HF := Lib.hid hfin
        clear hfin
        go_wp2_with fail
        exact ⟨⟨k + 1, _, by go_num, rfl, by omega, by rw [bs_size HF.out]; exact HLEN.out, HF.out, HUP.out.trans hu2⟩, by simp [intOf]; omega⟩
    · obtain rfl : k = n := by omega
      have hfin : bs t = Lib.join (xs.map Lib.itoa) [47] := by rw [HT.out, HN.out, List.take_length]
      have HF := Lib.hid hfin
      clear hfin
      go_wp2_with fail
      go_ret
      exact ⟨t, HF.out, Nat.le_of_eq (bs_size HF.out), rfl, HUP.out⟩

theorem rchal_any (xs : List Int) (g c n : Nat) (w : World) (hx : IntsIn w g xs) (hn : n = xs.length) (hl : n ≤ 1000) :
    Calls Tryz.prog 19 #[.slice (some ⟨g, 0, none⟩) n c] w (MkN 1152921504606845789 (eqScal wEqual xs) w) := by
  have hln := joined_len hx.2.2 xs.length
  rw [List.take_length, ← hn] at hln
  have HX := Lib.hid hx
  have HN := Lib.hid hn
  have h6 : (ByteArray.mk #[101, 113, 117, 97, 108, 47]).size = 6 := rfl
  clear hx hn
  go_enter Tryz.func19, Tryz.ntmps19
  go_wp2_with fail
  refine (joined_any xs g c n w HX.out HN.out hl).mono ?_
  rintro e w1 ⟨y, HY, hy, rfl, hu1⟩
  have hy2 : y.size ≤ 21000 := by omega
  go_wp2_with fail
  refine (rScalar_any _ w1 (by rw [ByteArray.size_append, h6]; omega)).mono ?_
  rintro e w2 ⟨r, HR, hr, rfl, hu2⟩
  go_wp2_with fail
  go_ret
  refine ⟨r, ?_, hr, rfl, hu1.trans hu2⟩
  show _ = _
  rw [HR.out, bs_append, HY.out, eqScal, eqText]
  rfl

theorem power6_any (a n : Nat) (w : World) (ha : a ≤ 9223372036854775807) (hn : n ≤ 9223372036854775807) :
    Calls Tryz.prog 40 #[.int .i64 (a : Int), .int .i64 (n : Int)] w (fun e w' => ∃ r : Nat, Hid (r = pP a n) ∧ r < 2305843009213691579 ∧ e = .returned (.int .i64 (r : Int)) ∧ w = w') := by
  go_enter Tryz.func40, Tryz.ntmps40
  go_wp2_with fail
  refine (rPow_n a n _ w ha hn rfl).mono ?_
  rintro e w1 ⟨r, HR, hr, rfl, rfl⟩
  go_wp2_with fail
  go_ret
  exact ⟨r, HR.out, hr, rfl, rfl⟩

theorem rMulP_n (a b : Nat) (w : World) (ha : a ≤ 9223372036854775807) (hb : b ≤ 9223372036854775807) :
    Calls Tryz.prog 32 #[.int .i64 (a : Int), .int .i64 (b : Int), .int .i64 2305843009213691579] w (fun e w' => ∃ r : Nat, Hid (r = a * b % Pn) ∧ r < 2305843009213691579 ∧ e = .returned (.int .i64 (r : Int)) ∧ w = w') := by
  refine (rMul_any a b 2305843009213691579 w (by omega) (by omega) (by omega)).mono ?_
  rintro e w1 ⟨r, HR, r0, r1, rfl, rfl⟩
  obtain ⟨m, rfl⟩ : ∃ m : Nat, r = (m : Int) := ⟨r.toNat, by omega⟩
  refine ⟨m, ?_, by omega, rfl, rfl⟩
  show _ = _
  have h : ((m : Nat) : Int) = ((a * b % Pn : Nat) : Int) := by rw [HR.out]; simp [Pn]
  omega
theorem rMulQ_n (a b : Nat) (w : World) (ha : a ≤ 9223372036854775807) (hb : b ≤ 9223372036854775807) :
    Calls Tryz.prog 32 #[.int .i64 (a : Int), .int .i64 (b : Int), .int .i64 1152921504606845789] w (fun e w' => ∃ r : Nat, Hid (r = a * b % Qn) ∧ r < 1152921504606845789 ∧ e = .returned (.int .i64 (r : Int)) ∧ w = w') := by
  refine (rMul_any a b 1152921504606845789 w (by omega) (by omega) (by omega)).mono ?_
  rintro e w1 ⟨r, HR, r0, r1, rfl, rfl⟩
  obtain ⟨m, rfl⟩ : ∃ m : Nat, r = (m : Int) := ⟨r.toNat, by omega⟩
  refine ⟨m, ?_, by omega, rfl, rfl⟩
  show _ = _
  have h : ((m : Nat) : Int) = ((a * b % Qn : Nat) : Int) := by rw [HR.out]; simp [Qn]
  omega
theorem rAddQ_n (a b : Nat) (w : World) (ha : a ≤ 9223372036854775807) (hb : b ≤ 9223372036854775807) :
    Calls Tryz.prog 41 #[.int .i64 (a : Int), .int .i64 (b : Int), .int .i64 1152921504606845789] w (fun e w' => ∃ r : Nat, Hid (r = (a + b) % Qn) ∧ r < 1152921504606845789 ∧ e = .returned (.int .i64 (r : Int)) ∧ w = w') := by
  refine (rAdd_any a b 1152921504606845789 w (by omega) (by omega) (by omega)).mono ?_
  rintro e w1 ⟨r, HR, r0, r1, rfl, rfl⟩
  obtain ⟨m, rfl⟩ : ∃ m : Nat, r = (m : Int) := ⟨r.toNat, by omega⟩
  refine ⟨m, ?_, by omega, rfl, rfl⟩
  show _ = _
  have h : ((m : Nat) : Int) = (((a + b) % Qn : Nat) : Int) := by rw [HR.out]; simp [Qn]
  omega

set_option maxHeartbeats 2000000 in
theorem proveWith_any (x : Int) (g h k : Nat) (w : World) (hx : -9223372036854775808 ≤ x ∧ x ≤ 9223372036854775807) (hg : g < 2305843009213691579) (hh : h < 2305843009213691579) (hk : k < 1152921504606845789) :
    Calls Tryz.prog 14 #[.int .i64 x, .int .i64 (g : Int), .int .i64 (h : Int), .int .i64 (k : Int)] w (MkPrf (cWith (expN x) g h k) (zWith (expN x) g h k) w) := by
  have h0 := ProofAt.start w 0 0
  go_enter Tryz.func14, Tryz.ntmps14
  go_wp2_with fail
  refine (exponent6_any x _ hx).mono ?_
  rintro e w1 ⟨X, HX, hX, rfl, rfl⟩
  go_wp2_with fail
  refine (power6_any g X _ (by omega) (by omega)).mono ?_
  rintro e w1 ⟨a, HA, ha, rfl, rfl⟩
  go_wp2_with fail
  refine (power6_any h X _ (by omega) (by omega)).mono ?_
  rintro e w1 ⟨b, HB, hb, rfl, rfl⟩
  go_wp2_with fail
  refine (power6_any g k _ (by omega) (by omega)).mono ?_
  rintro e w1 ⟨r, HR, hr, rfl, rfl⟩
  go_wp2_with fail
  refine (power6_any h k _ (by omega) (by omega)).mono ?_
  rintro e w1 ⟨s, HS, hs, rfl, rfl⟩
  have hi := ints6 (w.alloc (.cells #[.int .i64 0, .int .i64 0] 25)) g a h b r s 3 (ipE hg) (ipE ha) (ipE hh) (ipE hb) (ipE hr) (ipE hs)
  have e1 : (w.alloc (.cells #[.int .i64 0, .int .i64 0] 25)).heap.size = w.heap.size + 1 := by simp
  rw [e1] at hi
  have HI := Lib.hid hi
  have h1 := h0.upd ((Upd.refl _ _).alloc (.cells #[.int .i64 (g : Int), .int .i64 (a : Int), .int .i64 (h : Int), .int .i64 (b : Int), .int .i64 (r : Int), .int .i64 (s : Int)] 3))
  clear hi h0 e1
  go_wp2_with fail
  refine (rchal_any [(g : Int), (a : Int), (h : Int), (b : Int), (r : Int), (s : Int)] _ _ 6 _ HI.out rfl (by omega)).mono ?_
  rintro e w2 ⟨c, HC, hc, rfl, hu2⟩
  have h2 := h1.upd hu2
  have hcc : c = cWith (expN x) g h k := by
    rw [HC.out, cWith, chalE, HA.out, HB.out, HR.out, HS.out, HX.out]
  have HCC := Lib.hid hcc
  clear h1 hcc HC HI HA HB HR HS
  go_wp2_with fail
  refine (rMulQ_n c X _ (by omega) (by omega)).mono ?_
  rintro e w3 ⟨m, HM, hm, rfl, rfl⟩
  go_wp2_with fail
  refine (rAddQ_n k m _ (by omega) (by omega)).mono ?_
  rintro e w3 ⟨z, HZ, hz, rfl, rfl⟩
  obtain ⟨k0, k1⟩ := h2.cells
  obtain ⟨f0, f1⟩ := h2.free
  go_wp2_with fail
  refine bodyPost_ret (v := .agg #[.int .i64 (c : Int), .int .i64 (z : Int)]) (by simp [results, Tryz.results14, go_sem, k0, k1]) rfl ⟨c, z, HCC.out, ?_, hc, hz, rfl, ?_⟩
  · show _ = _
    rw [HZ.out, HM.out, zWith, HCC.out, HX.out, Nat.add_mod_mod]
  · exact (h2.up.setNew (p := ⟨_, _, none⟩) (Nat.le_refl _) _).setNew (p := ⟨_, _, none⟩) (Nat.le_refl _) _
end Go.Proofs.YtkhodajdionaaaaGreatDoor
