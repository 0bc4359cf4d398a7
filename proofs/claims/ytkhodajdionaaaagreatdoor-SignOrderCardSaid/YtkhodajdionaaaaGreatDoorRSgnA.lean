/- sortesref04.number, Scalar, Member; sortesref05.Bytes, Exponent, positive, Public, Key, Challenge, SignWith, Sign, Verify. -/
import Derived.Test.YtkhodajdionaaaaGreatDoorRShaC
import Derived.Test.YtkhodajdionaaaaGreatDoorGrpB
import Derived.Test.YtkhodajdionaaaaGreatDoorSgnC
namespace Go.Proofs.YtkhodajdionaaaaGreatDoor
open Go.RowKit
set_option maxRecDepth 100000

theorem acc_step (a b M : Nat) (hb : b < 256) (hM : 0 < M) : (a * 256 + b) % (M * 256) = (a % M) * 256 + b := by
  have h1 := Nat.div_add_mod a M
  have h2 := Nat.mod_lt a hM
  have e : a * 256 + b = (a % M * 256 + b) + M * 256 * (a / M) := by
    have : a * 256 = M * (a / M) * 256 + a % M * 256 := by rw [← Nat.add_mul, h1]
    rw [this, Nat.mul_right_comm]
    omega
  rw [e, Nat.add_mul_mod_self_left, Nat.mod_eq_of_lt]
  have : (a % M + 1) * 256 ≤ M * 256 := Nat.mul_le_mul_right _ h2
  omega
/-- The number of the first k bytes, the first one modulo 128. -/
def accR (h : List UInt8) (k : Nat) : Nat := acc8 h k % (128 * 256 ^ (k - 1))
theorem accR_step (h : List UInt8) (k : Nat) (hk : 1 ≤ k) : accR h (k + 1) = accR h k * 256 + (h.getD k 0).toNat := by
  unfold accR
  have hb := (h.getD k 0).toNat_lt
  have hM : 0 < 128 * 256 ^ (k - 1) := Nat.mul_pos (by omega) (Nat.pow_pos (by omega))
  have e : 128 * 256 ^ (k + 1 - 1) = (128 * 256 ^ (k - 1)) * 256 := by
    rw [Nat.mul_assoc, ← Nat.pow_succ]
    congr 2
    omega
  rw [e, acc8, acc_step _ _ _ (by omega) hM]
theorem accR_one (h : List UInt8) : accR h 1 = (h.getD 0 0).toNat % 128 := by
  unfold accR
  simp [acc8]
theorem accR_lt (h : List UInt8) (k : Nat) : accR h k < 128 * 256 ^ (k - 1) := Nat.mod_lt _ (Nat.mul_pos (by omega) (Nat.pow_pos (by omega)))
theorem accR_all (h : List UInt8) : accR h 8 = numN h := rfl

set_option maxHeartbeats 1000000 in
theorem rnumber_any (h : List UInt8) (hl : h.length = 32) (w : World) :
    Calls Tryz.prog 71 #[.agg (byteVals h).toArray] w (MkN 9223372036854775808 (numN h) w) := by
  obtain ⟨cs, hcs⟩ : ∃ cs : Array Value, cs = (byteVals h).toArray := ⟨_, rfl⟩
  rw [← hcs]
  have hcell : ∀ k, k < 32 → (w.alloc (.cells cs 98)).cell? ⟨w.heap.size, k, none⟩ = some (.int .u8 ((h.getD k 0).toNat : Int)) := by
    intro k hk
    rw [cell_of_row _ w.heap.size k cs 98 (0, 0) (heap_alloc_new _ _), hcs]
    simp [byteVals, byteV, List.getD, show k < h.length by omega]
  have HCELL := Lib.hid hcell
  have HCS := Lib.hid hcs
  have hu0 : Upd [] [] w (w.alloc (.cells cs 98)) := (Upd.refl _ _).alloc _
  have c0 := hcell 0 (by omega)
  obtain ⟨B0, hB0⟩ : ∃ b, b = h.getD 0 0 := ⟨_, rfl⟩
  rw [← hB0] at c0
  have b0 := B0.toNat_lt
  have HB0 := Lib.hid hB0
  clear hcell hcs hB0
  go_enter Tryz.func71, Tryz.ntmps71
  go_wp2_with fail
  generalize w.alloc (.cells cs 98) = W at *
  clear c0
  have hz1 : B0.toNat % 128 < 128 := Nat.mod_lt _ (by omega)
  go_loop [3, 4] (fun n i => ∃ (k z : Nat), i = .int .i64 (k : Int) ∧ 1 ≤ k ∧ k ≤ 8 ∧ n = .int .i64 (z : Int) ∧ Hid (z = accR h k)) (fun _ i => 8 - (intOf i).toNat)
  case atStart => exact ⟨1, B0.toNat % 128, rfl, by omega, by omega, by first | rfl | simp, by show _ = _; rw [accR_one h, HB0.out]⟩
  case round =>
    clear hz1 b0
    obtain ⟨k, z, rfl, hk1, hk, rfl, HZ⟩ := hrel
    by_cases hlt : k < 8
    · have c := HCELL.out k (by omega)
      have hst := accR_step h k hk1
      obtain ⟨b, hb⟩ : ∃ b, b = h.getD k 0 := ⟨_, rfl⟩
      rw [← hb] at c hst
      have hb8 := b.toNat_lt
      have hz : z < 36028797018963968 := by
        have h1 := accR_lt h k
        rw [← HZ.out] at h1
        have : 256 ^ (k - 1) ≤ 256 ^ 6 := Nat.pow_le_pow_right (by omega) (by omega)
        have e : (256 : Nat) ^ 6 = 281474976710656 := by decide
        omega
      have HST := Lib.hid hst
      clear hb hst
      have k8 : (k : Int) < 32 := by omega
      go_wp2_with fail
      exact ⟨⟨k + 1, z * 256 + b.toNat, by go_num, by omega, by omega, by go_num, by show _ = _; rw [HST.out, HZ.out]⟩, by simp [intOf]; omega⟩
    · have hk8 : k = 8 := by omega
      have hki : (k : Int) = 8 := by omega
      rw [hk8] at HZ
      rw [hki]
      clear hlt hk hk1 hk8 hki
      have hzl : z < 9223372036854775808 := by
        have h1 := accR_lt h 8
        rw [← HZ.out] at h1
        have e : (128 : Nat) * 256 ^ (8 - 1) = 9223372036854775808 := by decide
        omega
      go_wp2_with fail
      go_ret
      exact ⟨z, by show _ = _; rw [HZ.out, accR_all], hzl, rfl, hu0⟩

theorem exponent_any (x : Int) (w : World) (_hx : -9223372036854775808 ≤ x ∧ x ≤ 9223372036854775807) :
    Calls Tryz.prog 52 #[.int .i64 x] w (fun e w' => ∃ r : Nat, Hid (r = expN x) ∧ r < 1152921504606845789 ∧ e = .returned (.int .i64 (r : Int)) ∧ w = w') := by
  have e1 := Int.tmod_eq_emod (a := x) (b := 1152921504606845789)
  have e2 := expN_cast x
  have H1 := Lib.hid (And.intro e1 e2)
  clear e1 e2
  have hlt := expN_lt x
  go_enter Tryz.func52, Tryz.ntmps52
  go_wp2_with fail
  all_goals go_ret
  all_goals refine ⟨expN x, rfl, hlt, ret_i64 ?_, rfl⟩
  all_goals have h := H1.out
  all_goals obtain ⟨h1, h2⟩ := h
  all_goals first | simp only [wrap64] | skip
  all_goals split at h1 <;> omega

theorem u8_parts : ∃ i, Tryz.prog.info? 5 = some i ∧ i.zero = some (.int .u8 0) ∧ i.size = 1 ∧ i.bytes = 1 := by
  have h : (Tryz.prog.info? 5).map (fun i => (i.zero, i.size, i.bytes)) = some (some (.int .u8 0), 1, 1) := by kernel_rfl
  obtain ⟨i, hi, he⟩ := Option.map_eq_some_iff.1 h
  simp only [Prod.mk.injEq] at he
  exact ⟨i, hi, he.1, he.2.1, he.2.2⟩

set_option maxHeartbeats 1000000 in
theorem rBytes_any (n : Nat) (w : World) (_hn : n ≤ 9223372036854775807) : Calls Tryz.prog 54 #[.int .i64 (n : Int)] w (MkS (len8 n) w) := by
  go_enter Tryz.func54, Tryz.ntmps54
  go_wp2_with fail
  go_loopw [3, 4] (fun t i wr => ∃ (k : Nat) (z : Int), i = .int .i64 z ∧ z = 7 - (k : Int) ∧ k ≤ 8 ∧ Hid (wr.ownsRow 0 5 1 t k (byteVals ((len8 n).take k))) ∧ Hid (Upd [] (foot t) w wr)) (fun _ i _ => (intOf i + 1).toNat)
  case atStart => exact ⟨0, 7, rfl, rfl, Nat.zero_le _, ⟨by simp [byteVals], .inl ⟨rfl, rfl⟩⟩, Upd.refl _ _⟩
  case round =>
    obtain ⟨k, z, rfl, hz, hk, HR, HU⟩ := hrel
    by_cases hlt : k < 8
    · obtain ⟨m, rfl⟩ : ∃ m : Nat, z = (m : Int) := ⟨7 - k, by omega⟩
      obtain ⟨b, hb⟩ : ∃ b, b = UInt8.ofNat (n / 2 ^ (8 * m)) := ⟨_, rfl⟩
      have hb1 : (n : Int) / 2 ^ (8 * m) % 256 = (b.toNat : Int) := by
        have : (UInt8.ofNat (n / 2 ^ (8 * m))).toNat = n / 2 ^ (8 * m) % 256 := by simp
        rw [hb, this]
        simp
      have hm7 : m ≤ 7 := by omega
      have hl : (len8 n).take (k + 1) = (len8 n).take k ++ [b] := by
        rw [List.take_succ_eq_append_getElem (by rw [len8_length]; omega)]
        congr 1
        rw [hb]
        have hm : m = 7 - k := by omega
        simp [len8, hm]
      have HL := Lib.hid hl
      have HMZ := Lib.hid hz
      have hown := HR.out
      have hup := HU.out
      have hrow : (wr.alloc (.cells #[.int .u8 (b.toNat : Int)] 5)).ownsRow 0 5 1 u3 k (byteVals ((len8 n).take k)) := row_same hown (fun j hj => Below.heap_alloc _ _ _ (row_foot_lt hown j hj))
      have hw1 : (wr.alloc (.cells #[.int .u8 (b.toNat : Int)] 5)).heap[wr.heap.size]? = some (.cells #[.int .u8 (b.toNat : Int)] 5 (0, 0)) := heap_alloc_new _ _
      obtain ⟨iu, u1, u2, u3', u4⟩ := u8_parts
      obtain ⟨v', w', hrun, hown', hup'⟩ := append_block (P := Tryz.prog) (wr.alloc (.cells #[.int .u8 (b.toNat : Int)] 5)) 100 100 5 iu (.int .u8 0) 1 1 Tryz.underlying100 u1 u2 u3' u4 rfl (by omega) u3 k _ hrow ⟨wr.heap.size, 0, none⟩ 1 1 [byteV b] rfl (by
        intro j u hj
        have : j = 0 := by
          cases j with
          | zero => rfl
          | succ j => simp at hj
        subst this
        simp only [List.getElem?_cons_zero, Option.some.injEq] at hj
        subst hj
        have e : (⟨wr.heap.size, 0, none⟩ : Addr).add 0 = ⟨wr.heap.size, 0, none⟩ := by simp [Addr.add]
        rw [e, cell_of_row _ _ _ _ _ _ hw1]
        rfl) (byteVals_one [b]) (by omega) (by simp only [maxLen]; omega)
      have HRUN := Lib.hid hrun
      have HOWN := Lib.hid hown'
      have HUP := Lib.hid ((hup.alloc (.cells #[.int .u8 (b.toNat : Int)] 5)).trans hup')
      clear u1 u2 u3' u4
      clear hb hz hl hown hup hrow hw1 hrun hown' hup' HR HU
      go_wp2_with (refine wpList_append_run _ rfl _ _ _ _ rfl _ _ v' w' rfl rfl HRUN.out ?_)
      refine ⟨⟨k + 1, _, rfl, ?_, by omega, ?_, HUP.out⟩, ?_⟩
      · have := HMZ.out; omega
      · show World.ownsRow _ _ _ _ _ _ _
        rw [HL.out, byteVals_append]
        exact HOWN.out
      · first | (simp [intOf]; done) | (simp [intOf]; omega)
    · obtain rfl : z = -1 := by omega
      have hk8 : k = 8 := by omega
      have hown := HR.out
      rw [hk8, List.take_of_length_le (by rw [len8_length]; omega)] at hown
      have hcv := conv_row (P := Tryz.prog) wr 100 9 5 Tryz.underlying100 Tryz.underlying5 Tryz.underlying9 u3 (len8 n) (by rw [len8_length]; exact hown)
      have HCV := Lib.hid hcv
      clear hlt hz hk hk8 hown hcv HR
      go_wp2_with fail
      rw [HCV.out]
      go_wp2_with fail
      go_ret
      exact ⟨⟨(len8 n).toArray⟩, rfl, Nat.le_refl _, rfl, HU.out.mono (fun _ h => h) (fun _ h => absurd h (by simp))⟩

theorem rScalar_any (s : ByteArray) (w : World) (hs : s.size ≤ 281474976710000) :
    Calls Tryz.prog 38 #[.string s] w (MkN 1152921504606845789 (scalN (bs s)) w) := by
  go_enter Tryz.func38, Tryz.ntmps38
  go_wp2_with fail
  refine (rsum_any _ w (by have : (ByteArray.mk #[115, 47]).size = 2 := rfl; simp [ByteArray.size_append]; omega)).mono ?_
  rintro e w1 ⟨rfl, hu1⟩
  have hb : bs (⟨#[115, 47]⟩ ++ s) = [115, 47] ++ bs s := by rw [bs_append]; rfl
  rw [hb]
  clear hb
  obtain ⟨h, hh⟩ : ∃ h, h = sha ([115, 47] ++ bs s) := ⟨_, rfl⟩
  have hl : h.length = 32 := by rw [hh, sha_length]
  rw [← hh]
  obtain ⟨cs, hcs⟩ : ∃ cs : Array Value, cs = (byteVals h).toArray := ⟨_, rfl⟩
  rw [← hcs]
  have HH := Lib.hid hh
  have HL := Lib.hid hl
  have HCS := Lib.hid hcs
  clear hh hl hcs
  go_wp2_with fail
  rw [HCS.out]
  refine (rnumber_any h HL.out w1).mono ?_
  rintro e w2 ⟨r, HR, hr, rfl, hu2⟩
  go_wp2_with fail
  go_ret
  refine ⟨r % 1152921504606845789, ?_, Nat.mod_lt _ (by omega), ?_, hu1.trans hu2⟩
  · show _ = _
    rw [scalN, HR.out, HH.out]
  · first | rfl | simp

theorem rpositive_any (s : ByteArray) (w : World) (hs : s.size ≤ 281474976710000) :
    Calls Tryz.prog 53 #[.string s] w (fun e w' => ∃ r : Nat, Hid (r = posN (scalN (bs s))) ∧ 0 < r ∧ r < 1152921504606845789 ∧ e = .returned (.int .i64 (r : Int)) ∧ Upd [] [] w w') := by
  go_enter Tryz.func53, Tryz.ntmps53
  go_wp2_with fail
  refine (rScalar_any s w hs).mono ?_
  rintro e w1 ⟨r, HR, hr, rfl, hu⟩
  go_wp2_with fail
  go_ret
  have hp : posN r = max r 1 := by unfold posN; split <;> omega
  refine ⟨posN r, by show _ = _; rw [HR.out], posN_pos r, posN_lt hr, ?_, hu⟩
  exact ret_i64 (by rw [hp]; omega)

theorem rPow_n (a n : Nat) (m : Int) (w : World) (ha : a ≤ 9223372036854775807) (hn : n ≤ 9223372036854775807) (hm : m = 2305843009213691579) :
    Calls Tryz.prog 51 #[.int .i64 (a : Int), .int .i64 (n : Int), .int .i64 m] w (fun e w' => ∃ r : Nat, Hid (r = a ^ n % Pn) ∧ r < 2305843009213691579 ∧ e = .returned (.int .i64 (r : Int)) ∧ w = w') := by
  subst hm
  refine (rPow_any a 2305843009213691579 n w (by omega) hn (by omega)).mono ?_
  rintro e w1 ⟨r, HR, r0, r1, rfl, rfl⟩
  obtain ⟨m, rfl⟩ : ∃ m : Nat, r = (m : Int) := ⟨r.toNat, by omega⟩
  refine ⟨m, ?_, by omega, rfl, rfl⟩
  show _ = _
  have h := HR.out
  rw [powZ_cast] at h
  omega

theorem public_any (x : Int) (w : World) (hx : -9223372036854775808 ≤ x ∧ x ≤ 9223372036854775807) :
    Calls Tryz.prog 21 #[.int .i64 x] w (fun e w' => ∃ r : Nat, Hid (r = gP (expN x)) ∧ r < 2305843009213691579 ∧ e = .returned (.int .i64 (r : Int)) ∧ w = w') := by
  go_enter Tryz.func21, Tryz.ntmps21
  go_wp2_with fail
  refine (exponent_any x w hx).mono ?_
  rintro e w1 ⟨n, HN, hn, rfl, rfl⟩
  go_wp2_with fail
  refine (rPow_n 4 n _ w (by omega) (by omega) rfl).mono ?_
  rintro e w1 ⟨r, HR, hr, rfl, rfl⟩
  go_wp2_with fail
  go_ret
  exact ⟨r, by show _ = _; rw [HR.out, HN.out, gP], hr, rfl, rfl⟩

theorem rkey_any (s : ByteArray) (w : World) (hs : s.size ≤ 140737488355000) :
    Calls Tryz.prog 59 #[.string s] w (MkTwo 1152921504606845789 2305843009213691579 (keyN (bs s)) (gP (keyN (bs s))) w) := by
  go_enter Tryz.func59, Tryz.ntmps59
  go_wp2_with fail
  refine (rpositive_any _ w (by have : (ByteArray.mk #[107]).size = 1 := rfl; simp [ByteArray.size_append]; omega)).mono ?_
  rintro e w1 ⟨r, HR, hr0, hr, rfl, hu1⟩
  have e1 : r = keyN (bs s) := by
    rw [HR.out, bs_append, keyN]
    rfl
  have HE := Lib.hid e1
  clear e1
  go_wp2_with fail
  refine (public_any r w1 (by omega)).mono ?_
  rintro e w2 ⟨y, HY, hy, rfl, rfl⟩
  go_wp2_with fail
  go_ret2
  have e2 : expN (r : Int) = r := expN_of hr
  exact ⟨r, y, HE.out, by show _ = _; rw [HY.out, e2, HE.out], hr, hy, rfl, hu1⟩

theorem rchallenge_any (r p : Nat) (t : ByteArray) (w : World) (hr : r ≤ 9223372036854775807) (hp : p ≤ 9223372036854775807) (ht : t.size ≤ 140737488355000) :
    Calls Tryz.prog 58 #[.int .i64 (r : Int), .int .i64 (p : Int), .string t] w (MkN 1152921504606845789 (chalN r p (bs t)) w) := by
  have h99 : (ByteArray.mk #[99]).size = 1 := rfl
  go_enter Tryz.func58, Tryz.ntmps58
  go_wp2_with fail
  refine (rBytes_any r w hr).mono ?_
  rintro e w1 ⟨b1, HB1, b1l, rfl, hu1⟩
  rw [len8_length] at b1l
  go_wp2_with fail
  refine (rBytes_any p w1 hp).mono ?_
  rintro e w2 ⟨b2, HB2, b2l, rfl, hu2⟩
  rw [len8_length] at b2l
  have hu := hu1.trans hu2
  go_wp2_with fail
  refine (rScalar_any _ w2 (by simp [ByteArray.size_append]; omega)).mono ?_
  rintro e w3 ⟨c, HC, hc, rfl, hu3⟩
  go_wp2_with fail
  go_ret
  refine ⟨c, ?_, hc, rfl, hu.trans hu3⟩
  show _ = _
  rw [HC.out, bs_append, bs_append, bs_append, HB1.out, HB2.out, chalN]
  rfl
end Go.Proofs.YtkhodajdionaaaaGreatDoor
