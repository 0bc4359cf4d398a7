/- The walks of SignKeys, SignSigns, SignMany, SignOne, SignChallenge. -/
import Derived.Test.YtkhodajdionaaaaDoorLawS1
import Derived.Test.YtkhodajdionaaaaDoorRSgnB
namespace Go.Proofs.YtkhodajdionaaaaDoor
open Go.RowKit
set_option maxRecDepth 100000

theorem cut300 (t : ByteArray) : ∃ T : ByteArray, T = t.extract 0 (min (t.size : Int) 300).toNat ∧ T.size ≤ 300 :=
  ⟨_, rfl, by rw [ByteArray.size_extract]; omega⟩

theorem i64p {n : Nat} (h : n < 2305843009213691579) : i64in (n : Int) := ⟨by omega, by omega⟩
theorem i64q {n : Nat} (h : n < 1152921504606845789) : i64in (n : Int) := ⟨by omega, by omega⟩

set_option maxHeartbeats 1000000 in
theorem signKeys_walk (seed : ByteArray) (w : World) (h1 : seed.size ≤ 9223372036854775807) (htab : Tabs w) :
    Calls Tryd.prog 7 #[.string seed] w (TrueMk w) := by
  go_enter Tryd.func7, Tryd.ntmps7
  go_wp2_with fail
  refine (sanityS_any w htab).mono ?_
  rintro e w1 ⟨rfl, hu1⟩
  go_wp2_with fail
  obtain ⟨T, hT, hTs⟩ := cut300 seed
  rw [← hT]
  clear hT
  refine (key_any T w1 (by omega) (htab.upd hu1)).mono ?_
  rintro e w2 ⟨x, p, HX, HP, hx, hp, rfl, hu2⟩
  have u2 := hu1.trans hu2
  go_wp2_with fail
  refine (rkey_any T w2 (by omega)).mono ?_
  rintro e w3 ⟨x', p', HX', HP', hx', hp', rfl, hu3⟩
  obtain rfl : x' = x := HX'.out.trans HX.out.symm
  obtain rfl : p' = p := HP'.out.trans HP.out.symm
  have u3 := u2.trans hu3
  have hx0 : 0 < x' := by rw [HX.out]; exact posN_pos _
  obtain ⟨X, hX⟩ : ∃ X : Int, (x' : Int) = X := ⟨_, rfl⟩
  have hX0 : 0 < X := by omega
  have hX1 : X < 1152921504606845789 := by omega
  have HXL := Lib.hid (And.intro hx hX)
  rw [hX]
  clear hx hx' hX hx0
  go_wp2_with fail
  rw [← HXL.out.2]
  refine (rPow_n 4 x' _ w3 (by omega) (by have := HXL.out.1; omega) rfl).mono ?_
  rintro e w4 ⟨r, HR, hr, rfl, rfl⟩
  obtain rfl : r = p' := by rw [HR.out, HP.out, HX.out, gP]
  go_wp2_with fail
  go_ret
  exact ⟨rfl, u3⟩

set_option maxHeartbeats 1000000 in
theorem signSigns_walk (x : Int) (text : ByteArray) (w : World) (hx : -9223372036854775808 ≤ x ∧ x ≤ 9223372036854775807) (h1 : text.size ≤ 9223372036854775807) (htab : Tabs w) :
    Calls Tryd.prog 8 #[.int .i64 x, .string text] w (TrueMk w) := by
  go_enter Tryd.func8, Tryd.ntmps8
  go_wp2_with fail
  refine (sanityS_any w htab).mono ?_
  rintro e w1 ⟨rfl, hu1⟩
  go_wp2_with fail
  obtain ⟨T, hT, hTs⟩ := cut300 text
  rw [← hT]
  clear hT
  refine (sign_any x T w1 hx (by omega) (htab.upd hu1)).mono ?_
  rintro e w2 ⟨r, s, HR, HS, hr, hs, rfl, hu2⟩
  go_wp2_with fail
  refine (rsign_any x T w2 hx (by omega)).mono ?_
  rintro e w3 ⟨r', s', HR', HS', hr', hs', rfl, hu3⟩
  obtain rfl : r' = r := HR'.out.trans HR.out.symm
  obtain rfl : s' = s := HS'.out.trans HS.out.symm
  go_wp2_with fail
  go_ret
  exact ⟨rfl, (hu1.trans hu2).trans hu3⟩

set_option maxHeartbeats 1000000 in
theorem signMany_walk (x : Int) (text : ByteArray) (n : Int) (w : World) (hx : -9223372036854775808 ≤ x ∧ x ≤ 9223372036854775807) (h1 : text.size ≤ 9223372036854775807) (hn : -9223372036854775808 ≤ n ∧ n ≤ 9223372036854775807) (htab : Tabs w) :
    Calls Tryd.prog 10 #[.int .i64 x, .string text, .int .i64 n] w (TrueMk w) := by
  go_enter Tryd.func10, Tryd.ntmps10
  go_wp2_with fail
  refine (sanityS_any w htab).mono ?_
  rintro e w1 ⟨rfl, hu1⟩
  go_wp2_with fail
  obtain ⟨T, hT, hTs⟩ := cut300 text
  rw [← hT]
  clear hT
  refine (exponent_any n w1 hn).mono ?_
  rintro e w1' ⟨N, HN, hN, rfl, rfl⟩
  go_wp2_with fail
  refine (signWith_any x T N w1 hx (by omega) hN).mono ?_
  rintro e w2 ⟨r, s, HR, HS, hr, hs, rfl, hu2⟩
  have u2 := hu1.trans hu2
  have h4 := (SigAt.start w2 r s).upd (Upd.refl _ _).drew
  have k4 := h4.cells
  have hv : verB (gP (expN x) : Int) (bs T) (r : Int) (s : Int) = true := by
    rw [HR.out, HS.out]
    exact ver_with (expN x) N (bs T)
  have HV := Lib.hid hv
  clear hv
  go_wp2_with fail
  go_region_held3 (fun wp => wp.cell? ⟨w2.heap.size, 0, none⟩ = some (.int .i64 (r : Int)) ∧ wp.cell? ⟨w2.heap.size, 1, none⟩ = some (.int .i64 (s : Int))) (first | exact k4 | assumption)
    (first
      | (go_at_call 35; ((with_reducible refine (public_any x _ hx).mono ?_); rintro e wq ⟨p, HP, hp, rfl, rfl⟩))
      | (go_at_call 32; ((with_reducible refine (verify_is p T r s true _ (i64p hp) (i64p hr) (i64q hs) (by omega) (htab.upd (u2.trans h4.up)) (by rw [HP.out]; exact HV.out)).mono ?_); rintro e wq ⟨rfl, hq⟩; have g1 := h4.upd hq; have kq := g1.cells)))
  go_wp2_with fail
  go_ret
  exact ⟨rfl, u2.trans g1.up⟩

set_option maxHeartbeats 1000000 in
theorem signOne_walk (seed text : ByteArray) (more : Int) (w : World) (h0 : seed.size ≤ 140737488355000) (h1 : text.size ≤ 9223372036854775807) (hm : -9223372036854775808 ≤ more ∧ more ≤ 9223372036854775807) (htab : Tabs w) :
    Calls Tryd.prog 11 #[.string seed, .string text, .int .i64 more] w (TrueMk w) := by
  go_enter Tryd.func11, Tryd.ntmps11
  go_wp2_with fail
  refine (sanityS_any w htab).mono ?_
  rintro e w1 ⟨rfl, hu1⟩
  go_wp2_with fail
  obtain ⟨T, hT, hTs⟩ := cut300 text
  rw [← hT]
  clear hT
  refine (key_any seed w1 h0 (htab.upd hu1)).mono ?_
  rintro e w2 ⟨x, p, HX, HP, hx, hp, rfl, hu2⟩
  have u2 := hu1.trans hu2
  go_wp2_with fail
  refine (sign_any x T w2 (by omega) (by omega) (htab.upd u2)).mono ?_
  rintro e w3 ⟨r, s, HR, HS, hr, hs, rfl, hu3⟩
  have u3 := u2.trans hu3
  have hv : verB (p : Int) (bs T) (r : Int) (s : Int) = true := by
    rw [HR.out, HS.out, HP.out, ← HX.out]
    exact ver_sign x hx (bs T)
  have HV := Lib.hid hv
  clear hv
  have a1 := SigAt.start w3 r s
  have a2 := SigAt.start (w3.alloc (.cells #[.int .i64 r, .int .i64 s] 47)) r s
  have b1 := a1.upd a2.up
  clear a1
  obtain ⟨k0, k1⟩ := b1.cells
  go_wp2_with fail
  refine (rAdd_any _ _ _ _ (by omega) (by omega) (by omega)).mono ?_
  rintro e w4 ⟨m2, HM2, m20, m21, rfl, rfl⟩
  obtain ⟨q, rfl⟩ : ∃ q : Nat, m2 = (q : Int) := ⟨m2.toNat, by omega⟩
  have f1 := a2.free.2
  have j1 := a2.cells
  rw [alloc_sizeW] at f1 j1
  obtain ⟨j0, j1⟩ := j1
  go_wp2_with fail
  have c2 := SigAt.start (w3.alloc (.cells #[.int .i64 r, .int .i64 s] 47)) r q
  have c1 := (SigAt.start w3 r s).upd c2.up
  clear k0 k1 j0 j1 f1 a2 b1
  generalize hw : (w3.alloc (.cells #[.int .i64 r, .int .i64 s] 47)).alloc (.cells #[.int .i64 r, .int .i64 q] 47) = w5 at *
  clear hw
  refine (verify_is p T r s true _ (i64p hp) (i64p hr) (i64q hs) (by omega) (htab.upd (u3.trans c1.up)) HV.out).mono ?_
  rintro e w6 ⟨rfl, hu6⟩
  have d1 := c1.upd hu6
  have d2 := c2.upd hu6
  clear c1 c2
  obtain ⟨k0, k1⟩ := d1.cells
  obtain ⟨j0, j1⟩ := d2.cells
  rw [alloc_sizeW] at j0 j1
  have hq : q < 1152921504606845789 := by omega
  by_cases hqs : q = s
  · subst hqs
    go_wp2_with fail
    go_ret
    exact ⟨rfl, u3.trans d1.up⟩
  · have hb : ((q : Int) == (s : Int)) = false := by rw [beq_eq_false_iff_ne]; omega
    have hb2 : (q == s) = false := by rw [beq_eq_false_iff_ne]; omega
    have hv2 : verB (p : Int) (bs T) (r : Int) (q : Int) = false := by
      cases hh : verB (p : Int) (bs T) (r : Int) (q : Int) with
      | false => rfl
      | true => exact absurd (ver_one hh HV.out) hqs
    have HV2 := Lib.hid hv2
    clear hv2
    go_wp2_with fail
    refine (verify_is p T r q false _ (i64p hp) (i64p hr) (i64q hq) (by omega) (htab.upd (u3.trans d1.up)) HV2.out).mono ?_
    rintro e w7 ⟨rfl, hu7⟩
    go_wp2_with fail
    go_ret
    exact ⟨rfl, (u3.trans d1.up).trans hu7⟩

set_option maxHeartbeats 1000000 in
theorem signChallenge_walk (x : Int) (a b : ByteArray) (w : World) (hx : -9223372036854775808 ≤ x ∧ x ≤ 9223372036854775807) (h1 : a.size ≤ 9223372036854775807) (h2 : b.size ≤ 9223372036854775807) (htab : Tabs w) :
    Calls Tryd.prog 13 #[.int .i64 x, .string a, .string b] w (TrueMk w) := by
  obtain ⟨ma, hma⟩ : ∃ ma : Nat, min (a.size : Int) 300 = (ma : Int) := ⟨(min (a.size : Int) 300).toNat, by omega⟩
  obtain ⟨mb, hmb⟩ : ∃ mb : Nat, min (b.size : Int) 300 = (mb : Int) := ⟨(min (b.size : Int) 300).toNat, by omega⟩
  have la : (ma : Int) ≤ (a.size : Int) := by omega
  have lb : (mb : Int) ≤ (b.size : Int) := by omega
  have la' : ma ≤ a.size := by omega
  have lb' : mb ≤ b.size := by omega
  have ra : ma ≤ 300 := by omega
  have rb : mb ≤ 300 := by omega
  go_enter Tryd.func13, Tryd.ntmps13
  go_wp2_with fail
  refine (sanityS_any w htab).mono ?_
  rintro e w1 ⟨rfl, hu1⟩
  go_wp2_with fail
  go_quiet (fail)
  have hu2 := hu1.drewN nq
  generalize w1.drewN nq = w2 at *
  go_wp2_with fail
  obtain ⟨A, hA⟩ : ∃ A, A = a.extract 0 ma := ⟨_, rfl⟩
  obtain ⟨B, hB⟩ : ∃ B, B = b.extract 0 mb := ⟨_, rfl⟩
  have hAs : A.size ≤ 300 := by rw [hA, ByteArray.size_extract]; omega
  have hBs : B.size ≤ 300 := by rw [hB, ByteArray.size_extract]; omega
  rw [← hA, ← hB]
  clear hA hB hma hmb la lb la' lb' ra rb
  refine (public_any x w2 hx).mono ?_
  rintro e w2' ⟨p, HP, hp, rfl, rfl⟩
  go_wp2_with fail
  refine (sign_any x A w2 hx (by omega) (htab.upd hu2)).mono ?_
  rintro e w3 ⟨r, s, HR, HS, hr, hs, rfl, hu3⟩
  have u3 := hu2.trans hu3
  have hv : verB (p : Int) (bs A) (r : Int) (s : Int) = true := by
    rw [HR.out, HS.out, HP.out]
    exact ver_with (expN x) _ (bs A)
  have HV := Lib.hid hv
  clear hv
  have h4 := (SigAt.start w3 r s).upd (Upd.refl _ _).drew
  have k4 := h4.cells
  go_wp2_with fail
  go_region_held3 (fun wp => wp.cell? ⟨w3.heap.size, 0, none⟩ = some (.int .i64 (r : Int)) ∧ wp.cell? ⟨w3.heap.size, 1, none⟩ = some (.int .i64 (s : Int))) (first | exact k4 | assumption)
    (first
      | (go_at_call 41; ((with_reducible refine (rchallenge_any r p A _ (by omega) (by omega) (by omega)).mono ?_); rintro e wq ⟨c1, HC1, hc1, rfl, hq⟩; have g1 := h4.upd hq; have kq := g1.cells; clear hq))
      | (go_at_call 41; ((with_reducible refine (rchallenge_any r p B _ (by omega) (by omega) (by omega)).mono ?_); rintro e wq ⟨c2, HC2, hc2, rfl, hq⟩; have g2 := g1.upd hq; have kq := g2.cells; clear hq)))
  clear kq k4 h4 g1
  have u5 := u3.trans g2.up
  have h5 := g2.upd (Upd.refl _ _).drew
  have k5 := h5.cells
  obtain ⟨y, hy⟩ : ∃ y : Bool, verB (p : Int) (bs B) (r : Int) (s : Int) = y := ⟨_, rfl⟩
  have HY := Lib.hid hy
  clear hy g2
  go_wp2_with fail
  go_region_held3 (fun wp => wp.cell? ⟨w3.heap.size, 0, none⟩ = some (.int .i64 (r : Int)) ∧ wp.cell? ⟨w3.heap.size, 1, none⟩ = some (.int .i64 (s : Int))) (first | exact k5 | assumption)
    (first
      | (go_at_call 32; ((with_reducible refine (verify_is p A r s true _ (i64p hp) (i64p hr) (i64q hs) (by omega) (htab.upd (u3.trans h5.up)) HV.out).mono ?_); rintro e wq ⟨rfl, hq⟩; have g3 := h5.upd hq; have kq := g3.cells; clear hq))
      | (go_at_call 32; ((with_reducible refine (verify_is p B r s y _ (i64p hp) (i64p hr) (i64q hs) (by omega) (htab.upd (u3.trans g3.up)) HY.out).mono ?_); rintro e wq ⟨rfl, hq⟩; have g4 := g3.upd hq; have kq := g4.cells; clear hq)))
  clear kq k5 h5 g3
  by_cases hcc : c1 = c2
  · have hy : y = true := by
      rw [← HY.out, ← ver_same (p := p) (r := r) (s := s) (t := bs A) (u := bs B) (by rw [← HC1.out, ← HC2.out, hcc]), HV.out]
    subst hcc hy
    go_wp2_with fail
    go_ret
    exact ⟨rfl, u3.trans g4.up⟩
  · have hb : ((c1 : Int) == (c2 : Int)) = false := by rw [beq_eq_false_iff_ne]; omega
    have hb2 : (c1 == c2) = false := by rw [beq_eq_false_iff_ne]; omega
    cases y with
    | false =>
      go_wp2_with fail
      go_ret
      exact ⟨rfl, u3.trans g4.up⟩
    | true =>
      have hp1 : p = 1 := by
        rcases ver_two HV.out HY.out with h | h
        · exact absurd (by rw [HC1.out, HC2.out, h]) hcc
        · exact h
      subst hp1
      go_wp2_with fail
      go_ret
      exact ⟨rfl, u3.trans g4.up⟩
end Go.Proofs.YtkhodajdionaaaaDoor
