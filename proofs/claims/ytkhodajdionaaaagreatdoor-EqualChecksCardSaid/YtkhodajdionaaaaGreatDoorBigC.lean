/- sortesref01: minus, digit, number. -/
import Derived.Test.YtkhodajdionaaaaGreatDoorBigB
namespace Go.Proofs.YtkhodajdionaaaaGreatDoor
open Go.RowKit
set_option maxRecDepth 100000

theorem getD_of {l : List Nat} {k d : Nat} (h : l[k]? = some d) : l.getD k 0 = d := by rw [List.getD_eq_getElem?_getD, h]; rfl
theorem getD_none {l : List Nat} {k : Nat} (h : l.length ≤ k) : l.getD k 0 = 0 := by rw [List.getD_eq_getElem?_getD, List.getElem?_eq_none h]; rfl

set_option maxHeartbeats 4000000 in
theorem minus_any (u v : Value) (x y : Nat) (w : World) (hu : Sl w u (dg x)) (hv : Sl w v (dg y)) (hxy : y ≤ x) (hx : (dg x).length ≤ 1000000000) : Calls Tryz.prog 124 #[u, v] w (fun e w' => ∃ v', Hid (Sl w' v' (dg (x - y))) ∧ e = .returned v' ∧ Upd [] [] w w') := by
  obtain ⟨ao, cap, rfl, hu1, hu2⟩ := hu.form
  obtain ⟨bo, cbp, rfl, hv1, hv2⟩ := hv.form
  have hmn := dg_len_mono hxy
  obtain ⟨n, hn⟩ : ∃ n, n = (dg x).length := ⟨_, rfl⟩
  obtain ⟨m, hm⟩ : ∃ m, m = (dg y).length := ⟨_, rfl⟩
  rw [← hn] at hu1 hu hx
  rw [← hm] at hv1 hv
  rw [← hn, ← hm] at hmn
  rw [← hn, ← hm]
  have HU := Lib.hid hu
  have HVV := Lib.hid hv
  have HN := Lib.hid hn
  have HM := Lib.hid hm
  clear hu hv hn hm
  go_enter Tryz.func124, Tryz.ntmps124
  go_wp2_with fail
  go_loopw [5, 6, 7] (fun o c i wr => ∃ (k b : Nat) (out : List Nat), i = .int .i64 (k : Int) ∧ c = .int .i64 (b : Int) ∧ k ≤ n ∧ b ≤ 1 ∧ Hid (out.length = k ∧ okL out ∧ valL out + valL ((dg y).take k) = valL ((dg x).take k) + 16777216 ^ k * b) ∧ Hid (wr.ownsRow 0 3 1 o k (digVals out)) ∧ Hid (Upd [] (foot o) w wr)) (fun _ _ i _ => n - (intOf i).toNat)
  case atStart => exact ⟨0, 0, [], rfl, rfl, Nat.zero_le _, by omega, ⟨rfl, okL_nil, by simp [valL]⟩, ⟨by simp [digVals], .inl ⟨rfl, rfl⟩⟩, Upd.refl _ _⟩
  case round =>
    obtain ⟨k, b, out, rfl, rfl, hk, hb, HI, HR, HUP⟩ := hrel
    have hup0 : Upd [] [] w wr := HUP.out.mono (fun _ h => h) (fun _ h => absurd h (by simp))
    by_cases hlt : k < n
    · have hkx : k < (dg x).length := by rw [← HN.out]; exact hlt
      obtain ⟨a, ha⟩ : ∃ a, (dg x)[k]? = some a := ⟨_, List.getElem?_eq_getElem hkx⟩
      have ha2 : a < 16777216 := dg_ok x a (List.mem_of_getElem? ha)
      obtain ⟨g1, rfl, c1⟩ := (HU.out.upd hup0).get ha
      have HA := Lib.hid ha
      clear ha hkx
      by_cases hkm : k < m
      · have hky : k < (dg y).length := by rw [← HM.out]; exact hkm
        obtain ⟨c, hc⟩ : ∃ c, (dg y)[k]? = some c := ⟨_, List.getElem?_eq_getElem hky⟩
        have hc2 : c < 16777216 := dg_ok y c (List.mem_of_getElem? hc)
        obtain ⟨g2, rfl, c2⟩ := (HVV.out.upd hup0).get hc
        have HC := Lib.hid (getD_of hc)
        clear hc hky
        by_cases hneg : (a : Int) - (b : Int) - (c : Int) < 0
        · obtain ⟨r, hr⟩ : ∃ r : Nat, (a : Int) - (b : Int) - (c : Int) + 16777216 = (r : Int) := ⟨a + 16777216 - b - c, by omega⟩
          have hr2 : r < 16777216 := by omega
          have hst := minus_step HA.out HI.out.1 HI.out.2.2 (r := r) (b' := 1) (by rw [HC.out]; omega)
          obtain ⟨v', w', hrun, hown', hup'⟩ := append_int wr _ k _ (r : Int) HR.out (by omega)
          rw [← digVals_snoc] at hown'
          have hl : (out ++ [r]).length = k + 1 := by rw [List.length_append, HI.out.1]; rfl
          have HRUN := Lib.hid hrun
          have HOWN := Lib.hid hown'
          have HUPP := Lib.hid (HUP.out.trans hup')
          have HST := Lib.hid (And.intro hl (And.intro (okL_snoc HI.out.2.1 hr2) hst))
          clear hst hrun hown' hup' HUP HR hl
          go_wp2_with (refine wpList_append_run _ rfl _ _ _ _ rfl _ _ v' w' rfl rfl HRUN.out ?_)
          exact ⟨⟨k + 1, 1, out ++ [r], by go_num, rfl, by omega, by omega, HST.out, HOWN.out, HUPP.out⟩, by simp [intOf]; omega⟩
        · obtain ⟨r, hr⟩ : ∃ r : Nat, (a : Int) - (b : Int) - (c : Int) = (r : Int) := ⟨a - b - c, by omega⟩
          have hr2 : r < 16777216 := by omega
          have hst := minus_step HA.out HI.out.1 HI.out.2.2 (r := r) (b' := 0) (by rw [HC.out]; omega)
          obtain ⟨v', w', hrun, hown', hup'⟩ := append_int wr _ k _ (r : Int) HR.out (by omega)
          rw [← digVals_snoc] at hown'
          have hl : (out ++ [r]).length = k + 1 := by rw [List.length_append, HI.out.1]; rfl
          have HRUN := Lib.hid hrun
          have HOWN := Lib.hid hown'
          have HUPP := Lib.hid (HUP.out.trans hup')
          have HST := Lib.hid (And.intro hl (And.intro (okL_snoc HI.out.2.1 hr2) hst))
          clear hst hrun hown' hup' HUP HR hl hneg
          go_wp2_with (refine wpList_append_run _ rfl _ _ _ _ rfl _ _ v' w' rfl rfl HRUN.out ?_)
          exact ⟨⟨k + 1, 0, out ++ [r], by go_num, rfl, by omega, by omega, HST.out, HOWN.out, HUPP.out⟩, by simp [intOf]; omega⟩
      · have HC := Lib.hid (getD_none (l := dg y) (k := k) (by rw [← HM.out]; omega))
        by_cases hneg : (a : Int) - (b : Int) < 0
        · obtain ⟨r, hr⟩ : ∃ r : Nat, (a : Int) - (b : Int) + 16777216 = (r : Int) := ⟨a + 16777216 - b, by omega⟩
          have hr2 : r < 16777216 := by omega
          have hst := minus_step HA.out HI.out.1 HI.out.2.2 (r := r) (b' := 1) (by rw [HC.out]; omega)
          obtain ⟨v', w', hrun, hown', hup'⟩ := append_int wr _ k _ (r : Int) HR.out (by omega)
          rw [← digVals_snoc] at hown'
          have hl : (out ++ [r]).length = k + 1 := by rw [List.length_append, HI.out.1]; rfl
          have HRUN := Lib.hid hrun
          have HOWN := Lib.hid hown'
          have HUPP := Lib.hid (HUP.out.trans hup')
          have HST := Lib.hid (And.intro hl (And.intro (okL_snoc HI.out.2.1 hr2) hst))
          clear hst hrun hown' hup' HUP HR hl
          go_wp2_with (refine wpList_append_run _ rfl _ _ _ _ rfl _ _ v' w' rfl rfl HRUN.out ?_)
          exact ⟨⟨k + 1, 1, out ++ [r], by go_num, rfl, by omega, by omega, HST.out, HOWN.out, HUPP.out⟩, by simp [intOf]; omega⟩
        · obtain ⟨r, hr⟩ : ∃ r : Nat, (a : Int) - (b : Int) = (r : Int) := ⟨a - b, by omega⟩
          have hr2 : r < 16777216 := by omega
          have hst := minus_step HA.out HI.out.1 HI.out.2.2 (r := r) (b' := 0) (by rw [HC.out]; omega)
          obtain ⟨v', w', hrun, hown', hup'⟩ := append_int wr _ k _ (r : Int) HR.out (by omega)
          rw [← digVals_snoc] at hown'
          have hl : (out ++ [r]).length = k + 1 := by rw [List.length_append, HI.out.1]; rfl
          have HRUN := Lib.hid hrun
          have HOWN := Lib.hid hown'
          have HUPP := Lib.hid (HUP.out.trans hup')
          have HST := Lib.hid (And.intro hl (And.intro (okL_snoc HI.out.2.1 hr2) hst))
          clear hst hrun hown' hup' HUP HR hl hneg
          go_wp2_with (refine wpList_append_run _ rfl _ _ _ _ rfl _ _ v' w' rfl rfl HRUN.out ?_)
          exact ⟨⟨k + 1, 0, out ++ [r], by go_num, rfl, by omega, by omega, HST.out, HOWN.out, HUPP.out⟩, by simp [intOf]; omega⟩
    · obtain rfl : k = n := by omega
      have hv : valL out = x - y := by
        have h := HI.out.2.2
        rw [HN.out] at h
        have := minus_end (by rw [HI.out.1, HN.out]) HI.out.2.1 (dg_len_mono hxy) (by rw [valL_dg, valL_dg]; exact hxy) h
        rwa [valL_dg, valL_dg] at this
      have hown := HR.out
      rw [← HI.out.1] at hown
      have HSL := Lib.hid (Sl.of_row hown)
      have HV := Lib.hid hv
      clear hown hv hlt
      go_wp2_with fail
      refine (trim_any _ _ _ HSL.out HI.out.2.1).mono ?_
      rintro e w2 ⟨v2, HV2, rfl, rfl⟩
      go_wp2_with fail
      go_ret
      refine ⟨v2, ?_, rfl, hup0⟩
      show Sl _ _ _
      rw [← HV.out]
      exact HV2.out

set_option maxHeartbeats 1000000 in
theorem digit_any (u v : Value) (x y : Nat) (w : World) (hu : Sl w u (dg x)) (hv : Sl w v (dg y)) (hy : 0 < y) (hq : x / y < 16777216) (hl : (dg y).length ≤ 1000000000) : Calls Tryz.prog 123 #[u, v] w (fun e w' => ∃ r : Nat, Hid (r = x / y) ∧ r < 16777216 ∧ e = .returned (.int .i64 (r : Int)) ∧ Upd [] [] w w') := by
  obtain ⟨q, hqq⟩ : ∃ q, q = x / y := ⟨_, rfl⟩
  rw [← hqq] at hq
  rw [← hqq]
  have HU := Lib.hid hu
  have HV := Lib.hid hv
  have HQ := Lib.hid hqq
  have HL := Lib.hid hl
  clear hu hv hqq hl
  go_enter Tryz.func123, Tryz.ntmps123
  go_wp2_with fail
  go_loopw [5, 6] (fun a b wr => ∃ lo hi : Nat, a = .int .i64 (lo : Int) ∧ b = .int .i64 (hi : Int) ∧ lo ≤ q ∧ q ≤ hi ∧ hi ≤ 16777215 ∧ Hid (Upd [] [] w wr)) (fun a b _ => (intOf b).toNat - (intOf a).toNat)
  case atStart => exact ⟨0, 16777215, rfl, rfl, Nat.zero_le _, by omega, Nat.le_refl _, Upd.refl _ _⟩
  case round =>
    obtain ⟨lo, hi, rfl, rfl, h1, h2, h3, HUP⟩ := hrel
    by_cases hlt : lo < hi
    · obtain ⟨m, hm⟩ : ∃ m : Nat, ((lo : Int) + (hi : Int) + 1) / 2 = (m : Int) := ⟨(lo + hi + 1) / 2, by omega⟩
      have hm1 : lo < m := by omega
      have hm2 : m ≤ hi := by omega
      go_wp2_with fail
      refine (times_any v y m wr (HV.out.upd HUP.out) (by omega) HL.out).mono ?_
      rintro e w2 ⟨v2, HV2, rfl, hu2⟩
      have HUP2 := Lib.hid (HUP.out.trans hu2)
      clear HUP hu2
      go_wp2_with fail
      refine (cmp_any v2 u (y * m) x w2 HV2.out (HU.out.upd HUP2.out)).mono ?_
      rintro e w3 ⟨r, HR, hr, rfl, hu3⟩
      have HUP3 := Lib.hid (HUP2.out.trans hu3)
      clear HUP2 hu3
      by_cases hr0 : r ≤ 0
      · have hle : y * m ≤ x := by
          have := HR.out.2
          omega
        have hmq : m ≤ q := by rw [HQ.out]; exact digit_low hy hle
        clear hle
        go_wp2_with fail
        exact ⟨⟨m, hi, rfl, rfl, hmq, h2, h3, HUP3.out⟩, by simp [intOf]; omega⟩
      · have hgt : x < y * m := HR.out.2.1 (by omega)
        have hmq : q < m := by rw [HQ.out]; exact digit_high hy hgt
        clear hgt
        go_wp2_with fail
        exact ⟨⟨lo, m - 1, rfl, by congr 1; omega, h1, by omega, by omega, HUP3.out⟩, by simp [intOf]; omega⟩
    · obtain rfl : lo = hi := by omega
      obtain rfl : q = lo := by omega
      go_wp2_with fail
      go_ret
      exact ⟨_, rfl, hq, rfl, HUP.out⟩
end Go.Proofs.YtkhodajdionaaaaGreatDoor
