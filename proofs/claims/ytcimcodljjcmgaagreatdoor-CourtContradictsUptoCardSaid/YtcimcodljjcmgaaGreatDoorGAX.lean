/- sortesref01.Parse at any text. -/
import Derived.Test.YtcimcodljjcmgaaGreatDoorGAA
import Derived.Test.YtcimcodljjcmgaaGreatDoorGAV
import Derived.Test.YtcimcodljjcmgaaGreatDoorGAW
namespace Go.Proofs.YtcimcodljjcmgaaGreatDoor
open Go.RowKit
set_option maxRecDepth 100000

theorem be_short8 {u : Nat} (h : u ≤ 9223372036854775808) : (be u).length ≤ 8 := be_len_le 8 u (Nat.lt_of_le_of_lt h (by decide))
def MkPar (l : List UInt8) (w : World) (e : Ending) (w' : World) : Prop := ∃ (r : ByteArray) (ok : Bool), Hid (ParR l r ok) ∧ r.size ≤ 20000000 ∧ e = .returned (.tuple #[.string r, .bool ok]) ∧ Upd [] [] w w'
theorem MkPar.bad {l : List UInt8} {w : World} (h : ∀ r, ParR l r false) : MkPar l w (.returned (.tuple #[.string ⟨#[]⟩, .bool false])) w := ⟨_, false, h _, Nat.zero_le _, rfl, Upd.refl _ _⟩
theorem isDig_take {l : List UInt8} {k : Nat} {c : UInt8} (h : isDig (l.take k)) (hc : l[k]? = some c) (h1 : 48 ≤ c.toNat) (h2 : c.toNat ≤ 57) : isDig (l.take (k + 1)) ∧ valD (l.take (k + 1)) = valD (l.take k) * 10 + (c.toNat - 48) := by
  have e : l.take (k + 1) = l.take k ++ [c] := by rw [List.take_add_one, hc]; rfl
  rw [e]
  refine ⟨fun x hx => ?_, valD_snoc _ _⟩
  rw [List.mem_append, List.mem_singleton] at hx
  rcases hx with hx | rfl
  · exact h x hx
  · exact ⟨h1, h2⟩
set_option maxHeartbeats 2000000 in
theorem parse_any (s : ByteArray) (w : World) (hs : s.size ≤ 1999990) : Calls Tryz.prog 105 #[.string s] w (MkPar (bs s) w) := by
  by_cases hne : 0 < s.size
  case neg =>
    have h0 : s.size = 0 := by omega
    have HB : Hid (∀ r, ParR (bs s) r false) := fun r => .none r (fun h => h.1 (List.eq_nil_of_length_eq_zero (by rw [bs_length]; exact h0)))
    go_enter Tryz.func105, Tryz.ntmps105
    go_wp2_with fail
    go_ret2
    exact MkPar.bad HB.out
  case pos =>
    have hc := bs_cons s hne
    have hz0 : ((s.size : Int) == 0) = false := by rw [beq_eq_false_iff_ne]; omega
    by_cases hz : 1 < s.size ∧ (s[0].toNat : Int) = 48
    · obtain ⟨h1, hz⟩ := hz
      have hb48 : ((s[0].toNat : Int) == 48) = true := by rw [beq_iff_eq]; exact hz
      have HB : Hid (∀ r, ParR (bs s) r false) := fun r => .none r (fun h => h.2.2 s[0] ((bs s).drop 1) (by
        intro e
        have := congrArg List.length e
        rw [List.length_drop, bs_length] at this
        simp at this
        omega) hc (by omega))
      clear hc hz
      go_enter Tryz.func105, Tryz.ntmps105
      go_wp2_with fail
      go_ret2
      exact MkPar.bad HB.out
    · have HZ : Hid (bs s ≠ [] ∧ ∀ c r, r ≠ [] → bs s = c :: r → c.toNat ≠ 48) := by
        refine ⟨by rw [hc]; simp, fun c r hr e h48 => hz ⟨?_, ?_⟩⟩
        · have := congrArg List.length e
          rw [bs_length, List.length_cons] at this
          have := List.length_pos_iff.2 hr
          omega
        · rw [hc] at e
          injection e with e _
          rw [e]
          omega
      have HG : Hid (s.size ≤ 1 ∨ (1 < s.size ∧ ((s[0].toNat : Int) == 48) = false)) := by
        by_cases h1 : 1 < s.size
        · exact .inr ⟨h1, by rw [beq_eq_false_iff_ne]; exact fun h => hz ⟨h1, h⟩⟩
        · exact .inl (by omega)
      clear hc hz
      have main : ∀ (_ : s.size ≤ 1 ∨ (1 < s.size ∧ ((s[0].toNat : Int) == 48) = false)), Calls Tryz.prog 105 #[.string s] w (MkPar (bs s) w) := by
        intro hor
        rcases hor with hor | ⟨h1, hor⟩
        · skip
          go_enter Tryz.func105, Tryz.ntmps105
          go_wp2_with fail
          go_loopw [4, 5] (fun a i wr => ∃ (k : Nat) (A : ByteArray), a = .string A ∧ i = .int .i64 (k : Int) ∧ k ≤ s.size ∧ Hid (bs A = be (valD ((bs s).take k))) ∧ Hid (isDig ((bs s).take k)) ∧ Hid (Upd [] [] w wr)) (fun _ i _ => s.size - (intOf i).toNat)
          case atStart => exact ⟨0, ⟨#[]⟩, rfl, rfl, Nat.zero_le _, (by show _ = _; rw [List.take_zero, valD_nil, be_zero]; rfl), (fun c h => by simp at h), Upd.refl _ _⟩
          case round =>
            obtain ⟨k, A, rfl, rfl, hk, HA, HD, HU⟩ := hrel
            by_cases hlt : k < s.size
            · have hc := bs_get' s k hlt
              obtain ⟨c, hcE⟩ : ∃ c, c = s[k] := ⟨_, rfl⟩
              have hcT : (s[k].toNat : Int) = (c.toNat : Int) := by rw [hcE]
              rw [← hcE] at hc
              have i0 : (0 : Int) ≤ (k : Int) := by omega
              have i1 : (k : Int) < (s.size : Int) := by omega
              by_cases hdg : 48 ≤ c.toNat ∧ c.toNat ≤ 57
              · obtain ⟨d1, d2⟩ := hdg
                obtain ⟨hdd, hvv⟩ := isDig_take HD.out hc d1 d2
                obtain ⟨x, hx⟩ : ∃ x, x = valD ((bs s).take k) := ⟨_, rfl⟩
                obtain ⟨d, hd⟩ : ∃ d, d = c.toNat - 48 := ⟨_, rfl⟩
                have hxl : (be x).length ≤ 1999990 := by
                  rw [hx]
                  refine Nat.le_trans (valD_be HD.out) ?_
                  rw [List.length_take]
                  omega
                have hxl2 : (be (x * 10)).length ≤ 2000000 := by
                  have h1 : x * 10 < 256 ^ ((be x).length + 1) := by
                    have := be_len x
                    rw [Nat.pow_succ]
                    omega
                  exact Nat.le_trans (be_len_le _ _ h1) (by omega)
                rw [← hx] at HA hvv
                rw [← hd] at hvv
                have e1 : (48 : Int) ≤ (c.toNat : Int) := by omega
                have e2 : (c.toNat : Int) ≤ 57 := by omega
                have e3 : (c.toNat : Int) - 48 = (d : Int) := by omega
                have e4 : IntKind.u8.wrap (d : Int) = (d : Int) := by rw [IntKind.wrap_u8]; omega
                have e5 : IntKind.i64.wrap (d : Int) = (d : Int) := wrap_in (by omega) (by omega)
                have hd9 : d ≤ 9 := by omega
                have HDD := Lib.hid hdd
                have HVV := Lib.hid hvv
                have HXL := Lib.hid hxl
                have HXL2 := Lib.hid hxl2
                have HXX := Lib.hid hx
                have ud0 : Upd [] [] wr wr.drew := (Upd.refl _ _).drew
                clear hdd hvv hxl hxl2 hx hc hcE hd d1 d2
                go_upto_region 9 with (fail)
                refine wp_region_noPanic ?_
                refine wp_region_held_drew (S := fun _ => True) (by kernel_rfl) ?_ (fun hHeld => ?_)
                · trivial
                refine tkY 0 hHeld ?_
                refine tkY 3 hHeld ?_
                refine tkY 4 hHeld ?_
                refine tkY 5 hHeld ?_
                refine tkY 6 hHeld ?_
                refine tkY 7 hHeld ?_
                refine wpAnyH_ready (rs := [1]) (by kernel_rfl) (by simp) ?_
                refine AllReadyH.cons (by simp only [List.getElem?_toArray, List.getElem?_cons_succ, List.getElem?_cons_zero] <;> rfl) (fun K hK => ?_) ?_
                · go_simp; refine (of_int 10 _ (by omega)).mono ?_; rintro e wv1 ⟨b1, HB1, rfl, hq⟩; have ud1 := ud0.trans hq; clear hq; go_wp2_with fail
                  refine hK.out _ _ ?_ (fun hHeld => ?_)
                  · trivial
                  clear hK K
                  try simp only [Act.put, List.setIfInBounds_toArray, List.set_cons_zero, List.set_cons_succ]
                  refine wpAnyH_ready (rs := [2]) (by kernel_rfl) (by simp) ?_
                  refine AllReadyH.cons (by simp only [List.getElem?_toArray, List.getElem?_cons_succ, List.getElem?_cons_zero] <;> rfl) (fun K hK => ?_) ?_
                  · go_simp; refine (bigMulTen_any A b1 x _ HA.out HB1.out (Nat.le_trans HXL.out (by omega))).mono ?_; rintro e wv2 ⟨b2, HB2, rfl, hq⟩; have ud2 := ud1.trans hq; clear hq; go_wp2_with fail
                    refine hK.out _ _ ?_ (fun hHeld => ?_)
                    · trivial
                    clear hK K
                    try simp only [Act.put, List.setIfInBounds_toArray, List.set_cons_zero, List.set_cons_succ]
                    refine wpAnyH_ready (rs := [8]) (by kernel_rfl) (by simp) ?_
                    refine AllReadyH.cons (by simp only [List.getElem?_toArray, List.getElem?_cons_succ, List.getElem?_cons_zero] <;> rfl) (fun K hK => ?_) ?_
                    · go_simp; refine (of_int d _ (by omega)).mono ?_; rintro e wv3 ⟨b3, HB3, rfl, hq⟩; have ud3 := ud2.trans hq; clear hq; go_wp2_with fail
                      refine hK.out _ _ ?_ (fun hHeld => ?_)
                      · trivial
                      clear hK K
                      try simp only [Act.put, List.setIfInBounds_toArray, List.set_cons_zero, List.set_cons_succ]
                      refine wpAnyH_ready (rs := [9]) (by kernel_rfl) (by simp) ?_
                      refine AllReadyH.cons (by simp only [List.getElem?_toArray, List.getElem?_cons_succ, List.getElem?_cons_zero] <;> rfl) (fun K hK => ?_) ?_
                      · go_simp; refine (bigAdd_any b2 b3 (x * 10) d _ HB2.out HB3.out HXL2.out (Nat.le_trans (be_short8 (by omega)) (by omega))).mono ?_; rintro e wv4 ⟨b4, HB4, rfl, hq⟩; have ud4 := ud3.trans hq; clear hq; go_wp2_with fail
                        refine hK.out _ _ ?_ (fun hHeld => ?_)
                        · trivial
                        clear hK K
                        try simp only [Act.put, List.setIfInBounds_toArray, List.set_cons_zero, List.set_cons_succ]
                        refine tkY 10 hHeld ?_
                        refine wpAnyH_done (by kernel_rfl) ?_ _
                        refine NoPanic.normal ?_
                        go_wp2_with fail
                        exact ⟨⟨k + 1, b4, rfl, by go_num, by omega, by show _ = _; rw [HVV.out]; exact HB4.out, HDD.out, HU.out.trans ud4⟩, by simp [intOf]; omega⟩
                      exact AllReadyH.nil
                    exact AllReadyH.nil
                  exact AllReadyH.nil
                exact AllReadyH.nil
              · have HB : Hid (∀ r, ParR (bs s) r false) := fun r => .none r (fun h => hdg (h.2.1 c (List.mem_of_getElem? hc)))
                have e1 : (c.toNat : Int) < 48 ∨ (¬ (c.toNat : Int) < 48 ∧ 57 < (c.toNat : Int)) := by omega
                have HUU := Lib.hid HU.out
                clear hc hcE hdg HA HD HU
                rcases e1 with e1 | ⟨e1, e2⟩
                all_goals
                  go_wp2_with fail
                  go_ret2
                  exact ⟨_, false, HB.out _, Nat.zero_le _, rfl, HUU.out⟩
            · obtain rfl : k = s.size := by omega
              have hd := HD.out
              have ha := HA.out
              rw [List.take_of_length_le (by rw [bs_length]; omega)] at hd ha
              have HR := Lib.hid (ParR.some ⟨HZ.out.1, hd, HZ.out.2⟩ ha)
              have hal : A.size ≤ 20000000 := by
                rw [size_of_be ha]
                have := valD_be hd
                rw [bs_length] at this
                omega
              clear hd ha HA HD
              go_wp2_with fail
              go_ret2
              exact ⟨A, true, HR.out, hal, rfl, HU.out⟩
        · skip
          go_enter Tryz.func105, Tryz.ntmps105
          go_wp2_with fail
          go_loopw [4, 5] (fun a i wr => ∃ (k : Nat) (A : ByteArray), a = .string A ∧ i = .int .i64 (k : Int) ∧ k ≤ s.size ∧ Hid (bs A = be (valD ((bs s).take k))) ∧ Hid (isDig ((bs s).take k)) ∧ Hid (Upd [] [] w wr)) (fun _ i _ => s.size - (intOf i).toNat)
          case atStart => exact ⟨0, ⟨#[]⟩, rfl, rfl, Nat.zero_le _, (by show _ = _; rw [List.take_zero, valD_nil, be_zero]; rfl), (fun c h => by simp at h), Upd.refl _ _⟩
          case round =>
            obtain ⟨k, A, rfl, rfl, hk, HA, HD, HU⟩ := hrel
            by_cases hlt : k < s.size
            · have hc := bs_get' s k hlt
              obtain ⟨c, hcE⟩ : ∃ c, c = s[k] := ⟨_, rfl⟩
              have hcT : (s[k].toNat : Int) = (c.toNat : Int) := by rw [hcE]
              rw [← hcE] at hc
              have i0 : (0 : Int) ≤ (k : Int) := by omega
              have i1 : (k : Int) < (s.size : Int) := by omega
              by_cases hdg : 48 ≤ c.toNat ∧ c.toNat ≤ 57
              · obtain ⟨d1, d2⟩ := hdg
                obtain ⟨hdd, hvv⟩ := isDig_take HD.out hc d1 d2
                obtain ⟨x, hx⟩ : ∃ x, x = valD ((bs s).take k) := ⟨_, rfl⟩
                obtain ⟨d, hd⟩ : ∃ d, d = c.toNat - 48 := ⟨_, rfl⟩
                have hxl : (be x).length ≤ 1999990 := by
                  rw [hx]
                  refine Nat.le_trans (valD_be HD.out) ?_
                  rw [List.length_take]
                  omega
                have hxl2 : (be (x * 10)).length ≤ 2000000 := by
                  have h1 : x * 10 < 256 ^ ((be x).length + 1) := by
                    have := be_len x
                    rw [Nat.pow_succ]
                    omega
                  exact Nat.le_trans (be_len_le _ _ h1) (by omega)
                rw [← hx] at HA hvv
                rw [← hd] at hvv
                have e1 : (48 : Int) ≤ (c.toNat : Int) := by omega
                have e2 : (c.toNat : Int) ≤ 57 := by omega
                have e3 : (c.toNat : Int) - 48 = (d : Int) := by omega
                have e4 : IntKind.u8.wrap (d : Int) = (d : Int) := by rw [IntKind.wrap_u8]; omega
                have e5 : IntKind.i64.wrap (d : Int) = (d : Int) := wrap_in (by omega) (by omega)
                have hd9 : d ≤ 9 := by omega
                have HDD := Lib.hid hdd
                have HVV := Lib.hid hvv
                have HXL := Lib.hid hxl
                have HXL2 := Lib.hid hxl2
                have HXX := Lib.hid hx
                have ud0 : Upd [] [] wr wr.drew := (Upd.refl _ _).drew
                clear hdd hvv hxl hxl2 hx hc hcE hd d1 d2
                go_upto_region 9 with (fail)
                refine wp_region_noPanic ?_
                refine wp_region_held_drew (S := fun _ => True) (by kernel_rfl) ?_ (fun hHeld => ?_)
                · trivial
                refine tkY 0 hHeld ?_
                refine tkY 3 hHeld ?_
                refine tkY 4 hHeld ?_
                refine tkY 5 hHeld ?_
                refine tkY 6 hHeld ?_
                refine tkY 7 hHeld ?_
                refine wpAnyH_ready (rs := [1]) (by kernel_rfl) (by simp) ?_
                refine AllReadyH.cons (by simp only [List.getElem?_toArray, List.getElem?_cons_succ, List.getElem?_cons_zero] <;> rfl) (fun K hK => ?_) ?_
                · go_simp; refine (of_int 10 _ (by omega)).mono ?_; rintro e wv1 ⟨b1, HB1, rfl, hq⟩; have ud1 := ud0.trans hq; clear hq; go_wp2_with fail
                  refine hK.out _ _ ?_ (fun hHeld => ?_)
                  · trivial
                  clear hK K
                  try simp only [Act.put, List.setIfInBounds_toArray, List.set_cons_zero, List.set_cons_succ]
                  refine wpAnyH_ready (rs := [2]) (by kernel_rfl) (by simp) ?_
                  refine AllReadyH.cons (by simp only [List.getElem?_toArray, List.getElem?_cons_succ, List.getElem?_cons_zero] <;> rfl) (fun K hK => ?_) ?_
                  · go_simp; refine (bigMulTen_any A b1 x _ HA.out HB1.out (Nat.le_trans HXL.out (by omega))).mono ?_; rintro e wv2 ⟨b2, HB2, rfl, hq⟩; have ud2 := ud1.trans hq; clear hq; go_wp2_with fail
                    refine hK.out _ _ ?_ (fun hHeld => ?_)
                    · trivial
                    clear hK K
                    try simp only [Act.put, List.setIfInBounds_toArray, List.set_cons_zero, List.set_cons_succ]
                    refine wpAnyH_ready (rs := [8]) (by kernel_rfl) (by simp) ?_
                    refine AllReadyH.cons (by simp only [List.getElem?_toArray, List.getElem?_cons_succ, List.getElem?_cons_zero] <;> rfl) (fun K hK => ?_) ?_
                    · go_simp; refine (of_int d _ (by omega)).mono ?_; rintro e wv3 ⟨b3, HB3, rfl, hq⟩; have ud3 := ud2.trans hq; clear hq; go_wp2_with fail
                      refine hK.out _ _ ?_ (fun hHeld => ?_)
                      · trivial
                      clear hK K
                      try simp only [Act.put, List.setIfInBounds_toArray, List.set_cons_zero, List.set_cons_succ]
                      refine wpAnyH_ready (rs := [9]) (by kernel_rfl) (by simp) ?_
                      refine AllReadyH.cons (by simp only [List.getElem?_toArray, List.getElem?_cons_succ, List.getElem?_cons_zero] <;> rfl) (fun K hK => ?_) ?_
                      · go_simp; refine (bigAdd_any b2 b3 (x * 10) d _ HB2.out HB3.out HXL2.out (Nat.le_trans (be_short8 (by omega)) (by omega))).mono ?_; rintro e wv4 ⟨b4, HB4, rfl, hq⟩; have ud4 := ud3.trans hq; clear hq; go_wp2_with fail
                        refine hK.out _ _ ?_ (fun hHeld => ?_)
                        · trivial
                        clear hK K
                        try simp only [Act.put, List.setIfInBounds_toArray, List.set_cons_zero, List.set_cons_succ]
                        refine tkY 10 hHeld ?_
                        refine wpAnyH_done (by kernel_rfl) ?_ _
                        refine NoPanic.normal ?_
                        go_wp2_with fail
                        exact ⟨⟨k + 1, b4, rfl, by go_num, by omega, by show _ = _; rw [HVV.out]; exact HB4.out, HDD.out, HU.out.trans ud4⟩, by simp [intOf]; omega⟩
                      exact AllReadyH.nil
                    exact AllReadyH.nil
                  exact AllReadyH.nil
                exact AllReadyH.nil
              · have HB : Hid (∀ r, ParR (bs s) r false) := fun r => .none r (fun h => hdg (h.2.1 c (List.mem_of_getElem? hc)))
                have e1 : (c.toNat : Int) < 48 ∨ (¬ (c.toNat : Int) < 48 ∧ 57 < (c.toNat : Int)) := by omega
                have HUU := Lib.hid HU.out
                clear hc hcE hdg HA HD HU
                rcases e1 with e1 | ⟨e1, e2⟩
                all_goals
                  go_wp2_with fail
                  go_ret2
                  exact ⟨_, false, HB.out _, Nat.zero_le _, rfl, HUU.out⟩
            · obtain rfl : k = s.size := by omega
              have hd := HD.out
              have ha := HA.out
              rw [List.take_of_length_le (by rw [bs_length]; omega)] at hd ha
              have HR := Lib.hid (ParR.some ⟨HZ.out.1, hd, HZ.out.2⟩ ha)
              have hal : A.size ≤ 20000000 := by
                rw [size_of_be ha]
                have := valD_be hd
                rw [bs_length] at this
                omega
              clear hd ha HA HD
              go_wp2_with fail
              go_ret2
              exact ⟨A, true, HR.out, hal, rfl, HU.out⟩
      exact main HG.out
end Go.Proofs.YtcimcodljjcmgaaGreatDoor
