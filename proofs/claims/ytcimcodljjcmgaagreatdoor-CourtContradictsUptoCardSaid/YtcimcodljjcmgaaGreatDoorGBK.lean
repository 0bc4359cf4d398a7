/- nat.Text at any number below 2^63. A map of the call's own with ints as keys: what it holds, as a function. court.courts; a matter; theirs and the closures of courts. A matter; court's theirs and the closures of courts. nat at numbers of one digit: Of, Mul, Quo by the modulus, Cmp; delay.Square of 3. delay.Square of 3; nat.Cmp at numbers of one digit. -/
import Derived.Test.YtcimcodljjcmgaaGreatDoorGBJ
import Derived.Maps.OwnSet
import Derived.Test.YtcimcodljjcmgaaGreatDoorGAE
import Derived.Test.YtcimcodljjcmgaaGreatDoorGAA
import Derived.Test.YtcimcodljjcmgaaGreatDoorGAR
namespace Go.Proofs.YtcimcodljjcmgaaGreatDoor
open Go.RowKit
set_option maxRecDepth 100000

theorem upd_putRow {w0 w4 : World} {g n : Nat} (u : Upd [] [] w0 w4) (hg : w0.heap.size ≤ g) (d : Array (List UInt8)) : Upd [] [] w0 (Sort.putRow encStr (Sort.ahead w4 n) g 0 d) := by
  refine ⟨u.os, u.tape, u.output, ?_, fun k hk _ => ?_, fun _ h => absurd h (by simp)⟩
  · rw [Sort.size_putRow]
    exact u.size
  · have hne : ¬ g = k := by omega
    show ((Sort.ahead w4 n).heap.modify g _)[k]? = _
    rw [Array.getElem?_modify, if_neg hne]
    exact u.block k hk (by simp)
theorem repeat_zeros : ∀ c : Nat, Lib.repeatL [48] c = List.replicate c (48 : UInt8) := by
  intro c
  induction c with
  | zero => rfl
  | succ c ih => rw [Lib.repeatL, ih, List.replicate_succ]; rfl
theorem groups_few {y k x : Nat} (h : y * 1000000000 ^ k ≤ x) (h0 : 0 < y) (hx : x < 9223372036854775808) : k < 3 := by
  by_cases hk : k < 3
  · exact hk
  · have h1 : 1000000000 ^ 3 ≤ 1000000000 ^ k := Nat.pow_le_pow_right (by omega) (by omega)
    have h2 : 1 * 1000000000 ^ k ≤ y * 1000000000 ^ k := Nat.mul_le_mul_right _ h0
    omega
theorem groups_step {y k x : Nat} (h : y * 1000000000 ^ k ≤ x) : y / 1000000000 * 1000000000 ^ (k + 1) ≤ x := by
  rw [Nat.pow_succ, Nat.mul_comm (1000000000 ^ k), ← Nat.mul_assoc]
  exact Nat.le_trans (Nat.mul_le_mul_right _ (Nat.div_mul_le_self y 1000000000)) h
theorem dw_pos_len {y : Nat} (h : 0 < y) : 0 < (dw y).length := by
  rw [dw_pos h]
  simp
theorem StrRow.form2 {w : World} {v : Value} {ss : List (List UInt8)} (h : StrRow w v ss) : ∃ ao cap, v = .slice ao ss.length cap ∧ ss.length ≤ cap ∧ cap ≤ 9223372036854775807 := by
  obtain ⟨ao, cap, e, h1, h2⟩ := row_slice h
  exact ⟨ao, cap, e, h1, h2⟩
theorem StrRow.formS {w : World} {v : Value} {ss : List (List UInt8)} {x : List UInt8} (h : StrRow w v (ss ++ [x])) : ∃ ao cap, v = .slice ao (ss.length + 1) cap := by
  obtain ⟨ao, cap, e, _⟩ := h.form2
  rw [List.length_append] at e
  exact ⟨ao, cap, e⟩
theorem Wd.past {w w' : World} {v : Value} {l : List Nat} {S S' : List Nat} (h : Wd w v l) (u : Upd S S' w w') (hd : ∀ b, b ∈ foot v → b ∉ S) : Wd w' v l := by
  obtain ⟨ao, cap, rfl, h1, h2, h3⟩ := h
  refine ⟨ao, cap, rfl, h1, h2, ?_⟩
  rcases h3 with h3 | ⟨b, rfl, hb, hc⟩
  · exact .inl h3
  · exact .inr ⟨b, rfl, Nat.lt_of_lt_of_le hb u.size, fun j d hj => (u.cell hb (hd b (by simp [foot, Value.ownBlock]))).trans (hc j d hj)⟩
theorem StrRow.holds {w : World} {v : Value} {ss : List (List UInt8)} (h : StrRow w v ss) (h0 : 0 < ss.length) : ∃ g cap, v = .slice (some ⟨g, 0, none⟩) ss.length cap ∧ ss.length ≤ cap ∧ g < w.heap.size ∧ Sort.Holds encStr w g 0 ss.toArray := by
  have h' : w.ownsRow 0 9 1 v ss.length (strVals ss) := h
  obtain ⟨g, cap, cur, rfl, hg, h1, h2, h3, h4⟩ := row_pos h' h0
  refine ⟨g, cap, rfl, h1, (Array.getElem?_eq_some_iff.1 hg).1, fun j hj => ?_⟩
  have hj' : j < ss.length := by simpa using hj
  rw [Nat.zero_add]
  refine ⟨?_, frozen_of_row _ _ _ _ _ hg⟩
  rw [cell_of_row _ _ _ _ _ _ hg]
  have e : (cur.toList.take (ss.length * 1))[j]? = some (strV ss[j]) := by
    rw [h4, strVals, List.getElem?_map, List.getElem?_eq_getElem hj']
    rfl
  rw [List.getElem?_take_of_lt (by omega)] at e
  have e2 : ss.toArray[j]! = ss[j] := by simp [hj']
  rw [e2]
  simpa [strV] using e
theorem reversed_cells {w : World} {g n : Nat} {ss : List (List UInt8)} (h : Sort.Holds encStr w g 0 ss.toArray) : ∀ (j : Nat) (x : ByteArray), (ss.reverse.map (fun l => (⟨l.toArray⟩ : ByteArray)))[j]? = some x → (Sort.putRow encStr (Sort.ahead w n) g 0 ss.reverse.toArray).cell? ⟨g, 0 + j, none⟩ = some (.string x) := by
  intro j x hx
  have hk := Sort.holds_putRow encStr (Sort.ahead w n) g 0 ss.toArray ss.reverse.toArray h (by simp)
  rw [List.getElem?_map] at hx
  obtain ⟨l, hl, rfl⟩ := Option.map_eq_some_iff.1 hx
  obtain ⟨hj, hl2⟩ := List.getElem?_eq_some_iff.1 hl
  have e := (hk j (by simpa using hj)).1
  rw [e]
  have e2 : ss.reverse.toArray[j]! = l := by
    rw [getElem!_pos _ j (by simpa using hj)]
    exact hl2
  rw [e2]
set_option maxHeartbeats 4000000 in
theorem natText_any (s : ByteArray) (x : Nat) (hs : bs s = be x) (hx : x < 9223372036854775808) (w : World) (htab : Tabs w) : Calls Tryz.prog 29 #[.string s] w (MkS (Lib.decDigits x) w) := by
  have hsz : s.size ≤ 8 := by
    rw [← bs_length, hs]
    exact be_len_le 8 x (Nat.lt_of_lt_of_le hx (by decide))
  have hd := digits_any s w (by omega)
  rw [hs, natB_be] at hd
  have HD := Lib.hid hd
  clear hd hs
  have hl19 := dec_le19 (u := x) (by omega)
  go_enter Tryz.func29, Tryz.ntmps29
  go_wp2_with fail
  refine HD.out.mono ?_
  rintro e w1 ⟨v1, HV1, rfl, hu1⟩
  obtain ⟨ao, cap, rfl, hc1, hc2⟩ := HV1.out.form
  have HU1 := Lib.hid hu1
  clear HD hu1
  by_cases h0 : x = 0
  · subst h0
    rw [dw_zero] at HV1 hc1 ⊢
    have HR : Hid (bs (⟨#[48]⟩ : ByteArray) = Lib.decDigits 0) := by
      show _ = _
      rw [Lib.decDigits_one (by omega)]
      rfl
    rw [show ([] : List Nat).length = 0 from rfl]
    go_wp2_with fail
    go_ret
    exact ⟨⟨#[48]⟩, HR.out, Nat.le_of_eq (bs_size HR.out), rfl, HU1.out⟩
  obtain ⟨L0, hL0⟩ : ∃ L, L = (dw x).length := ⟨_, rfl⟩
  have hLp : 0 < L0 := by rw [hL0]; exact dw_pos_len (by omega)
  have hLb : ((L0 : Int) == 0) = false := by rw [beq_eq_false_iff_ne]; omega
  have HV0 := Lib.hid HV1.out
  rw [← hL0] at hc1 ⊢
  have HI0 : Hid (Wd w1 (.slice ao L0 cap) (dw x)) := by
    show Wd _ _ _
    rw [hL0]
    exact HV1.out
  have hr9 : rest9 x = Lib.decDigits x := by unfold rest9; rw [if_neg h0]
  have HR9 := Lib.hid hr9
  clear hL0 HV1 HV0 hr9
  go_wp2_with fail
  go_loopw [3, 4, 5, 6] (fun xv o _ _ wr => ∃ (y k : Nat) (Gs : List (List UInt8)), k = Gs.length ∧ k ≤ 3 ∧ y ≤ x ∧ Hid (y * 1000000000 ^ k ≤ x) ∧ Hid (Wd wr xv (dw y)) ∧ Hid (rest9 y ++ Gs.reverse.flatten = Lib.decDigits x) ∧ Hid (StrRow wr o Gs) ∧ Hid (Upd [] (foot o) w1 wr)) (fun _ o _ _ _ => 4 - slLen o)
  case atStart => exact ⟨x, 0, [], rfl, Nat.zero_le _, Nat.le_refl _, by show _ ≤ _; simp, HI0.out, by show _ = _; rw [HR9.out]; simp, strRow_nil w1, Upd.refl _ _⟩
  case round =>
    obtain ⟨y, k, Gs, hkG, hk3, hyx, HP, HX, HT, HR, HU⟩ := hrel
    have hup0 : Upd [] [] w1 wr := HU.out.mono (fun _ h => h) (fun _ h => absurd h (by simp))
    by_cases hy : 0 < y
    · have hk : k < 3 := groups_few HP.out hy hx
      have hlp : 0 < (dw y).length := dw_pos_len hy
      obtain ⟨bo, cbp, rfl, hb1, hb2⟩ := HX.out.form
      obtain ⟨oo, ocp, rfl, ho1, ho2⟩ := HR.out.form2
      have HDV := Lib.hid (divDigit_any _ y wr HX.out hy (by omega))
      obtain ⟨L, hL⟩ : ∃ L, L = (dw y).length := ⟨_, rfl⟩
      rw [← hL] at hlp HDV hb1 ⊢
      obtain ⟨r, hr⟩ : ∃ r, r = y % 1000000000 := ⟨_, rfl⟩
      obtain ⟨y1, hy1⟩ : ∃ y1, y1 = y / 1000000000 := ⟨_, rfl⟩
      have hr9 : r < 1000000000 := by omega
      have HUP := Lib.hid hup0
      have HP1 : Hid (y1 * 1000000000 ^ (k + 1) ≤ x) := by
        show _ ≤ _
        rw [hy1]
        exact groups_step HP.out
      have hy1x : y1 ≤ x := by omega
      have HOL : Hid (∀ b, b ∈ foot (.slice oo Gs.length ocp) → b < wr.heap.size) := fun b hb => HR.out.lt b hb
      have HRE := Lib.hid hr
      have HYE := Lib.hid hy1
      clear hL HX hup0 hr hy1
      go_wp2_with fail
      refine HDV.out.mono ?_
      rintro e w2 ⟨v', HV, HF, rfl, hq⟩
      rw [← HRE.out]
      rw [← HYE.out] at HV
      obtain ⟨co, ccp, rfl, hc1', hc2'⟩ := HV.out.form
      obtain ⟨L1, hL1⟩ : ∃ L, L = (dw y1).length := ⟨_, rfl⟩
      have HVV : Hid (Wd w2 (.slice co L1 ccp) (dw y1)) := by
        show Wd _ _ _
        rw [hL1]
        exact HV.out
      rw [← hL1] at hc1' HF ⊢
      have HU2 := Lib.hid (HUP.out.trans hq)
      have HRW2 := Lib.hid (HR.out.same (fun j hj => hq.block j (HR.out.lt j hj) (by simp)))
      have HUW2 := Lib.hid (HU.out.trans (hq.widen (K := foot (.slice oo Gs.length ocp)) (by simp)))
      have wrr : IntKind.i64.wrap (r : Int) = (r : Int) := wrap_in (by omega) (by omega)
      have HL1 := Lib.hid hL1
      clear hq HR HU HV HDV HUP hL1
      go_wp2_with fail
      refine (itoa_any (r : Int) w2 (by unfold i64in; omega) (htab.upd (HU1.out.trans HU2.out))).mono ?_
      rintro e w3 ⟨t, HT2, htl, rfl, hq⟩
      rw [itoaNat] at HT2
      have ht9 : t.size ≤ 9 := by
        rw [bs_size HT2.out]
        exact dec_len 8 r (by rw [show (10 : Nat) ^ (8 + 1) = 1000000000 by decide]; exact hr9)
      have HU3 := Lib.hid (HU2.out.trans hq)
      have HRW3 := Lib.hid (HRW2.out.same (fun j hj => hq.block j (HRW2.out.lt j hj) (by simp)))
      have HUW3 := Lib.hid (HUW2.out.trans (hq.widen (K := foot (.slice oo Gs.length ocp)) (by simp)))
      have HVX := Lib.hid (HVV.out.upd hq)
      clear hq htl HU2 HRW2 HUW2 HVV
      by_cases hbig : 1000000000 ≤ y
      · have hL1p : 0 < L1 := by rw [HL1.out]; exact dw_pos_len (by have := HYE.out; omega)
        obtain ⟨c, hc⟩ : ∃ c, c = 9 - t.size := ⟨_, rfl⟩
        have c9 : (9 : Int) - (t.size : Int) = (c : Int) := by omega
        have wc : IntKind.i64.wrap (c : Int) = (c : Int) := wrap_in (by omega) (by omega)
        have HCC := Lib.hid hc
        have hc9 : c ≤ 9 := by omega
        clear hc
        go_wp2_with fail
        refine (Tryz.strings_Repeat ⟨#[48]⟩ c w3 (by omega) (by show 1 * c ≤ _; omega)).mono ?_
        rintro e w4 ⟨rfl, hb4⟩
        have hq := upd_of_below hb4
        obtain ⟨Z, hZ⟩ : ∃ Z : ByteArray, Z = ⟨(Lib.repeatL (ByteArray.mk #[48]).data.toList c).toArray⟩ := ⟨_, rfl⟩
        rw [← hZ]
        have hZb : bs Z = List.replicate c 48 := by rw [hZ, bs_mk]; exact repeat_zeros c
        have hZs : Z.size ≤ 9 := by rw [bs_size hZb, List.length_replicate]; exact hc9
        have HG : Hid (bs (Z ++ t) = grp y) := by
          show _ = _
          rw [grp_pad hbig, bs_append, hZb, HT2.out, ← HRE.out, HCC.out, bs_size HT2.out]
        have HRW4 := HRW3.out.same (fun j hj => hq.block j (HRW3.out.lt j hj) (by simp))
        obtain ⟨v5, w5, hrun, hrow, hup⟩ := append_str w4 _ Gs (Z ++ t) HRW4 (by omega)
        have HRUN := Lib.hid hrun
        have HUW5 := Lib.hid ((HUW3.out.trans (hq.widen (K := foot (.slice oo Gs.length ocp)) (by simp))).trans hup)
        obtain ⟨po, pcp, rfl⟩ := hrow.formS
        have HROW := Lib.hid hrow
        have hup5 : Upd [] [] w1 w5 := HUW5.out.mono (fun _ h => h) (fun _ h => absurd h (by simp))
        have HVX5 : Hid (Wd w5 (.slice co L1 ccp) (dw y1)) := (HVX.out.upd hq).past hup (fun b hb hb2 => by have h1 := HF.out b hb; have h2 := HOL.out b hb2; omega)
        have HTT : Hid (rest9 y1 ++ (Gs ++ [bs (Z ++ t)]).reverse.flatten = Lib.decDigits x) := by
          show _ = _
          rw [← HT.out, grp_step hy, ← HYE.out, HG.out]
          simp
        clear hb4 hq hZ hZb hrun hrow hup HRW4 HRW3 HUW3 HVX HT HCC
        go_wp2_with (refine wpList_append_run _ rfl _ _ _ _ rfl _ _ _ w5 rfl rfl HRUN.out ?_)
        exact ⟨⟨y1, k + 1, Gs ++ [bs (Z ++ t)], by rw [List.length_append, hkG]; rfl, by omega, by omega, HP1.out, HVX5.out, HTT.out, HROW.out, HUW5.out⟩, by simp [slLen]; omega⟩
      · have hy1z : y1 = 0 := by have := HYE.out; omega
        have hL1z : L1 = 0 := by rw [HL1.out, hy1z, dw_zero]; rfl
        have HG : Hid (bs t = grp y) := by
          show _ = _
          rw [grp_last (by omega), HT2.out, ← HRE.out]
        obtain ⟨v5, w5, hrun, hrow, hup⟩ := append_str w3 _ Gs t HRW3.out (by omega)
        have HRUN := Lib.hid hrun
        have HUW5 := Lib.hid (HUW3.out.trans hup)
        obtain ⟨po, pcp, rfl⟩ := hrow.formS
        have HROW := Lib.hid hrow
        have HVX5 : Hid (Wd w5 (.slice co L1 ccp) (dw y1)) := HVX.out.past hup (fun b hb hb2 => by have h1 := HF.out b hb; have h2 := HOL.out b hb2; omega)
        have HTT : Hid (rest9 y1 ++ (Gs ++ [bs t]).reverse.flatten = Lib.decDigits x) := by
          show _ = _
          rw [← HT.out, grp_step hy, ← HYE.out, HG.out]
          simp
        subst hL1z
        clear hrun hrow hup HRW3 HUW3 HVX HT hy1z
        go_wp2_with (refine wpList_append_run _ rfl _ _ _ _ rfl _ _ _ w5 rfl rfl HRUN.out ?_)
        exact ⟨⟨y1, k + 1, Gs ++ [bs t], by rw [List.length_append, hkG]; rfl, by omega, hy1x, HP1.out, HVX5.out, HTT.out, HROW.out, HUW5.out⟩, by simp [slLen]; omega⟩
    · have hy0 : y = 0 := by omega
      have hfl := HT.out
      rw [hy0, show rest9 0 = [] from rfl, List.nil_append] at hfl
      have hGp : 0 < Gs.length := by
        cases hG : Gs with
        | nil =>
          rw [hG] at hfl
          exact absurd hfl.symm (dec_ne x)
        | cons a r => simp
      have hx0 := HX.out
      rw [hy0, dw_zero] at hx0
      obtain ⟨bo, cbp, rfl⟩ := hx0.none'
      obtain ⟨g, cp, rfl, hcp, hgl, hH⟩ := HR.out.holds hGp
      have hgn : w1.heap.size ≤ g := by
        rcases HU.out.new g (by simp [foot, Value.ownBlock]) with h | h
        · simp at h
        · exact h
      have HRV := Lib.hid (Tryz.slices_Reverse_string g 0 cp Gs wr hH (by omega))
      have HCL := Lib.hid (fun n => reversed_cells (n := n) hH)
      have HUPR := Lib.hid (fun n => upd_putRow (n := n) hup0 hgn Gs.reverse.toArray)
      have HSZ : Hid (∀ n, g < (Sort.putRow encStr (Sort.ahead wr n) g 0 Gs.reverse.toArray).heap.size) := fun n => by rw [Sort.size_putRow]; exact hgl
      have HFL := Lib.hid hfl
      clear hH hgn hup0 HU HR HX HT hfl hx0 hy
      go_wp2_with fail
      refine HRV.out.mono ?_
      rintro e w5 ⟨rfl, n, rfl⟩
      have hcl := HCL.out n
      have hu5 := HUPR.out n
      have hs5 := HSZ.out n
      obtain ⟨w5, hw5⟩ : ∃ W, W = Sort.putRow encStr (Sort.ahead wr n) g 0 Gs.reverse.toArray := ⟨_, rfl⟩
      rw [← hw5] at hcl hu5 hs5 ⊢
      have hjb : Lib.join ((Gs.reverse.map (fun l => (⟨l.toArray⟩ : ByteArray))).map (·.data.toList)) (⟨#[]⟩ : ByteArray).data.toList = Lib.decDigits x := by
        show Lib.join _ [] = _
        rw [join_nil, List.map_map, show (Gs.reverse.map ((fun b : ByteArray => b.data.toList) ∘ fun l => (⟨l.toArray⟩ : ByteArray))) = Gs.reverse by simp [Function.comp_def]]
        exact HFL.out
      have hj := Tryz.strings_Join g 0 cp (Gs.reverse.map (fun l => (⟨l.toArray⟩ : ByteArray))) ⟨#[]⟩ w5 hcl hs5 (by simp; omega) (by simpa using hcp) (by rw [hjb]; omega)
      rw [hjb, List.length_map, List.length_reverse] at hj
      have HJ := Lib.hid hj
      have HU5 := Lib.hid hu5
      clear hj hjb hcl hu5 hs5 hw5 HRV HCL HUPR HSZ
      go_wp2_with fail
      refine HJ.out.mono ?_
      rintro e w6 ⟨rfl, hb⟩
      have hu := upd_of_below hb
      obtain ⟨T, hT⟩ : ∃ T : ByteArray, T = ⟨(Lib.decDigits x).toArray⟩ := ⟨_, rfl⟩
      rw [← hT]
      have HTB : Hid (bs T = Lib.decDigits x) := by show _ = _; rw [hT, bs_mk]
      have HUF := Lib.hid (HU1.out.trans (HU5.out.trans hu))
      clear hb hu hT
      go_wp2_with fail
      go_ret
      exact ⟨T, HTB, Nat.le_of_eq (bs_size HTB.out), rfl, HUF.out⟩
end Go.Proofs.YtcimcodljjcmgaaGreatDoor

namespace Go.Proofs.YtcimcodljjcmgaaGreatDoor
open Go.Maps
set_option maxRecDepth 100000

def RV (v : Value) : Option (DataW Value × List MemPlace) := some (.held v, [])
def MapF (w : World) (b n : Nat) (f : Int → Option Value) : Prop :=
  ∃ D : DataW Value, w.ownsMap Tryz.prog 3 RV b n D ∧ IsMap D ∧ ∀ x : Int, Maps.has D (.int .i64 x) = (f x).isSome ∧ ∀ v, f x = some v → ∀ z, D.atKey (.int .i64 x) z = .held v

theorem keyI : Keyed Tryz.prog 3 := int_keyed Tryz.underlying3
theorem keyI_mk {x : Int} (hx : -9223372036854775808 ≤ x ∧ x ≤ 9223372036854775807) : keyOf Tryz.prog 3 (.int .i64 x) = some (.int .i64 x) := keyOf_int_mk Tryz.underlying3 (WalkArith.wf_i64 hx)

theorem MapF.made (w : World) : MapF (w.alloc (.map #[] 0)) w.heap.size 0 (fun _ => none) :=
  ⟨.map [], World.ownsMap_made _ _ _ _, isMap_empty, fun _ => ⟨rfl, fun _ h => by cases h⟩⟩
theorem MapF.lt {w : World} {b n : Nat} {f : Int → Option Value} (h : MapF w b n f) : b < w.heap.size := by
  obtain ⟨D, ho, _⟩ := h
  exact ho.lt
theorem MapF.upd {w w' : World} {S S' : List Nat} {b n : Nat} {f : Int → Option Value} (h : MapF w b n f) (u : Upd S S' w w') (hb : b ∉ S) : MapF w' b n f := by
  have hlt := h.lt
  obtain ⟨D, ⟨es, clock, hg, F, hs, hD⟩, hm, hf⟩ := h
  exact ⟨D, ⟨es, clock, (u.block b hlt hb).trans hg, F, hs, hD⟩, hm, hf⟩
theorem MapF.mono {w : World} {b n m : Nat} {f : Int → Option Value} (h : MapF w b n f) (hn : n ≤ m) : MapF w b m f := by
  obtain ⟨D, ho, hm, hf⟩ := h
  exact ⟨D, ho.mono hn, hm, hf⟩

theorem MapF.look_ok {w : World} {b n : Nat} {f : Int → Option Value} {t e : TypeId} {x : Int} {z : Value} (h : MapF w b n f) (ht : Tryz.prog.underlying t = some (.map 3 e)) (hz : (zeroValue e).run Tryz.prog w = .ok z w) (hx : -9223372036854775808 ≤ x ∧ x ≤ 9223372036854775807) :
    (Instr.lookup t (.map (some b)) (.int .i64 x) true).run Tryz.prog w = .ok (.tuple #[(f x).getD z, .bool (f x).isSome]) w := by
  obtain ⟨D, ho, _, hf⟩ := h
  obtain ⟨v, ps, hrun, hv⟩ := ho.look_ok keyI ht hz (zd := .held z) (zp := []) rfl (keyI_mk hx)
  obtain ⟨h1, h2⟩ := hf x
  rw [hrun, h1]
  unfold RV at hv
  cases hfx : f x with
  | none =>
    rw [hfx] at h1
    rw [atKey_of_not_has h1] at hv
    cases hv
    rfl
  | some y =>
    rw [h2 y hfx] at hv
    cases hv
    rfl
theorem MapF.put {w : World} {b n : Nat} {f : Int → Option Value} {t e : TypeId} {x : Int} {v : Value} (h : MapF w b n f) (ht : Tryz.prog.underlying t = some (.map 3 e)) (hn : n < maxLen) (hx : -9223372036854775808 ≤ x ∧ x ≤ 9223372036854775807) :
    ∃ w', (Instr.mapUpdate t (.map (some b)) (.int .i64 x) v).run Tryz.prog w = .ok () w' ∧ MapF w' b (n + 1) (fun y => if y = x then some v else f y) ∧ Upd [b] [b] w w' := by
  obtain ⟨D, ho, hm, hf⟩ := h
  obtain ⟨w', hrun, ho', hg⟩ := ho.update keyI ht hn (d := .held v) (ps := []) (keyI_mk hx) rfl
  refine ⟨w', hrun, ⟨_, ho', hm.put _ _, fun y => ?_⟩, ⟨hg.os, hg.tape, hg.output, hg.size, fun k hk hne => hg.block k hk (fun e => hne (by cases e; exact List.mem_cons_self)), fun k hk => .inl hk⟩⟩
  show has _ _ = (if y = x then some v else f y).isSome ∧ ∀ v', (if y = x then some v else f y) = some v' → _
  by_cases hy : y = x
  · subst hy
    rw [if_pos rfl]
    exact ⟨has_put_same (k := .int .i64 y) hm trivial _, fun v' hv' z => by cases hv'; exact atKey_put_same (k := .int .i64 y) hm trivial _ _⟩
  · rw [if_neg hy]
    have hne : (Lit.int .i64 y) ≠ Lit.int .i64 x := fun e => hy (by cases e; rfl)
    exact ⟨(has_put_other hne _).trans (hf y).1, fun v' hv' z => (atKey_put_other hne _ _).trans ((hf y).2 v' hv' z)⟩

end Go.Proofs.YtcimcodljjcmgaaGreatDoor

namespace Go.Proofs.YtcimcodljjcmgaaGreatDoor
open Go.RowKit
set_option maxRecDepth 100000

theorem wpList_ins_F (w : World) {ops : Array Oper} {rest : List Oper} {o : Oper} {a : Act} {Q : Exit → Act → World → Prop}
    (hg : o.guard = none) (m x v : Operand) (t : TypeId) (hop : o.op = Op.insert t m x v) (e : TypeId) (ht : Tryz.prog.underlying t = some (.map 3 e)) (b n : Nat) (f : Int → Option Value)
    (hm : a.eval m = .map (some b)) (h : MapF w b n f) (hn : n < maxLen) (key : Int) (val : Value) (hx : a.eval x = .int .i64 key) (hv : a.eval v = val) (hk : -9223372036854775808 ≤ key ∧ key ≤ 9223372036854775807)
    (hK : ∀ w', MapF w' b (n + 1) (fun y => if y = key then some val else f y) → Upd [b] [b] w w' → wpList Tryz.prog ops Q rest (a.put o.dst undef) w') :
    wpList Tryz.prog ops Q (o :: rest) a w := by
  refine wpList_plain hg fun K' hK' => ?_
  obtain ⟨w', hrun, r1, r2⟩ := h.put (x := key) (v := val) ht hn hk
  unfold Oper.wp
  simp [execOp, hop, hm, hx, hv, hrun, Result.andThen]
  exact hK' _ _ (hK w' r1 r2)
theorem Upd.ownAtN {B : Nat} {a b c : World} (h : Upd [] [] a b) (k : Upd [B] [B] b c) (hB : a.heap.size ≤ B) : Upd [] [] a c :=
  ⟨k.os.trans h.os, k.tape.trans h.tape, k.output.trans h.output, Nat.le_trans h.size k.size, fun i hi _ => (k.block i (Nat.lt_of_lt_of_le hi h.size) (by simp; omega)).trans (h.block i hi (by simp)), fun _ hk => absurd hk (by simp)⟩
def fnV (n : Nat) : Value := .func (.func n) #[] #[]
def crtV (k : Bool) (f g p : Nat) : Value := .agg #[.bool k, fnV f, fnV g, fnV p]
def crtF (y : Int) : Option Value :=
  if y = 7 then some (crtV true 80 81 83) else
  if y = 6 then some (crtV true 80 81 82) else
  if y = 5 then some (crtV false 78 68 79) else
  if y = 4 then some (crtV false 76 70 77) else
  if y = 3 then some (crtV false 74 68 75) else
  if y = 2 then some (crtV false 72 68 73) else
  if y = 1 then some (crtV false 67 70 71) else none
theorem undC : Tryz.prog.underlying 90 = some (.map 3 88) := by kernel_rfl
theorem zeroC (w : World) : (zeroValue 88).run Tryz.prog w = .ok (.agg #[.bool false, .nilFunc, .nilFunc, .nilFunc]) w := by kernel_rfl
set_option maxHeartbeats 4000000 in
theorem courts_any (w : World) : Calls Tryz.prog 33 #[] w (fun e w' => ∃ b, e = .returned (.map (some b)) ∧ Hid (MapF w' b 7 crtF) ∧ Upd [] [] w w') := by
  have hF0 := MapF.made w
  have u0 : Upd [] [] w (w.alloc (.map #[] 0)) := (Upd.refl _ _).alloc _
  have HU0 := Lib.hid u0
  have hmm := @run_makeMap Tryz.prog
  clear u0
  go_enter Tryz.func33, Tryz.ntmps33
  go_upto_region 4 with (fail)
  go_wp2_with (first | (refine wpList_ins_F _ rfl _ _ _ 90 rfl _ undC w.heap.size 0 _ rfl hF0 (by unfold maxLen; omega) _ _ rfl rfl (by omega) ?_; intro w1 hF1 hU1) | (refine wpList_ins_F _ rfl _ _ _ 90 rfl _ undC w.heap.size 1 _ rfl hF1 (by unfold maxLen; omega) _ _ rfl rfl (by omega) ?_; intro w2 hF2 hU2) | (refine wpList_ins_F _ rfl _ _ _ 90 rfl _ undC w.heap.size 2 _ rfl hF2 (by unfold maxLen; omega) _ _ rfl rfl (by omega) ?_; intro w3 hF3 hU3) | (refine wpList_ins_F _ rfl _ _ _ 90 rfl _ undC w.heap.size 3 _ rfl hF3 (by unfold maxLen; omega) _ _ rfl rfl (by omega) ?_; intro w4 hF4 hU4) | (refine wpList_ins_F _ rfl _ _ _ 90 rfl _ undC w.heap.size 4 _ rfl hF4 (by unfold maxLen; omega) _ _ rfl rfl (by omega) ?_; intro w5 hF5 hU5) | (refine wpList_ins_F _ rfl _ _ _ 90 rfl _ undC w.heap.size 5 _ rfl hF5 (by unfold maxLen; omega) _ _ rfl rfl (by omega) ?_; intro w6 hF6 hU6) | (refine wpList_ins_F _ rfl _ _ _ 90 rfl _ undC w.heap.size 6 _ rfl hF6 (by unfold maxLen; omega) _ _ rfl rfl (by omega) ?_; intro w7 hF7 hU7))
  go_ret
  refine ⟨_, rfl, ?_, ?_⟩
  · exact hF7
  · exact ((((((HU0.out.ownAtN hU1 (Nat.le_refl _)).ownAtN hU2 (Nat.le_refl _)).ownAtN hU3 (Nat.le_refl _)).ownAtN hU4 (Nat.le_refl _)).ownAtN hU5 (Nat.le_refl _)).ownAtN hU6 (Nat.le_refl _)).ownAtN hU7 (Nat.le_refl _)
end Go.Proofs.YtcimcodljjcmgaaGreatDoor

namespace Go.Proofs.YtcimcodljjcmgaaGreatDoor
open Go.RowKit
set_option maxRecDepth 100000

def evdL (kind who aw : Int) (aT : ByteArray) (ar as' bw : Int) (bT : ByteArray) (br bs' low high : Int) (F A B : ByteArray) : List Value :=
  [.int .i64 kind, .int .i64 who, .int .i64 aw, .string aT, .int .i64 ar, .int .i64 as', .int .i64 bw, .string bT, .int .i64 br, .int .i64 bs', .int .i64 low, .int .i64 high, .string F, .string A, .string B, .int .i64 0, .int .i64 0, .int .i64 0, .int .i64 0]
def mtL (m1 m2 m3 m4 : Value) (kind who aw : Int) (aT : ByteArray) (ar as' bw : Int) (bT : ByteArray) (br bs' low high : Int) (F A B : ByteArray) (id wt pub : Int) : List Value :=
  [m1, m2, m3, m4, .int .i64 0, .int .i64 0, .int .i64 kind, .int .i64 who, .int .i64 aw, .string aT, .int .i64 ar, .int .i64 as', .int .i64 bw, .string bT, .int .i64 br, .int .i64 bs', .int .i64 low, .int .i64 high, .string F, .string A, .string B, .int .i64 0, .int .i64 0, .int .i64 0, .int .i64 0, .int .i64 0, .int .i64 id, .int .i64 wt, .int .i64 pub]
structure MtIs (M : Array Value) (aw : Int) (aT : ByteArray) (ar as' bw : Int) (bT : ByteArray) (br bs' low high : Int) (F A B : ByteArray) (id pub : Int) : Prop where
  sz : M.size = 29
  a0 : M[8]? = some (.int .i64 aw)
  a1 : M[9]? = some (.string aT)
  a2 : M[10]? = some (.int .i64 ar)
  a3 : M[11]? = some (.int .i64 as')
  b0 : M[12]? = some (.int .i64 bw)
  b1 : M[13]? = some (.string bT)
  b2 : M[14]? = some (.int .i64 br)
  b3 : M[15]? = some (.int .i64 bs')
  d0 : M[16]? = some (.int .i64 low)
  d1 : M[17]? = some (.int .i64 high)
  d2 : M[18]? = some (.string F)
  d3 : M[19]? = some (.string A)
  d4 : M[20]? = some (.string B)
  i : M[26]? = some (.int .i64 id)
  p : M[28]? = some (.int .i64 pub)
theorem MtIs.of (m1 m2 m3 m4 : Value) (kind who aw : Int) (aT : ByteArray) (ar as' bw : Int) (bT : ByteArray) (br bs' low high : Int) (F A B : ByteArray) (id wt pub : Int) :
    MtIs (mtL m1 m2 m3 m4 kind who aw aT ar as' bw bT br bs' low high F A B id wt pub).toArray aw aT ar as' bw bT br bs' low high F A B id pub :=
  ⟨rfl, rfl, rfl, rfl, rfl, rfl, rfl, rfl, rfl, rfl, rfl, rfl, rfl, rfl, rfl, rfl⟩
theorem mtInfo {M : Array Value} (h : M.size = 29) : (Tryz.prog.info? 95).map (·.size) = some M.size := by
  rw [h]
  kernel_rfl
section
variable {M : Array Value} {aw ar as' bw br bs' low high id pub : Int} {aT bT F A B : ByteArray}
set_option maxHeartbeats 2000000 in
theorem theirs_any (h : MtIs M aw aT ar as' bw bT br bs' low high F A B id pub) (vw vr vs : Int) (vT : ByteArray) (hp : i64in pub) (hr : i64in vr) (hs : i64in vs) (ht : vT.size ≤ 140737488355000) (w : World) (htab : Tabs w) :
    Calls Tryz.prog 69 #[.agg M, .agg #[.int .i64 vw, .string vT, .int .i64 vr, .int .i64 vs]] w (MkB (decide (vw = id) && verB pub (bs vT) vr vs) w) := by
  obtain ⟨g, hg⟩ : ∃ g, w.heap.size = g := ⟨_, rfl⟩
  obtain ⟨w0, hw0⟩ : ∃ W, w.alloc (.cells M 95) = W := ⟨_, rfl⟩
  have r0 : w0.heap[g]? = some (.cells M 95 (0, 0)) := by rw [← hg, ← hw0]; exact heap_alloc_new _ _
  have u0 : Upd [] [] w w0 := by rw [← hw0]; exact (Upd.refl _ _).alloc _
  obtain ⟨gV, hgV⟩ : ∃ g, w0.heap.size = g := ⟨_, rfl⟩
  obtain ⟨w1, hw1⟩ : ∃ W, w0.alloc (.cells #[.int .i64 vw, .string vT, .int .i64 vr, .int .i64 vs] 52) = W := ⟨_, rfl⟩
  have r1 : w1.heap[gV]? = some (.cells #[.int .i64 vw, .string vT, .int .i64 vr, .int .i64 vs] 52 (0, 0)) := by rw [← hgV, ← hw1]; exact heap_alloc_new _ _
  have u1 : Upd [] [] w0 w1 := by rw [← hw1]; exact (Upd.refl _ _).alloc _
  have U1 := Lib.hid (u0.trans u1)
  have q0 := row_updH r0 u1
  have cI := (cell_of_row _ g 26 _ _ _ q0).trans h.i
  have cP := (cell_of_row _ g 28 _ _ _ q0).trans h.p
  have c0 := (cell_of_row _ gV 0 _ _ _ r1).trans (show _ = some (Value.int .i64 vw) from rfl)
  have c1 := (cell_of_row _ gV 1 _ _ _ r1).trans (show _ = some (Value.string vT) from rfl)
  have c2 := (cell_of_row _ gV 2 _ _ _ r1).trans (show _ = some (Value.int .i64 vr) from rfl)
  have c3 := (cell_of_row _ gV 3 _ _ _ r1).trans (show _ = some (Value.int .i64 vs) from rfl)
  have HV := Lib.hid (verify_any pub vT vr vs w1 hp hr hs ht (htab.upd U1.out))
  clear h r0 u0 r1 u1 q0 hp hr hs ht
  by_cases hid' : vw = id
  · have hb : (vw == id) = true := by rw [beq_iff_eq]; exact hid'
    have HD : Hid (decide (vw = id) = true) := decide_eq_true hid'
    clear hid'
    go_enter Tryz.func69, Tryz.ntmps69
    go_wp2_with fail
    refine HV.out.mono ?_
    rintro e w2 ⟨b, HB, rfl, hq⟩
    have U2 := Lib.hid (U1.out.trans hq)
    clear hq HV
    go_wp2_with fail
    go_ret
    exact ⟨b, by show _ = _; rw [HB.out, HD.out, Bool.true_and], rfl, U2.out⟩
  · have hb : (vw == id) = false := by rw [beq_eq_false_iff_ne]; exact hid'
    have HD : Hid (decide (vw = id) = false) := decide_eq_false hid'
    go_enter Tryz.func69, Tryz.ntmps69
    go_wp2_with fail
    go_ret
    exact ⟨false, by show _ = _; rw [HD.out, Bool.false_and], rfl, U1.out⟩
theorem pass_any (w : World) : Calls Tryz.prog 67 #[.agg M] w (Mk (.bool true) w) := by
  go_enter Tryz.func67, Tryz.ntmps67
  go_wp2_with fail
  go_ret
  exact ⟨rfl, (Upd.refl _ _).alloc _⟩
set_option maxHeartbeats 2000000 in
theorem one_any (h : MtIs M aw aT ar as' bw bT br bs' low high F A B id pub) (hp : i64in pub) (hr : i64in ar) (hs : i64in as') (ht : aT.size ≤ 140737488355000) (w : World) (htab : Tabs w) :
    Calls Tryz.prog 68 #[.agg M] w (MkB (decide (aw = id) && verB pub (bs aT) ar as') w) := by
  obtain ⟨g, hg⟩ : ∃ g, w.heap.size = g := ⟨_, rfl⟩
  obtain ⟨w0, hw0⟩ : ∃ W, w.alloc (.cells M 95) = W := ⟨_, rfl⟩
  have r0 := Lib.hid (show w0.heap[g]? = some (.cells M 95 (0, 0)) by rw [← hg, ← hw0]; exact heap_alloc_new _ _)
  have u0 := Lib.hid (show Upd [] [] w w0 by rw [← hw0]; exact (Upd.refl _ _).alloc _)
  have c0 := (cell_of_row _ g 8 _ _ _ r0.out).trans h.a0
  have c1 := (cell_of_row _ g 9 _ _ _ r0.out).trans h.a1
  have c2 := (cell_of_row _ g 10 _ _ _ r0.out).trans h.a2
  have c3 := (cell_of_row _ g 11 _ _ _ r0.out).trans h.a3
  have HT := Lib.hid (theirs_any h aw ar as' aT hp hr hs ht w0 (htab.upd u0.out))
  have HI := Lib.hid (mtInfo h.sz)
  clear h
  go_enter Tryz.func68, Tryz.ntmps68
  go_wp2_with (first | (refine wpList_load_row rfl 95 _ rfl g rfl _ M _ _ r0.out Tryz.underlying95 rfl HI.out ?_))
  refine HT.out.mono ?_
  rintro e w1 ⟨b, HB, rfl, hq⟩
  have U1 := Lib.hid (u0.out.trans hq)
  clear hq HT
  go_wp2_with fail
  go_ret
  exact ⟨b, HB, rfl, U1.out⟩
end
end Go.Proofs.YtcimcodljjcmgaaGreatDoor

namespace Go.Proofs.YtcimcodljjcmgaaGreatDoor
open Go.RowKit
set_option maxRecDepth 100000

theorem natOf_one (d : Nat) (h0 : 0 < d) (hd : d < 4294967296) (w : World) : Calls Tryz.prog 9 #[.int .i64 (d : Int)] w (MkNat d w) := by
  have HS := Lib.hid (split_any d (by omega) w)
  have e1 : (d : Int) % 18446744073709551616 = (d : Int) := by omega
  have i0 : ¬ (d : Int) < 0 := by omega
  go_enter Tryz.func9, Tryz.ntmps9
  go_wp2_with fail
  refine HS.out.mono ?_
  rintro e w1 ⟨v, HV, rfl, hu⟩
  have HN := Lib.hid (natNumber_any v (dw d) w1 HV.out (dw_ok d) (by rw [dw_one h0 hd]; simp))
  rw [valW_dg] at HN
  have HU := Lib.hid hu
  clear hu HS
  go_wp2_with fail
  refine HN.out.mono ?_
  rintro e w2 ⟨r, HR, rfl, hu⟩
  have HU2 := Lib.hid (HU.out.trans hu)
  clear hu HN
  go_wp2_with fail
  go_ret
  exact ⟨r, HR, rfl, HU2.out⟩
theorem natMul33 (s t : ByteArray) (hs : bs s = be 3) (ht : bs t = be 3) (w : World) : Calls Tryz.prog 168 #[.string s, .string t] w (MkNat 9 w) := by
  have HS := Lib.hid (digits_one s 3 hs (by omega) (by omega) w)
  have HT := Lib.hid (fun w' => digits_one t 3 ht (by omega) (by omega) w')
  clear hs ht
  go_enter Tryz.func168, Tryz.ntmps168
  go_wp2_with fail
  refine HS.out.mono ?_
  rintro e w1 ⟨v, HV, rfl, hu1⟩
  have HU1 := Lib.hid hu1
  clear hu1 HS
  go_wp2_with fail
  refine (HT.out w1).mono ?_
  rintro e w2 ⟨u, HU, rfl, hu2⟩
  have HM := Lib.hid (mul33 v u w2 (HV.out.upd hu2) HU.out)
  have HU2 := Lib.hid (HU1.out.trans hu2)
  clear hu2 HT HU1 HV HU
  go_wp2_with fail
  refine HM.out.mono ?_
  rintro e w3 ⟨z, HZ, rfl, hu3⟩
  have HN := Lib.hid (natNumber_any z [9] w3 HZ.out (fun d hd => by simp at hd; omega) (by simp))
  rw [show valW [9] = 9 from rfl] at HN
  have HU3 := Lib.hid (HU2.out.trans hu3)
  clear hu3 HM HU2 HZ
  go_wp2_with fail
  refine HN.out.mono ?_
  rintro e w4 ⟨r, HR, rfl, hu4⟩
  have HU4 := Lib.hid (HU3.out.trans hu4)
  clear hu4 HN HU3
  go_wp2_with fail
  go_ret
  exact ⟨r, HR, rfl, HU4.out⟩
def modB : ByteArray := ⟨#[138, 0, 176, 218, 162, 135, 68, 214, 164, 195, 198, 36, 84, 110, 75, 89]⟩
theorem modB_big : 4294967296 ≤ natB (bs modB) := by decide
theorem dw_two {n : Nat} (h : 4294967296 ≤ n) : 2 ≤ (dw n).length := by
  rw [dw_pos (by omega), List.length_cons, dw_pos (by omega), List.length_cons]
  omega
theorem quoM_one (s : ByteArray) (d : Nat) (hs : bs s = be d) (h0 : 0 < d) (hd : d < 4294967296) (w : World) :
    Calls Tryz.prog 201 #[.string s, .string ⟨#[138, 0, 176, 218, 162, 135, 68, 214, 164, 195, 198, 36, 84, 110, 75, 89]⟩] w (fun e w' => ∃ q r : ByteArray, Hid (bs r = be d) ∧ e = .returned (.tuple #[.string q, .string r, .bool true]) ∧ Upd [] [] w w') := by
  have HM := Lib.hid (digits_any modB w (by decide))
  have HS := Lib.hid (fun w' => digits_one s d hs h0 hd w')
  have HDV : Hid (∀ (u v : Value) (w : World), Wd w u [d] → Wd w v (dw (natB (bs modB))) → Calls Tryz.prog 232 #[u, v] w (fun e w' => e = .returned (.tuple #[.slice none 0 0, u]) ∧ Upd [] [] w w')) := by
    intro u v w hu hv
    have HC := Lib.hid (compare_len u v _ _ w hu hv (by have := dw_two modB_big; show 1 < _; omega))
    clear hu hv
    go_enter Tryz.func232, Tryz.ntmps232
    go_wp2_with fail
    refine HC.out.mono ?_
    rintro e w1 ⟨rfl, hu⟩
    have HU := Lib.hid hu
    clear hu
    go_wp2_with fail
    go_ret2
    exact ⟨rfl, HU.out⟩
  clear hs
  go_enter Tryz.func201, Tryz.ntmps201
  go_wp2_with fail
  refine HM.out.mono ?_
  rintro e w1 ⟨v, HV, rfl, hu1⟩
  obtain ⟨ao, cap, rfl, _, _⟩ := HV.out.form
  have hne : ((((dw (natB (bs modB))).length : Nat) : Int) == 0) = false := by rw [beq_eq_false_iff_ne]; have := dw_two modB_big; omega
  obtain ⟨L, hL⟩ : ∃ L, L = (dw (natB (bs modB))).length := ⟨_, rfl⟩
  rw [← hL] at hne HV ⊢
  have hne2 : (L == 0) = false := by rw [beq_eq_false_iff_ne, hL]; have := dw_two modB_big; omega
  have hne3 : ¬ L = 0 := by rw [hL]; have := dw_two modB_big; omega
  have HU1 := Lib.hid hu1
  clear hu1 HM hL
  go_wp2_with fail
  refine (HS.out w1).mono ?_
  rintro e w2 ⟨u, HUU, rfl, hu2⟩
  have HD := Lib.hid (HDV.out u _ w2 HUU.out (HV.out.upd hu2))
  have HU2 := Lib.hid (HU1.out.trans hu2)
  clear hu2 HS HU1 HDV HV hne hne2 hne3
  go_wp2_with fail
  refine HD.out.mono ?_
  rintro e w3 ⟨rfl, hu3⟩
  have HN0 := Lib.hid (natNumber_any (.slice none 0 0) [] w3 (Wd.nil w3) okW_nil (by simp))
  have HN1 := Lib.hid (fun w' (q : Upd [] [] w3 w') => natNumber_any u [d] w' ((HUU.out.upd hu3).upd q) (fun d hd => by simp at hd; omega) (by simp))
  have HU3 := Lib.hid (HU2.out.trans hu3)
  clear hu3 HD HU2 HUU
  go_wp2_with fail
  refine HN0.out.mono ?_
  rintro e w4 ⟨q, _, rfl, hu4⟩
  have HN := Lib.hid (HN1.out w4 hu4)
  rw [show valW [d] = d by simp [valW]] at HN
  have HU4 := Lib.hid (HU3.out.trans hu4)
  clear hu4 HN0 HN1 HU3
  go_wp2_with fail
  refine HN.out.mono ?_
  rintro e w5 ⟨r, HR, rfl, hu5⟩
  have HU5 := Lib.hid (HU4.out.trans hu5)
  clear hu5 HN HU4
  go_wp2_with fail
  go_ret3
  exact ⟨q, r, HR, rfl, HU5.out⟩
end Go.Proofs.YtcimcodljjcmgaaGreatDoor

namespace Go.Proofs.YtcimcodljjcmgaaGreatDoor
open Go.RowKit
set_option maxRecDepth 100000

theorem rest_one (s : ByteArray) (d : Nat) (hs : bs s = be d) (h0 : 0 < d) (hd : d < 4294967296) (w : World) : Calls Tryz.prog 167 #[.string s] w (MkNat d w) := by
  have HQ := Lib.hid (quoM_one s d hs h0 hd w)
  clear hs
  go_enter Tryz.func167, Tryz.ntmps167
  go_wp2_with fail
  refine HQ.out.mono ?_
  rintro e w1 ⟨q, r, HR, rfl, hu⟩
  have HU := Lib.hid hu
  clear hu HQ
  go_wp2_with fail
  go_ret
  exact ⟨r, HR, rfl, HU.out⟩
theorem square3 (s : ByteArray) (hs : bs s = be 3) (w : World) : Calls Tryz.prog 129 #[.string s] w (MkNat 9 w) := by
  have HQ := Lib.hid (rest_one s 3 hs (by omega) (by omega) w)
  clear hs
  go_enter Tryz.func129, Tryz.ntmps129
  go_wp2_with fail
  refine HQ.out.mono ?_
  rintro e w1 ⟨r, HR, rfl, hu⟩
  have HM := Lib.hid (natMul33 r r HR.out HR.out w1)
  have HU := Lib.hid hu
  clear hu HQ
  go_wp2_with fail
  refine HM.out.mono ?_
  rintro e w2 ⟨z, HZ, rfl, hu⟩
  have HT := Lib.hid (rest_one z 9 HZ.out (by omega) (by omega) w2)
  have HU2 := Lib.hid (HU.out.trans hu)
  clear hu HM HU
  go_wp2_with fail
  refine HT.out.mono ?_
  rintro e w3 ⟨y, HY, rfl, hu⟩
  have HU3 := Lib.hid (HU2.out.trans hu)
  clear hu HT HU2
  go_wp2_with fail
  go_ret
  exact ⟨y, HY, rfl, HU3.out⟩
theorem natCmp_same (s t : ByteArray) (d : Nat) (hs : bs s = be d) (ht : bs t = be d) (h0 : 0 < d) (hd : d < 4294967296) (w : World) : Calls Tryz.prog 128 #[.string s, .string t] w (MkInt 0 w) := by
  have HS := Lib.hid (digits_one s d hs h0 hd w)
  have HT := Lib.hid (fun w' => digits_one t d ht h0 hd w')
  clear hs ht
  go_enter Tryz.func128, Tryz.ntmps128
  go_wp2_with fail
  refine HS.out.mono ?_
  rintro e w1 ⟨v, HV, rfl, hu1⟩
  have HU1 := Lib.hid hu1
  clear hu1 HS
  go_wp2_with fail
  refine (HT.out w1).mono ?_
  rintro e w2 ⟨u, HU, rfl, hu2⟩
  have HM := Lib.hid (compare_same v u d w2 (HV.out.upd hu2) HU.out)
  have HU2 := Lib.hid (HU1.out.trans hu2)
  clear hu2 HT HU1 HV HU
  go_wp2_with fail
  refine HM.out.mono ?_
  rintro e w3 ⟨rfl, hu3⟩
  have HU3 := Lib.hid (HU2.out.trans hu3)
  clear hu3 HM HU2
  go_wp2_with fail
  go_ret
  exact ⟨rfl, HU3.out⟩
theorem natCmp_less (s t : ByteArray) (d c : Nat) (hs : bs s = be d) (ht : bs t = be c) (h0 : 0 < d) (hdc : d < c) (hc : c < 4294967296) (w : World) : Calls Tryz.prog 128 #[.string s, .string t] w (MkInt (-1) w) := by
  have HS := Lib.hid (digits_one s d hs h0 (by omega) w)
  have HT := Lib.hid (fun w' => digits_one t c ht (by omega) hc w')
  clear hs ht
  go_enter Tryz.func128, Tryz.ntmps128
  go_wp2_with fail
  refine HS.out.mono ?_
  rintro e w1 ⟨v, HV, rfl, hu1⟩
  have HU1 := Lib.hid hu1
  clear hu1 HS
  go_wp2_with fail
  refine (HT.out w1).mono ?_
  rintro e w2 ⟨u, HU, rfl, hu2⟩
  have HM := Lib.hid (compare_less v u d c w2 (HV.out.upd hu2) HU.out hdc)
  have HU2 := Lib.hid (HU1.out.trans hu2)
  clear hu2 HT HU1 HV HU
  go_wp2_with fail
  refine HM.out.mono ?_
  rintro e w3 ⟨rfl, hu3⟩
  have HU3 := Lib.hid (HU2.out.trans hu3)
  clear hu3 HM HU2
  go_wp2_with fail
  go_ret
  exact ⟨rfl, HU3.out⟩
end Go.Proofs.YtcimcodljjcmgaaGreatDoor
