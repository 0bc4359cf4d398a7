/- sortesref11.Unhex. -/
import Derived.Test.YtcimcodljjcmgaaGreatDoorGAA
import Derived.Test.YtcimcodljjcmgaaGreatDoorGBB
namespace Go.Proofs.YtcimcodljjcmgaaGreatDoor
open Go.RowKit
set_option maxRecDepth 100000

def UnR (l : List UInt8) (r : ByteArray) (ok : Bool) : Prop := (ok = true ↔ (l.length % 2 = 0 ∧ ∀ c ∈ l, c ∈ hx16)) ∧ (ok = true → 2 * r.size = l.length)
def MkUn (l : List UInt8) (w : World) (e : Ending) (w' : World) : Prop := ∃ (r : ByteArray) (ok : Bool), Hid (UnR l r ok) ∧ r.size ≤ 100000000 ∧ e = .returned (.tuple #[.string r, .bool ok]) ∧ Upd [] [] w w'
theorem UnR.bad {l : List UInt8} {c : UInt8} (hc : c ∈ l) (h : digH c = none) : UnR l ⟨#[]⟩ false := by
  refine ⟨⟨(fun e => by cases e), fun hd => ?_⟩, fun e => by cases e⟩
  obtain ⟨n, hn⟩ := hx16_dig.1 (hd.2 c hc)
  rw [h] at hn
  cases hn
theorem UnR.odd {l : List UInt8} (r : ByteArray) (h : ¬ l.length % 2 = 0) : UnR l r false := ⟨⟨(fun e => by cases e), fun hd => absurd hd.1 h⟩, fun e => by cases e⟩
theorem UnR.even {l : List UInt8} {r : ByteArray} (h : l.length % 2 = 0) (hd : digs16 l) (hr : 2 * r.size = l.length) : UnR l r true := ⟨⟨fun _ => ⟨h, fun c hc => hx16_dig.2 (hd c hc)⟩, fun _ => rfl⟩, fun _ => hr⟩
theorem append_u8 (wr : World) (v : Value) (k : Nat) (xs : List Value) (b : UInt8) (hown : wr.ownsRow 0 5 1 v k xs) (hk : k < 1099511627776) :
    ∃ v' w', (Builtin.append_ #[26, 26] 26 #[v, .slice (some ⟨wr.heap.size, 0, none⟩) 1 1]).run Tryz.prog (wr.alloc (.cells #[.int .u8 (b.toNat : Int)] 5)) = .ok v' w' ∧ w'.ownsRow 0 5 1 v' (k + 1) (xs ++ [byteV b]) ∧ Upd (foot v) (foot v') wr w' := by
  have hrow : (wr.alloc (.cells #[.int .u8 (b.toNat : Int)] 5)).ownsRow 0 5 1 v k xs := row_same hown (fun j hj => Below.heap_alloc _ _ _ (row_foot_lt hown j hj))
  have hw1 : (wr.alloc (.cells #[.int .u8 (b.toNat : Int)] 5)).heap[wr.heap.size]? = some (.cells #[.int .u8 (b.toNat : Int)] 5 (0, 0)) := heap_alloc_new _ _
  obtain ⟨iu, u1, u2, u3', u4⟩ := u8_parts
  obtain ⟨v', w', hrun, hown', hup'⟩ := append_block (P := Tryz.prog) (wr.alloc (.cells #[.int .u8 (b.toNat : Int)] 5)) 26 26 5 iu (.int .u8 0) 1 1 Tryz.underlying26 u1 u2 u3' u4 rfl (by omega) v k _ hrow ⟨wr.heap.size, 0, none⟩ 1 1 [byteV b] rfl (by
    intro j u hj
    have : j = 0 := by
      cases j with
      | zero => rfl
      | succ j => simp at hj
    subst this
    simp only [List.getElem?_cons_zero, Option.some.injEq] at hj
    subst hj
    have e : (⟨wr.heap.size, 0, none⟩ : Addr).add 0 = ⟨wr.heap.size, 0, none⟩ := by simp [Addr.add]
    rw [e, cell_of_row _ _ _ _ _ _ hw1]
    rfl) (byteVals_one [b]) (by omega) (by simp only [maxLen]; omega)
  exact ⟨v', w', hrun, hown', ((Upd.refl _ _).alloc _).trans hup'⟩
set_option maxHeartbeats 4000000 in
theorem unhex_any (s : ByteArray) (w : World) (hs : s.size ≤ 100000000) : Calls Tryz.prog 49 #[.string s] w (MkUn (bs s) w) := by
  go_enter Tryz.func49, Tryz.ntmps49
  go_wp2_with fail
  go_loopw [5, 6, 7, 8, 9, 10] (fun o i _ _ _ _ wr => ∃ (e m : Nat) (bl : List UInt8), i = .int .i64 (e : Int) ∧ e = 2 * m ∧ e ≤ s.size ∧ Hid (bl.length = m) ∧ Hid (digs16 ((bs s).take e)) ∧ Hid (wr.ownsRow 0 5 1 o m (byteVals bl)) ∧ Hid (Upd [] (foot o) w wr)) (fun _ i _ _ _ _ _ => s.size - (intOf i).toNat)
  case atStart => exact ⟨0, 0, [], rfl, rfl, Nat.zero_le _, rfl, (fun c h => by simp at h), ⟨by simp [byteVals], .inl ⟨rfl, rfl⟩⟩, Upd.refl _ _⟩
  case round =>
    obtain ⟨e, m, bl, rfl, hem, hes, HL, HD, HR, HU⟩ := hrel
    obtain ⟨e1, he1⟩ : ∃ e1, e1 = e + 1 := ⟨_, rfl⟩
    have x1 : (e : Int) + 1 = (e1 : Int) := by omega
    by_cases hlt : e1 < s.size
    · have hup0 : Upd [] [] w wr := HU.out.mono (fun _ h => h) (fun _ h => absurd h (by simp))
      have HUZ := Lib.hid hup0
      clear hup0
      have hl0 : e < s.size := by omega
      have hb0 := bs_get' s e hl0
      have hb1 := bs_get' s e1 hlt
      obtain ⟨c0, hc0⟩ : ∃ c, c = s[e] := ⟨_, rfl⟩
      obtain ⟨c1, hc1⟩ : ∃ c, c = s[e1] := ⟨_, rfl⟩
      have t0 : (s[e].toNat : Int) = (c0.toNat : Int) := by rw [hc0]
      have t1 : (s[e1].toNat : Int) = (c1.toNat : Int) := by rw [hc1]
      rw [← hc0] at hb0
      rw [← hc1] at hb1
      have HB0 := Lib.hid hb0
      have HB1 := Lib.hid hb1
      have HE1 := Lib.hid he1
      have hml : m ≤ 100000000 := by omega
      have HEM := Lib.hid hem
      have i0 : (0 : Int) ≤ (e : Int) := by omega
      have i1 : (e : Int) < (s.size : Int) := by omega
      have i2 : (0 : Int) ≤ (e1 : Int) := by omega
      have i3 : (e1 : Int) < (s.size : Int) := by omega
      have k0 : IntKind.i64.wrap (e : Int) = (e : Int) := wrap_in (by omega) (by omega)
      have k1 : IntKind.i64.wrap (e1 : Int) = (e1 : Int) := wrap_in (by omega) (by omega)
      clear hb0 hb1 hc0 hc1 he1 hem
      go_wp2_with fail
      refine wp_loop_rounds 3 ?_
      rw [rounds_succ]
      go_wp2_with fail
      go_loopw [9, 10] (fun dv jv wi => ∃ j : Nat, dv = .int .i64 (cand c0 j) ∧ jv = .int .i64 (j : Int) ∧ j ≤ 16 ∧ Hid (Upd [] [] wr wi)) (fun _ jv _ => 16 - (intOf jv).toNat)
      case atStart => exact ⟨0, by unfold cand; cases digH c0 <;> rfl, rfl, Nat.zero_le _, Upd.refl _ _⟩
      case round =>
        obtain ⟨j, rfl, rfl, hj, HUI⟩ := hrel
        by_cases hj16 : j < 16
        · have hix := run_index_digitI j hj16
          by_cases heq : hexD j = c0
          · have hb : (((hexD j).toNat : Int) == (c0.toNat : Int)) = true := by
              rw [beq_iff_eq, heq]
            have hcd := cand_hit hj16 heq
            clear heq
            go_upto_region 14 with (fail)
            refine wp_region_noPanic ?_
            refine wp_region_held_drew (S := fun _ => True) (by kernel_rfl) ?_ (fun hHeld => ?_)
            · trivial
            refine tkY 0 hHeld ?_
            refine tkY 1 hHeld ?_
            refine tkY 2 hHeld ?_
            refine tkY 3 hHeld ?_
            refine tkY 4 hHeld ?_
            refine tkY 5 hHeld ?_
            refine tkY 6 hHeld ?_
            refine tkY 7 hHeld ?_
            refine tkY 8 hHeld ?_
            refine wpAnyH_done (by kernel_rfl) ?_ _
            refine NoPanic.normal ?_
            go_wp2_with fail
            exact ⟨⟨j + 1, by rw [hcd], by go_num, by omega, HUI.out.drew⟩, by simp [intOf]; omega⟩
          · have hb : (((hexD j).toNat : Int) == (c0.toNat : Int)) = false := by
              rw [beq_eq_false_iff_ne]
              exact fun e => heq (UInt8.toNat_inj.1 (by omega))
            have hcd := cand_miss heq
            clear heq
            go_upto_region 14 with (fail)
            refine wp_region_noPanic ?_
            refine wp_region_held_drew (S := fun _ => True) (by kernel_rfl) ?_ (fun hHeld => ?_)
            · trivial
            refine tkY 0 hHeld ?_
            refine tkY 1 hHeld ?_
            refine tkY 2 hHeld ?_
            refine tkY 3 hHeld ?_
            refine tkY 4 hHeld ?_
            refine tkY 5 hHeld ?_
            refine tkY 6 hHeld ?_
            refine tkY 7 hHeld ?_
            refine tkY 8 hHeld ?_
            refine wpAnyH_done (by kernel_rfl) ?_ _
            refine NoPanic.normal ?_
            go_wp2_with fail
            exact ⟨⟨j + 1, by rw [hcd], by go_num, by omega, HUI.out.drew⟩, by simp [intOf]; omega⟩
        · obtain rfl : j = 16 := by omega
          have HU0 := Lib.hid (HUZ.out.trans HUI.out)
          have HR0 := Lib.hid (row_same HR.out (fun k hk => HUI.out.block k (row_foot_lt HR.out k hk) (by simp)))
          have HV0 := Lib.hid (HU.out.trans (HUI.out.widen (by simp)))
          clear HUZ HR HU HUI hj hj16
          cases hd : digH c0 with
          | none =>
            have HN := Lib.hid (UnR.bad (l := bs s) (List.mem_of_getElem? HB0.out) hd)
            have hn1 : cand c0 16 = -1 := by unfold cand; rw [hd]
            clear hd
            rw [hn1]
            clear hn1
            go_wp2_with fail
            go_ret2
            exact ⟨_, false, HN.out, Nat.zero_le _, rfl, HU0.out⟩
          | some n0 =>
            obtain ⟨_, hn0⟩ := dv_of hd
            have hn1 : cand c0 16 = (n0 : Int) := by
              unfold cand
              rw [hd]
              show (if n0 < 16 then (n0 : Int) else -1) = _
              rw [if_pos hn0]
            have HD0 := Lib.hid hd
            clear hd
            rw [hn1]
            clear hn1
            have wn0 : IntKind.i64.wrap (n0 : Int) = (n0 : Int) := wrap_in (by omega) (by omega)
            rename World => wj
            go_wp2_with fail
            rw [rounds_succ]
            go_wp2_with fail
            go_loopw [9, 10] (fun dv jv wi => ∃ j : Nat, dv = .int .i64 (cand c1 j) ∧ jv = .int .i64 (j : Int) ∧ j ≤ 16 ∧ Hid (Upd [] [] wj wi)) (fun _ jv _ => 16 - (intOf jv).toNat)
            case atStart => exact ⟨0, by unfold cand; cases digH c1 <;> rfl, rfl, Nat.zero_le _, Upd.refl _ _⟩
            case round =>
              obtain ⟨j, rfl, rfl, hj, HUI⟩ := hrel
              by_cases hj16 : j < 16
              · have hix := run_index_digitI j hj16
                by_cases heq : hexD j = c1
                · have hb : (((hexD j).toNat : Int) == (c1.toNat : Int)) = true := by
                    rw [beq_iff_eq, heq]
                  have hcd := cand_hit hj16 heq
                  clear heq
                  go_upto_region 14 with (fail)
                  refine wp_region_noPanic ?_
                  refine wp_region_held_drew (S := fun _ => True) (by kernel_rfl) ?_ (fun hHeld => ?_)
                  · trivial
                  refine tkY 0 hHeld ?_
                  refine tkY 1 hHeld ?_
                  refine tkY 2 hHeld ?_
                  refine tkY 3 hHeld ?_
                  refine tkY 4 hHeld ?_
                  refine tkY 5 hHeld ?_
                  refine tkY 6 hHeld ?_
                  refine tkY 7 hHeld ?_
                  refine tkY 8 hHeld ?_
                  refine wpAnyH_done (by kernel_rfl) ?_ _
                  refine NoPanic.normal ?_
                  go_wp2_with fail
                  exact ⟨⟨j + 1, by rw [hcd], by go_num, by omega, HUI.out.drew⟩, by simp [intOf]; omega⟩
                · have hb : (((hexD j).toNat : Int) == (c1.toNat : Int)) = false := by
                    rw [beq_eq_false_iff_ne]
                    exact fun e => heq (UInt8.toNat_inj.1 (by omega))
                  have hcd := cand_miss heq
                  clear heq
                  go_upto_region 14 with (fail)
                  refine wp_region_noPanic ?_
                  refine wp_region_held_drew (S := fun _ => True) (by kernel_rfl) ?_ (fun hHeld => ?_)
                  · trivial
                  refine tkY 0 hHeld ?_
                  refine tkY 1 hHeld ?_
                  refine tkY 2 hHeld ?_
                  refine tkY 3 hHeld ?_
                  refine tkY 4 hHeld ?_
                  refine tkY 5 hHeld ?_
                  refine tkY 6 hHeld ?_
                  refine tkY 7 hHeld ?_
                  refine tkY 8 hHeld ?_
                  refine wpAnyH_done (by kernel_rfl) ?_ _
                  refine NoPanic.normal ?_
                  go_wp2_with fail
                  exact ⟨⟨j + 1, by rw [hcd], by go_num, by omega, HUI.out.drew⟩, by simp [intOf]; omega⟩
              · obtain rfl : j = 16 := by omega
                have HU1 := Lib.hid (HU0.out.trans HUI.out)
                have HR1 := Lib.hid (row_same HR0.out (fun k hk => HUI.out.block k (row_foot_lt HR0.out k hk) (by simp)))
                have HV1 := Lib.hid (HV0.out.trans (HUI.out.widen (by simp)))
                clear HR0 HV0 HU0 HUI hj hj16
                cases hd : digH c1 with
                | none =>
                  have HN := Lib.hid (UnR.bad (l := bs s) (List.mem_of_getElem? HB1.out) hd)
                  have hn1 : cand c1 16 = -1 := by unfold cand; rw [hd]
                  clear hd
                  rw [hn1]
                  clear hn1
                  go_wp2_with fail
                  go_ret2
                  exact ⟨_, false, HN.out, Nat.zero_le _, rfl, HU1.out⟩
                | some n1 =>
                  obtain ⟨_, hn1x⟩ := dv_of hd
                  have hn1 : cand c1 16 = (n1 : Int) := by
                    unfold cand
                    rw [hd]
                    show (if n1 < 16 then (n1 : Int) else -1) = _
                    rw [if_pos hn1x]
                  have HD1 := Lib.hid hd
                  clear hd
                  rw [hn1]
                  clear hn1
                  obtain ⟨m0, hm0⟩ : ∃ m0, m0 = 16 * n0 := ⟨_, rfl⟩
                  obtain ⟨b, hb⟩ : ∃ b, b = UInt8.ofNat (16 * n0 + n1) := ⟨_, rfl⟩
                  have hbn : b.toNat = 16 * n0 + n1 := by rw [hb, UInt8.toNat_ofNat']; omega
                  have q0 : (16 : Int) * (n0 : Int) = (m0 : Int) := by omega
                  have q1 : (m0 : Int) + (n1 : Int) = (b.toNat : Int) := by omega
                  have wm0 : IntKind.i64.wrap (m0 : Int) = (m0 : Int) := wrap_in (by omega) (by omega)
                  have wb0 : IntKind.i64.wrap (b.toNat : Int) = (b.toNat : Int) := wrap_in (by omega) (by omega)
                  have wb1 : IntKind.u8.wrap (b.toNat : Int) = (b.toNat : Int) := by rw [IntKind.wrap_u8]; omega
                  obtain ⟨v', w1, hrun, hown', hup'⟩ := append_u8 wr _ m _ b HR1.out (by omega)
                  have HRUN := Lib.hid hrun
                  have HOWN := Lib.hid hown'
                  have HUP := Lib.hid (HV1.out.trans hup')
                  have HD2 : Hid (digs16 ((bs s).take (e + 2))) := by
                    intro x hx
                    rw [show e + 2 = (e + 1) + 1 by omega, List.take_add_one, List.take_add_one, HB0.out, ← HE1.out, HB1.out] at hx
                    simp only [Option.toList_some, List.mem_append, List.mem_singleton] at hx
                    rcases hx with (hx | rfl) | rfl
                    · exact HD.out x hx
                    · exact ⟨n0, HD0.out⟩
                    · exact ⟨n1, HD1.out⟩
                  have HL2 : Hid ((bl ++ [b]).length = m + 1) := by show _ = _; rw [List.length_append, HL.out]; rfl
                  have e2 : e1 + 1 ≤ s.size := by omega
                  have e3 : e + 2 ≤ s.size := by have := HE1.out; omega
                  have e4 : e + 2 = 2 * (m + 1) := by have := HEM.out; omega
                  clear hb hbn hm0 hrun hown' hup' HR1 HV1
                  go_wp2_with fail
                  rw [rounds_succ]
                  go_wp2_with (refine wpList_append_run _ rfl _ _ _ _ rfl _ _ v' w1 rfl rfl HRUN.out ?_)
                  exact ⟨⟨e + 2, m + 1, bl ++ [b], by go_num, e4, e3, HL2.out, HD2.out, by show World.ownsRow _ _ _ _ _ _ _; rw [byteVals_append]; exact HOWN.out, HUP.out⟩, by simp [intOf]; omega⟩
    · have hown := HR.out
      rw [← HL.out] at hown
      have hcv := conv_row (P := Tryz.prog) wr 26 9 5 Tryz.underlying26 Tryz.underlying5 Tryz.underlying9 _ bl hown
      have HCV := Lib.hid hcv
      have HUU : Hid (Upd [] [] w wr) := HU.out.mono (fun _ h => h) (fun _ h => absurd h (by simp))
      have hml : m ≤ 100000000 := by omega
      have x2 : ¬ (e1 : Int) < (s.size : Int) := by omega
      by_cases hpar : s.size % 2 = 0
      · obtain rfl : e = s.size := by omega
        have hd := HD.out
        rw [List.take_of_length_le (by rw [bs_length]; omega)] at hd
        have HB : Hid (UnR (bs s) ⟨bl.toArray⟩ true) := UnR.even (by rw [bs_length]; exact hpar) hd (by
          rw [bs_length]
          show 2 * bl.length = _
          rw [HL.out]
          omega)
        have v1 : (s.size : Int).tmod 2 = 0 := by rw [Int.tmod_eq_emod_of_nonneg (by omega)]; omega
        have v2 : (s.size : Int) % 2 = 0 := by omega
        clear hd hown hcv HD HR HU hpar
        go_wp2_with fail
        rw [HCV.out]
        go_wp2_with fail
        go_ret2
        exact ⟨⟨bl.toArray⟩, true, HB.out, by show bl.length ≤ _; rw [HL.out]; exact hml, rfl, HUU.out⟩
      · have HB : Hid (UnR (bs s) ⟨bl.toArray⟩ false) := UnR.odd _ (by rw [bs_length]; exact hpar)
        have v1 : (s.size : Int).tmod 2 = 1 := by rw [Int.tmod_eq_emod_of_nonneg (by omega)]; omega
        have v2 : (s.size : Int) % 2 = 1 := by omega
        clear hown hcv HD HR HU hpar
        go_wp2_with fail
        rw [HCV.out]
        go_wp2_with fail
        go_ret2
        exact ⟨⟨bl.toArray⟩, false, HB.out, by show bl.length ≤ _; rw [HL.out]; exact hml, rfl, HUU.out⟩
end Go.Proofs.YtcimcodljjcmgaaGreatDoor
