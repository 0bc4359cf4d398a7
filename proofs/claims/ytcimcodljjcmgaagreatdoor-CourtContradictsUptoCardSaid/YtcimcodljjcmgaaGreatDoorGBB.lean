/- sortesref11: Words, Hex, Unhex. -/
import Derived.Test.YtcimcodljjcmgaaGreatDoorGAA
import Derived.Test.YtcimcodljjcmgaaGreatDoorGAM
import Derived.Test.YtcimcodljjcmgaaGreatDoorGAI
import Derived.Test.YtcimcodljjcmgaaGreatDoorGAG
import Derived.Test.YtcimcodljjcmgaaGreatDoorGAN
import Derived.Test.YtcimcodljjcmgaaGreatDoorGAS
namespace Go.Proofs.YtcimcodljjcmgaaGreatDoor
open Go.RowKit
set_option maxRecDepth 100000

def WsAt (w : World) (v : Value) (P : List ByteArray) : Prop := ∃ ao cap, v = .slice ao P.length cap ∧ P.length ≤ cap ∧ cap ≤ maxLen ∧ (P.length = 0 ∨ ∃ b, ao = some ⟨b, 0, none⟩ ∧ b < w.heap.size ∧ ∀ (j : Nat) (p : ByteArray), P[j]? = some p → w.cell? ⟨b, j, none⟩ = some (.string p))
theorem strVals_bs (P : List ByteArray) : strVals (P.map bs) = P.map Value.string := by
  simp only [strVals, List.map_map]
  apply List.map_congr_left
  intro p _
  exact strV_bs p
theorem WsAt.of_row {w : World} {v : Value} {P : List ByteArray} (h : StrRow w v (P.map bs)) : WsAt w v P := by
  have h' : w.ownsRow 0 9 1 v P.length (P.map Value.string) := by
    have h := h
    unfold StrRow at h
    rw [strVals_bs, List.length_map] at h
    exact h
  by_cases h0 : P.length = 0
  · obtain ⟨ao, cap, rfl, h1, h2⟩ := row_slice h'
    exact ⟨ao, cap, rfl, h1, h2, .inl h0⟩
  · obtain ⟨g, cap, cur, rfl, hg, h1, h2, h3, h4⟩ := row_pos h' (by omega)
    refine ⟨_, cap, rfl, h1, h2, .inr ⟨g, rfl, (Array.getElem?_eq_some_iff.1 hg).1, fun j p hj => ?_⟩⟩
    have hjl := (List.getElem?_eq_some_iff.1 hj).1
    rw [cell_of_row w g j _ _ _ hg]
    have e : (P.map Value.string)[j]? = some (.string p) := by simp [hj]
    rw [← h4, Nat.mul_one, List.getElem?_take_of_lt hjl] at e
    simpa using e
theorem WsAt.upd {w w' : World} {v : Value} {P : List ByteArray} (h : WsAt w v P) (u : Upd [] [] w w') : WsAt w' v P := by
  obtain ⟨ao, cap, rfl, h1, h2, h3⟩ := h
  refine ⟨ao, cap, rfl, h1, h2, ?_⟩
  rcases h3 with h3 | ⟨b, rfl, hb, hc⟩
  · exact .inl h3
  · exact .inr ⟨b, rfl, Nat.lt_of_lt_of_le hb u.size, fun j d hj => (u.cell hb (by simp)).trans (hc j d hj)⟩
def MkWds (s : ByteArray) (w : World) (e : Ending) (w' : World) : Prop := ∃ (P : List ByteArray) (v : Value), Hid (IsWords (bs s) (P.map bs) ∧ ∀ p ∈ P, p.size ≤ s.size) ∧ Hid (WsAt w' v P) ∧ e = .returned v ∧ Upd [] [] w w'
theorem ext_bs (s : ByteArray) (fr i : Nat) : bs (s.extract fr i) = ((bs s).drop fr).take (i - fr) := bs_extract s fr i
set_option maxHeartbeats 2000000 in
theorem words_any (s : ByteArray) (w : World) (hs : s.size ≤ 100000000) : Calls Tryz.prog 47 #[.string s] w (MkWds s w) := by
  go_enter Tryz.func47, Tryz.ntmps47
  go_wp2_with fail
  go_loopw [3, 4, 5] (fun o f i wr => ∃ (P : List ByteArray) (fr k : Nat), f = .int .i64 (fr : Int) ∧ i = .int .i64 (k : Int) ∧ k ≤ s.size + 1 ∧ fr ≤ k ∧ Hid ((k ≤ s.size ∧ WInv (bs s) (P.map bs) fr k) ∨ (k = s.size + 1 ∧ IsWords (bs s) (P.map bs))) ∧ Hid (P.length ≤ s.size + 1 ∧ ∀ p ∈ P, p.size ≤ s.size) ∧ Hid (StrRow wr o (P.map bs)) ∧ Hid (Upd [] (foot o) w wr)) (fun _ _ i _ => s.size + 2 - (intOf i).toNat)
  case atStart => exact ⟨[], 0, 0, rfl, rfl, Nat.zero_le _, Nat.le_refl _, .inl ⟨Nat.zero_le _, WInv.start _⟩, ⟨Nat.zero_le _, by simp⟩, strRow_nil w, Upd.refl _ _⟩
  case round =>
    obtain ⟨P, fr, k, rfl, rfl, hk, hfr, HI, HL, HR, HU⟩ := hrel
    by_cases hk1 : k ≤ s.size
    · have hW : WInv (bs s) (P.map bs) fr k := by
        rcases HI.out with h | h
        · exact h.2
        · exact absurd h.1 (by omega)
      have hPl : (P.map bs).length ≤ s.size := hW.len.2
      obtain ⟨v', w1, hrun, hrow, hup⟩ := append_str wr _ (P.map bs) (s.extract fr k) HR.out (by omega)
      have hrow2 : StrRow w1 v' ((P ++ [s.extract fr k]).map bs) := by
        rw [List.map_append]
        exact hrow
      have hP2 : (P ++ [s.extract fr k]).length ≤ s.size + 1 ∧ ∀ p ∈ P ++ [s.extract fr k], p.size ≤ s.size := by
        rw [List.length_map] at hPl
        refine ⟨by rw [List.length_append]; simp; omega, fun p hp => ?_⟩
        rw [List.mem_append, List.mem_singleton] at hp
        rcases hp with hp | rfl
        · exact HL.out.2 p hp
        · rw [ByteArray.size_extract]; omega
      have HRUN := Lib.hid hrun
      have HROW := Lib.hid hrow2
      have HUPP := Lib.hid (HU.out.trans hup)
      have HP2 := Lib.hid hP2
      have f0 : (0 : Int) ≤ (fr : Int) := by omega
      have f1 : (fr : Int) ≤ (k : Int) := by omega
      have f2 : (k : Int) ≤ (s.size : Int) := by omega
      have HW := Lib.hid hW
      clear hrun hrow hup hrow2 hP2 hPl hW HI
      by_cases hlt : k < s.size
      · have e0 : ((k : Int) == (s.size : Int)) = false := by rw [beq_eq_false_iff_ne]; omega
        have hc := bs_get' s k hlt
        by_cases h32 : s[k] = 32
        · have e1 : ((s[k].toNat : Int) == 32) = true := by rw [h32]; rfl
          have HN : Hid (WInv (bs s) ((P ++ [s.extract fr k]).map bs) (k + 1) (k + 1)) := by
            show WInv _ _ _ _
            rw [List.map_append, show List.map bs [s.extract fr k] = [((bs s).drop fr).take (k - fr)] by rw [← ext_bs]; rfl]
            exact HW.out.blank (by rw [hc, h32])
          clear hc h32 HR HL HW HU
          go_wp2_with (refine wpList_append_run _ rfl _ _ _ _ rfl _ _ v' w1 rfl rfl HRUN.out ?_)
          exact ⟨⟨P ++ [s.extract fr k], k + 1, k + 1, by go_num, by go_num, by omega, Nat.le_refl _, .inl ⟨hlt, HN.out⟩, HP2.out, HROW.out, HUPP.out⟩, by simp [intOf]; omega⟩
        · have e1 : ((s[k].toNat : Int) == 32) = false := by
            rw [beq_eq_false_iff_ne]
            exact fun h => h32 (UInt8.toNat_inj.1 (by have : (32 : UInt8).toNat = 32 := rfl; omega))
          have HN := Lib.hid (HW.out.other hc h32)
          clear hc h32 HW HRUN HROW HUPP HP2
          go_wp2_with fail
          exact ⟨⟨P, fr, k + 1, rfl, by go_num, by omega, by omega, .inl ⟨hlt, HN.out⟩, HL.out, HR.out, HU.out⟩, by simp [intOf]; omega⟩
      · obtain rfl : k = s.size := by omega
        have HN : Hid (IsWords (bs s) ((P ++ [s.extract fr s.size]).map bs)) := by
          show IsWords _ _
          have h := HW.out.done rfl
          rw [List.map_append]
          have e : bs (s.extract fr s.size) = (bs s).drop fr := bs_right s fr
          show IsWords _ (_ ++ [bs (s.extract fr s.size)])
          rw [e]
          exact h
        clear HW HR HL HU hlt
        go_wp2_with (refine wpList_append_run _ rfl _ _ _ _ rfl _ _ v' w1 rfl rfl HRUN.out ?_)
        exact ⟨⟨P ++ [s.extract fr s.size], s.size + 1, s.size + 1, by go_num, by go_num, Nat.le_refl _, Nat.le_refl _, .inr ⟨rfl, HN.out⟩, HP2.out, HROW.out, HUPP.out⟩, by first | (simp [intOf]; done) | (simp [intOf]; omega)⟩
    · obtain rfl : k = s.size + 1 := by omega
      have hW : IsWords (bs s) (P.map bs) := by
        rcases HI.out with h | h
        · exact absurd h.1 (by omega)
        · exact h.2
      have HW := Lib.hid hW
      have HUU : Hid (Upd [] [] w wr) := HU.out.mono (fun _ h => h) (fun _ h => absurd h (by simp))
      clear hW HI HU
      go_wp2_with fail
      go_ret
      exact ⟨P, _, ⟨HW.out, HL.out.2⟩, WsAt.of_row HR.out, rfl, HUU.out⟩
set_option maxHeartbeats 2000000 in
theorem hex11_any (s : ByteArray) (w : World) (hs : s.size ≤ 100000000) : Calls Tryz.prog 18 #[.string s] w (MkS (hexL (bs s)) w) := by
  go_enter Tryz.func18, Tryz.ntmps18
  go_wp2_with fail
  go_loopw [4, 5] (fun o i wr => ∃ (k : Nat) (acc : ByteArray), o = .string acc ∧ i = .int .i64 (k : Int) ∧ k ≤ s.size ∧ acc.size = 2 * k ∧ Hid (bs acc = hexL ((bs s).take k)) ∧ Hid (Upd [] [] w wr)) (fun _ i _ => s.size - (intOf i).toNat)
  case atStart => exact ⟨0, ByteArray.empty, rfl, rfl, Nat.zero_le _, rfl, rfl, Upd.refl _ _⟩
  case round =>
    obtain ⟨k, acc, rfl, rfl, hk, has, HS, HU⟩ := hrel
    by_cases hlt : k < s.size
    · have hb := bs_get' s k hlt
      obtain ⟨b, hbE⟩ : ∃ b, b = s[k] := ⟨_, rfl⟩
      have hbT : (s[k].toNat : Int) = (b.toNat : Int) := by rw [hbE]
      rw [← hbE] at hb
      have hb256 : b.toNat < 256 := b.toNat_lt
      obtain ⟨x0, hx0⟩ : ∃ x0, x0 = b.toNat / 16 := ⟨_, rfl⟩
      obtain ⟨x1, hx1⟩ : ∃ x1, x1 = b.toNat % 16 := ⟨_, rfl⟩
      obtain ⟨m0, hm0⟩ : ∃ m0, m0 = x0 + 1 := ⟨_, rfl⟩
      obtain ⟨m1, hm1⟩ : ∃ m1, m1 = x1 + 1 := ⟨_, rfl⟩
      have v0 : (b.toNat : Int).tdiv 16 = (x0 : Int) := by rw [Int.tdiv_eq_ediv_of_nonneg (by omega)]; omega
      have v1 : (b.toNat : Int).tmod 16 = (x1 : Int) := by rw [Int.tmod_eq_emod_of_nonneg (by omega)]; omega
      have v2 : IntKind.u8.wrap ((x0 : Int) + 1) = (m0 : Int) := by unfold IntKind.wrap; simp [IntKind.bits, IntKind.signed]; omega
      have v3 : IntKind.u8.wrap ((x1 : Int) + 1) = (m1 : Int) := by unfold IntKind.wrap; simp [IntKind.bits, IntKind.signed]; omega
      have v4 : IntKind.u8.wrap (x0 : Int) = (x0 : Int) := by unfold IntKind.wrap; simp [IntKind.bits, IntKind.signed]; omega
      have v5 : IntKind.u8.wrap (x1 : Int) = (x1 : Int) := by unfold IntKind.wrap; simp [IntKind.bits, IntKind.signed]; omega
      have y0 := run_slice_digit x0 (by omega)
      have y1 := run_slice_digit x1 (by omega)
      rw [← hm0] at y0
      rw [← hm1] at y1
      have i0 : (0 : Int) ≤ (k : Int) := by omega
      have i1 : (k : Int) < (s.size : Int) := by omega
      have HST : Hid (bs (acc ++ ByteArray.mk #[hexD x0] ++ ByteArray.mk #[hexD x1]) = hexL ((bs s).take (k + 1))) := by
        show _ = _
        have e1 : (bs s).take (k + 1) = (bs s).take k ++ [b] := by rw [List.take_add_one, hb]; rfl
        rw [e1, hexL_snoc, bs_append, bs_append, HS.out, ← hx0, ← hx1]
        simp [bs]
      have hsz : (acc ++ ByteArray.mk #[hexD x0] ++ ByteArray.mk #[hexD x1]).size = 2 * (k + 1) := by
        rw [ByteArray.size_append, ByteArray.size_append, has]
        show 2 * k + 1 + 1 = _
        omega
      have hz : ¬ 9223372036854775807 < 2 * k + 1 + 1 := by omega
      have hz0 : ¬ 9223372036854775807 < 2 * k + 1 := by omega
      clear hx0 hx1 hm0 hm1 hb hbE
      go_upto_region 6 with (fail)
      refine wp_region_noPanic ?_
      refine wp_region_held_drew (S := fun _ => True) (by kernel_rfl) ?_ (fun hHeld => ?_)
      · trivial
      refine tkY 0 hHeld ?_
      refine tkY 1 hHeld ?_
      refine tkY 2 hHeld ?_
      refine tkY 3 hHeld ?_
      refine tkY 4 hHeld ?_
      refine tkY 5 hHeld ?_
      refine tkY 6 hHeld ?_
      refine tkY 7 hHeld ?_
      refine tkY 8 hHeld ?_
      refine tkY 9 hHeld ?_
      refine tkY 10 hHeld ?_
      refine tkY 11 hHeld ?_
      refine tkY 12 hHeld ?_
      refine tkY 13 hHeld ?_
      refine tkY 14 hHeld ?_
      refine tkY 15 hHeld ?_
      refine tkY 16 hHeld ?_
      refine tkY 17 hHeld ?_
      refine tkY 18 hHeld ?_
      refine tkY 19 hHeld ?_
      refine tkY 20 hHeld ?_
      refine tkY 21 hHeld ?_
      refine tkY 22 hHeld ?_
      refine tkY 23 hHeld ?_
      refine tkY 24 hHeld ?_
      refine tkY 25 hHeld ?_
      refine wpAnyH_done (by kernel_rfl) ?_ _
      refine NoPanic.normal ?_
      go_wp2_with fail
      exact ⟨⟨k + 1, _, rfl, by go_num, by omega, hsz, HST, HU.out.drew⟩, by simp [intOf]; omega⟩
    · obtain rfl : k = s.size := by omega
      have hs := HS.out
      rw [List.take_of_length_le (by rw [bs_length]; omega)] at hs
      have HSS := Lib.hid hs
      clear hs hlt hk
      go_wp2_with fail
      go_ret
      refine ⟨acc, HSS, ?_, rfl, HU.out⟩
      rw [← HSS.out, bs_length]
      exact Nat.le_refl _
end Go.Proofs.YtcimcodljjcmgaaGreatDoor
