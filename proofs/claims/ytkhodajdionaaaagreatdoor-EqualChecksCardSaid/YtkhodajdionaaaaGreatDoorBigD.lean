/- sortesref01: number, of, Quo, Text. -/
import Derived.Test.YtkhodajdionaaaaGreatDoorBigC
namespace Go.Proofs.YtkhodajdionaaaaGreatDoor
open Go.RowKit
set_option maxRecDepth 100000

/-- append(v, a, b, c), bytes. -/
theorem append_three (wr : World) (v : Value) (k : Nat) (xs : List Value) (a b c : UInt8) (hown : wr.ownsRow 0 5 1 v k xs) (hk : k < 1099511627776) :
    ∃ v' w', (Builtin.append_ #[100, 100] 100 #[v, .slice (some ⟨wr.heap.size, 0, none⟩) 3 3]).run Tryz.prog (wr.alloc (.cells #[.int .u8 (a.toNat : Int), .int .u8 (b.toNat : Int), .int .u8 (c.toNat : Int)] 5)) = .ok v' w' ∧ w'.ownsRow 0 5 1 v' (k + 3) (xs ++ [byteV a, byteV b, byteV c]) ∧ Upd (foot v) (foot v') wr w' := by
  have hrow : (wr.alloc (.cells #[.int .u8 (a.toNat : Int), .int .u8 (b.toNat : Int), .int .u8 (c.toNat : Int)] 5)).ownsRow 0 5 1 v k xs := row_same hown (fun j hj => Below.heap_alloc _ _ _ (row_foot_lt hown j hj))
  have hw1 : (wr.alloc (.cells #[.int .u8 (a.toNat : Int), .int .u8 (b.toNat : Int), .int .u8 (c.toNat : Int)] 5)).heap[wr.heap.size]? = some (.cells #[.int .u8 (a.toNat : Int), .int .u8 (b.toNat : Int), .int .u8 (c.toNat : Int)] 5 (0, 0)) := heap_alloc_new _ _
  obtain ⟨iu, u1, u2, u3', u4⟩ := u8_parts
  obtain ⟨v', w', hrun, hown', hup'⟩ := append_block (P := Tryz.prog) (wr.alloc (.cells #[.int .u8 (a.toNat : Int), .int .u8 (b.toNat : Int), .int .u8 (c.toNat : Int)] 5)) 100 100 5 iu (.int .u8 0) 1 1 Tryz.underlying100 u1 u2 u3' u4 rfl (by omega) v k _ hrow ⟨wr.heap.size, 0, none⟩ 3 3 [byteV a, byteV b, byteV c] rfl (by
    intro j u hj
    have hj3 : j < 3 := by
      have := (List.getElem?_eq_some_iff.1 hj).1
      simpa using this
    have e : (⟨wr.heap.size, 0, none⟩ : Addr).add j = ⟨wr.heap.size, j, none⟩ := by unfold Addr.add; split <;> simp_all
    rw [e, cell_of_row _ _ _ _ _ _ hw1]
    match j, hj3, hj with
    | 0, _, hj => exact hj
    | 1, _, hj => exact hj
    | 2, _, hj => exact hj) (byteVals_one [a, b, c]) (by omega) (by simp only [maxLen]; omega)
  exact ⟨v', w', hrun, hown', ((Upd.refl _ _).alloc _).trans hup'⟩

theorem Sl.at {w : World} {g n cap : Nat} {l : List Nat} (h : Sl w (.slice (some ⟨g, 0, none⟩) n cap) l) {k d : Nat} (hk : l[k]? = some d) : w.cell? ⟨g, k, none⟩ = some (.int .i64 (d : Int)) := by
  obtain ⟨b, e, hc⟩ := h.get hk
  simp only [Option.some.injEq, Addr.mk.injEq, and_true, true_and] at e
  subst e
  exact hc
theorem byte_of (d s : Nat) : IntKind.u8.wrap ((d : Int) / s) = ((UInt8.ofNat (d / s)).toNat : Int) := by
  rw [IntKind.wrap_u8, UInt8.toNat_ofNat']
  omega

set_option maxHeartbeats 2000000 in
theorem number_big (u : Value) (l : List Nat) (w : World) (hu : Sl w u l) (hl : okL l) (hn : l.length ≤ 100000000) : Calls Tryz.prog 126 #[u] w (MkNat (valL l) w) := by
  obtain ⟨ao, cap, rfl, hu1, hu2⟩ := hu.form
  obtain ⟨n, hnn⟩ : ∃ n, n = l.length := ⟨_, rfl⟩
  rw [← hnn] at hu1 hu hn
  rw [← hnn]
  have HU := Lib.hid hu
  have HN := Lib.hid hnn
  clear hu hnn
  go_enter Tryz.func126, Tryz.ntmps126
  go_wp2_with fail
  go_loopw [3, 4] (fun t i wr => ∃ (z : Int) (k q : Nat) (bl : List UInt8), i = .int .i64 z ∧ z + 1 = (k : Int) ∧ k ≤ n ∧ q ≤ 300000000 ∧ Hid (natB bl = valL (l.drop k)) ∧ Hid (q = bl.length ∧ q = 3 * (n - k)) ∧ Hid (wr.ownsRow 0 5 1 t q (byteVals bl)) ∧ Hid (Upd [] (foot t) w wr)) (fun _ i _ => (intOf i + 1).toNat)
  case atStart => exact ⟨(n : Int) - 1, n, 0, [], rfl, by omega, Nat.le_refl _, Nat.zero_le _, by show _ = _; rw [List.drop_of_length_le (by rw [HN.out]; omega)]; rfl, ⟨rfl, by omega⟩, ⟨by simp [byteVals], .inl ⟨rfl, rfl⟩⟩, Upd.refl _ _⟩
  case round =>
    obtain ⟨z, k, q, bl, rfl, hz, hk, hq, HB, HQ, HR, HUP⟩ := hrel
    have hup0 : Upd [] [] w wr := HUP.out.mono (fun _ h => h) (fun _ h => absurd h (by simp))
    by_cases h0 : 0 < k
    · obtain ⟨j, rfl⟩ : ∃ j, k = j + 1 := ⟨k - 1, by omega⟩
      obtain rfl : z = (j : Int) := by omega
      have hjl : j < l.length := by rw [← HN.out]; omega
      obtain ⟨d, hd⟩ : ∃ d, l[j]? = some d := ⟨_, List.getElem?_eq_getElem hjl⟩
      have hd2 : d < 16777216 := hl d (List.mem_of_getElem? hd)
      obtain ⟨g1, rfl, c1⟩ := (HU.out.upd hup0).get hd
      have hst : natB (bl ++ [UInt8.ofNat (d / 65536), UInt8.ofNat (d / 256), UInt8.ofNat d]) = valL (l.drop j) := by
        rw [natB_three _ _ hd2, HB.out, valL_drop_step hd]
        omega
      have e2 : IntKind.u8.wrap ((d : Int) / 65536) = ((UInt8.ofNat (d / 65536)).toNat : Int) := byte_of d 65536
      have e1 : IntKind.u8.wrap ((d : Int) / 256) = ((UInt8.ofNat (d / 256)).toNat : Int) := byte_of d 256
      have e0 : IntKind.u8.wrap (d : Int) = ((UInt8.ofNat d).toNat : Int) := by rw [IntKind.wrap_u8, UInt8.toNat_ofNat']; omega
      generalize UInt8.ofNat (d / 65536) = b2 at *
      generalize UInt8.ofNat (d / 256) = b1 at *
      generalize UInt8.ofNat d = b0 at *
      obtain ⟨v', w', hrun, hown', hup'⟩ := append_three wr.drew _ q _ b2 b1 b0 (row_same HR.out (fun _ _ => rfl)) (by omega)
      have HRUN := Lib.hid hrun
      have HOWN := Lib.hid hown'
      have HUPP := Lib.hid (HUP.out.drew.trans hup')
      have c3 := (HU.out.upd (HUPP.out.mono (fun _ h => h) (fun _ h => absurd h (by simp)))).at hd
      have HST := Lib.hid hst
      have hq2 := HQ.out
      have hq3 : q + 3 ≤ 300000000 := by omega
      have hq4 : q + 3 = (bl ++ [b2, b1, b0]).length ∧ q + 3 = 3 * (n - j) := ⟨by rw [List.length_append, ← hq2.1]; rfl, by omega⟩
      have HQQ := Lib.hid hq4
      clear hjl hd hst hrun hown' hup' HUP HR HQ hq2 hq4 hz HB
      go_wp2_with fail
      have p0 : (0 : Int) ≤ (j : Int) := by omega
      have p1 : (j : Int) < (n : Int) := by omega
      have c2 : wr.drew.cell? ⟨g1, j, none⟩ = some (.int .i64 (d : Int)) := c1
      go_region_held3 (fun wp => wp.cell? ⟨g1, j, none⟩ = some (.int .i64 (d : Int))) (first | exact c2 | assumption | go_keep)
        (first | (refine step_append_run _ rfl (.tmp 12) (.tmp 30) 100 100 rfl _ _ _ _ rfl rfl HRUN.out ?_))
      go_wp2_with fail
      exact ⟨⟨(j : Int) - 1, j, q + 3, bl ++ [b2, b1, b0], rfl, by omega, by omega, hq3, HST.out, HQQ.out, by show World.ownsRow _ _ _ _ _ _ _; rw [byteVals_append]; exact HOWN.out, HUPP.out⟩, by first | (simp [intOf]; done) | (simp [intOf]; omega)⟩
    · obtain rfl : k = 0 := by omega
      obtain rfl : z = -1 := by omega
      have hown := HR.out
      rw [HQ.out.1] at hown
      have hcv := conv_row (P := Tryz.prog) wr 100 112 5 Tryz.underlying100 Tryz.underlying5 Tryz.underlying112 u3 bl hown
      have HCV := Lib.hid hcv
      have hbl : bl.length ≤ 300000000 := by rw [← HQ.out.1]; exact hq
      clear hown hcv HR hz h0
      go_wp2_with fail
      rw [HCV.out]
      go_wp2_with fail
      refine (canon_any _ wr (by show bl.length ≤ _; omega)).mono ?_
      rintro e w' ⟨r, HR, rfl, rfl⟩
      go_wp2_with fail
      go_ret
      refine ⟨r, ?_, rfl, hup0⟩
      show _ = _
      rw [HR.out, bs_mk, HB.out, List.drop_zero]

set_option maxHeartbeats 4000000 in
theorem of_big (a : ByteArray) (x : Nat) (w : World) (hx : x = natB (bs a)) (ha : a.size ≤ 1000000000) (hd : (dg x).length ≤ 100000000) : Calls Tryz.prog 120 #[.string a] w (fun e w' => ∃ v', Hid (Sl w' v' (dg x)) ∧ e = .returned v' ∧ Upd [] [] w w') := by
  have HX := Lib.hid hx
  clear hx
  go_enter Tryz.func120, Tryz.ntmps120
  go_wp2_with fail
  refine (canon_any a w (by omega)).mono ?_
  rintro e w' ⟨r, HR, rfl, rfl⟩
  have hr : bs r = be x := by rw [HR.out, HX.out]
  have hrs : r.size ≤ 1000000000 := by
    have h1 := be_len_le a.size x (by rw [HX.out]; exact natB_lt (bs a))
    have h2 := size_of_be hr
    omega
  have HB := Lib.hid hr
  clear HR hr
  go_wp2_with fail
  go_loopw [3, 4] (fun o e wr => ∃ (z : Int) (t y q : Nat) (out : List Nat), e = .int .i64 z ∧ ((z ≤ 0 ∧ -3 < z ∧ t = 0) ∨ z = (t : Int)) ∧ t ≤ r.size ∧ q ≤ 100000000 ∧ Hid ((be x).take t = be y ∧ t = (be y).length) ∧ Hid (okL out ∧ dg x = out ++ dg y ∧ out.length = q) ∧ Hid (wr.ownsRow 0 3 1 o q (digVals out)) ∧ Hid (Upd [] (foot o) w wr)) (fun _ e _ => (intOf e).toNat)
  case atStart => exact ⟨(r.size : Int), r.size, x, 0, [], rfl, .inr rfl, Nat.le_refl _, Nat.zero_le _, ⟨by rw [← HB.out, List.take_of_length_le (by simp [bs_length])], by rw [← HB.out]; rfl⟩, ⟨okL_nil, rfl, rfl⟩, ⟨by simp [digVals], .inl ⟨rfl, rfl⟩⟩, Upd.refl _ _⟩
  case round =>
    obtain ⟨z, t, y, q, out, rfl, hz, ht, hq, HT, HO, HROW, HUP⟩ := hrel
    have hup0 : Upd [] [] w wr := HUP.out.mono (fun _ h => h) (fun _ h => absurd h (by simp))
    by_cases h0 : 0 < z
    · obtain rfl : z = (t : Int) := by omega
      have ht0 : 0 < t := by omega
      have hy : 0 < y := by
        rcases Nat.eq_zero_or_pos y with h | h
        · have := HT.out.2
          rw [h, be_zero] at this
          simp at this
          omega
        · exact h
      obtain ⟨s, hs⟩ : ∃ s, s = t - 3 := ⟨_, rfl⟩
      have hmax : max ((t : Int) - 3) 0 = (s : Int) := by omega
      have hst : s ≤ t := by omega
      have hs3 : t - s ≤ 3 := by omega
      have htx : t ≤ (bs r).length := ht
      have HS := Lib.hid hs
      have HY := Lib.hid hy
      clear hz hs hy
      go_wp2_with fail
      go_loopw [5, 6] (fun d k wq => ∃ m j : Nat, d = .int .i64 (m : Int) ∧ k = .int .i64 (j : Int) ∧ s ≤ j ∧ j ≤ t ∧ Hid (m = natB (((be x).drop s).take (j - s))) ∧ m ≤ 16777215 ∧ wq = wr) (fun _ k _ => t - (intOf k).toNat)
      case atStart => exact ⟨0, s, rfl, rfl, Nat.le_refl _, hst, by show _ = _; rw [Nat.sub_self, List.take_zero]; rfl, by omega, rfl⟩
      case round =>
        obtain ⟨m, j, rfl, rfl, hj1, hj2, HM, hm, hwq⟩ := hrel
        by_cases hlt : j < t
        · have hjr : j < r.size := by omega
          have hstep : natB (((be x).drop s).take (j + 1 - s)) = m * 256 + r[j].toNat := by
            rw [← HB.out, show j + 1 - s = (j - s) + 1 by omega, List.take_add_one, List.getElem?_drop, show s + (j - s) = j by omega, bs_get r j hjr, Option.toList_some, natB_snoc, HB.out, ← HM.out]
          have hle : m * 256 + r[j].toNat ≤ 16777215 := by
            rw [← hstep]
            have h1 := natB_lt (((be x).drop s).take (j + 1 - s))
            have h2 : (((be x).drop s).take (j + 1 - s)).length ≤ 3 := by rw [List.length_take]; omega
            have h3 := Nat.pow_le_pow_right (n := 256) (by omega) h2
            have h4 : (256 : Nat) ^ 3 = 16777216 := rfl
            omega
          have HST := Lib.hid hstep
          have hle1 : (m : Int) * 256 ≤ 16777215 := by omega
          have hle2 : (m : Int) * 256 + (r[j].toNat : Int) ≤ 16777215 := by omega
          subst hwq
          clear hstep
          go_wp2_with fail
          exact ⟨⟨m * 256 + r[j].toNat, j + 1, by go_num, by go_num, by omega, by omega, HST.out.symm, hle, by first | trivial | rfl⟩, by simp [intOf]; omega⟩
        · obtain rfl : j = t := by omega
          subst hwq
          have hbt : (be x).take j = be y := HT.out.1
          have hlen : j = (be y).length := HT.out.2
          have hmy : m = y % 16777216 := by
            rw [HM.out, ← List.drop_take, hbt, HS.out, hlen, be_mod3]
          have hdy : dg x = (out ++ [m]) ++ dg (y / 16777216) := by
            rw [HO.out.2.1, dg_pos HY.out, ← hmy]
            simp
          have hnt : (be x).take s = be (y / 16777216) := by
            rw [be_div3, ← hlen, ← hbt, List.take_take, ← HS.out]
            congr 1
            omega
          have hns : s = (be (y / 16777216)).length := by
            rw [be_div3, List.length_take, ← hlen, HS.out]
            omega
          have hq1 : q + 1 ≤ 100000000 := by
            have h1 := congrArg List.length hdy
            rw [List.length_append, List.length_append, List.length_singleton, HO.out.2.2] at h1
            omega
          obtain ⟨v', w', hrun, hown', hup'⟩ := append_int wr _ q _ (m : Int) HROW.out (by omega)
          rw [← digVals_snoc] at hown'
          have HRUN := Lib.hid hrun
          have HOWN := Lib.hid hown'
          have HUPP := Lib.hid (HUP.out.trans hup')
          have HN := Lib.hid (And.intro hnt hns)
          have HOO : Hid (okL (out ++ [m]) ∧ dg x = (out ++ [m]) ++ dg (y / 16777216) ∧ (out ++ [m]).length = q + 1) := ⟨okL_snoc HO.out.1 (by omega), hdy, by rw [List.length_append, HO.out.2.2]; rfl⟩
          have hz2 : (((j : Int) - 3 ≤ 0 ∧ -3 < (j : Int) - 3 ∧ s = 0) ∨ (j : Int) - 3 = (s : Int)) := by have := HS.out; omega
          have hs4 : s ≤ r.size := by omega
          have hms : ((j : Int) - 3).toNat < ((j : Int)).toNat := by omega
          clear hbt hlen hmy hdy hnt hns hrun hown' hup' HUP HROW hmax
          go_wp2_with (refine wpList_append_run _ rfl _ _ _ _ rfl _ _ v' w' rfl rfl HRUN.out ?_)
          exact ⟨⟨(j : Int) - 3, s, y / 16777216, q + 1, out ++ [m], rfl, hz2, hs4, hq1, HN.out, HOO, HOWN.out, HUPP.out⟩, by simp only [intOf]; exact hms⟩
    · have hy : y = 0 := by
        rcases Nat.eq_zero_or_pos y with h | h
        · exact h
        · have h1 := be_ne h
          have h2 := HT.out.2
          omega
      have hout : dg x = out := by rw [HO.out.2.1, hy, dg_zero, List.append_nil]
      have hown := HROW.out
      rw [← HO.out.2.2] at hown
      have hsl := Sl.of_row hown
      rw [← hout] at hsl
      have HSL := Lib.hid hsl
      clear hy hout hown hsl hz
      go_wp2_with fail
      go_ret
      exact ⟨_, HSL.out, rfl, hup0⟩
end Go.Proofs.YtkhodajdionaaaaGreatDoor
