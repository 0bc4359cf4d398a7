/- sortesref01: slices of digits; trim, cmp, times, minus, number. sortesref01: minus, digit, number. sortesref01: number, of, Quo, Text. -/
import Derived.Test.YtcimcodljjcmgaaGreatDoorGAS
namespace Go.Proofs.YtcimcodljjcmgaaGreatDoor
open Go.RowKit
set_option maxRecDepth 100000

def digV (d : Nat) : Value := .int .i64 (d : Int)
def digVals (l : List Nat) : List Value := l.map digV
def Sl (w : World) (v : Value) (l : List Nat) : Prop := ∃ ao cap, v = .slice ao l.length cap ∧ l.length ≤ cap ∧ cap ≤ maxLen ∧ (l.length = 0 ∨ ∃ b, ao = some ⟨b, 0, none⟩ ∧ b < w.heap.size ∧ ∀ (j d : Nat), l[j]? = some d → w.cell? ⟨b, j, none⟩ = some (.int .i64 (d : Int)))
theorem Sl.nil (w : World) : Sl w (.slice none 0 0) [] := ⟨none, 0, rfl, Nat.le_refl _, by simp, .inl rfl⟩
theorem Sl.upd {w w' : World} {v : Value} {l : List Nat} (h : Sl w v l) (u : Upd [] [] w w') : Sl w' v l := by
  obtain ⟨ao, cap, rfl, h1, h2, h3⟩ := h
  refine ⟨ao, cap, rfl, h1, h2, ?_⟩
  rcases h3 with h3 | ⟨b, rfl, hb, hc⟩
  · exact .inl h3
  · exact .inr ⟨b, rfl, Nat.lt_of_lt_of_le hb u.size, fun j d hj => (u.cell hb (by simp)).trans (hc j d hj)⟩
theorem Sl.of_row {w : World} {v : Value} {l : List Nat} {t : TypeId} (h : w.ownsRow 0 t 1 v l.length (digVals l)) : Sl w v l := by
  by_cases h0 : l.length = 0
  · obtain ⟨ao, cap, rfl, h1, h2⟩ := row_slice h
    exact ⟨ao, cap, rfl, h1, h2, .inl h0⟩
  · obtain ⟨g, cap, cur, rfl, hg, h1, h2, h3, h4⟩ := row_pos h (by omega)
    refine ⟨_, cap, rfl, h1, h2, .inr ⟨g, rfl, (Array.getElem?_eq_some_iff.1 hg).1, fun j d hj => ?_⟩⟩
    have hjl := (List.getElem?_eq_some_iff.1 hj).1
    rw [cell_of_row w g j _ _ _ hg]
    have e : (digVals l)[j]? = some (digV d) := by simp [digVals, hj]
    rw [← h4, Nat.mul_one, List.getElem?_take_of_lt hjl] at e
    simpa [digV] using e
def slLen : Value → Nat
  | .slice _ n _ => n
  | _ => 0

theorem trim_at (v : Value) (l : List Nat) (w : World) (h : Sl w v l) (hl : okL l) : Calls Tryz.prog 114 #[v] w (fun e w' => ∃ v', Hid (Sl w v' (dg (valL l)) ∧ foot v' = foot v) ∧ e = .returned v' ∧ w = w') := by
  obtain ⟨ao, cap, rfl, h1, h2, h3⟩ := h
  obtain ⟨n, hn⟩ : ∃ n, n = l.length := ⟨_, rfl⟩
  rw [← hn] at h1 h3
  rw [← hn]
  unfold maxLen at h2
  have H3 := Lib.hid h3
  have HN := Lib.hid hn
  clear h3 hn
  go_enter Tryz.func114, Tryz.ntmps114
  go_wp2_with fail
  go_loop [0] (fun v => ∃ m : Nat, v = .slice ao m cap ∧ m ≤ n ∧ Hid (valL (l.take m) = valL l)) (fun v => slLen v)
  case atStart => exact ⟨n, rfl, Nat.le_refl _, by show _ = _; rw [HN.out, List.take_length]⟩
  case round =>
    obtain ⟨m, rfl, hm, HM⟩ := hrel
    have hend : ∀ k, k ≤ n → valL (l.take k) = valL l → (∀ d, (l.take k).getLast? = some d → d ≠ 0) → Sl w (.slice ao k cap) (dg (valL l)) := by
      intro k hk hv hlast
      have hd := dg_of_last (okL_take hl k) hlast
      rw [hv] at hd
      have hlen : (dg (valL l)).length = k := by rw [← hd, List.length_take, ← HN.out]; omega
      refine ⟨ao, cap, by rw [hlen], by omega, by simp only [maxLen]; omega, ?_⟩
      rcases H3.out with h3 | ⟨b, rfl, hb, hc⟩
      · exact .inl (by omega)
      · refine .inr ⟨b, rfl, hb, fun j d hj => hc j d ?_⟩
        rw [← hd, List.getElem?_take] at hj
        split at hj
        · exact hj
        · cases hj
    have HE := Lib.hid hend
    clear hend
    by_cases h0 : 0 < m
    · obtain ⟨k, rfl⟩ : ∃ k, m = k + 1 := ⟨m - 1, by omega⟩
      obtain ⟨b, rfl, hb, hc⟩ : ∃ b, ao = some ⟨b, 0, none⟩ ∧ b < w.heap.size ∧ ∀ (j d : Nat), l[j]? = some d → w.cell? ⟨b, j, none⟩ = some (.int .i64 (d : Int)) := by
        rcases H3.out with h | h
        · omega
        · exact h
      have hkl : k < l.length := by have := HN.out; omega
      have hk0 := hc k l[k] (List.getElem?_eq_getElem hkl)
      obtain ⟨d, hd⟩ : ∃ d, d = l[k] := ⟨_, rfl⟩
      rw [← hd] at hk0
      have hst : l[k]? = some d := by rw [hd]; exact List.getElem?_eq_getElem hkl
      have HST := Lib.hid hst
      clear hc hkl hd hst
      have hki : ((k + 1 : Nat) : Int) - 1 = (k : Int) := by omega
      by_cases hd0 : d = 0
      · subst hd0
        go_wp2_with fail
        refine ⟨⟨k, rfl, by omega, ?_⟩, by simp [slLen]⟩
        show _ = _
        rw [← HM.out, take_step HST.out, valL_snoc, Nat.mul_zero, Nat.add_zero]
      · have hb0 : ((d : Int) == 0) = false := by rw [beq_eq_false_iff_ne]; omega
        have hfin := HE.out (k + 1) hm HM.out (fun x hx => by
          rw [take_step HST.out, List.getLast?_concat] at hx
          simp only [Option.some.injEq] at hx
          omega)
        have HF := Lib.hid hfin
        clear hfin hd0
        go_wp2_with fail
        go_ret
        exact ⟨_, ⟨HF.out, rfl⟩, rfl, rfl⟩
    · obtain rfl : m = 0 := by omega
      have hfin := HE.out 0 hm HM.out (fun x hx => by simp at hx)
      have HF := Lib.hid hfin
      clear hfin
      go_wp2_with fail
      go_ret
      exact ⟨_, ⟨HF.out, by cases ao <;> rfl⟩, rfl, rfl⟩
theorem trim_any (v : Value) (l : List Nat) (w : World) (h : Sl w v l) (hl : okL l) : Calls Tryz.prog 114 #[v] w (fun e w' => ∃ v', Hid (Sl w v' (dg (valL l))) ∧ e = .returned v' ∧ w = w') := by
  refine (trim_at v l w h hl).mono ?_
  rintro e w' ⟨v', HV, he, hw⟩
  exact ⟨v', HV.out.1, he, hw⟩

theorem Sl.get {w : World} {ao : Option Addr} {n cap : Nat} {l : List Nat} (h : Sl w (.slice ao n cap) l) {k d : Nat} (hk : l[k]? = some d) : ∃ b, ao = some ⟨b, 0, none⟩ ∧ w.cell? ⟨b, k, none⟩ = some (.int .i64 (d : Int)) := by
  obtain ⟨ao', cap', e, h1, h2, h3⟩ := h
  simp only [Value.slice.injEq] at e
  obtain ⟨rfl, rfl, rfl⟩ := e
  have hkl := (List.getElem?_eq_some_iff.1 hk).1
  rcases h3 with h3 | ⟨b, rfl, hb, hc⟩
  · omega
  · exact ⟨b, rfl, hc k d hk⟩
theorem Sl.form {w : World} {v : Value} {l : List Nat} (h : Sl w v l) : ∃ ao cap, v = .slice ao l.length cap ∧ l.length ≤ cap ∧ cap ≤ 9223372036854775807 := by
  obtain ⟨ao', cap', e, h1, h2, h3⟩ := h
  exact ⟨ao', cap', e, h1, h2⟩

def CmpOk (x y : Nat) (r : Int) : Prop := (r < 0 ↔ x < y) ∧ (0 < r ↔ y < x)

set_option maxHeartbeats 1000000 in
theorem cmp_any (u v : Value) (x y : Nat) (w : World) (hu : Sl w u (dg x)) (hv : Sl w v (dg y)) : Calls Tryz.prog 115 #[u, v] w (fun e w' => ∃ r : Int, Hid (CmpOk x y r) ∧ (-9223372036854775808 ≤ r ∧ r ≤ 9223372036854775807) ∧ e = .returned (.int .i64 r) ∧ Upd [] [] w w') := by
  obtain ⟨ao, cap, rfl, hu1, hu2⟩ := hu.form
  obtain ⟨bo, cbp, rfl, hv1, hv2⟩ := hv.form
  obtain ⟨n, hn⟩ : ∃ n, n = (dg x).length := ⟨_, rfl⟩
  obtain ⟨m, hm⟩ : ∃ m, m = (dg y).length := ⟨_, rfl⟩
  rw [← hn] at hu1 hu
  rw [← hm] at hv1 hv
  rw [← hn, ← hm]
  have HU := Lib.hid hu
  have HV := Lib.hid hv
  have HN := Lib.hid hn
  have HM := Lib.hid hm
  clear hu hv hn hm
  by_cases hnm : n = m
  case neg =>
    have hb : ((n : Int) != (m : Int)) = true := by rw [bne_iff_ne]; omega
    have hb2 : ((n : Int) == (m : Int)) = false := by rw [beq_eq_false_iff_ne]; omega
    have hb3 : (n == m) = false := by rw [beq_eq_false_iff_ne]; omega
    have hc : CmpOk x y ((n : Int) - (m : Int)) := by
      rcases Nat.lt_or_ge n m with h | h
      · have := dg_len_lt (x := x) (y := y) (by rw [← HN.out, ← HM.out]; exact h)
        exact ⟨⟨fun _ => this, fun _ => by omega⟩, ⟨fun h => by omega, fun h => by omega⟩⟩
      · have := dg_len_lt (x := y) (y := x) (by rw [← HN.out, ← HM.out]; omega)
        exact ⟨⟨fun h => by omega, fun h => by omega⟩, ⟨fun _ => this, fun _ => by omega⟩⟩
    have HC := Lib.hid hc
    clear hc hnm
    go_enter Tryz.func115, Tryz.ntmps115
    go_wp2_with fail
    go_ret
    exact ⟨_, HC.out, ⟨by omega, by omega⟩, rfl, Upd.refl _ _⟩
  case pos =>
    subst hnm
    go_enter Tryz.func115, Tryz.ntmps115
    go_wp2_with fail
    go_loopw [5] (fun i wr => ∃ (z : Int) (k : Nat), i = .int .i64 z ∧ z + 1 = (k : Int) ∧ k ≤ n ∧ Hid ((dg x).drop k = (dg y).drop k) ∧ Hid (Upd [] [] w wr)) (fun i _ => (intOf i + 1).toNat)
    case atStart => exact ⟨(n : Int) - 1, n, rfl, by omega, Nat.le_refl _, by show _ = _; rw [List.drop_of_length_le (by rw [HN.out]; omega), List.drop_of_length_le (by rw [HM.out]; omega)], Upd.refl _ _⟩
    case round =>
      obtain ⟨z, k, rfl, hz, hk, HK, HUP⟩ := hrel
      by_cases h0 : 0 < k
      · obtain ⟨j, rfl⟩ : ∃ j, k = j + 1 := ⟨k - 1, by omega⟩
        obtain rfl : z = (j : Int) := by omega
        have hjx : j < (dg x).length := by rw [← HN.out]; omega
        have hjy : j < (dg y).length := by rw [← HM.out]; omega
        obtain ⟨a, ha⟩ : ∃ a, (dg x)[j]? = some a := ⟨_, List.getElem?_eq_getElem hjx⟩
        obtain ⟨b, hb⟩ : ∃ b, (dg y)[j]? = some b := ⟨_, List.getElem?_eq_getElem hjy⟩
        have ha2 : a < 16777216 := dg_ok x a (List.mem_of_getElem? ha)
        have hb2 : b < 16777216 := dg_ok y b (List.mem_of_getElem? hb)
        obtain ⟨g1, rfl, c1⟩ := (HU.out.upd HUP.out).get ha
        obtain ⟨g2, rfl, c2⟩ := (HV.out.upd HUP.out).get hb
        have HA := Lib.hid ha
        have HB := Lib.hid hb
        clear hjx hjy ha hb hz
        by_cases hab : a = b
        · subst hab
          have hst : (dg x).drop j = (dg y).drop j := by
            obtain ⟨h1, e1⟩ := List.getElem?_eq_some_iff.1 HA.out
            obtain ⟨h2, e2⟩ := List.getElem?_eq_some_iff.1 HB.out
            rw [List.drop_eq_getElem_cons h1, List.drop_eq_getElem_cons h2, e1, e2, HK.out]
          have HST := Lib.hid hst
          clear hst
          go_wp2_with fail
          go_quiet (fail)
          go_wp2_with fail
          exact ⟨⟨(j : Int) - 1, j, rfl, by omega, by omega, HST.out, HUP.out.drewN _⟩, by simp only [intOf]; omega⟩
        · have hb1 : ((a : Int) != (b : Int)) = true := by rw [bne_iff_ne]; omega
          have hb3 : ((a : Int) == (b : Int)) = false := by rw [beq_eq_false_iff_ne]; omega
          have hc : CmpOk x y ((a : Int) - (b : Int)) := by
            have ex := valL_dg x
            have ey := valL_dg y
            rcases Nat.lt_or_ge a b with h | h
            · have := val_cmp (dg_ok x) HK.out HA.out HB.out h
              rw [ex, ey] at this
              exact ⟨⟨fun _ => this, fun _ => by omega⟩, ⟨fun h => by omega, fun h => by omega⟩⟩
            · have := val_cmp (dg_ok y) HK.out.symm HB.out HA.out (by omega)
              rw [ex, ey] at this
              exact ⟨⟨fun h => by omega, fun h => by omega⟩, ⟨fun _ => this, fun _ => by omega⟩⟩
          have HC := Lib.hid hc
          clear hc hab
          go_wp2_with fail
          go_quiet (fail)
          go_wp2_with fail
          go_quiet (fail)
          go_wp2_with fail
          go_ret
          exact ⟨_, HC.out, ⟨by omega, by omega⟩, rfl, (HUP.out.drewN _).drewN _⟩
      · obtain rfl : k = 0 := by omega
        obtain rfl : z = -1 := by omega
        have hxy : x = y := by
          have := HK.out
          rw [List.drop_zero, List.drop_zero] at this
          rw [← valL_dg x, this, valL_dg]
        have hc : CmpOk x y 0 := by
          subst hxy
          exact ⟨⟨fun h => by omega, fun h => by omega⟩, ⟨fun h => by omega, fun h => by omega⟩⟩
        have HC := Lib.hid hc
        clear hc hxy hz
        go_wp2_with fail
        go_ret
        exact ⟨_, HC.out, ⟨by omega, by omega⟩, rfl, HUP.out⟩

theorem int_parts : ∃ i, Tryz.prog.info? 3 = some i ∧ i.zero = some (.int .i64 0) ∧ i.size = 1 ∧ i.bytes = 8 := by
  have h : (Tryz.prog.info? 3).map (fun i => (i.zero, i.size, i.bytes)) = some (some (.int .i64 0), 1, 8) := by kernel_rfl
  obtain ⟨i, hi, he⟩ := Option.map_eq_some_iff.1 h
  simp only [Prod.mk.injEq] at he
  exact ⟨i, hi, he.1, he.2.1, he.2.2⟩
theorem append_int (wr : World) (v : Value) (k : Nat) (xs : List Value) (x : Int) (hown : wr.ownsRow 0 3 1 v k xs) (hk : k < 1099511627776) :
    ∃ v' w', (Builtin.append_ #[42, 42] 42 #[v, .slice (some ⟨wr.heap.size, 0, none⟩) 1 1]).run Tryz.prog (wr.alloc (.cells #[.int .i64 x] 3)) = .ok v' w' ∧ w'.ownsRow 0 3 1 v' (k + 1) (xs ++ [.int .i64 x]) ∧ Upd (foot v) (foot v') wr w' := by
  have hrow : (wr.alloc (.cells #[.int .i64 x] 3)).ownsRow 0 3 1 v k xs := row_same hown (fun j hj => Below.heap_alloc _ _ _ (row_foot_lt hown j hj))
  have hw1 : (wr.alloc (.cells #[.int .i64 x] 3)).heap[wr.heap.size]? = some (.cells #[.int .i64 x] 3 (0, 0)) := heap_alloc_new _ _
  obtain ⟨iu, u1, u2, u3', u4⟩ := int_parts
  obtain ⟨v', w', hrun, hown', hup'⟩ := append_block (P := Tryz.prog) (wr.alloc (.cells #[.int .i64 x] 3)) 42 42 3 iu (.int .i64 0) 1 8 Tryz.underlying42 u1 u2 u3' u4 rfl (by omega) v k _ hrow ⟨wr.heap.size, 0, none⟩ 1 1 [.int .i64 x] rfl (by
    intro j u hj
    have : j = 0 := by
      cases j with
      | zero => rfl
      | succ j => simp at hj
    subst this
    simp only [List.getElem?_cons_zero, Option.some.injEq] at hj
    subst hj
    have e : (⟨wr.heap.size, 0, none⟩ : Addr).add 0 = ⟨wr.heap.size, 0, none⟩ := by simp [Addr.add]
    rw [e, cell_of_row _ _ _ _ _ _ hw1]
    rfl) (by intro u hu; simp at hu; subst hu; rfl) (by omega) (by simp only [maxLen]; omega)
  exact ⟨v', w', hrun, hown', ((Upd.refl _ _).alloc _).trans hup'⟩
theorem digVals_snoc (l : List Nat) (d : Nat) : digVals (l ++ [d]) = digVals l ++ [.int .i64 (d : Int)] := by simp [digVals, digV]

set_option maxHeartbeats 2000000 in
theorem times_any (u : Value) (x d : Nat) (w : World) (hu : Sl w u (dg x)) (hd : d < 16777216) (hx : (dg x).length ≤ 1000000000) : Calls Tryz.prog 118 #[u, .int .i64 (d : Int)] w (fun e w' => ∃ v', Hid (Sl w' v' (dg (x * d))) ∧ e = .returned v' ∧ Upd [] [] w w') := by
  obtain ⟨ao, cap, rfl, hu1, hu2⟩ := hu.form
  obtain ⟨n, hn⟩ : ∃ n, n = (dg x).length := ⟨_, rfl⟩
  rw [← hn] at hu1 hu hx
  rw [← hn]
  have HU := Lib.hid hu
  have HN := Lib.hid hn
  clear hu hn
  go_enter Tryz.func118, Tryz.ntmps118
  go_wp2_with fail
  go_loopw [5, 6, 7] (fun o c i wr => ∃ (k cy : Nat) (out : List Nat), i = .int .i64 (k : Int) ∧ c = .int .i64 (cy : Int) ∧ k ≤ n ∧ cy < 16777216 ∧ Hid (out.length = k ∧ okL out ∧ valL out + 16777216 ^ k * cy = valL ((dg x).take k) * d) ∧ Hid (wr.ownsRow 0 3 1 o k (digVals out)) ∧ Hid (Upd [] (foot o) w wr)) (fun _ _ i _ => n - (intOf i).toNat)
  case atStart => exact ⟨0, 0, [], rfl, rfl, Nat.zero_le _, by omega, ⟨rfl, okL_nil, by simp [valL]⟩, ⟨by simp [digVals], .inl ⟨rfl, rfl⟩⟩, Upd.refl _ _⟩
  case round =>
    obtain ⟨k, cy, out, rfl, rfl, hk, hcy, HI, HR, HUP⟩ := hrel
    have hup0 : Upd [] [] w wr := HUP.out.mono (fun _ h => h) (fun _ h => absurd h (by simp))
    by_cases hlt : k < n
    · have hkx : k < (dg x).length := by rw [← HN.out]; exact hlt
      obtain ⟨a, ha⟩ : ∃ a, (dg x)[k]? = some a := ⟨_, List.getElem?_eq_getElem hkx⟩
      have ha2 : a < 16777216 := dg_ok x a (List.mem_of_getElem? ha)
      obtain ⟨g1, rfl, c1⟩ := (HU.out.upd hup0).get ha
      obtain ⟨s, hs⟩ : ∃ s, s = a * d + cy := ⟨_, rfl⟩
      obtain ⟨hc1, hc2⟩ := times_carry ha2 hd hcy
      have hst := times_step ha HI.out.1 HI.out.2.2
      rw [← hs] at hc1 hc2 hst
      have hs1 : (a : Int) * (d : Int) + (cy : Int) = (s : Int) := by rw [hs]; simp
      have hs2 : (a : Int) * (d : Int) ≤ 281474976710656 := by have := Int.natCast_nonneg cy; omega
      have hs0 : 0 ≤ (a : Int) * (d : Int) := Int.mul_nonneg (by omega) (by omega)
      obtain ⟨r, hr⟩ : ∃ r, r = s % 16777216 := ⟨_, rfl⟩
      obtain ⟨q, hq⟩ : ∃ q, q = s / 16777216 := ⟨_, rfl⟩
      have hr1 : (s : Int) % 16777216 = (r : Int) := by omega
      have hq1 : (s : Int) / 16777216 = (q : Int) := by omega
      have hr2 : r < 16777216 := by omega
      rw [← hr, ← hq] at hst
      rw [← hq] at hc1
      obtain ⟨v', w', hrun, hown', hup'⟩ := append_int wr _ k _ (r : Int) HR.out (by omega)
      rw [← digVals_snoc] at hown'
      have hl : (out ++ [r]).length = k + 1 := by rw [List.length_append, HI.out.1]; rfl
      have HRUN := Lib.hid hrun
      have HOWN := Lib.hid hown'
      have HUPP := Lib.hid (HUP.out.trans hup')
      have HST := Lib.hid (And.intro hl (And.intro (okL_snoc HI.out.2.1 hr2) hst))
      clear ha hkx hs hst hrun hown' hup' HUP HR hr hq hl
      go_wp2_with (refine wpList_append_run _ rfl _ _ _ _ rfl _ _ v' w' rfl rfl HRUN.out ?_)
      exact ⟨⟨k + 1, q, out ++ [r], by go_num, rfl, by omega, hc1, HST.out, HOWN.out, HUPP.out⟩, by simp [intOf]; omega⟩
    · obtain rfl : k = n := by omega
      obtain ⟨v', w', hrun, hown', hup'⟩ := append_int wr _ k _ (cy : Int) HR.out (by omega)
      rw [← digVals_snoc] at hown'
      have hl : (out ++ [cy]).length = k + 1 := by rw [List.length_append, HI.out.1]; rfl
      have hv : valL (out ++ [cy]) = x * d := by
        rw [valL_snoc, HI.out.1, HI.out.2.2, HN.out, List.take_length, valL_dg]
      rw [← hl] at hown'
      have hsl := Sl.of_row hown'
      have HSL := Lib.hid hsl
      have HRUN := Lib.hid hrun
      have HUPP := Lib.hid (HUP.out.trans hup')
      have HV := Lib.hid hv
      have HOK := Lib.hid (okL_snoc HI.out.2.1 hcy)
      clear hrun hown' hup' HUP HR hl hv hsl hlt
      go_wp2_with (refine wpList_append_run _ rfl _ _ _ _ rfl _ _ v' w' rfl rfl HRUN.out ?_)
      refine (trim_any v' _ w' HSL.out HOK.out).mono ?_
      rintro e w2 ⟨v2, HV2, rfl, rfl⟩
      go_wp2_with fail
      go_ret
      refine ⟨v2, ?_, rfl, HUPP.out.mono (fun _ h => h) (fun _ h => absurd h (by simp))⟩
      show Sl _ _ _
      rw [← HV.out]
      exact HV2.out
end Go.Proofs.YtcimcodljjcmgaaGreatDoor

namespace Go.Proofs.YtcimcodljjcmgaaGreatDoor
open Go.RowKit
set_option maxRecDepth 100000

theorem getD_of {l : List Nat} {k d : Nat} (h : l[k]? = some d) : l.getD k 0 = d := by rw [List.getD_eq_getElem?_getD, h]; rfl
theorem getD_none {l : List Nat} {k : Nat} (h : l.length ≤ k) : l.getD k 0 = 0 := by rw [List.getD_eq_getElem?_getD, List.getElem?_eq_none h]; rfl

set_option maxHeartbeats 4000000 in
theorem minus_any (u v : Value) (x y : Nat) (w : World) (hu : Sl w u (dg x)) (hv : Sl w v (dg y)) (hxy : y ≤ x) (hx : (dg x).length ≤ 1000000000) : Calls Tryz.prog 117 #[u, v] w (fun e w' => ∃ v', Hid (Sl w' v' (dg (x - y))) ∧ e = .returned v' ∧ Upd [] [] w w') := by
  obtain ⟨ao, cap, rfl, hu1, hu2⟩ := hu.form
  obtain ⟨bo, cbp, rfl, hv1, hv2⟩ := hv.form
  have hmn := dg_len_mono hxy
  obtain ⟨n, hn⟩ : ∃ n, n = (dg x).length := ⟨_, rfl⟩
  obtain ⟨m, hm⟩ : ∃ m, m = (dg y).length := ⟨_, rfl⟩
  rw [← hn] at hu1 hu hx
  rw [← hm] at hv1 hv
  rw [← hn, ← hm] at hmn
  rw [← hn, ← hm]
  have HU := Lib.hid hu
  have HVV := Lib.hid hv
  have HN := Lib.hid hn
  have HM := Lib.hid hm
  clear hu hv hn hm
  go_enter Tryz.func117, Tryz.ntmps117
  go_wp2_with fail
  go_loopw [5, 6, 7] (fun o c i wr => ∃ (k b : Nat) (out : List Nat), i = .int .i64 (k : Int) ∧ c = .int .i64 (b : Int) ∧ k ≤ n ∧ b ≤ 1 ∧ Hid (out.length = k ∧ okL out ∧ valL out + valL ((dg y).take k) = valL ((dg x).take k) + 16777216 ^ k * b) ∧ Hid (wr.ownsRow 0 3 1 o k (digVals out)) ∧ Hid (Upd [] (foot o) w wr)) (fun _ _ i _ => n - (intOf i).toNat)
  case atStart => exact ⟨0, 0, [], rfl, rfl, Nat.zero_le _, by omega, ⟨rfl, okL_nil, by simp [valL]⟩, ⟨by simp [digVals], .inl ⟨rfl, rfl⟩⟩, Upd.refl _ _⟩
  case round =>
    obtain ⟨k, b, out, rfl, rfl, hk, hb, HI, HR, HUP⟩ := hrel
    have hup0 : Upd [] [] w wr := HUP.out.mono (fun _ h => h) (fun _ h => absurd h (by simp))
    by_cases hlt : k < n
    · have hkx : k < (dg x).length := by rw [← HN.out]; exact hlt
      obtain ⟨a, ha⟩ : ∃ a, (dg x)[k]? = some a := ⟨_, List.getElem?_eq_getElem hkx⟩
      have ha2 : a < 16777216 := dg_ok x a (List.mem_of_getElem? ha)
      obtain ⟨g1, rfl, c1⟩ := (HU.out.upd hup0).get ha
      have HA := Lib.hid ha
      clear ha hkx
      by_cases hkm : k < m
      · have hky : k < (dg y).length := by rw [← HM.out]; exact hkm
        obtain ⟨c, hc⟩ : ∃ c, (dg y)[k]? = some c := ⟨_, List.getElem?_eq_getElem hky⟩
        have hc2 : c < 16777216 := dg_ok y c (List.mem_of_getElem? hc)
        obtain ⟨g2, rfl, c2⟩ := (HVV.out.upd hup0).get hc
        have HC := Lib.hid (getD_of hc)
        clear hc hky
        by_cases hneg : (a : Int) - (b : Int) - (c : Int) < 0
        · obtain ⟨r, hr⟩ : ∃ r : Nat, (a : Int) - (b : Int) - (c : Int) + 16777216 = (r : Int) := ⟨a + 16777216 - b - c, by omega⟩
          have hr2 : r < 16777216 := by omega
          have hst := minus_step HA.out HI.out.1 HI.out.2.2 (r := r) (b' := 1) (by rw [HC.out]; omega)
          obtain ⟨v', w', hrun, hown', hup'⟩ := append_int wr _ k _ (r : Int) HR.out (by omega)
          rw [← digVals_snoc] at hown'
          have hl : (out ++ [r]).length = k + 1 := by rw [List.length_append, HI.out.1]; rfl
          have HRUN := Lib.hid hrun
          have HOWN := Lib.hid hown'
          have HUPP := Lib.hid (HUP.out.trans hup')
          have HST := Lib.hid (And.intro hl (And.intro (okL_snoc HI.out.2.1 hr2) hst))
          clear hst hrun hown' hup' HUP HR hl
          go_wp2_with (refine wpList_append_run _ rfl _ _ _ _ rfl _ _ v' w' rfl rfl HRUN.out ?_)
          exact ⟨⟨k + 1, 1, out ++ [r], by go_num, rfl, by omega, by omega, HST.out, HOWN.out, HUPP.out⟩, by simp [intOf]; omega⟩
        · obtain ⟨r, hr⟩ : ∃ r : Nat, (a : Int) - (b : Int) - (c : Int) = (r : Int) := ⟨a - b - c, by omega⟩
          have hr2 : r < 16777216 := by omega
          have hst := minus_step HA.out HI.out.1 HI.out.2.2 (r := r) (b' := 0) (by rw [HC.out]; omega)
          obtain ⟨v', w', hrun, hown', hup'⟩ := append_int wr _ k _ (r : Int) HR.out (by omega)
          rw [← digVals_snoc] at hown'
          have hl : (out ++ [r]).length = k + 1 := by rw [List.length_append, HI.out.1]; rfl
          have HRUN := Lib.hid hrun
          have HOWN := Lib.hid hown'
          have HUPP := Lib.hid (HUP.out.trans hup')
          have HST := Lib.hid (And.intro hl (And.intro (okL_snoc HI.out.2.1 hr2) hst))
          clear hst hrun hown' hup' HUP HR hl hneg
          go_wp2_with (refine wpList_append_run _ rfl _ _ _ _ rfl _ _ v' w' rfl rfl HRUN.out ?_)
          exact ⟨⟨k + 1, 0, out ++ [r], by go_num, rfl, by omega, by omega, HST.out, HOWN.out, HUPP.out⟩, by simp [intOf]; omega⟩
      · have HC := Lib.hid (getD_none (l := dg y) (k := k) (by rw [← HM.out]; omega))
        by_cases hneg : (a : Int) - (b : Int) < 0
        · obtain ⟨r, hr⟩ : ∃ r : Nat, (a : Int) - (b : Int) + 16777216 = (r : Int) := ⟨a + 16777216 - b, by omega⟩
          have hr2 : r < 16777216 := by omega
          have hst := minus_step HA.out HI.out.1 HI.out.2.2 (r := r) (b' := 1) (by rw [HC.out]; omega)
          obtain ⟨v', w', hrun, hown', hup'⟩ := append_int wr _ k _ (r : Int) HR.out (by omega)
          rw [← digVals_snoc] at hown'
          have hl : (out ++ [r]).length = k + 1 := by rw [List.length_append, HI.out.1]; rfl
          have HRUN := Lib.hid hrun
          have HOWN := Lib.hid hown'
          have HUPP := Lib.hid (HUP.out.trans hup')
          have HST := Lib.hid (And.intro hl (And.intro (okL_snoc HI.out.2.1 hr2) hst))
          clear hst hrun hown' hup' HUP HR hl
          go_wp2_with (refine wpList_append_run _ rfl _ _ _ _ rfl _ _ v' w' rfl rfl HRUN.out ?_)
          exact ⟨⟨k + 1, 1, out ++ [r], by go_num, rfl, by omega, by omega, HST.out, HOWN.out, HUPP.out⟩, by simp [intOf]; omega⟩
        · obtain ⟨r, hr⟩ : ∃ r : Nat, (a : Int) - (b : Int) = (r : Int) := ⟨a - b, by omega⟩
          have hr2 : r < 16777216 := by omega
          have hst := minus_step HA.out HI.out.1 HI.out.2.2 (r := r) (b' := 0) (by rw [HC.out]; omega)
          obtain ⟨v', w', hrun, hown', hup'⟩ := append_int wr _ k _ (r : Int) HR.out (by omega)
          rw [← digVals_snoc] at hown'
          have hl : (out ++ [r]).length = k + 1 := by rw [List.length_append, HI.out.1]; rfl
          have HRUN := Lib.hid hrun
          have HOWN := Lib.hid hown'
          have HUPP := Lib.hid (HUP.out.trans hup')
          have HST := Lib.hid (And.intro hl (And.intro (okL_snoc HI.out.2.1 hr2) hst))
          clear hst hrun hown' hup' HUP HR hl hneg
          go_wp2_with (refine wpList_append_run _ rfl _ _ _ _ rfl _ _ v' w' rfl rfl HRUN.out ?_)
          exact ⟨⟨k + 1, 0, out ++ [r], by go_num, rfl, by omega, by omega, HST.out, HOWN.out, HUPP.out⟩, by simp [intOf]; omega⟩
    · obtain rfl : k = n := by omega
      have hv : valL out = x - y := by
        have h := HI.out.2.2
        rw [HN.out] at h
        have := minus_end (by rw [HI.out.1, HN.out]) HI.out.2.1 (dg_len_mono hxy) (by rw [valL_dg, valL_dg]; exact hxy) h
        rwa [valL_dg, valL_dg] at this
      have hown := HR.out
      rw [← HI.out.1] at hown
      have HSL := Lib.hid (Sl.of_row hown)
      have HV := Lib.hid hv
      clear hown hv hlt
      go_wp2_with fail
      refine (trim_any _ _ _ HSL.out HI.out.2.1).mono ?_
      rintro e w2 ⟨v2, HV2, rfl, rfl⟩
      go_wp2_with fail
      go_ret
      refine ⟨v2, ?_, rfl, hup0⟩
      show Sl _ _ _
      rw [← HV.out]
      exact HV2.out

set_option maxHeartbeats 1000000 in
theorem digit_any (u v : Value) (x y : Nat) (w : World) (hu : Sl w u (dg x)) (hv : Sl w v (dg y)) (hy : 0 < y) (hq : x / y < 16777216) (hl : (dg y).length ≤ 1000000000) : Calls Tryz.prog 116 #[u, v] w (fun e w' => ∃ r : Nat, Hid (r = x / y) ∧ r < 16777216 ∧ e = .returned (.int .i64 (r : Int)) ∧ Upd [] [] w w') := by
  obtain ⟨q, hqq⟩ : ∃ q, q = x / y := ⟨_, rfl⟩
  rw [← hqq] at hq
  rw [← hqq]
  have HU := Lib.hid hu
  have HV := Lib.hid hv
  have HQ := Lib.hid hqq
  have HL := Lib.hid hl
  clear hu hv hqq hl
  go_enter Tryz.func116, Tryz.ntmps116
  go_wp2_with fail
  go_loopw [5, 6] (fun a b wr => ∃ lo hi : Nat, a = .int .i64 (lo : Int) ∧ b = .int .i64 (hi : Int) ∧ lo ≤ q ∧ q ≤ hi ∧ hi ≤ 16777215 ∧ Hid (Upd [] [] w wr)) (fun a b _ => (intOf b).toNat - (intOf a).toNat)
  case atStart => exact ⟨0, 16777215, rfl, rfl, Nat.zero_le _, by omega, Nat.le_refl _, Upd.refl _ _⟩
  case round =>
    obtain ⟨lo, hi, rfl, rfl, h1, h2, h3, HUP⟩ := hrel
    by_cases hlt : lo < hi
    · obtain ⟨m, hm⟩ : ∃ m : Nat, ((lo : Int) + (hi : Int) + 1) / 2 = (m : Int) := ⟨(lo + hi + 1) / 2, by omega⟩
      have hm1 : lo < m := by omega
      have hm2 : m ≤ hi := by omega
      go_wp2_with fail
      refine (times_any v y m wr (HV.out.upd HUP.out) (by omega) HL.out).mono ?_
      rintro e w2 ⟨v2, HV2, rfl, hu2⟩
      have HUP2 := Lib.hid (HUP.out.trans hu2)
      clear HUP hu2
      go_wp2_with fail
      refine (cmp_any v2 u (y * m) x w2 HV2.out (HU.out.upd HUP2.out)).mono ?_
      rintro e w3 ⟨r, HR, hr, rfl, hu3⟩
      have HUP3 := Lib.hid (HUP2.out.trans hu3)
      clear HUP2 hu3
      by_cases hr0 : r ≤ 0
      · have hle : y * m ≤ x := by
          have := HR.out.2
          omega
        have hmq : m ≤ q := by rw [HQ.out]; exact digit_low hy hle
        clear hle
        go_wp2_with fail
        exact ⟨⟨m, hi, rfl, rfl, hmq, h2, h3, HUP3.out⟩, by simp [intOf]; omega⟩
      · have hgt : x < y * m := HR.out.2.1 (by omega)
        have hmq : q < m := by rw [HQ.out]; exact digit_high hy hgt
        clear hgt
        go_wp2_with fail
        exact ⟨⟨lo, m - 1, rfl, by congr 1; omega, h1, by omega, by omega, HUP3.out⟩, by simp [intOf]; omega⟩
    · obtain rfl : lo = hi := by omega
      obtain rfl : q = lo := by omega
      go_wp2_with fail
      go_ret
      exact ⟨_, rfl, hq, rfl, HUP.out⟩
end Go.Proofs.YtcimcodljjcmgaaGreatDoor

namespace Go.Proofs.YtcimcodljjcmgaaGreatDoor
open Go.RowKit
set_option maxRecDepth 100000

theorem append_three (wr : World) (v : Value) (k : Nat) (xs : List Value) (a b c : UInt8) (hown : wr.ownsRow 0 5 1 v k xs) (hk : k < 1099511627776) :
    ∃ v' w', (Builtin.append_ #[26, 26] 26 #[v, .slice (some ⟨wr.heap.size, 0, none⟩) 3 3]).run Tryz.prog (wr.alloc (.cells #[.int .u8 (a.toNat : Int), .int .u8 (b.toNat : Int), .int .u8 (c.toNat : Int)] 5)) = .ok v' w' ∧ w'.ownsRow 0 5 1 v' (k + 3) (xs ++ [byteV a, byteV b, byteV c]) ∧ Upd (foot v) (foot v') wr w' := by
  have hrow : (wr.alloc (.cells #[.int .u8 (a.toNat : Int), .int .u8 (b.toNat : Int), .int .u8 (c.toNat : Int)] 5)).ownsRow 0 5 1 v k xs := row_same hown (fun j hj => Below.heap_alloc _ _ _ (row_foot_lt hown j hj))
  have hw1 : (wr.alloc (.cells #[.int .u8 (a.toNat : Int), .int .u8 (b.toNat : Int), .int .u8 (c.toNat : Int)] 5)).heap[wr.heap.size]? = some (.cells #[.int .u8 (a.toNat : Int), .int .u8 (b.toNat : Int), .int .u8 (c.toNat : Int)] 5 (0, 0)) := heap_alloc_new _ _
  obtain ⟨iu, u1, u2, u3', u4⟩ := u8_parts
  obtain ⟨v', w', hrun, hown', hup'⟩ := append_block (P := Tryz.prog) (wr.alloc (.cells #[.int .u8 (a.toNat : Int), .int .u8 (b.toNat : Int), .int .u8 (c.toNat : Int)] 5)) 26 26 5 iu (.int .u8 0) 1 1 Tryz.underlying26 u1 u2 u3' u4 rfl (by omega) v k _ hrow ⟨wr.heap.size, 0, none⟩ 3 3 [byteV a, byteV b, byteV c] rfl (by
    intro j u hj
    have hj3 : j < 3 := by
      have := (List.getElem?_eq_some_iff.1 hj).1
      simpa using this
    have e : (⟨wr.heap.size, 0, none⟩ : Addr).add j = ⟨wr.heap.size, j, none⟩ := by unfold Addr.add; split <;> simp_all
    rw [e, cell_of_row _ _ _ _ _ _ hw1]
    match j, hj3, hj with
    | 0, _, hj => exact hj
    | 1, _, hj => exact hj
    | 2, _, hj => exact hj) (byteVals_one [a, b, c]) (by omega) (by simp only [maxLen]; omega)
  exact ⟨v', w', hrun, hown', ((Upd.refl _ _).alloc _).trans hup'⟩

theorem Sl.at {w : World} {g n cap : Nat} {l : List Nat} (h : Sl w (.slice (some ⟨g, 0, none⟩) n cap) l) {k d : Nat} (hk : l[k]? = some d) : w.cell? ⟨g, k, none⟩ = some (.int .i64 (d : Int)) := by
  obtain ⟨b, e, hc⟩ := h.get hk
  simp only [Option.some.injEq, Addr.mk.injEq, and_true] at e
  subst e
  exact hc
theorem bigByte_of (d s : Nat) : IntKind.u8.wrap ((d : Int) / s) = ((UInt8.ofNat (d / s)).toNat : Int) := by
  rw [IntKind.wrap_u8, UInt8.toNat_ofNat']
  omega

set_option maxHeartbeats 2000000 in
theorem number_big (u : Value) (l : List Nat) (w : World) (hu : Sl w u l) (hl : okL l) (hn : l.length ≤ 100000000) : Calls Tryz.prog 86 #[u] w (MkNat (valL l) w) := by
  obtain ⟨ao, cap, rfl, hu1, hu2⟩ := hu.form
  obtain ⟨n, hnn⟩ : ∃ n, n = l.length := ⟨_, rfl⟩
  rw [← hnn] at hu1 hu hn
  rw [← hnn]
  have HU := Lib.hid hu
  have HN := Lib.hid hnn
  clear hu hnn
  go_enter Tryz.func86, Tryz.ntmps86
  go_wp2_with fail
  go_loopw [3, 4] (fun t i wr => ∃ (z : Int) (k q : Nat) (bl : List UInt8), i = .int .i64 z ∧ z + 1 = (k : Int) ∧ k ≤ n ∧ q ≤ 300000000 ∧ Hid (natB bl = valL (l.drop k)) ∧ Hid (q = bl.length ∧ q = 3 * (n - k)) ∧ Hid (wr.ownsRow 0 5 1 t q (byteVals bl)) ∧ Hid (Upd [] (foot t) w wr)) (fun _ i _ => (intOf i + 1).toNat)
  case atStart => exact ⟨(n : Int) - 1, n, 0, [], rfl, by omega, Nat.le_refl _, Nat.zero_le _, by show _ = _; rw [List.drop_of_length_le (by rw [HN.out]; omega)]; rfl, ⟨rfl, by omega⟩, ⟨by simp [byteVals], .inl ⟨rfl, rfl⟩⟩, Upd.refl _ _⟩
  case round =>
    obtain ⟨z, k, q, bl, rfl, hz, hk, hq, HB, HQ, HR, HUP⟩ := hrel
    have hup0 : Upd [] [] w wr := HUP.out.mono (fun _ h => h) (fun _ h => absurd h (by simp))
    by_cases h0 : 0 < k
    · obtain ⟨j, rfl⟩ : ∃ j, k = j + 1 := ⟨k - 1, by omega⟩
      obtain rfl : z = (j : Int) := by omega
      have hjl : j < l.length := by rw [← HN.out]; omega
      obtain ⟨d, hd⟩ : ∃ d, l[j]? = some d := ⟨_, List.getElem?_eq_getElem hjl⟩
      have hd2 : d < 16777216 := hl d (List.mem_of_getElem? hd)
      obtain ⟨g1, rfl, c1⟩ := (HU.out.upd hup0).get hd
      have hst : natB (bl ++ [UInt8.ofNat (d / 65536), UInt8.ofNat (d / 256), UInt8.ofNat d]) = valL (l.drop j) := by
        rw [natB_three _ _ hd2, HB.out, valL_drop_step hd]
        omega
      have e2 : IntKind.u8.wrap ((d : Int) / 65536) = ((UInt8.ofNat (d / 65536)).toNat : Int) := bigByte_of d 65536
      have e1 : IntKind.u8.wrap ((d : Int) / 256) = ((UInt8.ofNat (d / 256)).toNat : Int) := bigByte_of d 256
      have e0 : IntKind.u8.wrap (d : Int) = ((UInt8.ofNat d).toNat : Int) := by rw [IntKind.wrap_u8, UInt8.toNat_ofNat']; omega
      generalize UInt8.ofNat (d / 65536) = b2 at *
      generalize UInt8.ofNat (d / 256) = b1 at *
      generalize UInt8.ofNat d = b0 at *
      obtain ⟨v', w', hrun, hown', hup'⟩ := append_three wr.drew _ q _ b2 b1 b0 (row_same HR.out (fun _ _ => rfl)) (by omega)
      have HRUN := Lib.hid hrun
      have HOWN := Lib.hid hown'
      have HUPP := Lib.hid (HUP.out.drew.trans hup')
      have c3 := (HU.out.upd (HUPP.out.mono (fun _ h => h) (fun _ h => absurd h (by simp)))).at hd
      have HST := Lib.hid hst
      have hq2 := HQ.out
      have hq3 : q + 3 ≤ 300000000 := by omega
      have hq4 : q + 3 = (bl ++ [b2, b1, b0]).length ∧ q + 3 = 3 * (n - j) := ⟨by rw [List.length_append, ← hq2.1]; rfl, by omega⟩
      have HQQ := Lib.hid hq4
      clear hjl hd hst hrun hown' hup' HUP HR HQ hq2 hq4 hz HB
      go_wp2_with fail
      have p0 : (0 : Int) ≤ (j : Int) := by omega
      have p1 : (j : Int) < (n : Int) := by omega
      have c2 : wr.drew.cell? ⟨g1, j, none⟩ = some (.int .i64 (d : Int)) := c1
      go_region_held3 (fun wp => wp.cell? ⟨g1, j, none⟩ = some (.int .i64 (d : Int))) (first | exact c2 | assumption | go_keep)
        (first | (refine step_append_run _ rfl (.tmp 12) (.tmp 30) 26 26 rfl _ _ _ _ rfl rfl HRUN.out ?_))
      go_wp2_with fail
      exact ⟨⟨(j : Int) - 1, j, q + 3, bl ++ [b2, b1, b0], rfl, by omega, by omega, hq3, HST.out, HQQ.out, by show World.ownsRow _ _ _ _ _ _ _; rw [byteVals_append]; exact HOWN.out, HUPP.out⟩, by first | (simp [intOf]; done) | (simp [intOf]; omega)⟩
    · obtain rfl : k = 0 := by omega
      obtain rfl : z = -1 := by omega
      have hown := HR.out
      rw [HQ.out.1] at hown
      have hcv := conv_row (P := Tryz.prog) wr 26 35 5 Tryz.underlying26 Tryz.underlying5 Tryz.underlying35 u3 bl hown
      have HCV := Lib.hid hcv
      have hbl : bl.length ≤ 300000000 := by rw [← HQ.out.1]; exact hq
      clear hown hcv HR hz h0
      go_wp2_with fail
      rw [HCV.out]
      go_wp2_with fail
      refine (canon_any _ wr (by show bl.length ≤ _; omega)).mono ?_
      rintro e w' ⟨r, HR, rfl, rfl⟩
      go_wp2_with fail
      go_ret
      refine ⟨r, ?_, rfl, hup0⟩
      show _ = _
      rw [HR.out, bs_mk, HB.out, List.drop_zero]

set_option maxHeartbeats 4000000 in
theorem of_big (a : ByteArray) (x : Nat) (w : World) (hx : x = natB (bs a)) (ha : a.size ≤ 1000000000) (hd : (dg x).length ≤ 100000000) : Calls Tryz.prog 85 #[.string a] w (fun e w' => ∃ v', Hid (Sl w' v' (dg x)) ∧ e = .returned v' ∧ Upd [] [] w w') := by
  have HX := Lib.hid hx
  clear hx
  go_enter Tryz.func85, Tryz.ntmps85
  go_wp2_with fail
  refine (canon_any a w (by omega)).mono ?_
  rintro e w' ⟨r, HR, rfl, rfl⟩
  have hr : bs r = be x := by rw [HR.out, HX.out]
  have hrs : r.size ≤ 1000000000 := by
    have h1 := be_len_le a.size x (by rw [HX.out]; exact natB_lt (bs a))
    have h2 := size_of_be hr
    omega
  have HB := Lib.hid hr
  clear HR hr
  go_wp2_with fail
  go_loopw [3, 4] (fun o e wr => ∃ (z : Int) (t y q : Nat) (out : List Nat), e = .int .i64 z ∧ ((z ≤ 0 ∧ -3 < z ∧ t = 0) ∨ z = (t : Int)) ∧ t ≤ r.size ∧ q ≤ 100000000 ∧ Hid ((be x).take t = be y ∧ t = (be y).length) ∧ Hid (okL out ∧ dg x = out ++ dg y ∧ out.length = q) ∧ Hid (wr.ownsRow 0 3 1 o q (digVals out)) ∧ Hid (Upd [] (foot o) w wr)) (fun _ e _ => (intOf e).toNat)
  case atStart => exact ⟨(r.size : Int), r.size, x, 0, [], rfl, .inr rfl, Nat.le_refl _, Nat.zero_le _, ⟨by rw [← HB.out, List.take_of_length_le (by simp [bs_length])], by rw [← HB.out]; rfl⟩, ⟨okL_nil, rfl, rfl⟩, ⟨by simp [digVals], .inl ⟨rfl, rfl⟩⟩, Upd.refl _ _⟩
  case round =>
    obtain ⟨z, t, y, q, out, rfl, hz, ht, hq, HT, HO, HROW, HUP⟩ := hrel
    have hup0 : Upd [] [] w wr := HUP.out.mono (fun _ h => h) (fun _ h => absurd h (by simp))
    by_cases h0 : 0 < z
    · obtain rfl : z = (t : Int) := by omega
      have ht0 : 0 < t := by omega
      have hy : 0 < y := by
        rcases Nat.eq_zero_or_pos y with h | h
        · have := HT.out.2
          rw [h, be_zero] at this
          simp at this
          omega
        · exact h
      obtain ⟨s, hs⟩ : ∃ s, s = t - 3 := ⟨_, rfl⟩
      have hmax : max ((t : Int) - 3) 0 = (s : Int) := by omega
      have hst : s ≤ t := by omega
      have hs3 : t - s ≤ 3 := by omega
      have htx : t ≤ (bs r).length := ht
      have HS := Lib.hid hs
      have HY := Lib.hid hy
      clear hz hs hy
      go_wp2_with fail
      go_loopw [5, 6] (fun d k wq => ∃ m j : Nat, d = .int .i64 (m : Int) ∧ k = .int .i64 (j : Int) ∧ s ≤ j ∧ j ≤ t ∧ Hid (m = natB (((be x).drop s).take (j - s))) ∧ m ≤ 16777215 ∧ wq = wr) (fun _ k _ => t - (intOf k).toNat)
      case atStart => exact ⟨0, s, rfl, rfl, Nat.le_refl _, hst, by show _ = _; rw [Nat.sub_self, List.take_zero]; rfl, by omega, rfl⟩
      case round =>
        obtain ⟨m, j, rfl, rfl, hj1, hj2, HM, hm, hwq⟩ := hrel
        by_cases hlt : j < t
        · have hjr : j < r.size := by omega
          have hstep : natB (((be x).drop s).take (j + 1 - s)) = m * 256 + r[j].toNat := by
            rw [← HB.out, show j + 1 - s = (j - s) + 1 by omega, List.take_add_one, List.getElem?_drop, show s + (j - s) = j by omega, bs_get r j hjr, Option.toList_some, natB_snoc, HB.out, ← HM.out]
          have hle : m * 256 + r[j].toNat ≤ 16777215 := by
            rw [← hstep]
            have h1 := natB_lt (((be x).drop s).take (j + 1 - s))
            have h2 : (((be x).drop s).take (j + 1 - s)).length ≤ 3 := by rw [List.length_take]; omega
            have h3 := Nat.pow_le_pow_right (n := 256) (by omega) h2
            have h4 : (256 : Nat) ^ 3 = 16777216 := rfl
            omega
          have HST := Lib.hid hstep
          have hle1 : (m : Int) * 256 ≤ 16777215 := by omega
          have hle2 : (m : Int) * 256 + (r[j].toNat : Int) ≤ 16777215 := by omega
          subst hwq
          clear hstep
          go_wp2_with fail
          exact ⟨⟨m * 256 + r[j].toNat, j + 1, by go_num, by go_num, by omega, by omega, HST.out.symm, hle, by first | trivial | rfl⟩, by simp [intOf]; omega⟩
        · obtain rfl : j = t := by omega
          subst hwq
          have hbt : (be x).take j = be y := HT.out.1
          have hlen : j = (be y).length := HT.out.2
          have hmy : m = y % 16777216 := by
            rw [HM.out, ← List.drop_take, hbt, HS.out, hlen, be_mod3]
          have hdy : dg x = (out ++ [m]) ++ dg (y / 16777216) := by
            rw [HO.out.2.1, dg_pos HY.out, ← hmy]
            simp
          have hnt : (be x).take s = be (y / 16777216) := by
            rw [be_div3, ← hlen, ← hbt, List.take_take, ← HS.out]
            congr 1
            omega
          have hns : s = (be (y / 16777216)).length := by
            rw [be_div3, List.length_take, ← hlen, HS.out]
            omega
          have hq1 : q + 1 ≤ 100000000 := by
            have h1 := congrArg List.length hdy
            rw [List.length_append, List.length_append, List.length_singleton, HO.out.2.2] at h1
            omega
          obtain ⟨v', w', hrun, hown', hup'⟩ := append_int wr _ q _ (m : Int) HROW.out (by omega)
          rw [← digVals_snoc] at hown'
          have HRUN := Lib.hid hrun
          have HOWN := Lib.hid hown'
          have HUPP := Lib.hid (HUP.out.trans hup')
          have HN := Lib.hid (And.intro hnt hns)
          have HOO : Hid (okL (out ++ [m]) ∧ dg x = (out ++ [m]) ++ dg (y / 16777216) ∧ (out ++ [m]).length = q + 1) := ⟨okL_snoc HO.out.1 (by omega), hdy, by rw [List.length_append, HO.out.2.2]; rfl⟩
          have hz2 : (((j : Int) - 3 ≤ 0 ∧ -3 < (j : Int) - 3 ∧ s = 0) ∨ (j : Int) - 3 = (s : Int)) := by have := HS.out; omega
          have hs4 : s ≤ r.size := by omega
          have hms : ((j : Int) - 3).toNat < ((j : Int)).toNat := by omega
          clear hbt hlen hmy hdy hnt hns hrun hown' hup' HUP HROW hmax
          go_wp2_with (refine wpList_append_run _ rfl _ _ _ _ rfl _ _ v' w' rfl rfl HRUN.out ?_)
          exact ⟨⟨(j : Int) - 3, s, y / 16777216, q + 1, out ++ [m], rfl, hz2, hs4, hq1, HN.out, HOO, HOWN.out, HUPP.out⟩, by simp only [intOf]; exact hms⟩
    · have hy : y = 0 := by
        rcases Nat.eq_zero_or_pos y with h | h
        · exact h
        · have h1 := be_ne h
          have h2 := HT.out.2
          omega
      have hout : dg x = out := by rw [HO.out.2.1, hy, dg_zero, List.append_nil]
      have hown := HROW.out
      rw [← HO.out.2.2] at hown
      have hsl := Sl.of_row hown
      rw [← hout] at hsl
      have HSL := Lib.hid hsl
      clear hy hout hown hsl hz
      go_wp2_with fail
      go_ret
      exact ⟨_, HSL.out, rfl, hup0⟩
end Go.Proofs.YtcimcodljjcmgaaGreatDoor
