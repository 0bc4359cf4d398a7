/- sortesref01: slices of digits; trim, cmp, times, minus, number. -/
import Derived.Test.YtkhodajdionaaaaGreatDoorBigA
namespace Go.Proofs.YtkhodajdionaaaaGreatDoor
open Go.RowKit
set_option maxRecDepth 100000

def digV (d : Nat) : Value := .int .i64 (d : Int)
def digVals (l : List Nat) : List Value := l.map digV
/-- v is a slice of digits. -/
def Sl (w : World) (v : Value) (l : List Nat) : Prop := ∃ ao cap, v = .slice ao l.length cap ∧ l.length ≤ cap ∧ cap ≤ maxLen ∧ (l.length = 0 ∨ ∃ b, ao = some ⟨b, 0, none⟩ ∧ b < w.heap.size ∧ ∀ (j d : Nat), l[j]? = some d → w.cell? ⟨b, j, none⟩ = some (.int .i64 (d : Int)))
theorem Sl.nil (w : World) : Sl w (.slice none 0 0) [] := ⟨none, 0, rfl, Nat.le_refl _, by simp, .inl rfl⟩
theorem Sl.upd {w w' : World} {v : Value} {l : List Nat} (h : Sl w v l) (u : Upd [] [] w w') : Sl w' v l := by
  obtain ⟨ao, cap, rfl, h1, h2, h3⟩ := h
  refine ⟨ao, cap, rfl, h1, h2, ?_⟩
  rcases h3 with h3 | ⟨b, rfl, hb, hc⟩
  · exact .inl h3
  · exact .inr ⟨b, rfl, Nat.lt_of_lt_of_le hb u.size, fun j d hj => (u.cell hb (by simp)).trans (hc j d hj)⟩
theorem Sl.of_row {w : World} {v : Value} {l : List Nat} {t : TypeId} (h : w.ownsRow 0 t 1 v l.length (digVals l)) : Sl w v l := by
  by_cases h0 : l.length = 0
  · obtain ⟨ao, cap, rfl, h1, h2⟩ := row_slice h
    exact ⟨ao, cap, rfl, h1, h2, .inl h0⟩
  · obtain ⟨g, cap, cur, rfl, hg, h1, h2, h3, h4⟩ := row_pos h (by omega)
    refine ⟨_, cap, rfl, h1, h2, .inr ⟨g, rfl, (Array.getElem?_eq_some_iff.1 hg).1, fun j d hj => ?_⟩⟩
    have hjl := (List.getElem?_eq_some_iff.1 hj).1
    rw [cell_of_row w g j _ _ _ hg]
    have e : (digVals l)[j]? = some (digV d) := by simp [digVals, hj]
    rw [← h4, Nat.mul_one, List.getElem?_take_of_lt hjl] at e
    simpa [digV] using e
/-- The length of a slice. -/
def slLen : Value → Nat
  | .slice _ n _ => n
  | _ => 0

theorem trim_at (v : Value) (l : List Nat) (w : World) (h : Sl w v l) (hl : okL l) : Calls Tryz.prog 121 #[v] w (fun e w' => ∃ v', Hid (Sl w v' (dg (valL l)) ∧ foot v' = foot v) ∧ e = .returned v' ∧ w = w') := by
  obtain ⟨ao, cap, rfl, h1, h2, h3⟩ := h
  obtain ⟨n, hn⟩ : ∃ n, n = l.length := ⟨_, rfl⟩
  rw [← hn] at h1 h3
  rw [← hn]
  unfold maxLen at h2
  have H3 := Lib.hid h3
  have HN := Lib.hid hn
  clear h3 hn
  go_enter Tryz.func121, Tryz.ntmps121
  go_wp2_with fail
  go_loop [0] (fun v => ∃ m : Nat, v = .slice ao m cap ∧ m ≤ n ∧ Hid (valL (l.take m) = valL l)) (fun v => slLen v)
  case atStart => exact ⟨n, rfl, Nat.le_refl _, by show _ = _; rw [HN.out, List.take_length]⟩
  case round =>
    obtain ⟨m, rfl, hm, HM⟩ := hrel
    have hend : ∀ k, k ≤ n → valL (l.take k) = valL l → (∀ d, (l.take k).getLast? = some d → d ≠ 0) → Sl w (.slice ao k cap) (dg (valL l)) := by
      intro k hk hv hlast
      have hd := dg_of_last (okL_take hl k) hlast
      rw [hv] at hd
      have hlen : (dg (valL l)).length = k := by rw [← hd, List.length_take, ← HN.out]; omega
      refine ⟨ao, cap, by rw [hlen], by omega, by simp only [maxLen]; omega, ?_⟩
      rcases H3.out with h3 | ⟨b, rfl, hb, hc⟩
      · exact .inl (by omega)
      · refine .inr ⟨b, rfl, hb, fun j d hj => hc j d ?_⟩
        rw [← hd, List.getElem?_take] at hj
        split at hj
        · exact hj
        · cases hj
    have HE := Lib.hid hend
    clear hend
    by_cases h0 : 0 < m
    · obtain ⟨k, rfl⟩ : ∃ k, m = k + 1 := ⟨m - 1, by omega⟩
      obtain ⟨b, rfl, hb, hc⟩ : ∃ b, ao = some ⟨b, 0, none⟩ ∧ b < w.heap.size ∧ ∀ (j d : Nat), l[j]? = some d → w.cell? ⟨b, j, none⟩ = some (.int .i64 (d : Int)) := by
        rcases H3.out with h | h
        · omega
        · exact h
      have hkl : k < l.length := by have := HN.out; omega
      have hk0 := hc k l[k] (List.getElem?_eq_getElem hkl)
      obtain ⟨d, hd⟩ : ∃ d, d = l[k] := ⟨_, rfl⟩
      rw [← hd] at hk0
      have hst : l[k]? = some d := by rw [hd]; exact List.getElem?_eq_getElem hkl
      have HST := Lib.hid hst
      clear hc hkl hd hst
      have hki : ((k + 1 : Nat) : Int) - 1 = (k : Int) := by omega
      by_cases hd0 : d = 0
      · subst hd0
        go_wp2_with fail
        refine ⟨⟨k, rfl, by omega, ?_⟩, by simp [slLen]⟩
        show _ = _
        rw [← HM.out, take_step HST.out, valL_snoc, Nat.mul_zero, Nat.add_zero]
      · have hb0 : ((d : Int) == 0) = false := by rw [beq_eq_false_iff_ne]; omega
        have hfin := HE.out (k + 1) hm HM.out (fun x hx => by
          rw [take_step HST.out, List.getLast?_concat] at hx
          simp only [Option.some.injEq] at hx
          omega)
        have HF := Lib.hid hfin
        clear hfin hd0
        go_wp2_with fail
        go_ret
        exact ⟨_, ⟨HF.out, rfl⟩, rfl, rfl⟩
    · obtain rfl : m = 0 := by omega
      have hfin := HE.out 0 hm HM.out (fun x hx => by simp at hx)
      have HF := Lib.hid hfin
      clear hfin
      go_wp2_with fail
      go_ret
      exact ⟨_, ⟨HF.out, by cases ao <;> rfl⟩, rfl, rfl⟩
theorem trim_any (v : Value) (l : List Nat) (w : World) (h : Sl w v l) (hl : okL l) : Calls Tryz.prog 121 #[v] w (fun e w' => ∃ v', Hid (Sl w v' (dg (valL l))) ∧ e = .returned v' ∧ w = w') := by
  refine (trim_at v l w h hl).mono ?_
  rintro e w' ⟨v', HV, he, hw⟩
  exact ⟨v', HV.out.1, he, hw⟩

theorem Sl.get {w : World} {ao : Option Addr} {n cap : Nat} {l : List Nat} (h : Sl w (.slice ao n cap) l) {k d : Nat} (hk : l[k]? = some d) : ∃ b, ao = some ⟨b, 0, none⟩ ∧ w.cell? ⟨b, k, none⟩ = some (.int .i64 (d : Int)) := by
  obtain ⟨ao', cap', e, h1, h2, h3⟩ := h
  simp only [Value.slice.injEq] at e
  obtain ⟨rfl, rfl, rfl⟩ := e
  have hkl := (List.getElem?_eq_some_iff.1 hk).1
  rcases h3 with h3 | ⟨b, rfl, hb, hc⟩
  · omega
  · exact ⟨b, rfl, hc k d hk⟩
theorem Sl.form {w : World} {v : Value} {l : List Nat} (h : Sl w v l) : ∃ ao cap, v = .slice ao l.length cap ∧ l.length ≤ cap ∧ cap ≤ 9223372036854775807 := by
  obtain ⟨ao', cap', e, h1, h2, h3⟩ := h
  exact ⟨ao', cap', e, h1, h2⟩

/-- The sign of a comparison. -/
def CmpOk (x y : Nat) (r : Int) : Prop := (r < 0 ↔ x < y) ∧ (0 < r ↔ y < x)

set_option maxHeartbeats 1000000 in
theorem cmp_any (u v : Value) (x y : Nat) (w : World) (hu : Sl w u (dg x)) (hv : Sl w v (dg y)) : Calls Tryz.prog 122 #[u, v] w (fun e w' => ∃ r : Int, Hid (CmpOk x y r) ∧ (-9223372036854775808 ≤ r ∧ r ≤ 9223372036854775807) ∧ e = .returned (.int .i64 r) ∧ Upd [] [] w w') := by
  obtain ⟨ao, cap, rfl, hu1, hu2⟩ := hu.form
  obtain ⟨bo, cbp, rfl, hv1, hv2⟩ := hv.form
  obtain ⟨n, hn⟩ : ∃ n, n = (dg x).length := ⟨_, rfl⟩
  obtain ⟨m, hm⟩ : ∃ m, m = (dg y).length := ⟨_, rfl⟩
  rw [← hn] at hu1 hu
  rw [← hm] at hv1 hv
  rw [← hn, ← hm]
  have HU := Lib.hid hu
  have HV := Lib.hid hv
  have HN := Lib.hid hn
  have HM := Lib.hid hm
  clear hu hv hn hm
  by_cases hnm : n = m
  case neg =>
    have hb : ((n : Int) != (m : Int)) = true := by rw [bne_iff_ne]; omega
    have hb2 : ((n : Int) == (m : Int)) = false := by rw [beq_eq_false_iff_ne]; omega
    have hb3 : (n == m) = false := by rw [beq_eq_false_iff_ne]; omega
    have hc : CmpOk x y ((n : Int) - (m : Int)) := by
      rcases Nat.lt_or_ge n m with h | h
      · have := dg_len_lt (x := x) (y := y) (by rw [← HN.out, ← HM.out]; exact h)
        exact ⟨⟨fun _ => this, fun _ => by omega⟩, ⟨fun h => by omega, fun h => by omega⟩⟩
      · have := dg_len_lt (x := y) (y := x) (by rw [← HN.out, ← HM.out]; omega)
        exact ⟨⟨fun h => by omega, fun h => by omega⟩, ⟨fun _ => this, fun _ => by omega⟩⟩
    have HC := Lib.hid hc
    clear hc hnm
    go_enter Tryz.func122, Tryz.ntmps122
    go_wp2_with fail
    go_ret
    exact ⟨_, HC.out, ⟨by omega, by omega⟩, rfl, Upd.refl _ _⟩
  case pos =>
    subst hnm
    go_enter Tryz.func122, Tryz.ntmps122
    go_wp2_with fail
    go_loopw [5] (fun i wr => ∃ (z : Int) (k : Nat), i = .int .i64 z ∧ z + 1 = (k : Int) ∧ k ≤ n ∧ Hid ((dg x).drop k = (dg y).drop k) ∧ Hid (Upd [] [] w wr)) (fun i _ => (intOf i + 1).toNat)
    case atStart => exact ⟨(n : Int) - 1, n, rfl, by omega, Nat.le_refl _, by show _ = _; rw [List.drop_of_length_le (by rw [HN.out]; omega), List.drop_of_length_le (by rw [HM.out]; omega)], Upd.refl _ _⟩
    case round =>
      obtain ⟨z, k, rfl, hz, hk, HK, HUP⟩ := hrel
      by_cases h0 : 0 < k
      · obtain ⟨j, rfl⟩ : ∃ j, k = j + 1 := ⟨k - 1, by omega⟩
        obtain rfl : z = (j : Int) := by omega
        have hjx : j < (dg x).length := by rw [← HN.out]; omega
        have hjy : j < (dg y).length := by rw [← HM.out]; omega
        obtain ⟨a, ha⟩ : ∃ a, (dg x)[j]? = some a := ⟨_, List.getElem?_eq_getElem hjx⟩
        obtain ⟨b, hb⟩ : ∃ b, (dg y)[j]? = some b := ⟨_, List.getElem?_eq_getElem hjy⟩
        have ha2 : a < 16777216 := dg_ok x a (List.mem_of_getElem? ha)
        have hb2 : b < 16777216 := dg_ok y b (List.mem_of_getElem? hb)
        obtain ⟨g1, rfl, c1⟩ := (HU.out.upd HUP.out).get ha
        obtain ⟨g2, rfl, c2⟩ := (HV.out.upd HUP.out).get hb
        have HA := Lib.hid ha
        have HB := Lib.hid hb
        clear hjx hjy ha hb hz
        by_cases hab : a = b
        · subst hab
          have hst : (dg x).drop j = (dg y).drop j := by
            obtain ⟨h1, e1⟩ := List.getElem?_eq_some_iff.1 HA.out
            obtain ⟨h2, e2⟩ := List.getElem?_eq_some_iff.1 HB.out
            rw [List.drop_eq_getElem_cons h1, List.drop_eq_getElem_cons h2, e1, e2, HK.out]
          have HST := Lib.hid hst
          clear hst
          go_wp2_with fail
          go_quiet (fail)
          go_wp2_with fail
          exact ⟨⟨(j : Int) - 1, j, rfl, by omega, by omega, HST.out, HUP.out.drewN _⟩, by simp only [intOf]; omega⟩
        · have hb1 : ((a : Int) != (b : Int)) = true := by rw [bne_iff_ne]; omega
          have hb3 : ((a : Int) == (b : Int)) = false := by rw [beq_eq_false_iff_ne]; omega
          have hc : CmpOk x y ((a : Int) - (b : Int)) := by
            have ex := valL_dg x
            have ey := valL_dg y
            rcases Nat.lt_or_ge a b with h | h
            · have := val_cmp (dg_ok x) HK.out HA.out HB.out h
              rw [ex, ey] at this
              exact ⟨⟨fun _ => this, fun _ => by omega⟩, ⟨fun h => by omega, fun h => by omega⟩⟩
            · have := val_cmp (dg_ok y) HK.out.symm HB.out HA.out (by omega)
              rw [ex, ey] at this
              exact ⟨⟨fun h => by omega, fun h => by omega⟩, ⟨fun _ => this, fun _ => by omega⟩⟩
          have HC := Lib.hid hc
          clear hc hab
          go_wp2_with fail
          go_quiet (fail)
          go_wp2_with fail
          go_quiet (fail)
          go_wp2_with fail
          go_ret
          exact ⟨_, HC.out, ⟨by omega, by omega⟩, rfl, (HUP.out.drewN _).drewN _⟩
      · obtain rfl : k = 0 := by omega
        obtain rfl : z = -1 := by omega
        have hxy : x = y := by
          have := HK.out
          rw [List.drop_zero, List.drop_zero] at this
          rw [← valL_dg x, this, valL_dg]
        have hc : CmpOk x y 0 := by
          subst hxy
          exact ⟨⟨fun h => by omega, fun h => by omega⟩, ⟨fun h => by omega, fun h => by omega⟩⟩
        have HC := Lib.hid hc
        clear hc hxy hz
        go_wp2_with fail
        go_ret
        exact ⟨_, HC.out, ⟨by omega, by omega⟩, rfl, HUP.out⟩

theorem int_parts : ∃ i, Tryz.prog.info? 3 = some i ∧ i.zero = some (.int .i64 0) ∧ i.size = 1 ∧ i.bytes = 8 := by
  have h : (Tryz.prog.info? 3).map (fun i => (i.zero, i.size, i.bytes)) = some (some (.int .i64 0), 1, 8) := by kernel_rfl
  obtain ⟨i, hi, he⟩ := Option.map_eq_some_iff.1 h
  simp only [Prod.mk.injEq] at he
  exact ⟨i, hi, he.1, he.2.1, he.2.2⟩
/-- append(v, x), ints. -/
theorem append_int (wr : World) (v : Value) (k : Nat) (xs : List Value) (x : Int) (hown : wr.ownsRow 0 3 1 v k xs) (hk : k < 1099511627776) :
    ∃ v' w', (Builtin.append_ #[38, 38] 38 #[v, .slice (some ⟨wr.heap.size, 0, none⟩) 1 1]).run Tryz.prog (wr.alloc (.cells #[.int .i64 x] 3)) = .ok v' w' ∧ w'.ownsRow 0 3 1 v' (k + 1) (xs ++ [.int .i64 x]) ∧ Upd (foot v) (foot v') wr w' := by
  have hrow : (wr.alloc (.cells #[.int .i64 x] 3)).ownsRow 0 3 1 v k xs := row_same hown (fun j hj => Below.heap_alloc _ _ _ (row_foot_lt hown j hj))
  have hw1 : (wr.alloc (.cells #[.int .i64 x] 3)).heap[wr.heap.size]? = some (.cells #[.int .i64 x] 3 (0, 0)) := heap_alloc_new _ _
  obtain ⟨iu, u1, u2, u3', u4⟩ := int_parts
  obtain ⟨v', w', hrun, hown', hup'⟩ := append_block (P := Tryz.prog) (wr.alloc (.cells #[.int .i64 x] 3)) 38 38 3 iu (.int .i64 0) 1 8 Tryz.underlying38 u1 u2 u3' u4 rfl (by omega) v k _ hrow ⟨wr.heap.size, 0, none⟩ 1 1 [.int .i64 x] rfl (by
    intro j u hj
    have : j = 0 := by
      cases j with
      | zero => rfl
      | succ j => simp at hj
    subst this
    simp only [List.getElem?_cons_zero, Option.some.injEq] at hj
    subst hj
    have e : (⟨wr.heap.size, 0, none⟩ : Addr).add 0 = ⟨wr.heap.size, 0, none⟩ := by simp [Addr.add]
    rw [e, cell_of_row _ _ _ _ _ _ hw1]
    rfl) (by intro u hu; simp at hu; subst hu; rfl) (by omega) (by simp only [maxLen]; omega)
  exact ⟨v', w', hrun, hown', ((Upd.refl _ _).alloc _).trans hup'⟩
theorem digVals_snoc (l : List Nat) (d : Nat) : digVals (l ++ [d]) = digVals l ++ [.int .i64 (d : Int)] := by simp [digVals, digV]

set_option maxHeartbeats 2000000 in
theorem times_any (u : Value) (x d : Nat) (w : World) (hu : Sl w u (dg x)) (hd : d < 16777216) (hx : (dg x).length ≤ 1000000000) : Calls Tryz.prog 125 #[u, .int .i64 (d : Int)] w (fun e w' => ∃ v', Hid (Sl w' v' (dg (x * d))) ∧ e = .returned v' ∧ Upd [] [] w w') := by
  obtain ⟨ao, cap, rfl, hu1, hu2⟩ := hu.form
  obtain ⟨n, hn⟩ : ∃ n, n = (dg x).length := ⟨_, rfl⟩
  rw [← hn] at hu1 hu hx
  rw [← hn]
  have HU := Lib.hid hu
  have HN := Lib.hid hn
  clear hu hn
  go_enter Tryz.func125, Tryz.ntmps125
  go_wp2_with fail
  go_loopw [5, 6, 7] (fun o c i wr => ∃ (k cy : Nat) (out : List Nat), i = .int .i64 (k : Int) ∧ c = .int .i64 (cy : Int) ∧ k ≤ n ∧ cy < 16777216 ∧ Hid (out.length = k ∧ okL out ∧ valL out + 16777216 ^ k * cy = valL ((dg x).take k) * d) ∧ Hid (wr.ownsRow 0 3 1 o k (digVals out)) ∧ Hid (Upd [] (foot o) w wr)) (fun _ _ i _ => n - (intOf i).toNat)
  case atStart => exact ⟨0, 0, [], rfl, rfl, Nat.zero_le _, by omega, ⟨rfl, okL_nil, by simp [valL]⟩, ⟨by simp [digVals], .inl ⟨rfl, rfl⟩⟩, Upd.refl _ _⟩
  case round =>
    obtain ⟨k, cy, out, rfl, rfl, hk, hcy, HI, HR, HUP⟩ := hrel
    have hup0 : Upd [] [] w wr := HUP.out.mono (fun _ h => h) (fun _ h => absurd h (by simp))
    by_cases hlt : k < n
    · have hkx : k < (dg x).length := by rw [← HN.out]; exact hlt
      obtain ⟨a, ha⟩ : ∃ a, (dg x)[k]? = some a := ⟨_, List.getElem?_eq_getElem hkx⟩
      have ha2 : a < 16777216 := dg_ok x a (List.mem_of_getElem? ha)
      obtain ⟨g1, rfl, c1⟩ := (HU.out.upd hup0).get ha
      obtain ⟨s, hs⟩ : ∃ s, s = a * d + cy := ⟨_, rfl⟩
      obtain ⟨hc1, hc2⟩ := times_carry ha2 hd hcy
      have hst := times_step ha HI.out.1 HI.out.2.2
      rw [← hs] at hc1 hc2 hst
      have hs1 : (a : Int) * (d : Int) + (cy : Int) = (s : Int) := by rw [hs]; simp
      have hs2 : (a : Int) * (d : Int) ≤ 281474976710656 := by have := Int.natCast_nonneg cy; omega
      have hs0 : 0 ≤ (a : Int) * (d : Int) := Int.mul_nonneg (by omega) (by omega)
      obtain ⟨r, hr⟩ : ∃ r, r = s % 16777216 := ⟨_, rfl⟩
      obtain ⟨q, hq⟩ : ∃ q, q = s / 16777216 := ⟨_, rfl⟩
      have hr1 : (s : Int) % 16777216 = (r : Int) := by omega
      have hq1 : (s : Int) / 16777216 = (q : Int) := by omega
      have hr2 : r < 16777216 := by omega
      rw [← hr, ← hq] at hst
      rw [← hq] at hc1
      obtain ⟨v', w', hrun, hown', hup'⟩ := append_int wr _ k _ (r : Int) HR.out (by omega)
      rw [← digVals_snoc] at hown'
      have hl : (out ++ [r]).length = k + 1 := by rw [List.length_append, HI.out.1]; rfl
      have HRUN := Lib.hid hrun
      have HOWN := Lib.hid hown'
      have HUPP := Lib.hid (HUP.out.trans hup')
      have HST := Lib.hid (And.intro hl (And.intro (okL_snoc HI.out.2.1 hr2) hst))
      clear ha hkx hs hst hrun hown' hup' HUP HR hr hq hl
      go_wp2_with (refine wpList_append_run _ rfl _ _ _ _ rfl _ _ v' w' rfl rfl HRUN.out ?_)
      exact ⟨⟨k + 1, q, out ++ [r], by go_num, rfl, by omega, hc1, HST.out, HOWN.out, HUPP.out⟩, by simp [intOf]; omega⟩
    · obtain rfl : k = n := by omega
      obtain ⟨v', w', hrun, hown', hup'⟩ := append_int wr _ k _ (cy : Int) HR.out (by omega)
      rw [← digVals_snoc] at hown'
      have hl : (out ++ [cy]).length = k + 1 := by rw [List.length_append, HI.out.1]; rfl
      have hv : valL (out ++ [cy]) = x * d := by
        rw [valL_snoc, HI.out.1, HI.out.2.2, HN.out, List.take_length, valL_dg]
      rw [← hl] at hown'
      have hsl := Sl.of_row hown'
      have HSL := Lib.hid hsl
      have HRUN := Lib.hid hrun
      have HUPP := Lib.hid (HUP.out.trans hup')
      have HV := Lib.hid hv
      have HOK := Lib.hid (okL_snoc HI.out.2.1 hcy)
      clear hrun hown' hup' HUP HR hl hv hsl hlt
      go_wp2_with (refine wpList_append_run _ rfl _ _ _ _ rfl _ _ v' w' rfl rfl HRUN.out ?_)
      refine (trim_any v' _ w' HSL.out HOK.out).mono ?_
      rintro e w2 ⟨v2, HV2, rfl, rfl⟩
      go_wp2_with fail
      go_ret
      refine ⟨v2, ?_, rfl, HUPP.out.mono (fun _ h => h) (fun _ h => absurd h (by simp))⟩
      show Sl _ _ _
      rw [← HV.out]
      exact HV2.out
end Go.Proofs.YtkhodajdionaaaaGreatDoor
