/- sortesref05.Text, number, Read. -/
import Derived.Test.YtkhodajdionaaaaDoorRDecA
import Derived.Test.YtkhodajdionaaaaDoorDecC
namespace Go.Proofs.YtkhodajdionaaaaDoor
open Go.RowKit
set_option maxRecDepth 100000

set_option maxHeartbeats 1000000 in
theorem rtext_any (r s : Int) (w : World) (hr : i64in r) (hs : i64in s) : Calls Tryd.prog 39 #[.agg #[.int .i64 r, .int .i64 s]] w (MkS (pairL r s) w) := by
  have h1 := SigAt.start w r s
  have h4 := h1.upd (Upd.refl _ _).drew
  have k4 := h4.cells
  have hlr := itoa_len r hr
  have hls := itoa_len s hs
  go_enter Tryd.func39, Tryd.ntmps39
  go_wp2_with fail
  clear h1
  go_region_held3 (fun wp => wp.cell? ⟨w.heap.size, 0, none⟩ = some (.int .i64 r) ∧ wp.cell? ⟨w.heap.size, 1, none⟩ = some (.int .i64 s)) (first | exact k4 | assumption)
    (first
      | (go_at_call 65; ((with_reducible refine (decimal_any r _ hr).mono ?_); rintro e wq ⟨y1, HY1, hy1, rfl, hq⟩; have t1 : ¬ 9223372036854775807 < y1.size + 1 := (by omega); have g1 := h4.upd hq; have kq := g1.cells; clear hq))
      | (go_at_call 65; ((with_reducible refine (decimal_any s _ hs).mono ?_); rintro e wq ⟨y2, HY2, hy2, rfl, hq⟩; have t2 : ¬ 9223372036854775807 < y1.size + 1 + y2.size := (by omega); have g2 := g1.upd hq; have kq := g2.cells; clear hq)))
  go_wp2_with fail
  go_ret
  refine ⟨_, ?_, ?_, rfl, g2.up⟩
  · show _ = _
    rw [bs_append, bs_append, HY1.out, HY2.out]
    rfl
  · have e1 := bs_size HY1.out
    have e2 := bs_size HY2.out
    have e3 : (ByteArray.mk #[46]).size = 1 := rfl
    simp [ByteArray.size_append, pairL, e1, e2, e3]
    omega

/-- It returns what a text is read as. -/
def MkNum (l : List UInt8) (w : World) (e : Ending) (w' : World) : Prop := ∃ (n : Int) (ok : Bool), Hid (numOk l n ok) ∧ i64in n ∧ e = .returned (.tuple #[.int .i64 n, .bool ok]) ∧ Upd [] [] w w'

theorem bs_cons (s : ByteArray) (h : 0 < s.size) : bs s = s[0] :: (bs s).drop 1 := by
  have h2 : 0 < (bs s).length := h
  have := List.drop_eq_getElem_cons h2
  exact this
theorem bs_get' (s : ByteArray) (k : Nat) (h : k < s.size) : (bs s)[k]? = some s[k] := by
  have : k < (bs s).length := h
  rw [List.getElem?_eq_getElem this]; rfl
theorem drop_take_step (s : ByteArray) (a k : Nat) (ha : a ≤ k) (h : k < s.size) : ((bs s).drop a).take (k + 1 - a) = ((bs s).drop a).take (k - a) ++ [s[k]] := by
  rw [show k + 1 - a = (k - a) + 1 by omega]
  rw [List.take_add_one, List.getElem?_drop, show a + (k - a) = k by omega]
  have : k < (bs s).length := h
  rw [List.getElem?_eq_getElem this]
  rfl
theorem digit_step (z : Int) (v : Nat) (c : UInt8) (hc : 48 ≤ c.toNat) (hz : z = wrap64 (-(v : Int))) : wrap64 (wrap64 (10 * z) - ((c.toNat : Int) - 48)) = wrap64 (-((v * 10 + (c.toNat - 48) : Nat) : Int)) := by
  rw [hz, ← wrap_step v (c.toNat - 48)]
  simp only [wrap64]
  omega
theorem eq_beq {y s : ByteArray} : (y.toList == s.toList) = true ↔ bs y = bs s := by
  rw [beq_iff_eq, ByteArray.toList_eq, ByteArray.toList_eq]
  rfl

set_option maxHeartbeats 2000000 in
theorem number5_any (s : ByteArray) (w : World) (hs : s.size ≤ 4000000000) : Calls Tryd.prog 66 #[.string s] w (MkNum (bs s) w) := by
  by_cases hne : 0 < s.size
  case neg =>
    have hb : ¬ isNum (bs s) := by
      intro hn
      have : bs s = [] := List.eq_nil_of_length_eq_zero (by rw [bs_length]; omega)
      rw [this] at hn
      exact (num_plain_chars (fun r h => by cases h) hn).1 rfl
    have HB := Lib.hid (numOk_bad hb)
    clear hb
    have h0 : s.size = 0 := by omega
    go_enter Tryd.func66, Tryd.ntmps66
    go_wp2_with fail
    go_ret2
    exact ⟨0, false, HB.out, ⟨by omega, by omega⟩, rfl, Upd.refl _ _⟩
  case pos =>
    have hc := bs_cons s hne
    by_cases hm : (s[0].toNat : Int) = 45
    · have hb45 : ((s[0].toNat : Int) == 45) = true := by rw [beq_iff_eq]; exact hm
      have h45 : s[0] = 45 := UInt8.toNat_inj.1 (by have : (45 : UInt8).toNat = 45 := rfl; omega)
      rw [h45] at hc
      obtain ⟨D, hD⟩ : ∃ D, D = (bs s).drop 1 := ⟨_, rfl⟩
      rw [← hD] at hc
      have HC := Lib.hid hc
      have HD := Lib.hid hD
      have hDl : D.length = s.size - 1 := by rw [hD]; simp [bs_length]
      clear hc hD h45 hm
      by_cases hlen : s.size ≤ 20 ∧ 1 < s.size
      case neg =>
        have hb : ¬ isNum (bs s) := by
          intro hn
          rw [HC.out] at hn
          obtain ⟨h1, h2, h3⟩ := num_minus_chars hn
          cases D with
          | nil => exact h1 rfl
          | cons a r => simp at hDl h2; omega
        have HB := Lib.hid (numOk_bad hb)
        clear hb hDl
        by_cases h1 : 1 < s.size
        · have h2 : 19 < (s.size : Int) - 1 := by omega
          clear hlen
          go_enter Tryd.func66, Tryd.ntmps66
          go_wp2_with fail
          go_ret2
          exact ⟨0, false, HB.out, ⟨by omega, by omega⟩, rfl, Upd.refl _ _⟩
        · have h2 : s.size = 1 := by omega
          have h3 : (s.size : Int) ≤ 1 := by omega
          clear hlen
          go_enter Tryd.func66, Tryd.ntmps66
          go_wp2_with fail
          go_ret2
          exact ⟨0, false, HB.out, ⟨by omega, by omega⟩, rfl, Upd.refl _ _⟩
      case pos =>
        obtain ⟨hl1, hl2⟩ := hlen
        go_enter Tryd.func66, Tryd.ntmps66
        go_wp2_with fail
        go_loopw [5, 6] (fun n i wr => ∃ (k : Nat) (z : Int), n = .int .i64 z ∧ i = .int .i64 (k : Int) ∧ 1 ≤ k ∧ k ≤ s.size ∧ (-9223372036854775808 ≤ z ∧ z ≤ 9223372036854775807) ∧ Hid (z = wrap64 (-(valD (D.take (k - 1)) : Int))) ∧ wr = w) (fun _ i _ => s.size - (intOf i).toNat)
        case atStart => exact ⟨1, 0, rfl, rfl, Nat.le_refl _, by omega, by omega, by show _ = _; simp [valD, wrap64], rfl⟩
        case round =>
          obtain ⟨k, z, rfl, rfl, hk1, hk, hz, HZ, hwr⟩ := hrel
          subst hwr
          by_cases hlt : k < s.size
          · by_cases hdg : 48 ≤ s[k].toNat ∧ s[k].toNat ≤ 57
            · obtain ⟨d1, d2⟩ := hdg
              have hst : D.take (k + 1 - 1) = D.take (k - 1) ++ [s[k]] := by rw [HD.out]; exact drop_take_step s 1 k hk1 hlt
              have hv : wrap64 (wrap64 (10 * z) - ((s[k].toNat : Int) - 48)) = wrap64 (-(valD (D.take (k + 1 - 1)) : Int)) := by
                rw [hst, valD_snoc]
                exact digit_step z _ s[k] d1 HZ.out
              have hb2 := wrap_bounds (-(valD (D.take (k + 1 - 1)) : Int))
              rw [← hv] at hb2
              have HV := Lib.hid hv
              have HB2 := Lib.hid hb2
              have e1 : (48 : Int) ≤ (s[k].toNat : Int) := by omega
              have e2 : (s[k].toNat : Int) ≤ 57 := by omega
              clear hst hv hb2
              go_wp2_with fail
              exact ⟨⟨k + 1, _, rfl, by go_num, by omega, by omega, HB2.out, HV.out, by first | trivial | rfl⟩, by simp [intOf]; omega⟩
            · have hb : ¬ isNum (bs s) := by
                intro hn
                rw [HC.out] at hn
                have h3 := (num_minus_chars hn).2.2 s[k] (by
                  rw [HD.out]
                  refine List.mem_of_getElem? (i := k - 1) ?_
                  rw [List.getElem?_drop, show 1 + (k - 1) = k by omega]
                  exact bs_get' s k hlt)
                exact hdg h3
              have HB := Lib.hid (numOk_bad hb)
              have hcs : s[k].toNat < 48 ∨ 57 < s[k].toNat := by omega
              clear hb hdg
              rcases hcs with h | h
              all_goals
                go_wp2_with fail
                go_ret2
                exact ⟨0, false, HB.out, ⟨by omega, by omega⟩, rfl, Upd.refl _ _⟩
          · obtain rfl : k = s.size := by omega
            have hzz : z = wrap64 (-(valD D : Int)) := by
              rw [HZ.out, List.take_of_length_le (by omega)]
            have HZZ := Lib.hid hzz
            have hzi : i64in z := hz
            clear hzz hlt hk HZ
            go_wp2_with fail
            refine (decimal_any z _ hzi).mono ?_
            rintro e w2 ⟨y, HY, hy, rfl, hu2⟩
            go_wp2_with fail
            go_ret2
            refine ⟨z, y.toList == s.toList, ?_, hzi, rfl, hu2⟩
            show numOk _ _ _
            rw [HC.out]
            refine numOk_minus HZZ.out ?_
            rw [eq_beq, HY.out, HC.out]
    · have hb45 : ((s[0].toNat : Int) == 45) = false := by rw [beq_eq_false_iff_ne]; exact hm
      have h0 : ∀ r, bs s ≠ 45 :: r := by
        intro r hr
        rw [hc] at hr
        injection hr with h1 _
        exact hm (by rw [h1]; rfl)
      have H0 := Lib.hid h0
      have hpI : (0 : Int) < (s.size : Int) := by omega
      have hpZ : ¬ s.size = 0 := by omega
      clear hc hm h0
      by_cases hlen : s.size ≤ 19
      case neg =>
        have hb : ¬ isNum (bs s) := by
          intro hn
          obtain ⟨h1, h2, h3⟩ := num_plain_chars H0.out hn
          rw [bs_length] at h2
          omega
        have HB := Lib.hid (numOk_bad hb)
        have h2 : 19 < (s.size : Int) := by omega
        clear hb hlen
        go_enter Tryd.func66, Tryd.ntmps66
        go_wp2_with fail
        go_ret2
        exact ⟨0, false, HB.out, ⟨by omega, by omega⟩, rfl, Upd.refl _ _⟩
      case pos =>
        have hleI : (s.size : Int) ≤ 19 := by omega
        go_enter Tryd.func66, Tryd.ntmps66
        go_wp2_with fail
        go_loopw [5, 6] (fun n i wr => ∃ (k : Nat) (z : Int), n = .int .i64 z ∧ i = .int .i64 (k : Int) ∧ k ≤ s.size ∧ (-9223372036854775808 ≤ z ∧ z ≤ 9223372036854775807) ∧ Hid (z = wrap64 (-(valD ((bs s).take k) : Int))) ∧ wr = w) (fun _ i _ => s.size - (intOf i).toNat)
        case atStart => exact ⟨0, 0, rfl, rfl, Nat.zero_le _, by omega, by show _ = _; simp [valD, wrap64], rfl⟩
        case round =>
          obtain ⟨k, z, rfl, rfl, hk, hz, HZ, hwr⟩ := hrel
          subst hwr
          by_cases hlt : k < s.size
          · by_cases hdg : 48 ≤ s[k].toNat ∧ s[k].toNat ≤ 57
            · obtain ⟨d1, d2⟩ := hdg
              have hst : (bs s).take (k + 1) = (bs s).take k ++ [s[k]] := by rw [List.take_add_one, bs_get' s k hlt]; rfl
              have hv : wrap64 (wrap64 (10 * z) - ((s[k].toNat : Int) - 48)) = wrap64 (-(valD ((bs s).take (k + 1)) : Int)) := by
                rw [hst, valD_snoc]
                exact digit_step z _ s[k] d1 HZ.out
              have hb2 := wrap_bounds (-(valD ((bs s).take (k + 1)) : Int))
              rw [← hv] at hb2
              have HV := Lib.hid hv
              have HB2 := Lib.hid hb2
              have e1 : (48 : Int) ≤ (s[k].toNat : Int) := by omega
              have e2 : (s[k].toNat : Int) ≤ 57 := by omega
              clear hst hv hb2
              go_wp2_with fail
              exact ⟨⟨k + 1, _, rfl, by go_num, by omega, HB2.out, HV.out, by first | trivial | rfl⟩, by simp [intOf]; omega⟩
            · have hb : ¬ isNum (bs s) := by
                intro hn
                have h3 := (num_plain_chars H0.out hn).2.2 s[k] (List.mem_of_getElem? (bs_get' s k hlt))
                exact hdg h3
              have HB := Lib.hid (numOk_bad hb)
              have hcs : s[k].toNat < 48 ∨ 57 < s[k].toNat := by omega
              clear hb hdg
              rcases hcs with h | h
              all_goals
                go_wp2_with fail
                go_ret2
                exact ⟨0, false, HB.out, ⟨by omega, by omega⟩, rfl, Upd.refl _ _⟩
          · obtain rfl : k = s.size := by omega
            obtain ⟨y0, hy0⟩ : ∃ y0, y0 = wrap64 (-z) := ⟨_, rfl⟩
            have hzz : y0 = wrap64 (valD (bs s) : Int) := by
              rw [hy0, HZ.out, List.take_of_length_le (by simp [bs_length]), wrap_flip]
            have hyi : i64in y0 := by rw [hy0]; exact wrap_bounds _
            have HZZ := Lib.hid hzz
            have HY0 := Lib.hid hy0
            clear hzz hlt hk HZ hy0
            go_wp2_with fail
            rw [← HY0.out]
            refine (decimal_any y0 _ hyi).mono ?_
            rintro e w2 ⟨y, HY, hy, rfl, hu2⟩
            go_wp2_with fail
            go_ret2
            refine ⟨y0, y.toList == s.toList, ?_, hyi, rfl, hu2⟩
            show numOk _ _ _
            refine numOk_plain H0.out HZZ.out ?_
            rw [eq_beq, HY.out]

theorem bs_left (s : ByteArray) (k : Nat) : bs (s.extract 0 k) = (bs s).take k := by rw [bs_extract]; simp
theorem bs_right (s : ByteArray) (k : Nat) : bs (s.extract k s.size) = (bs s).drop k := by
  rw [bs_extract, List.take_of_length_le]
  simp [bs_length]

set_option maxHeartbeats 2000000 in
theorem rread5_any (s : ByteArray) (w : World) (hs : s.size ≤ 4000000000) : Calls Tryd.prog 40 #[.string s] w (MkRead (bs s) w) := by
  have h0 := SigAt.start w 0 0
  obtain ⟨z0, z1⟩ := h0.cells
  obtain ⟨f0, f1⟩ := h0.free
  go_enter Tryd.func40, Tryd.ntmps40
  go_wp2_with fail
  generalize hww : w.alloc (.cells #[.int .i64 0, .int .i64 0] 47) = ww at *
  clear hww
  go_loop [4] (fun i => ∃ k : Nat, i = .int .i64 (k : Int) ∧ k ≤ s.size ∧ Hid ((46 : UInt8) ∉ (bs s).take k)) (fun i => s.size - (intOf i).toNat)
  case atStart => exact ⟨0, rfl, Nat.zero_le _, by show _ ∉ _; simp⟩
  case round =>
    obtain ⟨k, rfl, hk, HK⟩ := hrel
    by_cases hlt : k < s.size
    · by_cases hd : (s[k].toNat : Int) = 46
      · have hb : ((s[k].toNat : Int) == 46) = true := by rw [beq_iff_eq]; exact hd
        have h46 : (bs s)[k]? = some 46 := by
          rw [bs_get' s k hlt]
          congr 1
          exact UInt8.toNat_inj.1 (by have : (46 : UInt8).toNat = 46 := rfl; omega)
        have HD := Lib.hid h46
        have hls : (s.extract 0 k).size ≤ 4000000000 := by rw [ByteArray.size_extract]; omega
        have hrs : (s.extract (k + 1) s.size).size ≤ 4000000000 := by rw [ByteArray.size_extract]; omega
        have hk1 : (k : Int) + 1 ≤ (s.size : Int) := by omega
        clear h46 hd
        go_wp2_with fail
        refine (number5_any _ _ hls).mono ?_
        rintro e w1 ⟨a, p, HA, ha, rfl, hu1⟩
        have h1 := h0.upd hu1
        clear h0 z0 z1 f0 f1
        go_wp2_with fail
        refine (number5_any _ _ hrs).mono ?_
        rintro e w2 ⟨b, q, HB, hbb, rfl, hu2⟩
        have h2 := h1.upd hu2
        clear h1
        have hv := readV_dot HD.out HK.out (by rw [← bs_left]; exact HA.out) (by rw [← bs_right]; exact HB.out)
        have HV := Lib.hid hv
        obtain ⟨z0, z1⟩ := h2.cells
        obtain ⟨f0, f1⟩ := h2.free
        clear hv
        cases p with
        | false =>
          go_wp2_with fail
          refine bodyPost_ret (v := .tuple #[.agg #[.int .i64 0, .int .i64 0], .bool false]) (by simp [results, Tryd.results40, go_sem, z0, z1]) rfl ⟨0, 0, false, HV.out, ⟨by omega, by omega⟩, ⟨by omega, by omega⟩, rfl, ?_⟩
          exact (h2.up.setNew (p := ⟨_, _, none⟩) (Nat.le_refl _) _).setNew (p := ⟨_, _, none⟩) (Nat.le_refl _) _
        | true =>
          cases q with
          | false =>
            go_wp2_with fail
            refine bodyPost_ret (v := .tuple #[.agg #[.int .i64 0, .int .i64 0], .bool false]) (by simp [results, Tryd.results40, go_sem, z0, z1]) rfl ⟨0, 0, false, HV.out, ⟨by omega, by omega⟩, ⟨by omega, by omega⟩, rfl, ?_⟩
            exact (h2.up.setNew (p := ⟨_, _, none⟩) (Nat.le_refl _) _).setNew (p := ⟨_, _, none⟩) (Nat.le_refl _) _
          | true =>
            go_wp2_with fail
            refine bodyPost_ret (v := .tuple #[.agg #[.int .i64 a, .int .i64 b], .bool true]) (by simp [results, Tryd.results40, go_sem, z0, z1]) rfl ⟨a, b, true, HV.out, ha, hbb, rfl, ?_⟩
            exact (h2.up.setNew (p := ⟨_, _, none⟩) (Nat.le_refl _) _).setNew (p := ⟨_, _, none⟩) (Nat.le_refl _) _
      · have hb : ((s[k].toNat : Int) == 46) = false := by rw [beq_eq_false_iff_ne]; exact hd
        have hst : (46 : UInt8) ∉ (bs s).take (k + 1) := by
          have : (bs s).take (k + 1) = (bs s).take k ++ [s[k]] := by rw [List.take_add_one, bs_get' s k hlt]; rfl
          rw [this]
          intro hm
          rcases List.mem_append.1 hm with hm | hm
          · exact HK.out hm
          · rw [List.mem_singleton] at hm
            exact hd (by rw [← hm]; rfl)
        have HST := Lib.hid hst
        clear hst hd
        go_wp2_with fail
        exact ⟨⟨k + 1, by go_num, by omega, HST.out⟩, by simp [intOf]; omega⟩
    · obtain rfl : k = s.size := by omega
      have hv := readV_nodot (l := bs s) (by have := HK.out; rwa [List.take_of_length_le (by simp [bs_length])] at this)
      have HV := Lib.hid hv
      clear hv
      go_wp2_with fail
      refine bodyPost_ret (v := .tuple #[.agg #[.int .i64 0, .int .i64 0], .bool false]) (by simp [results, Tryd.results40, go_sem, z0, z1]) rfl ⟨0, 0, false, HV.out, ⟨by omega, by omega⟩, ⟨by omega, by omega⟩, rfl, ?_⟩
      first | exact (h0.up.setNew (p := ⟨_, _, none⟩) (Nat.le_refl _) _).setNew (p := ⟨_, _, none⟩) (Nat.le_refl _) _ | exact h0.up
end Go.Proofs.YtkhodajdionaaaaDoor
