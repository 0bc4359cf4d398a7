/- Bytes of a text in a block of their own: what []byte(s) lays; a store into it; the text again. sortesref06.Text, number, Read. The walk of EqualTexts. -/
import Derived.Test.YtkhodajdionaaaaDoorRows
import Derived.Test.YtkhodajdionaaaaDoorCont
import Derived.Laws.IdiomStrings
import Derived.Test.YtkhodajdionaaaaDoorRDecB
import Derived.Test.YtkhodajdionaaaaDoorREqA
import Derived.Test.YtkhodajdionaaaaDoorEqF
namespace Go.Proofs.YtkhodajdionaaaaDoor
open Go.RowKit
set_option maxRecDepth 100000

/-- The block holds the bytes c, and perhaps more behind them. -/
def BB (w : World) (g : Nat) (c : List UInt8) : Prop := ∃ cur fr, w.heap[g]? = some (.cells cur 5 fr) ∧ c.length ≤ fr.1 ∧ cur.toList.take c.length = byteVals c
theorem BB.upd {w w' : World} {g : Nat} {c : List UInt8} (h : BB w g c) (u : Upd [] [] w w') : BB w' g c := by
  obtain ⟨cur, fr, h1, h2, h3⟩ := h
  exact ⟨cur, fr, by rw [u.block _ (Array.getElem?_eq_some_iff.1 h1).1 (by simp)]; exact h1, h2, h3⟩
theorem BB.frozen {w : World} {g : Nat} {c : List UInt8} (h : BB w g c) {j : Nat} (hj : j < c.length) : w.frozen? ⟨g, j, none⟩ = false := by
  obtain ⟨cur, fr, h1, h2, h3⟩ := h
  simp [World.frozen?, h1]
  omega
theorem BB.cell {w : World} {g : Nat} {c : List UInt8} (h : BB w g c) {j : Nat} {b : UInt8} (hj : c[j]? = some b) : w.cell? ⟨g, j, none⟩ = some (.int .u8 (b.toNat : Int)) := by
  obtain ⟨cur, fr, h1, h2, h3⟩ := h
  have hjl := (List.getElem?_eq_some_iff.1 hj).1
  rw [cell_of_row w g j _ _ _ h1]
  have e : (byteVals c)[j]? = some (byteV b) := by simp [byteVals, hj]
  rw [← h3, List.getElem?_take_of_lt hjl] at e
  simpa [byteV] using e
theorem BB.set {w : World} {g : Nat} {c : List UInt8} (h : BB w g c) {j : Nat} (hj : j < c.length) (b : UInt8) : BB (w.setCell ⟨g, j, none⟩ (.int .u8 (b.toNat : Int))) g (c.set j b) := by
  obtain ⟨cur, fr, h1, h2, h3⟩ := h
  refine ⟨cur.setIfInBounds j (.int .u8 (b.toNat : Int)), fr, by simp [World.setCell, Array.getElem?_modify, h1], by simpa using h2, ?_⟩
  have e : byteVals (c.set j b) = (byteVals c).set j (.int .u8 (b.toNat : Int)) := by simp [byteVals, List.map_set, byteV]
  rw [e, ← h3, List.length_set, Array.toList_setIfInBounds]
  apply List.ext_getElem?
  intro i
  simp only [List.getElem?_take, List.getElem?_set, List.length_take]
  by_cases hi : i < c.length
  · rw [if_pos hi]
    by_cases hji : j = i
    · subst hji
      simp only [if_true]
      have h4 := congrArg List.length h3
      simp only [List.length_take, byteVals_length] at h4
      rw [if_pos (by omega), if_pos (by omega)]
    · rw [if_neg hji, if_neg hji, if_pos hi]
  · rw [if_neg hi]
    by_cases hji : j = i
    · omega
    · rw [if_neg hji, if_neg hi]
/-- The text of the bytes. -/
theorem BB.text {w : World} {g : Nat} {c : List UInt8} (h : BB w g c) (dst : TypeId) (hd : Tryd.prog.underlying dst = some .string) (k : Nat) : (convert 37 dst (.slice (some ⟨g, 0, none⟩) c.length k)).run Tryd.prog w = .ok (strV c) w := by
  obtain ⟨cur, fr, h1, h2, h3⟩ := h
  have := conv_bytes (P := Tryd.prog) w 37 dst 5 Tryd.underlying37 Tryd.underlying5 hd g cur fr 5 h1 c h3 0 c.length k (by omega)
  simpa using this
/-- []byte(s). -/
theorem BB.make (w : World) (src : TypeId) (s : ByteArray) (hs : Tryd.prog.underlying src = some .string) (hm : s.size ≤ maxLen) : ∃ k w', (convert src 37 (.string s)).run Tryd.prog w = .ok (.slice (some ⟨w.heap.size, 0, none⟩) s.size k) w' ∧ s.size ≤ k ∧ k ≤ maxLen ∧ BB w' w.heap.size (bs s) ∧ Upd [] [] w w' := by
  refine ⟨_, _, run_bytes_of_string (P := Tryd.prog) w src 37 5 s hs Tryd.underlying37 Tryd.underlying5, ?_, ?_, ⟨_, _, heap_alloc_new _ _, ?_, ?_⟩, (Upd.refl _ _).drew.alloc _⟩
  · exact grownCap_ge w s.size 0 _
  · exact grownCap_le_maxLen w s.size 0 _ hm
  · simp [bytesRow, bs]
  · simp [bytesRow, bs, byteVals]
    intro a _
    rfl
end Go.Proofs.YtkhodajdionaaaaDoor

namespace Go.Proofs.YtkhodajdionaaaaDoor
open Go.RowKit
set_option maxRecDepth 100000

set_option maxHeartbeats 1000000 in
theorem rtext6_any (r s : Int) (w : World) (hr : i64in r) (hs : i64in s) : Calls Tryd.prog 24 #[.agg #[.int .i64 r, .int .i64 s]] w (MkS (pairL r s) w) := by
  have h1 := ProofAt.start w r s
  have h4 := h1.upd (Upd.refl _ _).drew
  have k4 := h4.cells
  have hlr := itoa_len r hr
  have hls := itoa_len s hs
  go_enter Tryd.func24, Tryd.ntmps24
  go_wp2_with fail
  clear h1
  go_region_held3 (fun wp => wp.cell? ⟨w.heap.size, 0, none⟩ = some (.int .i64 r) ∧ wp.cell? ⟨w.heap.size, 1, none⟩ = some (.int .i64 s)) (first | exact k4 | assumption)
    (first
      | (go_at_call 54; ((with_reducible refine (decimal6_any r _ hr).mono ?_); rintro e wq ⟨y1, HY1, hy1, rfl, hq⟩; have t1 : ¬ 9223372036854775807 < y1.size + 1 := (by omega); have g1 := h4.upd hq; have kq := g1.cells; clear hq))
      | (go_at_call 54; ((with_reducible refine (decimal6_any s _ hs).mono ?_); rintro e wq ⟨y2, HY2, hy2, rfl, hq⟩; have t2 : ¬ 9223372036854775807 < y1.size + 1 + y2.size := (by omega); have g2 := g1.upd hq; have kq := g2.cells; clear hq)))
  go_wp2_with fail
  go_ret
  refine ⟨_, ?_, ?_, rfl, g2.up⟩
  · show _ = _
    rw [bs_append, bs_append, HY1.out, HY2.out]
    rfl
  · have e1 := bs_size HY1.out
    have e2 := bs_size HY2.out
    have e3 : (ByteArray.mk #[46]).size = 1 := rfl
    simp [ByteArray.size_append, pairL, e1, e2, e3]
    omega

set_option maxHeartbeats 2000000 in
theorem number6_any (s : ByteArray) (w : World) (hs : s.size ≤ 4000000000) : Calls Tryd.prog 55 #[.string s] w (MkNum (bs s) w) := by
  by_cases hne : 0 < s.size
  case neg =>
    have hb : ¬ isNum (bs s) := by
      intro hn
      have : bs s = [] := List.eq_nil_of_length_eq_zero (by rw [bs_length]; omega)
      rw [this] at hn
      exact (num_plain_chars (fun r h => by cases h) hn).1 rfl
    have HB := Lib.hid (numOk_bad hb)
    clear hb
    have h0 : s.size = 0 := by omega
    go_enter Tryd.func55, Tryd.ntmps55
    go_wp2_with fail
    go_ret2
    exact ⟨0, false, HB.out, ⟨by omega, by omega⟩, rfl, Upd.refl _ _⟩
  case pos =>
    have hc := bs_cons s hne
    by_cases hm : (s[0].toNat : Int) = 45
    · have hb45 : ((s[0].toNat : Int) == 45) = true := by rw [beq_iff_eq]; exact hm
      have h45 : s[0] = 45 := UInt8.toNat_inj.1 (by have : (45 : UInt8).toNat = 45 := rfl; omega)
      rw [h45] at hc
      obtain ⟨D, hD⟩ : ∃ D, D = (bs s).drop 1 := ⟨_, rfl⟩
      rw [← hD] at hc
      have HC := Lib.hid hc
      have HD := Lib.hid hD
      have hDl : D.length = s.size - 1 := by rw [hD]; simp [bs_length]
      clear hc hD h45 hm
      by_cases hlen : s.size ≤ 20 ∧ 1 < s.size
      case neg =>
        have hb : ¬ isNum (bs s) := by
          intro hn
          rw [HC.out] at hn
          obtain ⟨h1, h2, h3⟩ := num_minus_chars hn
          cases D with
          | nil => exact h1 rfl
          | cons a r => simp at hDl h2; omega
        have HB := Lib.hid (numOk_bad hb)
        clear hb hDl
        by_cases h1 : 1 < s.size
        · have h2 : 20 < (s.size : Int) := by omega
          have hb1 : ((1 : Int) == (s.size : Int)) = false := by rw [beq_eq_false_iff_ne]; omega
          clear hlen
          go_enter Tryd.func55, Tryd.ntmps55
          go_wp2_with fail
          go_ret2
          exact ⟨0, false, HB.out, ⟨by omega, by omega⟩, rfl, Upd.refl _ _⟩
        · have h2 : s.size = 1 := by omega
          have h3 : (s.size : Int) ≤ 1 := by omega
          clear hlen
          go_enter Tryd.func55, Tryd.ntmps55
          go_wp2_with fail
          go_ret2
          exact ⟨0, false, HB.out, ⟨by omega, by omega⟩, rfl, Upd.refl _ _⟩
      case pos =>
        obtain ⟨hl1, hl2⟩ := hlen
        have hb1 : ((1 : Int) == (s.size : Int)) = false := by rw [beq_eq_false_iff_ne]; omega
        have hleI : (s.size : Int) ≤ 20 := by omega
        go_enter Tryd.func55, Tryd.ntmps55
        go_wp2_with fail
        go_loopw [5, 6] (fun n i wr => ∃ (k : Nat) (z : Int), n = .int .i64 z ∧ i = .int .i64 (k : Int) ∧ 1 ≤ k ∧ k ≤ s.size ∧ (-9223372036854775808 ≤ z ∧ z ≤ 9223372036854775807) ∧ Hid (z = wrap64 (-(valD (D.take (k - 1)) : Int))) ∧ wr = w) (fun _ i _ => s.size - (intOf i).toNat)
        case atStart => exact ⟨1, 0, rfl, rfl, Nat.le_refl _, by omega, by omega, by show _ = _; simp [valD, wrap64], rfl⟩
        case round =>
          obtain ⟨k, z, rfl, rfl, hk1, hk, hz, HZ, hwr⟩ := hrel
          subst hwr
          by_cases hlt : k < s.size
          · by_cases hdg : 48 ≤ s[k].toNat ∧ s[k].toNat ≤ 57
            · obtain ⟨d1, d2⟩ := hdg
              have hst : D.take (k + 1 - 1) = D.take (k - 1) ++ [s[k]] := by rw [HD.out]; exact drop_take_step s 1 k hk1 hlt
              have hv : wrap64 (wrap64 (10 * z) - ((s[k].toNat : Int) - 48)) = wrap64 (-(valD (D.take (k + 1 - 1)) : Int)) := by
                rw [hst, valD_snoc]
                exact digit_step z _ s[k] d1 HZ.out
              have hb2 := wrap_bounds (-(valD (D.take (k + 1 - 1)) : Int))
              rw [← hv] at hb2
              have HV := Lib.hid hv
              have HB2 := Lib.hid hb2
              have e1 : (48 : Int) ≤ (s[k].toNat : Int) := by omega
              have e2 : (s[k].toNat : Int) ≤ 57 := by omega
              clear hst hv hb2
              go_wp2_with fail
              exact ⟨⟨k + 1, _, rfl, by go_num, by omega, by omega, HB2.out, HV.out, by first | trivial | rfl⟩, by simp [intOf]; omega⟩
            · have hb : ¬ isNum (bs s) := by
                intro hn
                rw [HC.out] at hn
                have h3 := (num_minus_chars hn).2.2 s[k] (by
                  rw [HD.out]
                  refine List.mem_of_getElem? (i := k - 1) ?_
                  rw [List.getElem?_drop, show 1 + (k - 1) = k by omega]
                  exact bs_get' s k hlt)
                exact hdg h3
              have HB := Lib.hid (numOk_bad hb)
              have hcs : s[k].toNat < 48 ∨ 57 < s[k].toNat := by omega
              clear hb hdg
              rcases hcs with h | h
              all_goals
                go_wp2_with fail
                go_ret2
                exact ⟨0, false, HB.out, ⟨by omega, by omega⟩, rfl, Upd.refl _ _⟩
          · obtain rfl : k = s.size := by omega
            have hzz : z = wrap64 (-(valD D : Int)) := by
              rw [HZ.out, List.take_of_length_le (by omega)]
            have HZZ := Lib.hid hzz
            have hzi : i64in z := hz
            clear hzz hlt hk HZ
            go_wp2_with fail
            refine (decimal6_any z _ hzi).mono ?_
            rintro e w2 ⟨y, HY, hy, rfl, hu2⟩
            go_wp2_with fail
            go_ret2
            refine ⟨z, y.toList == s.toList, ?_, hzi, rfl, hu2⟩
            show numOk _ _ _
            rw [HC.out]
            refine numOk_minus HZZ.out ?_
            rw [eq_beq, HY.out, HC.out]
    · have hb45 : ((s[0].toNat : Int) == 45) = false := by rw [beq_eq_false_iff_ne]; exact hm
      have h0 : ∀ r, bs s ≠ 45 :: r := by
        intro r hr
        rw [hc] at hr
        injection hr with h1 _
        exact hm (by rw [h1]; rfl)
      have H0 := Lib.hid h0
      have hpI : (0 : Int) < (s.size : Int) := by omega
      have hpZ : ¬ s.size = 0 := by omega
      have hb1 : ((0 : Int) == (s.size : Int)) = false := by rw [beq_eq_false_iff_ne]; omega
      clear hc hm h0
      by_cases hlen : s.size ≤ 20
      case neg =>
        have hb : ¬ isNum (bs s) := by
          intro hn
          obtain ⟨h1, h2, h3⟩ := num_plain_chars H0.out hn
          rw [bs_length] at h2
          omega
        have HB := Lib.hid (numOk_bad hb)
        have h2 : 20 < (s.size : Int) := by omega
        clear hb hlen
        go_enter Tryd.func55, Tryd.ntmps55
        go_wp2_with fail
        go_ret2
        exact ⟨0, false, HB.out, ⟨by omega, by omega⟩, rfl, Upd.refl _ _⟩
      case pos =>
        have hleI : (s.size : Int) ≤ 20 := by omega
        go_enter Tryd.func55, Tryd.ntmps55
        go_wp2_with fail
        go_loopw [5, 6] (fun n i wr => ∃ (k : Nat) (z : Int), n = .int .i64 z ∧ i = .int .i64 (k : Int) ∧ k ≤ s.size ∧ (-9223372036854775808 ≤ z ∧ z ≤ 9223372036854775807) ∧ Hid (z = wrap64 (-(valD ((bs s).take k) : Int))) ∧ wr = w) (fun _ i _ => s.size - (intOf i).toNat)
        case atStart => exact ⟨0, 0, rfl, rfl, Nat.zero_le _, by omega, by show _ = _; simp [valD, wrap64], rfl⟩
        case round =>
          obtain ⟨k, z, rfl, rfl, hk, hz, HZ, hwr⟩ := hrel
          subst hwr
          by_cases hlt : k < s.size
          · by_cases hdg : 48 ≤ s[k].toNat ∧ s[k].toNat ≤ 57
            · obtain ⟨d1, d2⟩ := hdg
              have hst : (bs s).take (k + 1) = (bs s).take k ++ [s[k]] := by rw [List.take_add_one, bs_get' s k hlt]; rfl
              have hv : wrap64 (wrap64 (10 * z) - ((s[k].toNat : Int) - 48)) = wrap64 (-(valD ((bs s).take (k + 1)) : Int)) := by
                rw [hst, valD_snoc]
                exact digit_step z _ s[k] d1 HZ.out
              have hb2 := wrap_bounds (-(valD ((bs s).take (k + 1)) : Int))
              rw [← hv] at hb2
              have HV := Lib.hid hv
              have HB2 := Lib.hid hb2
              have e1 : (48 : Int) ≤ (s[k].toNat : Int) := by omega
              have e2 : (s[k].toNat : Int) ≤ 57 := by omega
              clear hst hv hb2
              go_wp2_with fail
              exact ⟨⟨k + 1, _, rfl, by go_num, by omega, HB2.out, HV.out, by first | trivial | rfl⟩, by simp [intOf]; omega⟩
            · have hb : ¬ isNum (bs s) := by
                intro hn
                have h3 := (num_plain_chars H0.out hn).2.2 s[k] (List.mem_of_getElem? (bs_get' s k hlt))
                exact hdg h3
              have HB := Lib.hid (numOk_bad hb)
              have hcs : s[k].toNat < 48 ∨ 57 < s[k].toNat := by omega
              clear hb hdg
              rcases hcs with h | h
              all_goals
                go_wp2_with fail
                go_ret2
                exact ⟨0, false, HB.out, ⟨by omega, by omega⟩, rfl, Upd.refl _ _⟩
          · obtain rfl : k = s.size := by omega
            obtain ⟨y0, hy0⟩ : ∃ y0, y0 = wrap64 (-z) := ⟨_, rfl⟩
            have hzz : y0 = wrap64 (valD (bs s) : Int) := by
              rw [hy0, HZ.out, List.take_of_length_le (by simp [bs_length]), wrap_flip]
            have hyi : i64in y0 := by rw [hy0]; exact wrap_bounds _
            have HZZ := Lib.hid hzz
            have HY0 := Lib.hid hy0
            clear hzz hlt hk HZ hy0
            go_wp2_with fail
            rw [← HY0.out]
            refine (decimal6_any y0 _ hyi).mono ?_
            rintro e w2 ⟨y, HY, hy, rfl, hu2⟩
            go_wp2_with fail
            go_ret2
            refine ⟨y0, y.toList == s.toList, ?_, hyi, rfl, hu2⟩
            show numOk _ _ _
            refine numOk_plain H0.out HZZ.out ?_
            rw [eq_beq, HY.out]

set_option maxHeartbeats 2000000 in
theorem rread6_any (s : ByteArray) (w : World) (hs : s.size ≤ 4000000000) : Calls Tryd.prog 25 #[.string s] w (MkRead (bs s) w) := by
  have h0 := ProofAt.start w 0 0
  obtain ⟨z0, z1⟩ := h0.cells
  obtain ⟨f0, f1⟩ := h0.free
  go_enter Tryd.func25, Tryd.ntmps25
  go_wp2_with fail
  generalize hww : w.alloc (.cells #[.int .i64 0, .int .i64 0] 27) = ww at *
  clear hww
  go_loop [4] (fun i => ∃ k : Nat, i = .int .i64 (k : Int) ∧ k ≤ s.size ∧ Hid ((46 : UInt8) ∉ (bs s).take k)) (fun i => s.size - (intOf i).toNat)
  case atStart => exact ⟨0, rfl, Nat.zero_le _, by show _ ∉ _; simp⟩
  case round =>
    obtain ⟨k, rfl, hk, HK⟩ := hrel
    by_cases hlt : k < s.size
    · by_cases hd : (s[k].toNat : Int) = 46
      · have hb : ((s[k].toNat : Int) == 46) = true := by rw [beq_iff_eq]; exact hd
        have h46 : (bs s)[k]? = some 46 := by
          rw [bs_get' s k hlt]
          congr 1
          exact UInt8.toNat_inj.1 (by have : (46 : UInt8).toNat = 46 := rfl; omega)
        have HD := Lib.hid h46
        have hls : (s.extract 0 k).size ≤ 4000000000 := by rw [ByteArray.size_extract]; omega
        have hrs : (s.extract (k + 1) s.size).size ≤ 4000000000 := by rw [ByteArray.size_extract]; omega
        have hk1 : (k : Int) + 1 ≤ (s.size : Int) := by omega
        clear h46 hd
        go_wp2_with fail
        refine (number6_any _ _ hls).mono ?_
        rintro e w1 ⟨a, p, HA, ha, rfl, hu1⟩
        have h1 := h0.upd hu1
        clear h0 z0 z1 f0 f1
        go_wp2_with fail
        refine (number6_any _ _ hrs).mono ?_
        rintro e w2 ⟨b, q, HB, hbb, rfl, hu2⟩
        have h2 := h1.upd hu2
        clear h1
        have hv := readV_dot HD.out HK.out (by rw [← bs_left]; exact HA.out) (by rw [← bs_right]; exact HB.out)
        have HV := Lib.hid hv
        obtain ⟨z0, z1⟩ := h2.cells
        obtain ⟨f0, f1⟩ := h2.free
        clear hv
        cases p with
        | false =>
          go_wp2_with fail
          refine bodyPost_ret (v := .tuple #[.agg #[.int .i64 0, .int .i64 0], .bool false]) (by simp [results, Tryd.results25, go_sem, z0, z1]) rfl ⟨0, 0, false, HV.out, ⟨by omega, by omega⟩, ⟨by omega, by omega⟩, rfl, ?_⟩
          exact (h2.up.setNew (p := ⟨_, _, none⟩) (Nat.le_refl _) _).setNew (p := ⟨_, _, none⟩) (Nat.le_refl _) _
        | true =>
          cases q with
          | false =>
            go_wp2_with fail
            refine bodyPost_ret (v := .tuple #[.agg #[.int .i64 0, .int .i64 0], .bool false]) (by simp [results, Tryd.results25, go_sem, z0, z1]) rfl ⟨0, 0, false, HV.out, ⟨by omega, by omega⟩, ⟨by omega, by omega⟩, rfl, ?_⟩
            exact (h2.up.setNew (p := ⟨_, _, none⟩) (Nat.le_refl _) _).setNew (p := ⟨_, _, none⟩) (Nat.le_refl _) _
          | true =>
            go_wp2_with fail
            refine bodyPost_ret (v := .tuple #[.agg #[.int .i64 a, .int .i64 b], .bool true]) (by simp [results, Tryd.results25, go_sem, z0, z1]) rfl ⟨a, b, true, HV.out, ha, hbb, rfl, ?_⟩
            exact (h2.up.setNew (p := ⟨_, _, none⟩) (Nat.le_refl _) _).setNew (p := ⟨_, _, none⟩) (Nat.le_refl _) _
      · have hb : ((s[k].toNat : Int) == 46) = false := by rw [beq_eq_false_iff_ne]; exact hd
        have hst : (46 : UInt8) ∉ (bs s).take (k + 1) := by
          have : (bs s).take (k + 1) = (bs s).take k ++ [s[k]] := by rw [List.take_add_one, bs_get' s k hlt]; rfl
          rw [this]
          intro hm
          rcases List.mem_append.1 hm with hm | hm
          · exact HK.out hm
          · rw [List.mem_singleton] at hm
            exact hd (by rw [← hm]; rfl)
        have HST := Lib.hid hst
        clear hst hd
        go_wp2_with fail
        exact ⟨⟨k + 1, by go_num, by omega, HST.out⟩, by simp [intOf]; omega⟩
    · obtain rfl : k = s.size := by omega
      have hv := readV_nodot (l := bs s) (by have := HK.out; rwa [List.take_of_length_le (by simp [bs_length])] at this)
      have HV := Lib.hid hv
      clear hv
      go_wp2_with fail
      refine bodyPost_ret (v := .tuple #[.agg #[.int .i64 0, .int .i64 0], .bool false]) (by simp [results, Tryd.results25, go_sem, z0, z1]) rfl ⟨0, 0, false, HV.out, ⟨by omega, by omega⟩, ⟨by omega, by omega⟩, rfl, ?_⟩
      first | exact (h0.up.setNew (p := ⟨_, _, none⟩) (Nat.le_refl _) _).setNew (p := ⟨_, _, none⟩) (Nat.le_refl _) _ | exact h0.up
end Go.Proofs.YtkhodajdionaaaaDoor

namespace Go.Proofs.YtkhodajdionaaaaDoor
open Go.RowKit
set_option maxRecDepth 100000

/-- Two small numbers in a block. -/
def U16At (w : World) (g : Nat) (a b : Int) : Prop := w.heap[g]? = some (.cells #[.int .u16 a, .int .u16 b] 33 (0, 0))
theorem U16At.upd {w w' : World} {g : Nat} {a b : Int} (h : U16At w g a b) (u : Upd [] [] w w') : U16At w' g a b := row_upd h u
theorem U16At.cells {w : World} {g : Nat} {a b : Int} (h : U16At w g a b) : w.cell? ⟨g, 0, none⟩ = some (.int .u16 a) ∧ w.cell? ⟨g, 1, none⟩ = some (.int .u16 b) :=
  ⟨by rw [cell_of_row _ _ _ _ _ _ h]; rfl, by rw [cell_of_row _ _ _ _ _ _ h]; rfl⟩
theorem pairL_posE (a b : Int) : 0 < (pairL a b).length := by simp [pairL]; omega

set_option maxHeartbeats 4000000 in
theorem equalTexts_walk (c z : Int) (T : ByteArray) (q0 q1 : Int) (w : World) (hc : -9223372036854775808 ≤ c ∧ c ≤ 9223372036854775807) (hz : -9223372036854775808 ≤ z ∧ z ≤ 9223372036854775807)
    (hT : T.size ≤ 1048576) (h0 : 0 ≤ q0 ∧ q0 ≤ 65535) (h1 : 0 ≤ q1 ∧ q1 ≤ 65535) (htab : Tabs w) :
    Calls Tryd.prog 5 #[.agg #[.int .i64 c, .int .i64 z], .string T, .agg #[.int .u16 q0, .int .u16 q1]] w (TrueMk w) := by
  have x0 := (ProofAt.start w c z).upd ((Upd.refl _ _).alloc (.cells #[.int .u16 q0, .int .u16 q1] 33))
  have e0 : U16At ((w.alloc (.cells #[.int .i64 c, .int .i64 z] 27)).alloc (.cells #[.int .u16 q0, .int .u16 q1] 33)) (w.heap.size + 1) q0 q1 := by
    have := heap_alloc_new (w.alloc (.cells #[.int .i64 c, .int .i64 z] 27)) (.cells #[.int .u16 q0, .int .u16 q1] 33)
    rw [alloc_sizeW] at this
    exact this
  go_enter Tryd.func5, Tryd.ntmps5
  go_wp2_with fail
  refine (sanityE_any _ (htab.upd x0.up)).mono ?_
  rintro e w1 ⟨rfl, hu1⟩
  have x1 := x0.upd hu1
  have e1 := e0.upd hu1
  clear e0 x0
  obtain ⟨k0, k1⟩ := x1.cells
  go_wp2_with fail
  refine (etext_any c z _ hc hz (htab.upd x1.up)).mono ?_
  rintro e w3 ⟨t, HT, ht, rfl, hu3⟩
  have hpl := pairL_len (a := c) (b := z) hc hz
  have hts : t.size ≤ 41 := by omega
  have htp : 0 < t.size := by rw [bs_size HT.out]; exact pairL_posE c z
  have e3 := e1.upd hu3
  have x3 := x1.upd hu3
  clear e1 x1 k0 k1 hpl ht
  have hrv : readV (bs t) = (c, z, true) := by rw [HT.out, readV, readL_pair hc hz]
  have HRV := Lib.hid hrv
  clear hrv
  go_wp2_with fail
  refine (eread_is t c z true w3 (by omega) (htab.upd x3.up) HRV.out).mono ?_
  rintro e w4 ⟨rfl, hu4⟩
  have y4 := ProofAt.start w4 c z
  have e4 := (e3.upd hu4).upd y4.up
  have x4 := (x3.upd hu4).upd y4.up
  clear e3 x3
  obtain ⟨k0, k1⟩ := x4.cells
  go_wp2_with fail
  refine (rtext6_any c z _ hc hz).mono ?_
  rintro e w5 ⟨t2, HT2, ht2, rfl, hu5⟩
  obtain rfl : t2 = t := bs_inj (HT2.out.trans HT.out.symm)
  have e5 := e4.upd hu5
  have x5 := x4.upd hu5
  have y5 := y4.upd hu5
  clear e4 x4 y4 k0 k1 ht2
  obtain ⟨k0, k1⟩ := x5.cells
  obtain ⟨j0, j1⟩ := y5.cells
  go_wp2_with fail
  obtain ⟨kc, w6, hrun, hk1, hk2, hbb, hu6⟩ := BB.make w5 9 t2 Tryd.underlying9 (by simp only [maxLen]; omega)
  unfold maxLen at hk2
  have HRUN := Lib.hid hrun
  have HBB := Lib.hid hbb
  have e6 := (e5.upd hu6).upd (Upd.refl _ _).drew
  clear hrun hbb y5 k0 k1 j0 j1
  rw [HRUN.out]
  obtain ⟨d0, d1⟩ := e6.cells
  obtain ⟨n, hn⟩ : ∃ n : Nat, q0.tmod (t2.size : Int) = (n : Int) := ⟨_, (Int.toNat_of_nonneg (Int.tmod_nonneg _ h0.1)).symm⟩
  have hnl : n < t2.size := by
    have h2 := Int.tmod_lt_of_pos q0 (b := (t2.size : Int)) (by omega)
    omega
  obtain ⟨B, hB⟩ : ∃ B : UInt8, IntKind.u8.wrap q1 = (B.toNat : Int) := ⟨UInt8.ofNat q1.toNat, by rw [IntKind.wrap_u8, UInt8.toNat_ofNat']; omega⟩
  have w1' : IntKind.i64.wrap q0 = q0 := IntWalk.i64_in _ (by omega)
  have p0 : (0 : Int) ≤ (n : Int) := by omega
  have p1 : (n : Int) < (t2.size : Int) := by omega
  have hz2 : ¬ t2.size = 0 := by omega
  have fz : w6.frozen? ⟨w5.heap.size, n, none⟩ = false := HBB.out.frozen hnl
  obtain ⟨cb, hcb⟩ : ∃ cb, (bs t2)[n]? = some cb := ⟨_, List.getElem?_eq_getElem hnl⟩
  have fc := HBB.out.cell hcb
  clear hcb
  go_wp2_with fail
  go_still_tail 11, (by kernel_rfl)
  go_wp2_with fail
  have hb7 : BB (w6.setCell ⟨w5.heap.size, n, none⟩ (.int .u8 (B.toNat : Int))).drew w5.heap.size ((bs t2).set n B) := (HBB.out.set (j := n) hnl B).upd (Upd.refl _ _).drew
  have hu7 : Upd [] [] w5 (w6.setCell ⟨w5.heap.size, n, none⟩ (.int .u8 (B.toNat : Int))).drew := (hu6.setNew (p := ⟨w5.heap.size, n, none⟩) (Nat.le_refl _) _).drew
  have x7 := x5.upd hu7
  clear d0 d1
  generalize (w6.setCell ⟨w5.heap.size, n, none⟩ (.int .u8 (B.toNat : Int))).drew = w7 at *
  have hcv := (hb7.upd (Upd.refl _ _).drew).text 9 Tryd.underlying9 kc
  obtain ⟨zz, hzz⟩ : ∃ zz : ByteArray, zz = ⟨((bs t2).set n B).toArray⟩ := ⟨_, rfl⟩
  have hzs : zz.size ≤ 41 := by
    have : zz.size = ((bs t2).set n B).length := by rw [hzz]; rfl
    rw [this, List.length_set, bs_length]; exact hts
  rw [List.length_set, bs_length, show strV ((bs t2).set n B) = .string zz by rw [hzz]; rfl] at hcv
  have hs2 : ∀ o : Obj, (convert 37 9 (.slice (some ⟨w5.heap.size, 0, none⟩) t2.size kc)).run Tryd.prog (w7.alloc o).drew = .ok (.string zz) (w7.alloc o).drew := by
    intro o
    have hu : Upd [] [] w7 (w7.alloc o).drew := ((Upd.refl _ _).alloc o).drew
    have h := (hb7.upd hu).text 9 Tryd.underlying9 kc
    rw [List.length_set, bs_length, show strV ((bs t2).set n B) = .string zz by rw [hzz]; rfl] at h
    exact h
  have HS2 := Lib.hid hs2
  have HZ := Lib.hid hzz
  have s1 : ¬ 9223372036854775807 < t2.size + 1 := by omega
  have s2 : ¬ 9223372036854775807 < 1 + t2.size := by omega
  have s4 : ¬ 9223372036854775807 < t2.size + T.size := by omega
  have s3 : (1 : Int) ≤ (t2.size : Int) := by omega
  clear hs2 e6 e5 x5 hzz HBB HRUN fz fc w1' p0 p1 hn hnl hb7 hB
  go_wp2_with fail
  go_region_held3 (fun wp => (convert 37 9 (.slice (some ⟨w5.heap.size, 0, none⟩) t2.size kc)).run Tryd.prog wp = .ok (.string zz) wp) (first | exact hcv | exact HS2.out _ | assumption) (fail)
  obtain ⟨us, hus⟩ : ∃ us : List ByteArray, us = [zz, T, t2 ++ T, ⟨#[48]⟩ ++ t2, t2 ++ ⟨#[48]⟩, t2.extract 1 t2.size, ⟨#[45]⟩ ++ t2] := ⟨_, rfl⟩
  have husl : ∀ u ∈ us, u.size ≤ 2000000 := by
    intro u hu
    rw [hus] at hu
    have q1 : (ByteArray.mk #[48]).size = 1 := rfl
    have q2 : (ByteArray.mk #[45]).size = 1 := rfl
    simp only [List.mem_cons, List.not_mem_nil, or_false] at hu
    rcases hu with rfl | rfl | rfl | rfl | rfl | rfl | rfl
    · omega
    · omega
    · rw [ByteArray.size_append]; omega
    · rw [ByteArray.size_append]; omega
    · rw [ByteArray.size_append]; omega
    · rw [ByteArray.size_extract]; omega
    · rw [ByteArray.size_append]; omega
  have hrow : (w7.alloc (.cells #[.string zz, .string T, .string (t2 ++ T), .string (⟨#[48]⟩ ++ t2), .string (t2 ++ ⟨#[48]⟩), .string (t2.extract 1 t2.size), .string (⟨#[45]⟩ ++ t2)] 9)).drew.heap[w7.heap.size]? = some (.cells (strVals us).toArray 9 (0, 0)) := by
    rw [hus]
    exact heap_alloc_new w7 _
  have hlen : us.length = 7 := by rw [hus]; rfl
  have u8 : Upd [] [] w (w7.alloc (.cells #[.string zz, .string T, .string (t2 ++ T), .string (⟨#[48]⟩ ++ t2), .string (t2 ++ ⟨#[48]⟩), .string (t2.extract 1 t2.size), .string (⟨#[45]⟩ ++ t2)] 9)).drew := (x7.up.alloc _).drew
  have HUSL := Lib.hid husl
  have HROW := Lib.hid hrow
  have HLEN := Lib.hid hlen
  clear hus husl hrow hlen hcv HS2 hu7 x7 s1 s2 s3 s4
  go_wp2_with fail
  generalize (w7.alloc (.cells #[.string zz, .string T, .string (t2 ++ T), .string (⟨#[48]⟩ ++ t2), .string (t2 ++ ⟨#[48]⟩), .string (t2.extract 1 t2.size), .string (⟨#[45]⟩ ++ t2)] 9)).drew = w8 at *
  go_loopw [68] (fun i wr => ∃ k : Nat, i = .int .i64 (k : Int) ∧ k ≤ 7 ∧ Hid (Upd [] [] w8 wr)) (fun i _ => 7 - (intOf i).toNat)
  case atStart => exact ⟨0, rfl, Nat.zero_le _, Upd.refl _ _⟩
  case round =>
    obtain ⟨k, rfl, hk, HUP⟩ := hrel
    by_cases hlt : k < 7
    · obtain ⟨u, hu⟩ : ∃ u, us[k]? = some u := ⟨_, List.getElem?_eq_getElem (by rw [HLEN.out]; exact hlt)⟩
      have hus : u.size ≤ 2000000 := HUSL.out u (List.mem_of_getElem? hu)
      have q1 := str_cell wr w7.heap.size k us _ (row_upd HROW.out HUP.out) u hu
      have p0 : (0 : Int) ≤ (k : Int) := by omega
      have p1 : (k : Int) < 7 := by omega
      have u9 := u8.trans HUP.out
      clear hu
      go_wp2_with fail
      refine (eread_any u wr (by omega) (htab.upd u9)).mono ?_
      rintro e w10 ⟨a1, b1, o1, H1, ha1, hb1, rfl, hu10⟩
      have x10 := ProofAt.start w10 a1 b1
      go_wp2_with fail
      refine (rread6_any u _ (by omega)).mono ?_
      rintro e w11 ⟨a2, b2, o2, H2, ha2, hb2, rfl, hu11⟩
      have he := H1.out.symm.trans H2.out
      simp only [Prod.mk.injEq] at he
      obtain ⟨rfl, rfl, rfl⟩ := he
      have x11 := x10.upd hu11
      have y11 := ProofAt.start w11 a1 b1
      have x12 := x11.upd y11.up
      have HUP2 := Lib.hid (HUP.out.trans (hu10.trans x12.up))
      clear x10 x11 q1
      obtain ⟨k0, k1⟩ := x12.cells
      obtain ⟨j0, j1⟩ := y11.cells
      cases o1 with
      | true =>
        go_wp2_with fail
        exact ⟨⟨k + 1, by go_num, by omega, HUP2.out⟩, by simp [intOf]; omega⟩
      | false =>
        go_wp2_with fail
        exact ⟨⟨k + 1, by go_num, by omega, HUP2.out⟩, by simp [intOf]; omega⟩
    · obtain rfl : k = 7 := by omega
      clear hk hlt
      go_wp2_with fail
      go_ret
      exact ⟨rfl, u8.trans HUP.out⟩
end Go.Proofs.YtkhodajdionaaaaDoor
