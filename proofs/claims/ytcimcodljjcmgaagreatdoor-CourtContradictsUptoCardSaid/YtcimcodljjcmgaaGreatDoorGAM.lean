/- number of day and of court, day.word, day.cutWord, at any text. strings.Trim with a set of letters: whether anything is left. strings.Trim of the hexadecimal digits. The text of a vote, plainly: words between blanks; the kind, the height, the view, the value. Words gathered one after the other, plainly. -/
import Derived.Test.YtcimcodljjcmgaaGreatDoorGAI
import Derived.Test.YtcimcodljjcmgaaGreatDoorGAH
import Derived.Test.YtcimcodljjcmgaaGreatDoorGAL
import Derived.Lib.AsciiSet
import Derived.Test.YtcimcodljjcmgaaGreatDoorGAG
namespace Go.Proofs.YtcimcodljjcmgaaGreatDoor
open Go.RowKit
set_option maxRecDepth 100000

set_option maxHeartbeats 1000000 in
theorem dNumberG (s : ByteArray) (w : World) (hs : s.size ≤ 4000000000) (htab : Tabs w) : Calls Tryz.prog 101 #[.string s] w (MkNum (bs s) w) := by
  by_cases hv : ∃ v, Lib.atoiAll (bs s) = .ok v
  · obtain ⟨v, hv⟩ := hv
    have hvi : i64in v := Lib.atoiAll_bounds hv
    have HA := Lib.hid (atoi_ok s v w (by omega) hv)
    have HI := Lib.hid (fun W (u : Upd [] [] w W) => itoa_any v W hvi (htab.upd u))
    have HN : Hid (∀ m, i64in m → bs s = Lib.itoa m → m = v) := by
      intro m hm e
      rw [e, atoi_itoa m hm] at hv
      injection hv
    clear hv hs
    go_enter Tryz.func101, Tryz.ntmps101
    go_wp2_with fail
    refine HA.out.mono ?_
    rintro e w1 ⟨rfl, hu⟩
    have HU := Lib.hid hu
    clear hu HA
    go_wp2_with fail
    refine (HI.out w1 HU.out).mono ?_
    rintro e w2 ⟨y, HY, _, rfl, hu⟩
    have HU2 := Lib.hid (HU.out.trans hu)
    clear hu HI HU
    by_cases hys : y = s
    · have HYS : Hid (bs s = Lib.itoa v) := by show _ = _; rw [← hys]; exact HY.out
      have g1 : (y.toList == s.toList) = true := eq_beq.2 (by rw [hys])
      clear hys HY
      go_wp2_with fail
      go_ret2
      exact ⟨v, true, ⟨hvi, fun _ => HYS.out, fun h => by cases h⟩, hvi, rfl, HU2.out⟩
    · have HYS : Hid (¬ isNum (bs s)) := by
        rintro ⟨m, hm, e⟩
        obtain rfl := HN.out m hm e
        exact hys (bs_inj (HY.out.trans e.symm))
      have g1 : (y.toList == s.toList) = false := by rw [← Bool.not_eq_true]; exact fun h => hys (bs_inj (eq_beq.1 h))
      clear hys HY
      go_wp2_with fail
      go_ret2
      exact ⟨0, false, numOk_bad HYS.out, ⟨by omega, by omega⟩, rfl, HU2.out⟩
  · have hv' : ∀ v, Lib.atoiAll (bs s) ≠ .ok v := fun v e => hv ⟨v, e⟩
    have HA := Lib.hid (atoi_bad s w (by omega) hv' htab)
    have HYS : Hid (¬ isNum (bs s)) := by
      rintro ⟨m, hm, e⟩
      exact hv' m (by rw [e]; exact atoi_itoa m hm)
    clear hv hv' hs
    go_enter Tryz.func101, Tryz.ntmps101
    go_wp2_with fail
    refine HA.out.mono ?_
    rintro e w1 ⟨v, N, rfl, hvi, hu⟩
    have HU := Lib.hid hu
    clear hu HA
    go_wp2_with fail
    go_ret2
    exact ⟨0, false, numOk_bad HYS.out, ⟨by omega, by omega⟩, rfl, HU.out⟩
set_option maxHeartbeats 1000000 in
theorem cNumberG (s : ByteArray) (w : World) (hs : s.size ≤ 4000000000) (htab : Tabs w) : Calls Tryz.prog 44 #[.string s] w (MkNum (bs s) w) := by
  by_cases hv : ∃ v, Lib.atoiAll (bs s) = .ok v
  · obtain ⟨v, hv⟩ := hv
    have hvi : i64in v := Lib.atoiAll_bounds hv
    have HA := Lib.hid (atoi_ok s v w (by omega) hv)
    have HI := Lib.hid (fun W (u : Upd [] [] w W) => itoa_any v W hvi (htab.upd u))
    have HN : Hid (∀ m, i64in m → bs s = Lib.itoa m → m = v) := by
      intro m hm e
      rw [e, atoi_itoa m hm] at hv
      injection hv
    clear hv hs
    go_enter Tryz.func44, Tryz.ntmps44
    go_wp2_with fail
    refine HA.out.mono ?_
    rintro e w1 ⟨rfl, hu⟩
    have HU := Lib.hid hu
    clear hu HA
    go_wp2_with fail
    refine (HI.out w1 HU.out).mono ?_
    rintro e w2 ⟨y, HY, _, rfl, hu⟩
    have HU2 := Lib.hid (HU.out.trans hu)
    clear hu HI HU
    by_cases hys : y = s
    · have HYS : Hid (bs s = Lib.itoa v) := by show _ = _; rw [← hys]; exact HY.out
      have g1 : (y.toList == s.toList) = true := eq_beq.2 (by rw [hys])
      clear hys HY
      go_wp2_with fail
      go_ret2
      exact ⟨v, true, ⟨hvi, fun _ => HYS.out, fun h => by cases h⟩, hvi, rfl, HU2.out⟩
    · have HYS : Hid (¬ isNum (bs s)) := by
        rintro ⟨m, hm, e⟩
        obtain rfl := HN.out m hm e
        exact hys (bs_inj (HY.out.trans e.symm))
      have g1 : (y.toList == s.toList) = false := by rw [← Bool.not_eq_true]; exact fun h => hys (bs_inj (eq_beq.1 h))
      clear hys HY
      go_wp2_with fail
      go_ret2
      exact ⟨0, false, numOk_bad HYS.out, ⟨by omega, by omega⟩, rfl, HU2.out⟩
  · have hv' : ∀ v, Lib.atoiAll (bs s) ≠ .ok v := fun v e => hv ⟨v, e⟩
    have HA := Lib.hid (atoi_bad s w (by omega) hv' htab)
    have HYS : Hid (¬ isNum (bs s)) := by
      rintro ⟨m, hm, e⟩
      exact hv' m (by rw [e]; exact atoi_itoa m hm)
    clear hv hv' hs
    go_enter Tryz.func44, Tryz.ntmps44
    go_wp2_with fail
    refine HA.out.mono ?_
    rintro e w1 ⟨v, N, rfl, hvi, hu⟩
    have HU := Lib.hid hu
    clear hu HA
    go_wp2_with fail
    go_ret2
    exact ⟨0, false, numOk_bad HYS.out, ⟨by omega, by omega⟩, rfl, HU.out⟩

theorem dWordG (t : ByteArray) (w : World) (ht : t.size ≤ 1000000000) (htab : Tabs w) : Calls Tryz.prog 21 #[.string t] w (MkS (wordG (bs t)) w) := by
  have HI : Hid (Calls Tryz.prog 19 #[.int .i64 (t.size : Int)] w (MkS (Lib.itoa (t.size : Int)) w)) := itoa_any (t.size : Int) w (by unfold i64in; omega) htab
  go_enter Tryz.func21, Tryz.ntmps21
  go_wp2_with fail
  refine HI.out.mono ?_
  rintro e w1 ⟨y, HY, hy, rfl, hu⟩
  have HU := Lib.hid hu
  clear hu HI
  have l1 := itoa_len (t.size : Int) (by unfold i64in; omega)
  go_wp2_with fail
  go_ret
  have hb : bs (y ++ ByteArray.mk #[58] ++ t) = wordG (bs t) := by
    rw [bs_append, bs_append, HY.out, wordG, bs_length]
    simp [bs]
  exact ⟨_, hb, by rw [← hb, bs_length]; exact Nat.le_refl _, rfl, HU.out⟩
def cutG (l : List UInt8) (t r : ByteArray) (ok : Bool) : Prop := (ok = true → l = wordG (bs t) ++ bs r) ∧ (ok = false → ∀ a b : List UInt8, a.length ≤ 9223372036854775807 → l ≠ wordG a ++ b)
def MkCutG (s : ByteArray) (w : World) (e : Ending) (w' : World) : Prop := ∃ (t r : ByteArray) (ok : Bool), Hid (cutG (bs s) t r ok) ∧ t.size ≤ s.size ∧ r.size ≤ s.size ∧ e = .returned (.tuple #[.string t, .string r, .bool ok]) ∧ Upd [] [] w w'
theorem cutG_not {l : List UInt8} (h : ∀ a b : List UInt8, a.length ≤ 9223372036854775807 → l ≠ wordG a ++ b) : cutG l ⟨#[]⟩ ⟨#[]⟩ false := ⟨fun e => (by cases e), fun _ => h⟩
theorem first_split (c : UInt8) : ∀ l : List UInt8, c ∈ l → ∃ a b, l = a ++ c :: b ∧ c ∉ a
  | [], h => by cases h
  | x :: r, h => by
    by_cases hx : x = c
    · exact ⟨[], r, by rw [hx]; rfl, by simp⟩
    · rcases List.mem_cons.1 h with h | h
      · exact absurd h.symm hx
      · obtain ⟨a, b, e, hn⟩ := first_split c r h
        refine ⟨x :: a, b, by rw [e]; rfl, fun hm => ?_⟩
        rcases List.mem_cons.1 hm with hm | hm
        · exact hx hm.symm
        · exact hn hm
theorem cut_back {l x y : List UInt8} {c : UInt8} (h : Lib.cut l [c] = (x, y, true)) : l = x ++ c :: y := by
  by_cases hc : c ∈ l
  · obtain ⟨a, b, e, hn⟩ := first_split c l hc
    subst e
    rw [cut_hit c a b hn] at h
    injection h with h1 h2
    injection h2 with h2 _
    rw [h1, h2]
  · rw [cut_miss c l hc] at h
    injection h with _ h2
    injection h2 with _ h3
    cases h3
set_option maxHeartbeats 1000000 in
theorem dCutG (s : ByteArray) (w : World) (hs : s.size ≤ 4000000000) (htab : Tabs w) : Calls Tryz.prog 103 #[.string s] w (MkCutG s w) := by
  have HC := Lib.hid (cutByte_any s 58 w hs htab)
  have HN := Lib.hid (fun W (u : Upd [] [] w W) (t : ByteArray) (ht : t.size ≤ 4000000000) => dNumberG t W ht (htab.upd u))
  go_enter Tryz.func103, Tryz.ntmps103
  go_wp2_with fail
  refine HC.out.mono ?_
  rintro e w1 ⟨l, r, q, HL, HR, HQ, hl, hr, rfl, hu⟩
  have HU := Lib.hid hu
  have HCUT : Hid (Lib.cut (bs s) [58] = (bs l, bs r, q)) := by show _ = _; rw [HL.out, HR.out, HQ.out]
  clear hu HC HL HR HQ
  cases q
  · have HNO : Hid (∀ a b : List UInt8, a.length ≤ 9223372036854775807 → bs s ≠ wordG a ++ b) := by
      intro a b _ e
      have h := HCUT.out
      rw [e, wordG, List.append_assoc, List.cons_append, word_cut] at h
      injection h with _ h
      injection h with _ h
      cases h
    clear HCUT
    go_wp2_with fail
    go_ret3
    exact ⟨_, _, false, cutG_not HNO.out, Nat.zero_le _, Nat.zero_le _, rfl, HU.out⟩
  · have HS : Hid (bs s = bs l ++ 58 :: bs r) := cut_back HCUT.out
    go_wp2_with fail
    refine (HN.out w1 HU.out l (by omega)).mono ?_
    rintro e w2 ⟨n, ok, HO, hn, rfl, hu⟩
    have HU2 := Lib.hid (HU.out.trans hu)
    clear hu HU HN
    obtain ⟨hn1, hn2⟩ := hn
    have HNO : Hid ((ok = false ∨ n < 0 ∨ (r.size : Int) < n) → ∀ a b : List UInt8, a.length ≤ 9223372036854775807 → bs s ≠ wordG a ++ b) := by
      intro hbad a b ha e
      have h := HCUT.out
      rw [e, wordG, List.append_assoc, List.cons_append, word_cut] at h
      injection h with h1 h
      injection h with h2 _
      have hi : i64in (a.length : Int) := by unfold i64in; omega
      cases ok with
      | false => exact HO.out.2.2 rfl ⟨_, hi, h1.symm⟩
      | true =>
        have e1 := HO.out.2.1 rfl
        rw [← h1] at e1
        have e2 := itoa_inj hi ⟨hn1, hn2⟩ e1
        have e3 := congrArg List.length h2
        rw [List.length_append, bs_length] at e3
        rcases hbad with h | h | h
        · cases h
        · omega
        · omega
    cases ok
    · clear HCUT HS HO
      go_wp2_with fail
      go_ret3
      exact ⟨_, _, false, cutG_not (HNO.out (by first | exact .inl rfl | exact .inl trivial | simp)), Nat.zero_le _, Nat.zero_le _, rfl, HU2.out⟩
    · by_cases hn0 : n < 0
      · clear HCUT HS HO
        go_wp2_with fail
        go_ret3
        exact ⟨_, _, false, cutG_not (HNO.out (by first | exact .inr (.inl hn0) | simp [hn0])), Nat.zero_le _, Nat.zero_le _, rfl, HU2.out⟩
      · by_cases hnr : (r.size : Int) < n
        · clear HCUT HS HO
          go_wp2_with fail
          go_ret3
          exact ⟨_, _, false, cutG_not (HNO.out (by first | exact .inr (.inr hnr) | simp [hnr])), Nat.zero_le _, Nat.zero_le _, rfl, HU2.out⟩
        · obtain ⟨k, rfl⟩ : ∃ k : Nat, n = (k : Int) := ⟨n.toNat, by omega⟩
          have hkr : k ≤ r.size := by omega
          have k1 : (k : Int) ≤ (r.size : Int) := by omega
          have HW : Hid (bs s = wordG (bs (r.extract 0 k)) ++ bs (r.extract k r.size)) := by
            show _ = _
            have e1 : ((bs r).take k).length = k := by rw [List.length_take, bs_length]; omega
            rw [HS.out, bs_left, bs_right, wordG, e1, ← HO.out.2.1 rfl, List.append_assoc, List.cons_append, List.take_append_drop]
          clear HCUT HS HO HNO
          go_wp2_with fail
          go_quiet (fail)
          go_wp2_with fail
          go_ret3
          have z1 : (r.extract 0 k).size ≤ s.size := by rw [← bs_length, bs_left, List.length_take, bs_length]; omega
          have z2 : (r.extract k r.size).size ≤ s.size := by rw [← bs_length, bs_right, List.length_drop, bs_length]; omega
          exact ⟨_, _, true, ⟨fun _ => HW.out, fun h => (by cases h)⟩, z1, z2, rfl, HU2.out.drewN _⟩
end Go.Proofs.YtcimcodljjcmgaaGreatDoor

namespace Go.Proofs.YtcimcodljjcmgaaGreatDoor
open Go.RowKit
set_option maxRecDepth 100000

def TrimR (S : List UInt8) (s r : ByteArray) : Prop := ((∀ c ∈ bs s, c ∈ S) ↔ r.size = 0) ∧ (r.size ≠ 0 → ∃ c ∈ bs r, c ∉ S)
def SetAt (w : World) (b : Nat) (S : List UInt8) : Prop := ∀ x : UInt8, w.cell? ⟨b, x.toNat, none⟩ = some (.bool (S.contains x))
def tzLen : Value → Nat
  | .string t => t.size
  | _ => 0
theorem all_nil {S : List UInt8} {t : ByteArray} (h : t.size = 0) : ∀ c ∈ bs t, c ∈ S := by
  intro c hc
  have : bs t = [] := List.length_eq_zero_iff.1 (by rw [bs_length]; exact h)
  rw [this] at hc
  cases hc
theorem trimR_stop {S : List UInt8} {s t : ByteArray} (HA : (∀ c ∈ bs s, c ∈ S) ↔ (∀ c ∈ bs t, c ∈ S)) {x : UInt8} (hx : x ∈ bs t) (hn : S.contains x = false) : TrimR S s t := by
  have hxn : x ∉ S := by
    intro h
    have := List.contains_iff_mem.2 h
    rw [hn] at this
    cases this
  refine ⟨⟨fun h => absurd (HA.1 h x hx) hxn, fun h => ?_⟩, fun _ => ⟨x, hx, hxn⟩⟩
  have : bs t = [] := List.length_eq_zero_iff.1 (by rw [bs_length]; exact h)
  rw [this] at hx
  cases hx
theorem trimR_end {S : List UInt8} {s t : ByteArray} (HA : (∀ c ∈ bs s, c ∈ S) ↔ (∀ c ∈ bs t, c ∈ S)) (h : t.size = 0) : TrimR S s t := ⟨⟨fun _ => h, fun _ => HA.2 (all_nil h)⟩, fun hn => absurd h hn⟩
theorem all_first {S : List UInt8} {t : ByteArray} (h : 0 < t.size) (hx : S.contains t[0] = true) : (∀ c ∈ bs t, c ∈ S) ↔ (∀ c ∈ bs (t.extract 1 t.size), c ∈ S) := by
  rw [bs_right, bs_cons t h]
  simp only [List.mem_cons, List.drop_succ_cons, List.drop_zero]
  exact ⟨fun k c hc => k c (.inr hc), fun k c hc => hc.elim (fun e => by rw [e]; exact List.contains_iff_mem.1 hx) (k c)⟩
theorem bs_last (t : ByteArray) (h : 0 < t.size) : bs t = bs (t.extract 0 (t.size - 1)) ++ [t[t.size - 1]] := by
  rw [bs_left]
  have hg := bs_get' t (t.size - 1) (by omega)
  have h2 : (bs t).take (t.size - 1 + 1) = (bs t).take (t.size - 1) ++ [t[t.size - 1]] := by rw [List.take_add_one, hg]; rfl
  rw [show t.size - 1 + 1 = t.size by omega, List.take_of_length_le (by rw [bs_length]; omega)] at h2
  exact h2
theorem all_last {S : List UInt8} {t : ByteArray} (h : 0 < t.size) (hx : S.contains (t[t.size - 1]'(by omega)) = true) : (∀ c ∈ bs t, c ∈ S) ↔ (∀ c ∈ bs (t.extract 0 (t.size - 1)), c ∈ S) := by
  rw [bs_last t h]
  simp only [List.mem_append, List.mem_singleton]
  exact ⟨fun k c hc => k c (.inl hc), fun k c hc => hc.elim (k c) (fun e => by rw [e]; exact List.contains_iff_mem.1 hx)⟩
def RetTr (S : List UInt8) (s : ByteArray) (w : World) (e : Ending) (w' : World) : Prop := ∃ r : ByteArray, Hid (TrimR S s r) ∧ r.size ≤ s.size ∧ e = .returned (.string r) ∧ w = w'
theorem trimLeftSet (S : List UInt8) (s : ByteArray) (b : Nat) (w : World) (hb : SetAt w b S) (_hs : s.size ≤ 1000000000) : Calls Tryz.prog 96 #[.string s, .pointer (some ⟨b, 0, none⟩)] w (RetTr S s w) := by
  have HC := Lib.hid (fun x : UInt8 => Tryz.asciiSet_contains b x (S.contains x) w (hb x))
  clear hb
  go_enter Tryz.func96, Tryz.ntmps96
  go_wp2_with fail
  go_loop [0] (fun v => ∃ (t : ByteArray), v = .string t ∧ t.size ≤ s.size ∧ Hid ((∀ c ∈ bs s, c ∈ S) ↔ (∀ c ∈ bs t, c ∈ S))) (fun v => tzLen v)
  case atStart => exact ⟨s, rfl, Nat.le_refl _, Iff.rfl⟩
  case round =>
    obtain ⟨t, rfl, hts, HA⟩ := hrel
    by_cases hlt : 0 < t.size
    · go_wp2_with fail
      refine (HC.out t[0]).mono ?_
      rintro e w' ⟨rfl, rfl⟩
      by_cases hx : S.contains t[0] = true
      · have HA2 : Hid ((∀ c ∈ bs s, c ∈ S) ↔ (∀ c ∈ bs (t.extract 1 t.size), c ∈ S)) := HA.out.trans (all_first hlt hx)
        have hz : (t.extract 1 t.size).size = t.size - 1 := by rw [ByteArray.size_extract]; omega
        rw [hx]
        clear hx HA
        go_wp2_with fail
        exact ⟨⟨_, rfl, by omega, HA2⟩, by simp only [tzLen]; omega⟩
      · have hx : S.contains t[0] = false := by rw [← Bool.not_eq_true]; exact hx
        have HT : Hid (TrimR S s t) := trimR_stop HA.out (by rw [bs_cons t hlt]; exact List.mem_cons_self) hx
        rw [hx]
        clear hx HA
        go_wp2_with fail
        go_ret
        exact ⟨t, HT, hts, rfl, rfl⟩
    · have HT : Hid (TrimR S s t) := trimR_end HA.out (by omega)
      go_wp2_with fail
      go_ret
      exact ⟨t, HT, hts, rfl, rfl⟩
theorem trimRightSet (S : List UInt8) (s : ByteArray) (b : Nat) (w : World) (hb : SetAt w b S) (hs : s.size ≤ 1000000000) : Calls Tryz.prog 97 #[.string s, .pointer (some ⟨b, 0, none⟩)] w (RetTr S s w) := by
  have HC := Lib.hid (fun x : UInt8 => Tryz.asciiSet_contains b x (S.contains x) w (hb x))
  clear hb
  go_enter Tryz.func97, Tryz.ntmps97
  go_wp2_with fail
  go_loop [0] (fun v => ∃ (t : ByteArray), v = .string t ∧ t.size ≤ s.size ∧ Hid ((∀ c ∈ bs s, c ∈ S) ↔ (∀ c ∈ bs t, c ∈ S))) (fun v => tzLen v)
  case atStart => exact ⟨s, rfl, Nat.le_refl _, Iff.rfl⟩
  case round =>
    obtain ⟨t, rfl, hts, HA⟩ := hrel
    by_cases hlt : 0 < t.size
    · obtain ⟨z, hz⟩ : ∃ z, t.size - 1 = z := ⟨_, rfl⟩
      have hzt : z < t.size := by omega
      have wz : IntKind.i64.wrap ((t.size : Int) - 1) = (z : Int) := (wrap_in (by omega) (by omega)).trans (by omega)
      go_wp2_with fail
      refine (HC.out t[z]).mono ?_
      rintro e w' ⟨rfl, rfl⟩
      by_cases hx : S.contains t[z] = true
      · have HA2 : Hid ((∀ c ∈ bs s, c ∈ S) ↔ (∀ c ∈ bs (t.extract 0 z), c ∈ S)) := by
          have h := all_last hlt (S := S) (by simp only [hz]; exact hx)
          rw [hz] at h
          exact HA.out.trans h
        have hzz : (t.extract 0 z).size = z := by rw [ByteArray.size_extract]; omega
        rw [hx]
        clear hx HA
        go_wp2_with fail
        exact ⟨⟨_, rfl, by omega, HA2⟩, by simp only [tzLen]; omega⟩
      · have hx : S.contains t[z] = false := by rw [← Bool.not_eq_true]; exact hx
        have HT : Hid (TrimR S s t) := trimR_stop HA.out (List.mem_of_getElem? (bs_get' t z hzt)) hx
        rw [hx]
        clear hx HA
        go_wp2_with fail
        go_ret
        exact ⟨t, HT, hts, rfl, rfl⟩
    · have HT : Hid (TrimR S s t) := trimR_end HA.out (by omega)
      go_wp2_with fail
      go_ret
      exact ⟨t, HT, hts, rfl, rfl⟩
end Go.Proofs.YtcimcodljjcmgaaGreatDoor

namespace Go.Proofs.YtcimcodljjcmgaaGreatDoor
open Go.RowKit
set_option maxRecDepth 100000

def hx16 : List UInt8 := [48, 49, 50, 51, 52, 53, 54, 55, 56, 57, 97, 98, 99, 100, 101, 102]
def hx16B : ByteArray := ⟨#[48, 49, 50, 51, 52, 53, 54, 55, 56, 57, 97, 98, 99, 100, 101, 102]⟩
theorem hx16_ascii : ∀ (j : Nat) (b : UInt8), hx16[j]? = some b → b.toNat < 128 := by
  intro j b h
  have hm := List.mem_of_getElem? h
  revert b
  simp only [hx16, List.mem_cons, List.not_mem_nil, or_false]
  intro b _ hm
  rcases hm with rfl | rfl | rfl | rfl | rfl | rfl | rfl | rfl | rfl | rfl | rfl | rfl | rfl | rfl | rfl | rfl <;> decide
theorem zeroSet (w : World) : (zeroValue 141).run Tryz.prog w = .ok (.agg (Array.replicate 256 (.bool false))) w := by kernel_rfl
theorem mkSet (w : World) : Calls Tryz.prog 95 #[.string ⟨#[48, 49, 50, 51, 52, 53, 54, 55, 56, 57, 97, 98, 99, 100, 101, 102]⟩] w (fun e w' => e = .returned (.tuple #[.agg (Lib.setCells hx16), .bool true]) ∧ Upd [] [] w w') := by
  refine (Tryz.strings_makeASCIISet zeroSet hx16B w (by decide) hx16_ascii).mono ?_
  rintro e w' ⟨rfl, rfl⟩
  exact ⟨rfl, (Upd.refl _ _).alloc _⟩
def MkTrim (s : ByteArray) (w : World) (e : Ending) (w' : World) : Prop := ∃ r : ByteArray, Hid (r.size = 0 ↔ ∀ c ∈ bs s, c ∈ hx16) ∧ e = .returned (.string r) ∧ Upd [] [] w w'
theorem trimHex (s : ByteArray) (hs : s.size ≤ 1000000000) (h0 : 0 < s.size) (w : World) : Calls Tryz.prog 45 #[.string s, .string ⟨#[48, 49, 50, 51, 52, 53, 54, 55, 56, 57, 97, 98, 99, 100, 101, 102]⟩] w (MkTrim s w) := by
  have hb4 : (s.toList == []) = false := by
    rw [beq_eq_false_iff_ne, ne_eq, ByteArray.toList_eq]
    intro e
    have : s.size = 0 := by rw [← bs_length]; exact congrArg List.length e
    omega
  have hb5 : s.toList.isEmpty = false := by simpa using hb4
  have HM := Lib.hid (mkSet w)
  obtain ⟨C, hC⟩ : ∃ C, Lib.setCells hx16 = C := ⟨_, rfl⟩
  have HCZ : Hid (C.size = 256) := by rw [← hC]; exact Lib.setCells_size _
  have HCO : Hid (C.all (·.oneCell') = true) := by rw [← hC]; exact Lib.setCells_one _
  have HCI : Hid ((Tryz.prog.info? 141).map (·.size) = some C.size) := by show _ = _; rw [HCZ.out]; kernel_rfl
  have HCS : Hid ((Tryz.zeroCells141).size = C.size) := by show _ = _; rw [HCZ.out]; kernel_rfl
  have HCA : Hid (∀ x : UInt8, C[x.toNat]? = some (.bool (hx16.contains x))) := by rw [← hC]; exact Lib.setCells_at hx16
  rw [hC] at HM
  clear hC
  go_enter Tryz.func45, Tryz.ntmps45
  go_wp2_with fail
  refine HM.out.mono ?_
  rintro e w1 ⟨rfl, hu⟩
  obtain ⟨w2, Z2, W2, R2, hq2⟩ := blk_new w1 141 Tryz.zeroCells141 C
  obtain ⟨gS, hgS⟩ : ∃ g, w1.heap.size = g := ⟨_, rfl⟩
  rw [hgS] at Z2 W2 R2
  have HU := Lib.hid (hu.trans hq2)
  have HSA : Hid (∀ W, Upd [] [] w2 W → SetAt W gS hx16) := fun W u x => (cell_of_row _ gS x.toNat _ _ _ (row_updH R2.out u)).trans (HCA.out x)
  clear hu HM hq2
  go_wp2_with (first | (refine wpList_store_rowAs rfl 141 _ _ rfl gS C rfl rfl _ _ Z2.out HCI.out HCS.out HCO.out w2 W2.out ?_))
  refine (trimRightSet hx16 s gS w2 (HSA.out w2 (Upd.refl _ _)) hs).mono ?_
  rintro e w3 ⟨r, HR, hr, rfl, rfl⟩
  go_wp2_with fail
  refine (trimLeftSet hx16 r gS w2 (HSA.out w2 (Upd.refl _ _)) (by omega)).mono ?_
  rintro e w3 ⟨y, HY, hy, rfl, rfl⟩
  go_wp2_with fail
  go_ret
  refine ⟨y, ?_, rfl, HU.out⟩
  show _ ↔ _
  constructor
  · intro h
    by_cases hr0 : r.size = 0
    · exact HR.out.1.2 hr0
    · obtain ⟨c, hc, hn⟩ := HR.out.2 hr0
      exact absurd (HY.out.1.2 h c hc) hn
  · intro h
    have hr0 := HR.out.1.1 h
    omega
end Go.Proofs.YtcimcodljjcmgaaGreatDoor

namespace Go.Proofs.YtcimcodljjcmgaaGreatDoor
open Go.RowKit
set_option maxRecDepth 100000

def IsWords (l : List UInt8) (W : List (List UInt8)) : Prop := (∀ x ∈ W, (32 : UInt8) ∉ x) ∧ W ≠ [] ∧ Lib.join W [32] = l
theorem join_two (x y : List UInt8) (r : List (List UInt8)) (sep : List UInt8) : Lib.join (x :: y :: r) sep = x ++ (sep ++ Lib.join (y :: r) sep) := by
  rw [Lib.join_cons, Lib.join_cons]
  simp [Lib.joinTail]
theorem words_uniq : ∀ (W V : List (List UInt8)) (l : List UInt8), IsWords l W → IsWords l V → W = V
  | [], _, _, h, _ => absurd rfl h.2.1
  | _ :: _, [], _, _, h => absurd rfl h.2.1
  | [x], [y], l, h, k => by
    have h1 := h.2.2
    have k1 := k.2.2
    rw [Lib.join_one] at h1 k1
    rw [h1, k1]
  | [x], y :: z :: r, l, h, k => by
    have h1 := h.2.2
    have k1 := k.2.2
    rw [Lib.join_one] at h1
    rw [join_two] at k1
    have : (32 : UInt8) ∈ x := by rw [h1, ← k1]; simp
    exact absurd this (h.1 x (by simp))
  | y :: z :: r, [x], l, k, h => by
    have h1 := h.2.2
    have k1 := k.2.2
    rw [Lib.join_one] at h1
    rw [join_two] at k1
    have : (32 : UInt8) ∈ x := by rw [h1, ← k1]; simp
    exact absurd this (h.1 x (by simp))
  | x :: y :: r, u :: v :: q, l, h, k => by
    have h1 := h.2.2
    have k1 := k.2.2
    rw [join_two] at h1 k1
    have c1 := cut_hit 32 x (Lib.join (y :: r) [32]) (h.1 x (by simp))
    have c2 := cut_hit 32 u (Lib.join (v :: q) [32]) (k.1 u (by simp))
    have e1 : x ++ 32 :: Lib.join (y :: r) [32] = l := h1
    have e2 : u ++ 32 :: Lib.join (v :: q) [32] = l := k1
    rw [e1] at c1
    rw [e2, c1] at c2
    injection c2 with c2 c3
    injection c3 with c3 _
    have ih := words_uniq (y :: r) (v :: q) (Lib.join (y :: r) [32]) ⟨fun a ha => h.1 a (by simp [List.mem_cons.1 ha]), by simp, rfl⟩ ⟨fun a ha => k.1 a (by simp [List.mem_cons.1 ha]), by simp, c3.symm⟩
    rw [c2, ih]
theorem splitK_ne (sep : List UInt8) (k : Nat) (l : List UInt8) : Lib.splitK sep 0 k l ≠ [] := by
  cases k with
  | zero => simp [Lib.splitK]
  | succ k =>
    unfold Lib.splitK
    split <;> simp
theorem splitK_words : ∀ (k : Nat) (l : List UInt8), l.count 32 = k → IsWords l (Lib.splitK [32] 0 k l)
  | 0, l, h => ⟨fun x hx => by
      simp only [Lib.splitK, List.mem_singleton] at hx
      rw [hx]
      exact List.count_eq_zero.1 h, by simp [Lib.splitK], by rw [Lib.splitK, Lib.join_one]⟩
  | k + 1, l, h => by
    obtain ⟨a, b, rfl, hn⟩ := first_split 32 l (List.count_pos_iff.1 (by omega))
    have hb : b.count 32 = k := by
      rw [List.count_append, List.count_eq_zero.2 hn, List.count_cons_self] at h
      omega
    have ih := splitK_words k b hb
    rw [splitK_hit hn]
    refine ⟨fun x hx => ?_, by simp, ?_⟩
    · rcases List.mem_cons.1 hx with rfl | hx
      · exact hn
      · exact ih.1 x hx
    · obtain ⟨y, r, e⟩ := List.exists_cons_of_ne_nil (splitK_ne [32] k b)
      rw [e, join_two, ← e, ih.2.2]
      rfl
theorem splitB_words (s : ByteArray) : IsWords (bs s) ((Lib.splitB ⟨#[32]⟩ 0 (Lib.countB s ⟨#[32]⟩) s).map bs) := by
  have e : Lib.countB s ⟨#[32]⟩ = (bs s).count 32 := Lib.count_one 32 (bs s)
  have h := Lib.splitB_data ⟨#[32]⟩ 0 (Lib.countB s ⟨#[32]⟩) s
  have h2 : (Lib.splitB ⟨#[32]⟩ 0 (Lib.countB s ⟨#[32]⟩) s).map bs = Lib.splitK [32] 0 (Lib.countB s ⟨#[32]⟩) (bs s) := h
  rw [h2, e]
  exact splitK_words _ _ rfl

structure Bal where
  k : List UInt8
  h : Int
  v : Int
  x : List UInt8
def kPro : List UInt8 := [112, 114, 111, 112, 111, 115, 101]
def kPre : List UInt8 := [112, 114, 101, 112, 97, 114, 101]
def kCom : List UInt8 := [99, 111, 109, 109, 105, 116]
def Bal.ok (b : Bal) : Prop := (b.k = kPro ∨ b.k = kPre ∨ b.k = kCom) ∧ (0 ≤ b.h ∧ b.h ≤ 1000000000) ∧ (0 ≤ b.v ∧ b.v ≤ 1000000000) ∧ 2 ≤ b.x.length ∧ b.x.length ≤ 400 ∧ b.x.length % 2 = 0 ∧ ∀ c ∈ b.x, c ∈ hx16
def Bal.words (b : Bal) : List (List UInt8) := [b.k, Lib.itoa b.h, Lib.itoa b.v, b.x]
def Bal.text (b : Bal) : List UInt8 := Lib.join b.words [32]
def Bal.key (b : Bal) : List UInt8 := Lib.join [b.k, Lib.itoa b.h, Lib.itoa b.v] [32]
def IsBal (l : List UInt8) (b : Bal) : Prop := b.ok ∧ l = b.text
theorem hx16_no32 : ∀ c ∈ hx16, c ≠ 32 := by decide
theorem Bal.ok.no32 {b : Bal} (h : b.ok) : ∀ x ∈ b.words, (32 : UInt8) ∉ x := by
  intro x hx
  simp only [Bal.words, List.mem_cons, List.not_mem_nil, or_false] at hx
  rcases hx with rfl | rfl | rfl | rfl
  · rcases h.1 with e | e | e <;> rw [e] <;> decide
  · exact itoa_no32 _
  · exact itoa_no32 _
  · exact fun hm => hx16_no32 32 (h.2.2.2.2.2.2 32 hm) rfl
theorem IsBal.words {l : List UInt8} {b : Bal} (h : IsBal l b) {W : List (List UInt8)} (hW : IsWords l W) : W = b.words :=
  words_uniq _ _ l hW ⟨h.1.no32, by simp [Bal.words], h.2.symm⟩
theorem isBal_inj {l : List UInt8} {a b : Bal} (ha : IsBal l a) (hb : IsBal l b) : a = b := by
  have e := hb.words ⟨ha.1.no32, by simp [Bal.words], ha.2.symm⟩
  obtain ⟨⟨_, a1, a2, _⟩, _⟩ := ha
  obtain ⟨⟨_, b1, b2, _⟩, _⟩ := hb
  cases a with
  | mk k h v x =>
  cases b with
  | mk k' h' v' x' =>
  simp only [Bal.words, List.cons.injEq, and_true] at e
  dsimp only at *
  obtain ⟨rfl, e2, e3, rfl⟩ := e
  obtain rfl := itoa_inj (by unfold i64in; omega) (by unfold i64in; omega) e2
  obtain rfl := itoa_inj (by unfold i64in; omega) (by unfold i64in; omega) e3
  rfl
theorem key_iff {a b : Bal} (ha : a.ok) (hb : b.ok) : a.key = b.key ↔ (a.k = b.k ∧ a.h = b.h ∧ a.v = b.v) := by
  constructor
  · intro h
    have wa : IsWords a.key [a.k, Lib.itoa a.h, Lib.itoa a.v] := ⟨fun x hx => ha.no32 x (by simp only [Bal.words, List.mem_cons, List.not_mem_nil, or_false] at hx ⊢; rcases hx with h | h | h <;> simp [h]), by simp, rfl⟩
    have wb : IsWords b.key [b.k, Lib.itoa b.h, Lib.itoa b.v] := ⟨fun x hx => hb.no32 x (by simp only [Bal.words, List.mem_cons, List.not_mem_nil, or_false] at hx ⊢; rcases hx with h | h | h <;> simp [h]), by simp, rfl⟩
    rw [h] at wa
    have e := words_uniq _ _ _ wa wb
    simp only [List.cons.injEq, and_true] at e
    obtain ⟨_, a1, a2, _⟩ := ha
    obtain ⟨_, b1, b2, _⟩ := hb
    exact ⟨e.1, itoa_inj (by unfold i64in; omega) (by unfold i64in; omega) e.2.1, itoa_inj (by unfold i64in; omega) (by unfold i64in; omega) e.2.2⟩
  · rintro ⟨h1, h2, h3⟩
    unfold Bal.key
    rw [h1, h2, h3]
end Go.Proofs.YtcimcodljjcmgaaGreatDoor

namespace Go.Proofs.YtcimcodljjcmgaaGreatDoor
open Go.RowKit
set_option maxRecDepth 100000

def preW : List (List UInt8) → List UInt8
  | [] => []
  | x :: P => x ++ 32 :: preW P
theorem preW_snoc : ∀ (P : List (List UInt8)) (x : List UInt8), preW (P ++ [x]) = preW P ++ (x ++ [32])
  | [], x => by simp [preW]
  | a :: P, x => by simp [preW, preW_snoc P x]
theorem join_snoc : ∀ (P : List (List UInt8)) (x : List UInt8), Lib.join (P ++ [x]) [32] = preW P ++ x
  | [], x => by rw [List.nil_append, Lib.join_one]; rfl
  | [a], x => by
    rw [List.singleton_append, join_two, Lib.join_one]
    simp [preW]
  | a :: b :: P, x => by
    have ih := join_snoc (b :: P) x
    rw [List.cons_append] at ih
    rw [List.cons_append, List.cons_append, join_two, ih]
    simp [preW]
theorem preW_len : ∀ P : List (List UInt8), P.length ≤ (preW P).length
  | [] => Nat.le_refl _
  | a :: P => by
    have := preW_len P
    simp only [preW, List.length_cons, List.length_append]
    omega
theorem preW_count : ∀ (P : List (List UInt8)), (∀ x ∈ P, (32 : UInt8) ∉ x) → (preW P).count 32 = P.length
  | [], _ => rfl
  | a :: P, h => by
    have ih := preW_count P (fun x hx => h x (by simp [hx]))
    have h0 : a.count 32 = 0 := List.count_eq_zero.2 (h a (by simp))
    simp only [preW, List.count_append, List.count_cons, ih, h0, List.length_cons]
    simp
theorem preW_split : ∀ (P : List (List UInt8)) (r : List UInt8), (∀ x ∈ P, (32 : UInt8) ∉ x) → Lib.splitK [32] 0 P.length (preW P ++ r) = P ++ [r]
  | [], r, _ => rfl
  | a :: P, r, h => by
    have ih := preW_split P r (fun x hx => h x (by simp [hx]))
    rw [preW, List.length_cons, List.append_assoc, List.cons_append, splitK_hit (h a (by simp)), ih]
    rfl
structure WInv (l : List UInt8) (P : List (List UInt8)) (fr i : Nat) : Prop where
  le : fr ≤ i
  hi : i ≤ l.length
  eq : l = preW P ++ l.drop fr
  no : (32 : UInt8) ∉ (l.drop fr).take (i - fr)
  ws : ∀ x ∈ P, (32 : UInt8) ∉ x
theorem WInv.start (l : List UInt8) : WInv l [] 0 0 := ⟨Nat.le_refl _, Nat.zero_le _, by simp [preW], by simp, by simp⟩
theorem WInv.step {l : List UInt8} {P : List (List UInt8)} {fr i : Nat} {c : UInt8} (h : WInv l P fr i) (hc : l[i]? = some c) : (l.drop fr).take (i + 1 - fr) = (l.drop fr).take (i - fr) ++ [c] := by
  have := h.le
  rw [show i + 1 - fr = (i - fr) + 1 by omega, List.take_add_one, List.getElem?_drop, show fr + (i - fr) = i by omega, hc]
  rfl
theorem WInv.other {l : List UInt8} {P : List (List UInt8)} {fr i : Nat} {c : UInt8} (h : WInv l P fr i) (hc : l[i]? = some c) (hn : c ≠ 32) : WInv l P fr (i + 1) := by
  have hl := (List.getElem?_eq_some_iff.1 hc).1
  refine ⟨by have := h.le; omega, hl, h.eq, ?_, h.ws⟩
  rw [h.step hc, List.mem_append, List.mem_singleton]
  exact fun e => e.elim h.no (fun e => hn e.symm)
theorem WInv.blank {l : List UInt8} {P : List (List UInt8)} {fr i : Nat} (h : WInv l P fr i) (hc : l[i]? = some 32) : WInv l (P ++ [(l.drop fr).take (i - fr)]) (i + 1) (i + 1) := by
  have hl := (List.getElem?_eq_some_iff.1 hc).1
  have h1 := h.le
  refine ⟨Nat.le_refl _, hl, ?_, by simp, ?_⟩
  · rw [preW_snoc, List.append_assoc, List.append_assoc]
    conv => lhs; rw [h.eq]
    congr 1
    have e := List.take_append_drop (i + 1 - fr) (l.drop fr)
    rw [h.step hc, List.drop_drop, show fr + (i + 1 - fr) = i + 1 by omega] at e
    refine e.symm.trans ?_
    simp
  · intro x hx
    rw [List.mem_append, List.mem_singleton] at hx
    rcases hx with hx | rfl
    · exact h.ws x hx
    · exact h.no
theorem WInv.done {l : List UInt8} {P : List (List UInt8)} {fr i : Nat} (h : WInv l P fr i) (hi : i = l.length) : IsWords l (P ++ [l.drop fr]) := by
  refine ⟨?_, by simp, by rw [join_snoc, ← h.eq]⟩
  have hn := h.no
  rw [List.take_of_length_le (by rw [List.length_drop]; omega)] at hn
  intro x hx
  rw [List.mem_append, List.mem_singleton] at hx
  rcases hx with hx | rfl
  · exact h.ws x hx
  · exact hn
theorem WInv.len {l : List UInt8} {P : List (List UInt8)} {fr i : Nat} (h : WInv l P fr i) : P.length ≤ fr ∧ P.length ≤ l.length := by
  have h1 := preW_len P
  have h2 := congrArg List.length h.eq
  have h3 := h.le
  have h4 := h.hi
  rw [List.length_append, List.length_drop] at h2
  omega
theorem WInv.count {l : List UInt8} {P : List (List UInt8)} {fr i : Nat} (h : WInv l P fr i) (hi : i = l.length) : l.count 32 = P.length := by
  have hn := h.no
  rw [List.take_of_length_le (by rw [List.length_drop]; omega)] at hn
  have h1 := congrArg (List.count 32) h.eq
  rw [List.count_append, preW_count P h.ws, List.count_eq_zero.2 hn] at h1
  omega
theorem hx16_dig {c : UInt8} : c ∈ hx16 ↔ ∃ n, digH c = some n := by
  constructor
  · intro h
    have h2 : ∀ c ∈ hx16, (digH c).isSome = true := by decide
    exact Option.isSome_iff_exists.1 (h2 c h)
  · rintro ⟨n, h⟩
    obtain ⟨h1, h2⟩ := hexD_digH h
    rw [← h2]
    clear h h2
    revert h1 n
    decide
end Go.Proofs.YtcimcodljjcmgaaGreatDoor
