/- JournalApart returns true: the walk. -/
import Derived.Test.YtbpbmigdfjnneaaJSan
namespace Go.Proofs.Ytbpbmigdfjnneaa
open Go.RowKit
set_option maxRecDepth 100000

def shorts (l : List (List UInt8)) (k : Nat) : List (List UInt8) := (l.take k).map shortL
theorem shorts_length (l : List (List UInt8)) (k : Nat) (h : k ≤ l.length) : (shorts l k).length = k := by simp [shorts]; omega
theorem shortL_length (s : List UInt8) : (shortL s).length ≤ 200 := by simp [shortL]; omega
theorem shorts_snoc (l : List (List UInt8)) (k : Nat) (s : List UInt8) (h : l[k]? = some s) : shorts l (k + 1) = shorts l k ++ [shortL s] := by
  simp [shorts, List.take_add_one, h]
theorem space_shorts (l : List (List UInt8)) : ∀ k, spaceL (shorts l k) ≤ 216 * k
  | 0 => by simp [shorts, spaceL]
  | k + 1 => by
    have ih := space_shorts l k
    by_cases h : k < l.length
    · rw [shorts_snoc l k _ (List.getElem?_eq_getElem h), spaceL_snoc]
      have := shortL_length l[k]
      omega
    · have e : shorts l (k + 1) = shorts l k := by simp only [shorts]; rw [List.take_of_length_le (by omega), List.take_of_length_le (by omega)]
      rw [e]; omega

/-- One element of a list of strings. -/
theorem StrsAt.at {w : World} {v : Value} {ss : List (List UInt8)} (h : StrsAt w v ss) (k : Nat) (hk : k < ss.length) : ∃ b off cap s, v = .slice (some ⟨b, off, none⟩) ss.length cap ∧ ss[k]? = some s ∧ w.cell? ⟨b, off + k, none⟩ = some (strV s) ∧ ss.length ≤ cap ∧ cap ≤ 9223372036854775807 := by
  obtain ⟨cap, h1, h2, ⟨h0, _⟩ | ⟨b, off, hv, hc⟩⟩ := h
  · rw [h0] at hk; simp at hk
  · exact ⟨b, off, cap, ss[k], hv, List.getElem?_eq_getElem hk, hc k _ (List.getElem?_eq_getElem hk), h2, h1⟩

/-- The head of a list of strings. -/
theorem StrsAt.take {w : World} {v : Value} {ss : List (List UInt8)} (h : StrsAt w v ss) (j : Nat) : ∀ (ao : Option Addr) (n cap : Nat), v = .slice ao n cap → j ≤ ss.length → StrsAt w (.slice ao j cap) (ss.take j) := by
  intro ao n cap hv hj
  obtain ⟨cap', h1, h2, ⟨rfl, ao', hv'⟩ | ⟨b, off, hv', hc⟩⟩ := h
  · rw [hv] at hv'
    cases hv'
    have : j = 0 := by simpa using hj
    subst this
    exact ⟨cap, h1, by simp, .inl ⟨by simp, ao, rfl⟩⟩
  · rw [hv] at hv'
    cases hv'
    have hl : (ss.take j).length = j := by simp; omega
    refine ⟨cap, h1, by omega, .inr ⟨b, off, by rw [hl], fun i s hi => ?_⟩⟩
    rw [List.getElem?_take] at hi
    split at hi
    · exact hc i s hi
    · cases hi

/-- Records are being appended. -/
structure Fed (w : World) (jb b : Nat) (l : List (List UInt8)) (k : Nat) (D : DiskM) (F : List UInt8) (S : List Nat) (wr : World) : Prop where
  st : JSt w w.heap.size jb b D F (shorts l k) S wr
  fail : D.failing = false
  calls : D.calls ≤ 10 + 4 * k

def FedRel (w : World) (jb b : Nat) (l : List (List UInt8)) (wr : World) (i : Value) : Prop :=
  ∃ (k : Nat) (D : DiskM) (F : List UInt8) (S : List Nat), i = .int .i64 (k : Int) ∧ k ≤ l.length ∧ k ≤ 10 ∧ Fed w jb b l k D F S wr
def FedTwo (w : World) (jb b kb c : Nat) (l m : List (List UInt8)) (nl : Nat) (wr : World) (i : Value) : Prop :=
  ∃ (k : Nat) (D : DiskM) (F : List UInt8) (S : List Nat) (D2 : DiskM) (F2 : List UInt8) (S2 : List Nat), i = .int .i64 (k : Int) ∧ k ≤ m.length ∧ k ≤ 10 ∧ Fed w jb b l nl D F S wr ∧
    JSt w w.heap.size kb c D2 F2 (shorts l nl ++ shorts m k) S2 wr ∧ D2.failing = false ∧ D2.calls ≤ 10 + 4 * k ∧ ∀ x, x ∈ jb :: S → x ∉ kb :: S2

theorem spaceL_append (a b : List (List UInt8)) : spaceL (a ++ b) = spaceL a + spaceL b := by simp [spaceL]

set_option maxHeartbeats 3200000 in
theorem walk_JournalApart (vl : Value) (l : List (List UInt8)) (vm : Value) (m : List (List UInt8)) (w : World) (hl : StrsAt w vl l) (hl2 : ∀ s ∈ l, s.length ≤ 9223372036854775807) (hm : StrsAt w vm m) (hm2 : ∀ s ∈ m, s.length ≤ 9223372036854775807) :
    Calls Try.prog 16 #[vl, vm] w (TrueB w) := by
  obtain ⟨aol, capl, rfl, hcl, hml⟩ := hl.slice
  obtain ⟨aom, capm, rfl, hcm, hmm⟩ := hm.slice
  have HL2 := Lib.hid hl2
  have HM2 := Lib.hid hm2
  clear hl2 hm2
  go_enter Try.func16, Try.ntmps16
  go_wp2_with fail
  refine (sanity25 w).mono ?_
  rintro e w1 ⟨rfl, hb⟩
  go_wp2_with fail
  refine (New_to w1).mono ?_
  rintro e w2 ⟨bd, Sd, rfl, hd2, hu2⟩
  have d2 := start_disk hb hd2 hu2
  clear hb hd2 hu2
  go_wp2_with fail
  refine (Open_fine d2.at_ JClean.empty (recsL_nil [] rfl) rfl (by decide) d2.above d2.below d2.size).mono ?_
  rintro e w3 ⟨jb, v0, S3, rfl, st3, hv0, hu3, hn3⟩
  have fed3 : Fed w jb bd l 0 DiskM.empty.synced1.count [] S3 w3 := ⟨st3, rfl, by decide⟩
  clear d2 hv0 hu3 hn3 st3
  go_wp2_with fail
  go_loopw [10] (fun i wr => FedRel w jb bd l wr i) (fun i _ => 10 - (intOf i).toNat)
  case atStart => exact ⟨0, _, _, _, rfl, Nat.zero_le _, Nat.zero_le _, fed3⟩
  case round =>
    obtain ⟨k, D, F, S, rfl, hk, hk10, fed⟩ := hrel
    clear fed3
    by_cases hgo : k < l.length ∧ k < 10
    · obtain ⟨hkl, hk9⟩ := hgo
      have hsp := space_shorts l k
      obtain ⟨b, off, cap', s, hv, hs, hc, _, _⟩ := (hl.below (fed.st.below)).at k hkl
      cases hv
      have hsl := HL2.out s (List.mem_of_getElem? hs)
      obtain ⟨y, hy⟩ : ∃ y : ByteArray, y = ⟨s.toArray⟩ := ⟨_, rfl⟩
      have hc' : wr.cell? ⟨b, off + k, none⟩ = some (.string y) := by rw [hy]; exact hc
      have hyl : y.size ≤ 9223372036854775807 := by rw [hy]; exact hsl
      have hyb : bs y = s := by rw [hy]; rfl
      have HSN := Lib.hid (shorts_snoc l k s hs)
      have HYB := Lib.hid hyb
      have hk0 : (0 : Int) ≤ (k : Int) := by omega
      have hk1 : (k : Int) < (l.length : Int) := by omega
      have hk2 : (k : Int) < 10 := by omega
      clear hc hs hy hyb
      go_wp2_with fail
      refine (short_any y wr hyl).mono ?_
      rintro e w' ⟨r, hr, rfl, rfl⟩
      have hrl : r.size ≤ 200 := by rw [← bs_length, hr.out]; exact shortL_length _
      go_wp2_with fail
      refine (App_fine fed.st r fed.fail (by have := fed.calls; omega) (by omega)).mono ?_
      rintro e w5 ⟨D5, S5, rfl, st5, _, f5, c5⟩
      have hrb : bs r = shortL s := by rw [hr.out, HYB.out]
      rw [hrb, ← HSN.out] at st5
      have fed5 : Fed w jb bd l (k + 1) D5 (F ++ frameL (shortL s)) S5 w5 := ⟨st5, f5.trans fed.fail, by have := fed.calls; omega⟩
      clear st5 f5 c5 fed hrb
      go_wp2_with fail
      go_roundw
      case rel => exact ⟨k + 1, D5, _, S5, by go_num, by omega, by omega, fed5⟩
      case measure => simp [intOf]; omega
    · obtain ⟨nl, hnl⟩ : ∃ nl : Nat, nl = k := ⟨_, rfl⟩
      have fed1 : Fed w jb bd l nl D F S wr := by rw [hnl]; exact fed
      have hlen : (shorts l nl).length = nl := by rw [hnl]; exact shorts_length l k hk
      have HLEN := Lib.hid hlen
      have hnl10 : nl ≤ 10 := by omega
      have hspl := space_shorts l nl
      have hcase : k = 10 ∧ 10 < l.length ∨ k = l.length := by omega
      clear fed hlen
      have tests : (k = 10 ∧ 10 < l.length → ((nl : Int) != 10) = false ∧ ((nl : Int) == 10) = true) ∧ (k = l.length → ((nl : Int) != (l.length : Int)) = false ∧ ((nl : Int) == (l.length : Int)) = true) := by
        refine ⟨fun h => ⟨?_, ?_⟩, fun h => ⟨?_, ?_⟩⟩
        · rw [bne_eq_false_iff_eq]; omega
        · rw [beq_iff_eq]; omega
        · rw [bne_eq_false_iff_eq]; omega
        · rw [beq_iff_eq]; omega
      obtain ⟨tA, tB⟩ := tests
      have hrest : ∀ (Z : Prop), (k = 10 ∧ 10 < l.length ∨ k = l.length) → Z → Z := fun _ _ z => z
      clear hrest hnl
      rcases hcase with ⟨rfl, hll⟩ | hkeq
      · obtain ⟨e1, e2⟩ := tA ⟨rfl, hll⟩
        clear tA tB hgo
        go_wp2_with fail
        refine (Crash_to bd D S _ [] wr fed1.st.d (nil_ints _) fed1.st.clean.ok).mono ?_
        rintro e w5 ⟨bc, Sc, rfl, hc5, hu5⟩
        have st5 := fed1.st.quiet hu5
        have dis5 := hu5.disj fed1.st.lt (by simp)
        have ac5 := hu5.above (above_nil _) fed1.st.size
        go_wp2_with fail
        refine (Open_fine (w0 := w) (B := w.heap.size) hc5 (st5.clean.crashed []) st5.recs rfl (by show 0 < 65536; decide) ac5 st5.below st5.size).mono ?_
        rintro e w6 ⟨kb, v6, S6, rfl, st6, hv6, hu6, hn6⟩
        have st5' := st5.other hu6 ac5 dis5
        have dis6' := hu6.disj st5.lt dis5
        have dis6 : ∀ x, x ∈ jb :: S → x ∉ kb :: S6 := fun x hx hm => dis6' x hx (by simp only [List.mem_cons, List.mem_append] at hm ⊢; rcases hm with h | h; exact .inl h; exact .inr (.inr h))
        have fed6 : Fed w jb bd l nl D F S w6 := ⟨st5', fed1.fail, fed1.calls⟩
        have f6 : (D.crash []).synced1.count.failing = false := rfl
        have c6 : (D.crash []).synced1.count.calls ≤ 10 := by show 0 + 1 ≤ 10; omega
        generalize (D.crash []).synced1.count = D6 at *
        obtain ⟨ao6, cap6, hv6e, _, _⟩ := row_slice hv6
        rw [HLEN.out] at hv6e
        subst hv6e
        clear st5 st5' dis5 dis6' hc5 hu5 ac5 hu6 hn6 fed1 hv6
        go_wp2_with fail
        go_loopw [15] (fun i wr => FedTwo w jb bd kb bc l m nl wr i) (fun i _ => 10 - (intOf i).toNat)
        case atStart => exact ⟨0, D, F, S, D6, F, S6, rfl, Nat.zero_le _, Nat.zero_le _, fed6, by simpa [shorts] using st6, f6, by omega, dis6⟩
        case round =>
          clear fed6 st6 f6 c6 dis6
          obtain ⟨k2, D, F, S, D2, F2, S2, rfl, hk2, hk210, fed, st2, f2, c2, dis⟩ := hrel
          have hspm := space_shorts m k2
          by_cases hgo2 : k2 < m.length ∧ k2 < 10
          · obtain ⟨hkm, hk9⟩ := hgo2
            obtain ⟨b, off, cap', s, hv, hs, hc, _, _⟩ := (hm.below (st2.below)).at k2 hkm
            cases hv
            have hsl := HM2.out s (List.mem_of_getElem? hs)
            obtain ⟨y, hy⟩ : ∃ y : ByteArray, y = ⟨s.toArray⟩ := ⟨_, rfl⟩
            have hc' : wr.cell? ⟨b, off + k2, none⟩ = some (.string y) := by rw [hy]; exact hc
            have hyl : y.size ≤ 9223372036854775807 := by rw [hy]; exact hsl
            have hyb : bs y = s := by rw [hy]; rfl
            have HSN := Lib.hid (shorts_snoc m k2 s hs)
            have HYB := Lib.hid hyb
            have hk0 : (0 : Int) ≤ (k2 : Int) := by omega
            have hk1 : (k2 : Int) < (m.length : Int) := by omega
            have hk2' : (k2 : Int) < 10 := by omega
            have hsum : spaceL (shorts l nl ++ shorts m k2) ≤ 216 * nl + 216 * k2 := by rw [spaceL_append]; omega
            clear hc hs hy hyb
            go_wp2_with fail
            refine (short_any y wr hyl).mono ?_
            rintro e w' ⟨r, hr, rfl, rfl⟩
            have hrl : r.size ≤ 200 := by rw [← bs_length, hr.out]; exact shortL_length _
            go_wp2_with fail
            refine (App_fine st2 r f2 (by omega) (by omega)).mono ?_
            rintro e w7 ⟨D7, S7, rfl, st7, hu7, f7, c7⟩
            have hrb : bs r = shortL s := by rw [hr.out, HYB.out]
            rw [hrb, List.append_assoc, ← HSN.out] at st7
            have fed7 : Fed w jb bd l nl D F S w7 := ⟨fed.st.other hu7 st2.above dis, fed.fail, fed.calls⟩
            have dis7 := hu7.disj fed.st.lt dis
            clear fed st2 hrb
            go_wp2_with fail
            go_roundw
            case rel => exact ⟨k2 + 1, D, F, S, D7, _, S7, by go_num, by omega, by omega, fed7, st7, f7.trans f2, by omega, dis7⟩
            case measure => simp [intOf]; omega
          · obtain ⟨nm, hnm⟩ : ∃ nm : Nat, nm = k2 := ⟨_, rfl⟩
            have hlm : (shorts m nm).length = nm := by rw [hnm]; exact shorts_length m k2 hk2
            rw [← hnm] at st2 c2 hspm
            have HLM := Lib.hid hlm
            have hnm10 : nm ≤ 10 := by omega
            have hcase2 : k2 = 10 ∧ 10 < m.length ∨ k2 = m.length := by omega
            have tA : k2 = 10 ∧ 10 < m.length → ((nl : Int) + (nm : Int) == (nl : Int) + 10) = true := fun h => by rw [beq_iff_eq]; omega
            have tB : k2 = m.length → ((nl : Int) + (nm : Int) == (nl : Int) + (m.length : Int)) = true := fun h => by rw [beq_iff_eq]; omega
            clear hlm hnm
            rcases hcase2 with ⟨rfl, hmm2⟩ | hkeq2
            · have e3 := tA ⟨rfl, hmm2⟩
              clear tA tB hgo2
              go_wp2_with fail
              refine (Open_fine fed.st.d fed.st.clean fed.st.recs (DiskM.off_of fed.fail) (by have := fed.calls; omega) (fun x hx => fed.st.above x (by simp [hx])) fed.st.below fed.st.size).mono ?_
              rintro e w8 ⟨ja, v8, S8, rfl, st8, hv8, hu8, hn8⟩
              have aS : Above w.heap.size S := fun x hx => fed.st.above x (by simp [hx])
              have dS : ∀ x, x ∈ kb :: S2 → x ∉ S := fun x hx hm => dis x (by simp [hm]) hx
              have st2' := st2.other hu8 aS dS
              have dv8 := hu8.disj st2.lt dS
              have nv8 : ∀ x, x ∈ foot v8 → x ∉ S2 := fun x hx hm => dv8 x (by simp [hm]) (by simp [hx])
              clear st2 fed aS dS hu8 hn8 dis st8 dv8
              go_wp2_with fail
              refine (Open_fine st2'.d st2'.clean st2'.recs (DiskM.off_of f2) (by omega) (fun x hx => st2'.above x (by simp [hx])) st2'.below st2'.size).mono ?_
              rintro e w9 ⟨jc, v9, S9, rfl, st9, hv9, hu9, hn9⟩
              have hv8' := hv8.kept hu9 nv8
              have b9 := st9.below
              have hl9 : (shorts l nl ++ shorts m nm).length = nl + nm := by rw [List.length_append, HLEN.out, HLM.out]
              have hs8 := hv8'.strs
              have hs9 := hv9.strs.take nl
              have htk : (shorts l nl ++ shorts m nm).take nl = shorts l nl := by rw [List.take_append_of_le_length (by rw [HLEN.out]; omega), List.take_of_length_le (by rw [HLEN.out]; omega)]
              rw [htk] at hs9
              obtain ⟨ao8, cap8, hv8e, _, _⟩ := row_slice hv8'
              obtain ⟨ao9, cap9, hv9e, hcap9, hmx9⟩ := row_slice hv9
              rw [HLEN.out] at hv8e
              rw [hl9] at hv9e hcap9
              subst hv8e hv9e
              have hq := Same_any _ _ _ _ w9 hs8 (hs9 _ _ _ rfl (by rw [List.length_append, HLEN.out]; omega))
              rw [decide_eq_true rfl] at hq
              have HQ := Lib.hid hq
              have hmx9' : cap9 ≤ 9223372036854775807 := hmx9
              clear hs8 hs9 htk hq hv8 hv9 hv8' nv8 st2' hu9 hn9 st9 hl9 f2 c2
              go_wp2_with fail
              refine HQ.out.mono ?_
              rintro e w' ⟨n, rfl, rfl⟩
              go_wp2_with fail
              go_ret
              exact ⟨rfl, below_drewN b9 n⟩
            · have e3 := tB hkeq2
              clear tA tB hgo2
              subst hkeq2
              go_wp2_with fail
              refine (Open_fine fed.st.d fed.st.clean fed.st.recs (DiskM.off_of fed.fail) (by have := fed.calls; omega) (fun x hx => fed.st.above x (by simp [hx])) fed.st.below fed.st.size).mono ?_
              rintro e w8 ⟨ja, v8, S8, rfl, st8, hv8, hu8, hn8⟩
              have aS : Above w.heap.size S := fun x hx => fed.st.above x (by simp [hx])
              have dS : ∀ x, x ∈ kb :: S2 → x ∉ S := fun x hx hm => dis x (by simp [hm]) hx
              have st2' := st2.other hu8 aS dS
              have dv8 := hu8.disj st2.lt dS
              have nv8 : ∀ x, x ∈ foot v8 → x ∉ S2 := fun x hx hm => dv8 x (by simp [hm]) (by simp [hx])
              clear st2 fed aS dS hu8 hn8 dis st8 dv8
              go_wp2_with fail
              refine (Open_fine st2'.d st2'.clean st2'.recs (DiskM.off_of f2) (by omega) (fun x hx => st2'.above x (by simp [hx])) st2'.below st2'.size).mono ?_
              rintro e w9 ⟨jc, v9, S9, rfl, st9, hv9, hu9, hn9⟩
              have hv8' := hv8.kept hu9 nv8
              have b9 := st9.below
              have hl9 : (shorts l nl ++ shorts m nm).length = nl + nm := by rw [List.length_append, HLEN.out, HLM.out]
              have hs8 := hv8'.strs
              have hs9 := hv9.strs.take nl
              have htk : (shorts l nl ++ shorts m nm).take nl = shorts l nl := by rw [List.take_append_of_le_length (by rw [HLEN.out]; omega), List.take_of_length_le (by rw [HLEN.out]; omega)]
              rw [htk] at hs9
              obtain ⟨ao8, cap8, hv8e, _, _⟩ := row_slice hv8'
              obtain ⟨ao9, cap9, hv9e, hcap9, hmx9⟩ := row_slice hv9
              rw [HLEN.out] at hv8e
              rw [hl9] at hv9e hcap9
              subst hv8e hv9e
              have hq := Same_any _ _ _ _ w9 hs8 (hs9 _ _ _ rfl (by rw [List.length_append, HLEN.out]; omega))
              rw [decide_eq_true rfl] at hq
              have HQ := Lib.hid hq
              have hmx9' : cap9 ≤ 9223372036854775807 := hmx9
              clear hs8 hs9 htk hq hv8 hv9 hv8' nv8 st2' hu9 hn9 st9 hl9 f2 c2
              go_wp2_with fail
              refine HQ.out.mono ?_
              rintro e w' ⟨n, rfl, rfl⟩
              go_wp2_with fail
              go_ret
              exact ⟨rfl, below_drewN b9 n⟩
      · obtain ⟨e1, e2⟩ := tB hkeq
        clear tA tB hgo
        subst hkeq
        go_wp2_with fail
        refine (Crash_to bd D S _ [] wr fed1.st.d (nil_ints _) fed1.st.clean.ok).mono ?_
        rintro e w5 ⟨bc, Sc, rfl, hc5, hu5⟩
        have st5 := fed1.st.quiet hu5
        have dis5 := hu5.disj fed1.st.lt (by simp)
        have ac5 := hu5.above (above_nil _) fed1.st.size
        go_wp2_with fail
        refine (Open_fine (w0 := w) (B := w.heap.size) hc5 (st5.clean.crashed []) st5.recs rfl (by show 0 < 65536; decide) ac5 st5.below st5.size).mono ?_
        rintro e w6 ⟨kb, v6, S6, rfl, st6, hv6, hu6, hn6⟩
        have st5' := st5.other hu6 ac5 dis5
        have dis6' := hu6.disj st5.lt dis5
        have dis6 : ∀ x, x ∈ jb :: S → x ∉ kb :: S6 := fun x hx hm => dis6' x hx (by simp only [List.mem_cons, List.mem_append] at hm ⊢; rcases hm with h | h; exact .inl h; exact .inr (.inr h))
        have fed6 : Fed w jb bd l nl D F S w6 := ⟨st5', fed1.fail, fed1.calls⟩
        have f6 : (D.crash []).synced1.count.failing = false := rfl
        have c6 : (D.crash []).synced1.count.calls ≤ 10 := by show 0 + 1 ≤ 10; omega
        generalize (D.crash []).synced1.count = D6 at *
        obtain ⟨ao6, cap6, hv6e, _, _⟩ := row_slice hv6
        rw [HLEN.out] at hv6e
        subst hv6e
        clear st5 st5' dis5 dis6' hc5 hu5 ac5 hu6 hn6 fed1 hv6
        go_wp2_with fail
        go_loopw [15] (fun i wr => FedTwo w jb bd kb bc l m nl wr i) (fun i _ => 10 - (intOf i).toNat)
        case atStart => exact ⟨0, D, F, S, D6, F, S6, rfl, Nat.zero_le _, Nat.zero_le _, fed6, by simpa [shorts] using st6, f6, by omega, dis6⟩
        case round =>
          clear fed6 st6 f6 c6 dis6
          obtain ⟨k2, D, F, S, D2, F2, S2, rfl, hk2, hk210, fed, st2, f2, c2, dis⟩ := hrel
          have hspm := space_shorts m k2
          by_cases hgo2 : k2 < m.length ∧ k2 < 10
          · obtain ⟨hkm, hk9⟩ := hgo2
            obtain ⟨b, off, cap', s, hv, hs, hc, _, _⟩ := (hm.below (st2.below)).at k2 hkm
            cases hv
            have hsl := HM2.out s (List.mem_of_getElem? hs)
            obtain ⟨y, hy⟩ : ∃ y : ByteArray, y = ⟨s.toArray⟩ := ⟨_, rfl⟩
            have hc' : wr.cell? ⟨b, off + k2, none⟩ = some (.string y) := by rw [hy]; exact hc
            have hyl : y.size ≤ 9223372036854775807 := by rw [hy]; exact hsl
            have hyb : bs y = s := by rw [hy]; rfl
            have HSN := Lib.hid (shorts_snoc m k2 s hs)
            have HYB := Lib.hid hyb
            have hk0 : (0 : Int) ≤ (k2 : Int) := by omega
            have hk1 : (k2 : Int) < (m.length : Int) := by omega
            have hk2' : (k2 : Int) < 10 := by omega
            have hsum : spaceL (shorts l nl ++ shorts m k2) ≤ 216 * nl + 216 * k2 := by rw [spaceL_append]; omega
            clear hc hs hy hyb
            go_wp2_with fail
            refine (short_any y wr hyl).mono ?_
            rintro e w' ⟨r, hr, rfl, rfl⟩
            have hrl : r.size ≤ 200 := by rw [← bs_length, hr.out]; exact shortL_length _
            go_wp2_with fail
            refine (App_fine st2 r f2 (by omega) (by omega)).mono ?_
            rintro e w7 ⟨D7, S7, rfl, st7, hu7, f7, c7⟩
            have hrb : bs r = shortL s := by rw [hr.out, HYB.out]
            rw [hrb, List.append_assoc, ← HSN.out] at st7
            have fed7 : Fed w jb bd l nl D F S w7 := ⟨fed.st.other hu7 st2.above dis, fed.fail, fed.calls⟩
            have dis7 := hu7.disj fed.st.lt dis
            clear fed st2 hrb
            go_wp2_with fail
            go_roundw
            case rel => exact ⟨k2 + 1, D, F, S, D7, _, S7, by go_num, by omega, by omega, fed7, st7, f7.trans f2, by omega, dis7⟩
            case measure => simp [intOf]; omega
          · obtain ⟨nm, hnm⟩ : ∃ nm : Nat, nm = k2 := ⟨_, rfl⟩
            have hlm : (shorts m nm).length = nm := by rw [hnm]; exact shorts_length m k2 hk2
            rw [← hnm] at st2 c2 hspm
            have HLM := Lib.hid hlm
            have hnm10 : nm ≤ 10 := by omega
            have hcase2 : k2 = 10 ∧ 10 < m.length ∨ k2 = m.length := by omega
            have tA : k2 = 10 ∧ 10 < m.length → ((nl : Int) + (nm : Int) == (nl : Int) + 10) = true := fun h => by rw [beq_iff_eq]; omega
            have tB : k2 = m.length → ((nl : Int) + (nm : Int) == (nl : Int) + (m.length : Int)) = true := fun h => by rw [beq_iff_eq]; omega
            clear hlm hnm
            rcases hcase2 with ⟨rfl, hmm2⟩ | hkeq2
            · have e3 := tA ⟨rfl, hmm2⟩
              clear tA tB hgo2
              go_wp2_with fail
              refine (Open_fine fed.st.d fed.st.clean fed.st.recs (DiskM.off_of fed.fail) (by have := fed.calls; omega) (fun x hx => fed.st.above x (by simp [hx])) fed.st.below fed.st.size).mono ?_
              rintro e w8 ⟨ja, v8, S8, rfl, st8, hv8, hu8, hn8⟩
              have aS : Above w.heap.size S := fun x hx => fed.st.above x (by simp [hx])
              have dS : ∀ x, x ∈ kb :: S2 → x ∉ S := fun x hx hm => dis x (by simp [hm]) hx
              have st2' := st2.other hu8 aS dS
              have dv8 := hu8.disj st2.lt dS
              have nv8 : ∀ x, x ∈ foot v8 → x ∉ S2 := fun x hx hm => dv8 x (by simp [hm]) (by simp [hx])
              clear st2 fed aS dS hu8 hn8 dis st8 dv8
              go_wp2_with fail
              refine (Open_fine st2'.d st2'.clean st2'.recs (DiskM.off_of f2) (by omega) (fun x hx => st2'.above x (by simp [hx])) st2'.below st2'.size).mono ?_
              rintro e w9 ⟨jc, v9, S9, rfl, st9, hv9, hu9, hn9⟩
              have hv8' := hv8.kept hu9 nv8
              have b9 := st9.below
              have hl9 : (shorts l nl ++ shorts m nm).length = nl + nm := by rw [List.length_append, HLEN.out, HLM.out]
              have hs8 := hv8'.strs
              have hs9 := hv9.strs.take nl
              have htk : (shorts l nl ++ shorts m nm).take nl = shorts l nl := by rw [List.take_append_of_le_length (by rw [HLEN.out]; omega), List.take_of_length_le (by rw [HLEN.out]; omega)]
              rw [htk] at hs9
              obtain ⟨ao8, cap8, hv8e, _, _⟩ := row_slice hv8'
              obtain ⟨ao9, cap9, hv9e, hcap9, hmx9⟩ := row_slice hv9
              rw [HLEN.out] at hv8e
              rw [hl9] at hv9e hcap9
              subst hv8e hv9e
              have hq := Same_any _ _ _ _ w9 hs8 (hs9 _ _ _ rfl (by rw [List.length_append, HLEN.out]; omega))
              rw [decide_eq_true rfl] at hq
              have HQ := Lib.hid hq
              have hmx9' : cap9 ≤ 9223372036854775807 := hmx9
              clear hs8 hs9 htk hq hv8 hv9 hv8' nv8 st2' hu9 hn9 st9 hl9 f2 c2
              go_wp2_with fail
              refine HQ.out.mono ?_
              rintro e w' ⟨n, rfl, rfl⟩
              go_wp2_with fail
              go_ret
              exact ⟨rfl, below_drewN b9 n⟩
            · have e3 := tB hkeq2
              clear tA tB hgo2
              subst hkeq2
              go_wp2_with fail
              refine (Open_fine fed.st.d fed.st.clean fed.st.recs (DiskM.off_of fed.fail) (by have := fed.calls; omega) (fun x hx => fed.st.above x (by simp [hx])) fed.st.below fed.st.size).mono ?_
              rintro e w8 ⟨ja, v8, S8, rfl, st8, hv8, hu8, hn8⟩
              have aS : Above w.heap.size S := fun x hx => fed.st.above x (by simp [hx])
              have dS : ∀ x, x ∈ kb :: S2 → x ∉ S := fun x hx hm => dis x (by simp [hm]) hx
              have st2' := st2.other hu8 aS dS
              have dv8 := hu8.disj st2.lt dS
              have nv8 : ∀ x, x ∈ foot v8 → x ∉ S2 := fun x hx hm => dv8 x (by simp [hm]) (by simp [hx])
              clear st2 fed aS dS hu8 hn8 dis st8 dv8
              go_wp2_with fail
              refine (Open_fine st2'.d st2'.clean st2'.recs (DiskM.off_of f2) (by omega) (fun x hx => st2'.above x (by simp [hx])) st2'.below st2'.size).mono ?_
              rintro e w9 ⟨jc, v9, S9, rfl, st9, hv9, hu9, hn9⟩
              have hv8' := hv8.kept hu9 nv8
              have b9 := st9.below
              have hl9 : (shorts l nl ++ shorts m nm).length = nl + nm := by rw [List.length_append, HLEN.out, HLM.out]
              have hs8 := hv8'.strs
              have hs9 := hv9.strs.take nl
              have htk : (shorts l nl ++ shorts m nm).take nl = shorts l nl := by rw [List.take_append_of_le_length (by rw [HLEN.out]; omega), List.take_of_length_le (by rw [HLEN.out]; omega)]
              rw [htk] at hs9
              obtain ⟨ao8, cap8, hv8e, _, _⟩ := row_slice hv8'
              obtain ⟨ao9, cap9, hv9e, hcap9, hmx9⟩ := row_slice hv9
              rw [HLEN.out] at hv8e
              rw [hl9] at hv9e hcap9
              subst hv8e hv9e
              have hq := Same_any _ _ _ _ w9 hs8 (hs9 _ _ _ rfl (by rw [List.length_append, HLEN.out]; omega))
              rw [decide_eq_true rfl] at hq
              have HQ := Lib.hid hq
              have hmx9' : cap9 ≤ 9223372036854775807 := hmx9
              clear hs8 hs9 htk hq hv8 hv9 hv8' nv8 st2' hu9 hn9 st9 hl9 f2 c2
              go_wp2_with fail
              refine HQ.out.mono ?_
              rintro e w' ⟨n, rfl, rfl⟩
              go_wp2_with fail
              go_ret
              exact ⟨rfl, below_drewN b9 n⟩
end Go.Proofs.Ytbpbmigdfjnneaa
