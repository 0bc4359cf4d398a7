/- The contracts of package sortesref24 (4): Crash, Where, Long. -/
import Derived.Test.YtbpbmigdfjnneaaRefC
namespace Go.Proofs.Ytbpbmigdfjnneaa
open Go.RowKit
set_option maxRecDepth 100000

theorem crashF_none (sv : List Int) (h : sv.length = 0) : ∀ (ps : List (Nat × List UInt8)) (k : Nat) (c : List UInt8), crashF sv k ps c = c
  | [], _, _ => rfl
  | p :: ps, k, c => by
    have : survives sv k = false := by simp [survives, h]
    simp only [crashF, this, Bool.false_eq_true, if_false]
    exact crashF_none sv h ps _ _

def RefM.crash (M : RefM) (sv : List Int) : RefM := ⟨crashF sv 0 M.parts M.synced, crashF sv 0 M.parts M.synced, [], 0, 0, false⟩
def RCrashed (M : RefM) (sv : List Int) (w : World) (e : Ending) (w' : World) : Prop := ∃ b', e = .returned (.pointer (some ⟨b', 0, none⟩)) ∧ RefAt w' b' (M.crash sv) [b'] ∧ Upd [] [b'] w w'

theorem refAt_boxed (w : World) (c : ByteArray) (cr : List UInt8) (h : bs c = cr) : RefAt (w.alloc (.cells #[.string c, .string c, .slice none 0 0, .int .i64 0, .int .i64 0, .bool false] 83)) w.heap.size ⟨cr, cr, [], 0, 0, false⟩ [w.heap.size] := by
  subst h
  exact ⟨.slice none 0 0, heap_alloc_new w _, World.ownsRow_nil _ _ _ _, rfl, by simp⟩

set_option maxHeartbeats 1600000 in
theorem RCrash_any (b : Nat) (M : RefM) (S : List Nat) (v : Value) (sv : List Int) (w : World) (h : RefAt w b M S) (hI : IntsAt w v sv) (hsy : M.synced.length ≤ 16777216) (hpa : ∀ p, p ∈ M.parts → p.1 + p.2.length ≤ 16777216) (hlen : M.parts.length ≤ 1099511627776) :
    Calls Try.prog 23 #[.pointer (some ⟨b, 0, none⟩), v] w (RCrashed M sv w) := by
  obtain ⟨vp, hb, hp, hSe, hn⟩ := h
  obtain ⟨sy, hsyb⟩ : ∃ sy : ByteArray, sy = ⟨M.synced.toArray⟩ := ⟨_, rfl⟩
  have c1 : w.cell? ⟨b, 1, none⟩ = some (.string sy) := by rw [hsyb]; exact cell_of_row w b 1 _ _ _ hb
  have c2 : w.cell? ⟨b, 2, none⟩ = some vp := cell_of_row w b 2 _ _ _ hb
  have HSY : Hid (bs sy = M.synced) := by rw [hsyb]; rfl
  clear hSe hn hb hsyb
  have hbl : b < w.heap.size := World.block_lt_of_cell? _ _ c2
  obtain ⟨ao, cap, rfl, hcap, hcm⟩ := row_slice hp
  obtain ⟨sa, sc, ns, rfl, hns⟩ : ∃ sa sc ns, v = .slice sa ns sc ∧ ns = sv.length := by
    obtain ⟨cap, ⟨rfl, ao, rfl⟩ | ⟨b, off, rfl, _⟩⟩ := hI
    · exact ⟨_, _, _, rfl, rfl⟩
    · exact ⟨_, _, _, rfl, rfl⟩
  have HNS := Lib.hid hns
  clear hns
  have HC2 := Lib.hid c2
  clear c2
  go_enter Try.func23, Try.ntmps23
  go_wp2_with fail
  clear c1
  by_cases hs0 : sv.length = 0
  · obtain rfl : ns = 0 := by rw [HNS.out]; exact hs0
    have hcr := crashF_none sv hs0 M.parts 0 M.synced
    have c2 := HC2.out
    by_cases h0 : 0 < M.parts.length
    all_goals
      refine wp_loop_rounds 1 ?_
      rw [rounds_succ]
      go_wp2_with fail
      go_ret
      refine ⟨w.heap.size, rfl, ?_, ?_⟩
      · have := refAt_boxed w sy _ HSY.out
        rw [← hcr] at this
        exact this
      · exact ⟨rfl, rfl, rfl, by simp, fun k hk _ => Below.heap_alloc _ _ _ hk, fun k hk => .inr (by simp at hk; omega)⟩
  · go_loopw [5, 6] (fun v i wr => ∃ (k : Nat) (c : ByteArray), i = .int .i64 (k : Int) ∧ v = .string c ∧ k ≤ M.parts.length ∧ Hid (bs c = crashF sv 0 (M.parts.take k) M.synced) ∧ c.size ≤ 16777216 ∧ Upd [] [] w wr) (fun _ i _ => M.parts.length - (intOf i).toNat)
    case atStart =>
      refine ⟨0, sy, rfl, rfl, Nat.zero_le _, HSY.out, ?_, Upd.refl _ _⟩
      have := congrArg List.length HSY.out; rw [bs_length] at this; omega
    case round =>
      obtain ⟨k, c, rfl, rfl, hk, HB, hcs, hu⟩ := hrel
      have c2 : wr.cell? ⟨b, 2, none⟩ = some (.slice ao M.parts.length cap) := (hu.cell (p := ⟨b, 2, none⟩) hbl (by simp)).trans HC2.out
      have hnsp : 0 < ns := by rw [HNS.out]; omega
      by_cases hlt : k < M.parts.length
      · obtain ⟨g, cap', cur, hv, hg, _, _, hcs2, htk⟩ := row_pos hp (by omega)
        simp only [Value.slice.injEq] at hv
        obtain ⟨rfl, _, rfl⟩ := hv
        obtain ⟨p, hpk⟩ : ∃ p, M.parts[k]? = some p := ⟨_, List.getElem?_eq_getElem hlt⟩
        obtain ⟨q1', q2'⟩ := part_cells hg htk k p hpk
        have q1 := (hu.cell (World.block_lt_of_cell? _ _ q1') (by simp)).trans q1'
        have q2 := (hu.cell (World.block_lt_of_cell? _ _ q2') (by simp)).trans q2'
        have hpb : p.1 + p.2.length ≤ 16777216 := hpa p (List.mem_of_getElem? hpk)
        have HT := Lib.hid (crashF_take sv M.parts M.synced k p hpk)
        clear hpk hg hcs2 htk q1' q2'
        obtain ⟨p1, p2⟩ := p
        simp only at q1 q2 hpb HT
        obtain ⟨sp, hsp⟩ : ∃ sp : ByteArray, sp = ⟨p2.toArray⟩ := ⟨_, rfl⟩
        rw [← hsp] at q2
        have hspl : sp.size ≤ 16777216 - p1 := by rw [hsp]; show p2.length ≤ _; omega
        have HSP : Hid (p2 = bs sp) := by rw [hsp]; rfl
        clear hsp
        obtain ⟨csx, ⟨e0, _⟩ | ⟨bsx, ofx, hvx, hcx⟩⟩ := hI
        · exact absurd (by rw [e0]; rfl) hs0
        · simp only [Value.slice.injEq] at hvx
          obtain ⟨rfl, rfl, rfl⟩ := hvx
          have hml : k % sv.length < sv.length := Nat.mod_lt _ (by omega)
          obtain ⟨z, hz⟩ : ∃ z, sv[k % sv.length]? = some z := ⟨_, List.getElem?_eq_getElem hml⟩
          have q3' := hcx _ z hz
          have q3 := (hu.cell (World.block_lt_of_cell? _ _ q3') (by simp)).trans q3'
          have hsf : survives sv k = (z.tmod 2 != 0) := by simp [survives, hz]; intro; omega
          have HT2 := HT.out
          rw [hsf] at HT2
          have HT4 := Lib.hid HT2
          have HS0 := Lib.hid hs0
          clear hcx hz q3' hsf HT2 hs0
          generalize sv.length = nsv at *
          by_cases hzb : (z.tmod 2 != 0) = true
          · have HT2 := HT4.out
            rw [if_pos hzb, ← HB.out, HSP.out] at HT2
            have HT3 := Lib.hid HT2
            clear HT2
            have HPUT := Lib.hid (RPut_any c sp p1 wr.drew (by omega) (by omega))
            go_wp2_with fail
            go_still_tail 17, (by kernel_rfl)
            go_wp2_with fail
            refine HPUT.out.mono ?_
            rintro e w3 ⟨r, rfl, hr, hu3⟩
            have hrl : r.size ≤ 16777216 := by
              have := congrArg List.length hr
              rw [bs_length, putL_length, bs_length, bs_length] at this
              omega
            have HR := Lib.hid hr
            clear hr
            go_wp2_with fail
            go_roundw
            case rel => exact ⟨k + 1, r, by go_num, rfl, by omega, by show _ = _; rw [HT3.out]; exact HR.out, hrl, hu.trans (Upd.trans (Upd.refl _ _).drew hu3)⟩
            case measure => simp [intOf]; omega
          · have hzb : (z.tmod 2 != 0) = false := by simpa using hzb
            have HT2 := HT4.out
            rw [hzb] at HT2
            simp only [Bool.false_eq_true, if_false] at HT2
            have HT3 := Lib.hid HT2
            clear HT2
            go_wp2_with fail
            go_roundw
            case rel => exact ⟨k + 1, c, by go_num, rfl, by omega, by show _ = _; rw [HT3.out]; exact HB.out, hcs, hu⟩
            case measure => simp [intOf]; omega
      · obtain rfl : k = M.parts.length := by omega
        have hB := HB.out
        rw [List.take_length] at hB
        have HB2 := Lib.hid hB
        clear hB
        go_wp2_with fail
        go_ret
        refine ⟨wr.heap.size, rfl, refAt_boxed wr c _ HB2.out, ?_⟩
        have hua := hu.alloc (.cells #[.string c, .string c, .slice none 0 0, .int .i64 0, .int .i64 0, .bool false] 83)
        exact ⟨hua.os, hua.tape, hua.output, hua.size, hua.block, fun k hk => .inr (by simp at hk; have := hu.size; omega)⟩

theorem Upd.of_nil {S T : List Nat} {w w' : World} (h : Upd [] S w w') : Upd T (T ++ S) w w' :=
  ⟨h.os, h.tape, h.output, h.size, fun k hk _ => h.block k hk (by simp), fun k hk => by
    rcases List.mem_append.1 hk with h1 | h1
    · exact .inl h1
    · rcases h.new k h1 with h2 | h2
      · simp at h2
      · exact .inr h2⟩
theorem Upd.quiet {T : List Nat} {w w' : World} (h : Upd [] [] w w') : Upd T T w w' :=
  ⟨h.os, h.tape, h.output, h.size, fun k hk _ => h.block k hk (by simp), fun k hk => .inl hk⟩

def actV (kind off n : Int) (text : ByteArray) : Value := .agg #[.int .i64 kind, .int .i64 off, .int .i64 n, .string text]
def whereL (off : Int) : Int := if off < 0 ∨ 16777216 < off then off else off % 300
def Boxed (v : Value) (w : World) (e : Ending) (w' : World) : Prop := e = .returned v ∧ Upd [] [] w w'

set_option maxHeartbeats 400000 in
theorem Where_any (kind off n : Int) (text : ByteArray) (w : World) :
    Calls Try.prog 46 #[.agg #[.int .i64 kind, .int .i64 off, .int .i64 n, .string text]] w (Boxed (.int .i64 (whereL off)) w) := by
  by_cases h1 : off < 0
  · have e : whereL off = off := if_pos (.inl h1)
    rw [e]
    clear e
    go_enter Try.func46, Try.ntmps46
    go_wp2_with fail
    go_ret
    exact ⟨rfl, (Upd.refl _ _).alloc _⟩
  · by_cases h2 : 16777216 < off
    · have e : whereL off = off := if_pos (.inr h2)
      rw [e]
      clear e
      go_enter Try.func46, Try.ntmps46
      go_wp2_with fail
      go_ret
      exact ⟨rfl, (Upd.refl _ _).alloc _⟩
    · have e : whereL off = off % 300 := if_neg (by omega)
      have E := Lib.hid e
      clear e
      go_enter Try.func46, Try.ntmps46
      go_wp2_with fail
      refine (Mod_any off 300 _ (by omega) (by omega)).mono ?_
      rintro e w' ⟨rfl, rfl⟩
      go_wp2_with fail
      go_ret
      exact ⟨by rw [E.out]; rfl, (Upd.refl _ _).alloc _⟩

def longF (t : List UInt8) (m : Nat) : Nat → List UInt8 → List UInt8
  | 0, s => s
  | f + 1, s => if 0 < s.length ∧ s.length < m then longF t m f (s ++ t) else s
def longL (t : List UInt8) (n : Int) : List UInt8 := (longF t (n % 200).toNat 200 t).take 200
theorem longF_stop (t : List UInt8) (m f : Nat) (s : List UInt8) (h : ¬ (0 < s.length ∧ s.length < m)) : longF t m f s = s := by
  cases f with
  | zero => rfl
  | succ f => simp only [longF, if_neg h]
theorem longL_length (t : List UInt8) (n : Int) : (longL t n).length ≤ 200 := by simp [longL]; omega
def Longed (text : ByteArray) (n : Int) (w : World) (e : Ending) (w' : World) : Prop := ∃ t : ByteArray, bs t = longL (bs text) n ∧ e = .returned (.string t) ∧ Upd [] [] w w'

set_option maxHeartbeats 800000 in
theorem Long_any (kind off n : Int) (text : ByteArray) (w : World) (hs : text.size ≤ 9223372036854775807) :
    Calls Try.prog 48 #[.agg #[.int .i64 kind, .int .i64 off, .int .i64 n, .string text]] w (Longed text n w) := by
  obtain ⟨m, hm⟩ : ∃ m : Nat, ((m : Nat) : Int) = n % 200 := ⟨(n % 200).toNat, by omega⟩
  have hm2 : m < 200 := by omega
  have HM := Lib.hid hm
  clear hm
  go_enter Try.func48, Try.ntmps48
  go_wp2_with fail
  generalize hW : w.alloc (.cells #[.int .i64 kind, .int .i64 off, .int .i64 n, .string text] 33) = W
  have u0 : Upd [] [] w W := by rw [← hW]; exact (Upd.refl _ _).alloc _
  have b2 : W.cell? ⟨w.heap.size, 2, none⟩ = some (.int .i64 n) := by rw [← hW]; simp
  have b3 : W.cell? ⟨w.heap.size, 3, none⟩ = some (.string text) := by rw [← hW]; simp
  clear hW
  go_loop [3] (fun v => ∃ (s : ByteArray) (f : Nat), v = .string s ∧ Hid (longF (bs text) m f (bs s) = longF (bs text) m 200 (bs text)) ∧ m ≤ s.size + f ∧ (s.size = text.size ∨ s.size ≤ 400) ∧ (0 < s.size → 0 < text.size) ∧ (s.size < 200 → text.size < 200)) (fun v => 200 - lenOf v)
  case atStart => exact ⟨text, 200, rfl, rfl, by omega, .inl rfl, id, id⟩
  case round =>
    obtain ⟨s, f, rfl, HF, hmf, hsz, ht0, ht1⟩ := hrel
    by_cases h0 : 0 < s.size
    · by_cases h1 : s.size < m
      · have hf : ∃ f', f = f' + 1 := ⟨f - 1, by omega⟩
        obtain ⟨f', rfl⟩ := hf
        have ht2 := ht1 (by omega)
        have ht3 := ht0 h0
        have hF := HF.out
        rw [longF, if_pos (by rw [bs_length]; omega)] at hF
        have HF2 := Lib.hid hF
        clear hF
        go_wp2_with (go_at_call 20; refine (Mod_any n 200 _ (by omega) (by omega)).mono ?_; rintro e w' ⟨rfl, rfl⟩; rw [← HM.out])
        go_round
        case rel =>
          refine ⟨s ++ text, f', rfl, ?_, ?_, ?_, ?_, ?_⟩
          · show _ = _; rw [bs_append]; exact HF2.out
          · rw [ByteArray.size_append]; omega
          · rw [ByteArray.size_append]; omega
          · intro _; omega
          · intro _; omega
        case measure => simp [lenOf]; omega
      · have hF := HF.out
        rw [longF_stop _ _ _ _ (by rw [bs_length]; omega)] at hF
        have HF2 := Lib.hid hF
        clear hF
        go_wp2_with (go_at_call 20; refine (Mod_any n 200 _ (by omega) (by omega)).mono ?_; rintro e w' ⟨rfl, rfl⟩; rw [← HM.out])
        all_goals
          go_ret
          refine ⟨_, ?_, rfl, u0⟩
          unfold longL
          rw [show (n % 200).toNat = m from by have := HM.out; omega, ← HF2.out]
          first | (rw [bs_extract]; simp; done) | (rw [List.take_of_length_le (by rw [bs_length]; omega)])
    · have hF := HF.out
      rw [longF_stop _ _ _ _ (by rw [bs_length]; omega)] at hF
      have HF2 := Lib.hid hF
      clear hF
      go_wp2_with (go_at_call 20; refine (Mod_any n 200 _ (by omega) (by omega)).mono ?_; rintro e w' ⟨rfl, rfl⟩; rw [← HM.out])
      all_goals
        go_ret
        refine ⟨_, ?_, rfl, u0⟩
        unfold longL
        rw [show (n % 200).toNat = m from by have := HM.out; omega, ← HF2.out]
        first | (rw [bs_extract]; simp; done) | (rw [List.take_of_length_le (by rw [bs_length]; omega)])
end Go.Proofs.Ytbpbmigdfjnneaa
