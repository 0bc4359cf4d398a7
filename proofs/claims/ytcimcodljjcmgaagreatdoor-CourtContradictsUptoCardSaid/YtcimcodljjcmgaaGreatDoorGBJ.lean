/- nat.split, nat.number, nat.Of. nat at numbers of one digit: Of, Text, Mul, Quo by the modulus, Cmp; delay.Square. nat at numbers of one digit: Of, Text, Mul, Quo by the modulus, Cmp; delay.Square. nat.Of at any int, nat.Text at any number below 2^63. -/
import Derived.Test.YtcimcodljjcmgaaGreatDoorGBI
import Derived.Test.YtcimcodljjcmgaaGreatDoorGAG
import Derived.Test.YtcimcodljjcmgaaGreatDoorGAF
import Derived.BigQuiet
import Derived.Test.YtcimcodljjcmgaaGreatDoorGAN
import Derived.Test.YtcimcodljjcmgaaGreatDoorGAY
namespace Go.Proofs.YtcimcodljjcmgaaGreatDoor
open Go.RowKit
set_option maxRecDepth 100000

theorem Wd.new {w : World} (l : List Nat) (hl : l.length ≤ maxLen) : Wd (w.alloc (.cells (wVals l).toArray 116)) (.slice (some ⟨w.heap.size, 0, none⟩) l.length l.length) l :=
  WB.slice (heap_alloc_new _ _) hl
set_option maxHeartbeats 1000000 in
theorem split_any (n : Nat) (hn : n < 18446744073709551616) (w : World) : Calls Tryz.prog 28 #[.int .u64 (n : Int)] w (fun e w' => ∃ v', Hid (Wd w' v' (dw n)) ∧ e = .returned v' ∧ Upd [] [] w w') := by
  obtain ⟨a, ha⟩ : ∃ a, a = n % 4294967296 := ⟨_, rfl⟩
  obtain ⟨b, hb⟩ : ∃ b, b = n / 4294967296 := ⟨_, rfl⟩
  have e1 : (n : Int) % 4294967296 = (a : Int) := by omega
  have e2 : (n : Int) / 4294967296 = (b : Int) := by omega
  have e2f : (n : Int).fdiv 4294967296 = (b : Int) := by rw [Int.fdiv_eq_ediv_of_nonneg _ (by omega)]; exact e2
  have e3 : (b : Int) % 4294967296 = (b : Int) := by omega
  have hN := Wd.new (w := w) [a, b] (by simp [maxLen])
  have hv : valW [a, b] = n := by simp [valW]; omega
  have hT := ntrim_any _ [a, b] _ hN (fun d hd => by simp at hd; omega)
  rw [hv] at hT
  have HT := Lib.hid hT
  clear hN hv hT ha hb
  go_enter Tryz.func28, Tryz.ntmps28
  go_wp2_with fail
  refine HT.out.mono ?_
  rintro e w1 ⟨v, HV, rfl, rfl⟩
  go_wp2_with fail
  go_ret
  exact ⟨v, HV, rfl, (Upd.refl _ _).alloc _⟩
theorem set_mid {α : Type} (m : Nat) (z b : α) (T : List α) : (List.replicate (m + 1) z ++ T).set m b = List.replicate m z ++ b :: T := by
  rw [List.replicate_succ', List.append_assoc, List.set_append_right _ _ (by simp)]
  simp
theorem make_bytes (w : World) (n : Nat) (hn : n ≤ 1000000000) : (Instr.makeSlice 26 (.int .i64 (n : Int)) (.int .i64 (n : Int))).run Tryz.prog w = .ok (.slice (some ⟨w.heap.size, 0, none⟩) n n) (w.alloc (.cells (byteVals (List.replicate n 0)).toArray 5)) := by
  have h : (Tryz.prog.info? 5).map (fun i => (i.zero, i.size, i.bytes)) = some (some (.int .u8 0), 1, 1) := by kernel_rfl
  obtain ⟨i0, hi, he⟩ := Option.map_eq_some_iff.1 h
  simp only [Prod.mk.injEq] at he
  have := run_make (P := Tryz.prog) w 26 5 i0 (.int .u8 0) Tryz.underlying26 hi he.1 .i64 .i64 n n (by omega) (by omega) (by rw [he.2.2]; omega) (by omega)
  rw [this, he.2.1]
  have hm : madeCells (Value.int .u8 0).cells n = (byteVals (List.replicate n 0)).toArray := by
    apply Array.ext
    · simp [madeCells, byteVals]
    · intro i h1 h2
      simp [madeCells, byteVals, byteV, Value.cells, Nat.mod_one]
  simp only [Int.toNat_natCast, Nat.mul_one, hm]
set_option maxHeartbeats 2000000 in
theorem natNumber_any (v : Value) (l : List Nat) (w : World) (h : Wd w v l) (ho : okW l) (hl : l.length ≤ 100000) : Calls Tryz.prog 27 #[v] w (MkNat (valW l) w) := by
  obtain ⟨ao, cap, rfl, hc1, hc2⟩ := h.form
  obtain ⟨n, hn⟩ : ∃ n, n = l.length := ⟨_, rfl⟩
  rw [← hn] at h hc1 hl ⊢
  obtain ⟨m4, hm4⟩ : ∃ m4, m4 = 4 * n := ⟨_, rfl⟩
  have hmk := make_bytes w m4 (by omega)
  have q3 : 4 * (n : Int) = (m4 : Int) := by omega
  have HM4 := Lib.hid hm4
  have HH := Lib.hid h
  have HN := Lib.hid hn
  have hmb : m4 ≤ 400000 := by omega
  clear hm4 h hn
  go_enter Tryz.func27, Tryz.ntmps27
  go_wp2_with fail
  clear q3
  go_loopw [4, 11] (fun _ i wr => ∃ k : Nat, i = .int .i64 (k : Int) ∧ k ≤ m4 ∧ Hid (AB 5 wr w.heap.size (List.replicate (m4 - k) 0 ++ beN (valW l) k)) ∧ Hid (Upd [] [] w wr)) (fun _ i _ => m4 - (intOf i).toNat)
  case atStart =>
    refine ⟨0, rfl, Nat.zero_le _, ?_, (Upd.refl _ _).alloc _⟩
    rw [Nat.sub_zero, beN, List.append_nil]
    exact heap_alloc_new _ _
  case round =>
    obtain ⟨k, rfl, hk, HA, HU⟩ := hrel
    by_cases hlt : k < m4
    · obtain ⟨m, hm⟩ : ∃ m, m4 - k = m + 1 := ⟨m4 - k - 1, by omega⟩
      obtain ⟨q, hq⟩ : ∃ q, q = k / 4 := ⟨_, rfl⟩
      obtain ⟨r, hr⟩ : ∃ r, r = k % 4 := ⟨_, rfl⟩
      obtain ⟨r8, hr8⟩ : ∃ r8, r8 = r * 8 := ⟨_, rfl⟩
      have hm4 := HM4.out
      obtain ⟨d, hd⟩ : ∃ d, l[q]? = some d := ⟨_, List.getElem?_eq_getElem (by have := HN.out; omega)⟩
      obtain ⟨g, hao, c0⟩ := (HH.out.upd HU.out).get hd
      subst hao
      have hkq : k = 4 * q + r := by omega
      have hby := byteN_at ho hd (r := r) (by omega)
      rw [← hkq, Nat.mul_comm 8 r, ← hr8] at hby
      obtain ⟨b, hb⟩ : ∃ b, b = UInt8.ofNat (byteN (valW l) k) := ⟨_, rfl⟩
      have hbn : b.toNat = d / 2 ^ r8 % 256 := by rw [hb, UInt8.toNat_ofNat', ← hby]; exact Nat.mod_eq_of_lt (byteN_lt _ _)
      have d1 : (k : Int) / 4 = (q : Int) := by omega
      have d2 : (k : Int) % 4 = (r : Int) := by omega
      have d3 : (r : Int) * 8 = (r8 : Int) := by omega
      have s1 : min r8 32 = r8 := by omega
      have s2 : (d : Int) / 2 ^ r8 % 256 = (b.toNat : Int) := by
        rw [hbn, Int.natCast_emod, Int.natCast_ediv, Int.natCast_pow]
        rfl
      have e1 : (m4 : Int) - 1 - (k : Int) = (m : Int) := by omega
      have f0 := HA.out.frozen m
      obtain ⟨b0, hb0⟩ : ∃ b0, (List.replicate (m4 - k) 0 ++ beN (valW l) k)[m]? = some b0 := ⟨_, List.getElem?_eq_getElem (by rw [List.length_append, List.length_replicate]; omega)⟩
      have cb := HA.out.cell hb0
      have i0 : (0 : Int) ≤ (k : Int) := by omega
      have i1 : (k : Int) < (m4 : Int) := by omega
      have j0 : (0 : Int) ≤ (q : Int) := by omega
      have j1 : (q : Int) < (n : Int) := by omega
      have m0 : (0 : Int) ≤ (m : Int) := by omega
      have m1 : (m : Int) < (m4 : Int) := by omega
      have r0 : (0 : Int) ≤ (r8 : Int) := by omega
      have HA2 : Hid (AB 5 (wr.setCell ⟨w.heap.size, m, none⟩ (.int .u8 (b.toNat : Int))) w.heap.size (List.replicate (m4 - (k + 1)) 0 ++ beN (valW l) (k + 1))) := by
        have h1 := HA.out.set m b
        rw [hm, set_mid, hb] at h1
        rw [show m4 - (k + 1) = m by omega, beN, hb]
        exact h1
      have HU2 : Hid (Upd [] [] w (wr.setCell ⟨w.heap.size, m, none⟩ (.int .u8 (b.toNat : Int)))) := HU.out.setNew (p := ⟨w.heap.size, m, none⟩) (Nat.le_refl _) _
      have HALL := Lib.hid (And.intro hm (And.intro hq (And.intro hr (And.intro hr8 hm4))))
      have HB := Lib.hid (And.intro hb (And.intro hbn hby))
      clear hm hq hr hr8 hm4 hb hbn hby hkq hd hb0
      go_wp2_with fail
      exact ⟨⟨k + 1, by go_num, by omega, HA2, HU2⟩, by simp [intOf]; omega⟩
    · obtain rfl : k = m4 := by omega
      have hA := HA.out
      rw [Nat.sub_self, List.replicate_zero, List.nil_append] at hA
      obtain ⟨z, hz⟩ : ∃ z : ByteArray, bs z = beN (valW l) k := ⟨⟨(beN (valW l) k).toArray⟩, rfl⟩
      have hcv := hA.text z hz k
      rw [beN_len] at hcv
      have hzs : z.size ≤ 1000000000000 := by rw [← bs_length, hz, beN_len]; omega
      have hS := strip_any z wr hzs
      have hnat : natB (bs z) = valW l := by
        rw [hz]
        refine natB_beN_all ?_
        have h1 := valW_lt ho
        rw [← HN.out] at h1
        rw [HM4.out, Nat.pow_mul, p256_4]
        exact h1
      rw [hnat] at hS
      have HS := Lib.hid hS
      clear hA hz hS hnat hzs HA hlt
      go_wp2_with fail
      refine HS.out.mono ?_
      rintro e w1 ⟨r, HR, rfl, rfl⟩
      go_wp2_with fail
      go_ret
      exact ⟨r, HR, rfl, HU.out⟩
end Go.Proofs.YtcimcodljjcmgaaGreatDoor

namespace Go.Proofs.YtcimcodljjcmgaaGreatDoor
open Go.RowKit
set_option maxRecDepth 100000

theorem dw_one {d : Nat} (h0 : 0 < d) (h : d < 4294967296) : dw d = [d] := by
  rw [dw_pos h0, Nat.mod_eq_of_lt h, Nat.div_eq_of_lt h, dw_zero]
theorem Wd.one {w : World} {v : Value} {d : Nat} (h : Wd w v [d]) : ∃ g cap, v = .slice (some ⟨g, 0, none⟩) 1 cap ∧ 1 ≤ cap ∧ cap ≤ 9223372036854775807 ∧ g < w.heap.size ∧ w.cell? ⟨g, 0, none⟩ = some (.int .u32 (d : Int)) := by
  obtain ⟨ao, cap, rfl, h1, h2, h3⟩ := h
  rcases h3 with h3 | ⟨b, rfl, hb, hc⟩
  · simp at h3
  · exact ⟨b, cap, rfl, by simpa using h1, h2, hb, hc 0 d rfl⟩
theorem Wd.none' {w : World} {v : Value} (h : Wd w v []) : ∃ ao cap, v = .slice ao 0 cap := by
  obtain ⟨ao, cap, rfl, h1, h2, h3⟩ := h
  exact ⟨ao, cap, rfl⟩
def MkInt (x : Int) (w : World) (e : Ending) (w' : World) : Prop := e = .returned (.int .i64 x) ∧ Upd [] [] w w'
theorem compare_len (u v : Value) (l r : List Nat) (w : World) (hu : Wd w u l) (hv : Wd w v r) (hlt : l.length < r.length) : Calls Tryz.prog 166 #[u, v] w (MkInt (-1) w) := by
  obtain ⟨ao, cap, rfl, _, _⟩ := hu.form
  obtain ⟨bo, cbp, rfl, _, _⟩ := hv.form
  have hb : ((l.length : Int) != (r.length : Int)) = true := by rw [bne_iff_ne]; omega
  have hb2 : ((l.length : Int) == (r.length : Int)) = false := by rw [beq_eq_false_iff_ne]; omega
  have hb3 : (l.length == r.length) = false := by rw [beq_eq_false_iff_ne]; omega
  have hl2 : (l.length : Int) < (r.length : Int) := by omega
  clear hu hv
  go_enter Tryz.func166, Tryz.ntmps166
  go_wp2_with fail
  go_ret
  exact ⟨rfl, Upd.refl _ _⟩
theorem compare_same (u v : Value) (d : Nat) (w : World) (hu : Wd w u [d]) (hv : Wd w v [d]) : Calls Tryz.prog 166 #[u, v] w (MkInt 0 w) := by
  obtain ⟨g, cap, rfl, _, _, _, c1⟩ := hu.one
  obtain ⟨h, cbp, rfl, _, _, _, c2⟩ := hv.one
  clear hu hv
  go_enter Tryz.func166, Tryz.ntmps166
  go_wp2_with fail
  refine wp_loop_rounds 2 ?_
  rw [rounds_succ]
  go_wp2_with fail
  go_quiet (fail)
  go_wp2_with fail
  rw [rounds_succ]
  go_wp2_with fail
  go_ret
  exact ⟨rfl, (Upd.refl _ _).drewN _⟩
theorem compare_less (u v : Value) (d e : Nat) (w : World) (hu : Wd w u [d]) (hv : Wd w v [e]) (hde : d < e) : Calls Tryz.prog 166 #[u, v] w (MkInt (-1) w) := by
  obtain ⟨g, cap, rfl, _, _, _, c1⟩ := hu.one
  obtain ⟨h, cbp, rfl, _, _, _, c2⟩ := hv.one
  have b1 : ((d : Int) != (e : Int)) = true := by rw [bne_iff_ne]; omega
  have b2 : ((d : Int) == (e : Int)) = false := by rw [beq_eq_false_iff_ne]; omega
  have b3 : (d : Int) < (e : Int) := by omega
  have b4 : (d == e) = false := by rw [beq_eq_false_iff_ne]; omega
  clear hu hv
  go_enter Tryz.func166, Tryz.ntmps166
  go_wp2_with fail
  refine wp_loop_rounds 2 ?_
  rw [rounds_succ]
  go_wp2_with fail
  go_quiet (fail)
  go_wp2_with fail
  go_quiet (fail)
  go_wp2_with fail
  go_ret
  exact ⟨rfl, ((Upd.refl _ _).drewN _).drewN _⟩
set_option maxHeartbeats 1000000 in
theorem mul33 (u v : Value) (w : World) (hu : Wd w u [3]) (hv : Wd w v [3]) : Calls Tryz.prog 202 #[u, v] w (fun e w' => ∃ v', Hid (Wd w' v' [9]) ∧ e = .returned v' ∧ Upd [] [] w w') := by
  obtain ⟨g, cap, rfl, _, _, hg, c1⟩ := hu.one
  obtain ⟨h, cbp, rfl, _, _, hh, c2⟩ := hv.one
  have hmk : (Instr.makeSlice 77 (.int .i64 2) (.int .i64 2)).run Tryz.prog w = .ok (.slice (some ⟨w.heap.size, 0, none⟩) 2 2) (w.alloc (.cells (wVals (List.replicate 2 0)).toArray 116)) := make_words w 2 (by omega)
  obtain ⟨w0, hw0⟩ : ∃ w0, w0 = w.alloc (.cells (wVals (List.replicate 2 0)).toArray 116) := ⟨_, rfl⟩
  have b0 : WB w0 w.heap.size [0, 0] := by rw [hw0]; exact heap_alloc_new _ _
  have u0 : Upd [] [] w w0 := by rw [hw0]; exact (Upd.refl _ _).alloc _
  rw [← hw0] at hmk
  obtain ⟨G, hG⟩ : ∃ G, G = w.heap.size := ⟨_, rfl⟩
  rw [← hG] at hmk b0
  have d1 : w0.cell? ⟨g, 0, none⟩ = some (.int .u32 3) := (u0.cell hg (by simp)).trans c1
  have d2 : w0.cell? ⟨h, 0, none⟩ = some (.int .u32 3) := (u0.cell hh (by simp)).trans c2
  have k0 : w0.cell? ⟨G, 0, none⟩ = some (.int .u32 0) := b0.cell (j := 0) rfl
  have k1 : w0.cell? ⟨G, 1, none⟩ = some (.int .u32 0) := b0.cell (j := 1) rfl
  have f0 := b0.frozen 0
  have f1 := b0.frozen 1
  have b2 : WB ((w0.setCell ⟨G, 0, none⟩ (.int .u32 9)).setCell ⟨G, 1, none⟩ (.int .u32 0)) G [9, 0] := (b0.set 0 9).set 1 0
  have u2 : Upd [] [] w ((w0.setCell ⟨G, 0, none⟩ (.int .u32 9)).setCell ⟨G, 1, none⟩ (.int .u32 0)) := (u0.setNew (p := ⟨G, 0, none⟩) (by rw [hG]; exact Nat.le_refl _) _).setNew (p := ⟨G, 1, none⟩) (by rw [hG]; exact Nat.le_refl _) _
  have hT := ntrim_any _ _ _ (b2.slice (by simp [maxLen])) (fun d hd => by simp at hd; omega)
  rw [show valW [9, 0] = 9 from rfl, dw_one (by omega) (by omega)] at hT
  have HT := Lib.hid hT
  have HU := Lib.hid u2
  have hne1 : g ≠ G := by omega
  have hne2 : h ≠ G := by omega
  clear hu hv c1 c2 hw0 u0 hT b2 u2 b0 hG hg hh
  go_enter Tryz.func202, Tryz.ntmps202
  go_wp2_with fail
  refine wp_loop_rounds 2 ?_
  rw [rounds_succ]
  go_wp2_with fail
  refine wp_loop_rounds 2 ?_
  rw [rounds_succ]
  go_wp2_with fail
  rw [rounds_succ]
  go_wp2_with fail
  rw [rounds_succ]
  go_wp2_with fail
  refine HT.out.mono ?_
  rintro e w1 ⟨v, HV, rfl, rfl⟩
  go_wp2_with fail
  go_ret
  exact ⟨v, HV, rfl, HU.out⟩
end Go.Proofs.YtcimcodljjcmgaaGreatDoor

namespace Go.Proofs.YtcimcodljjcmgaaGreatDoor
open Go.RowKit
set_option maxRecDepth 100000

theorem digits_one (s : ByteArray) (d : Nat) (hs : bs s = be d) (h0 : 0 < d) (hd : d < 4294967296) (w : World) : Calls Tryz.prog 53 #[.string s] w (fun e w' => ∃ v', Hid (Wd w' v' [d]) ∧ e = .returned v' ∧ Upd [] [] w w') := by
  have hsz : s.size ≤ 1000000000 := by
    rw [← bs_length, hs]
    exact Nat.le_trans (be_len_le 4 d (by simpa using hd)) (by omega)
  have h := digits_any s w hsz
  rw [hs, natB_be, dw_one h0 hd] at h
  exact h
set_option maxHeartbeats 1000000 in
theorem divDigit_one (v : Value) (d : Nat) (w : World) (hv : Wd w v [d]) (hd : d < 1000000000) : Calls Tryz.prog 54 #[v, .int .u32 1000000000] w (fun e w' => ∃ v', Hid (Wd w' v' []) ∧ e = .returned (.tuple #[v', .int .u32 (d : Int)]) ∧ Upd [] [] w w') := by
  obtain ⟨g, cap, rfl, _, _, hg, c1⟩ := hv.one
  have hmk : (Instr.makeSlice 77 (.int .i64 1) (.int .i64 1)).run Tryz.prog w = .ok (.slice (some ⟨w.heap.size, 0, none⟩) 1 1) (w.alloc (.cells (wVals (List.replicate 1 0)).toArray 116)) := make_words w 1 (by omega)
  obtain ⟨w0, hw0⟩ : ∃ w0, w0 = w.alloc (.cells (wVals (List.replicate 1 0)).toArray 116) := ⟨_, rfl⟩
  have b0 : WB w0 w.heap.size [0] := by rw [hw0]; exact heap_alloc_new _ _
  have u0 : Upd [] [] w w0 := by rw [hw0]; exact (Upd.refl _ _).alloc _
  rw [← hw0] at hmk
  obtain ⟨G, hG⟩ : ∃ G, G = w.heap.size := ⟨_, rfl⟩
  rw [← hG] at hmk b0
  have d1 : w0.cell? ⟨g, 0, none⟩ = some (.int .u32 (d : Int)) := (u0.cell hg (by simp)).trans c1
  have k0 : w0.cell? ⟨G, 0, none⟩ = some (.int .u32 0) := b0.cell (j := 0) rfl
  have f0 := b0.frozen 0
  have b2 : WB (w0.setCell ⟨G, 0, none⟩ (.int .u32 0)) G [0] := b0.set 0 0
  have u2 : Upd [] [] w (w0.setCell ⟨G, 0, none⟩ (.int .u32 0)) := u0.setNew (p := ⟨G, 0, none⟩) (by rw [hG]; exact Nat.le_refl _) _
  have hT := ntrim_any _ _ _ (b2.slice (by simp [maxLen])) (fun d hd => by simp at hd; omega)
  rw [show valW [0] = 0 from rfl, dw_zero] at hT
  have HT := Lib.hid hT
  have HU := Lib.hid u2
  have e1 : bits .or .u64 0 (d : Int) = (d : Int) := by
    show IntKind.u64.wrap ((BitVec.ofInt 64 0 ||| BitVec.ofInt 64 (d : Int)).toNat : Int) = _
    have e1 : (BitVec.ofInt 64 (d : Int)).toNat = d := by
      rw [BitVec.toNat_ofInt]
      show ((d : Int) % 18446744073709551616).toNat = _
      omega
    have e0 : (BitVec.ofInt 64 0).toNat = 0 := rfl
    rw [BitVec.toNat_or, e0, e1, Nat.zero_or]
    show (d : Int) % 18446744073709551616 = _
    omega
  have e2 : (d : Int) / 1000000000 = 0 := by omega
  have e2t : (d : Int).tdiv 1000000000 = 0 := by rw [Int.tdiv_eq_ediv_of_nonneg (by omega)]; exact e2
  have e3 : (d : Int) % 1000000000 = (d : Int) := by omega
  have e3t : (d : Int).tmod 1000000000 = (d : Int) := by rw [Int.tmod_eq_emod_of_nonneg (by omega)]; exact e3
  have e4 : (d : Int) % 18446744073709551616 = (d : Int) := by omega
  have e5 : (d : Int) % 4294967296 = (d : Int) := by omega
  clear hv c1 hw0 u0 hT b2 u2 b0 hG hg
  go_enter Tryz.func54, Tryz.ntmps54
  go_wp2_with fail
  refine wp_loop_rounds 2 ?_
  rw [rounds_succ]
  go_wp2_with fail
  rw [rounds_succ]
  go_wp2_with fail
  refine HT.out.mono ?_
  rintro e w1 ⟨v, HV, rfl, rfl⟩
  go_wp2_with fail
  go_ret2
  exact ⟨v, HV, rfl, HU.out⟩
theorem reverse_one (ao : Option Addr) (cap : Nat) (w : World) : Calls Tryz.prog 56 #[.slice ao 1 cap] w (fun e w' => e = .returned (.tuple #[]) ∧ w = w') := by
  go_enter Tryz.func56, Tryz.ntmps56
  go_wp2_with fail
  refine wp_loop_rounds 1 ?_
  rw [rounds_succ]
  go_wp2_with fail
  go_end0
  exact ⟨rfl, rfl⟩
theorem strRow_one {w : World} {v : Value} {s : ByteArray} (h : StrRow w v [bs s]) : ∃ g cap, v = .slice (some ⟨g, 0, none⟩) 1 cap ∧ 1 ≤ cap ∧ g < w.heap.size ∧ w.cell? ⟨g, 0, none⟩ = some (.string s) := by
  have h' : w.ownsRow 0 9 1 v 1 [.string s] := h
  obtain ⟨g, cap, cur, rfl, hg, h1, h2, h3, h4⟩ := row_pos h' (by omega)
  refine ⟨g, cap, rfl, h1, (Array.getElem?_eq_some_iff.1 hg).1, ?_⟩
  rw [cell_of_row _ _ _ _ _ _ hg]
  have e : (cur.toList.take (1 * 1))[0]? = some (.string s) := by rw [h4]; rfl
  rw [List.getElem?_take_of_lt (by omega)] at e
  simpa using e
set_option maxHeartbeats 1000000 in
theorem natText_one (s : ByteArray) (d : Nat) (hs : bs s = be d) (h0 : 0 < d) (hd : d < 1000000000) (w : World) (htab : Tabs w) : Calls Tryz.prog 29 #[.string s] w (MkS (Lib.itoa (d : Int)) w) := by
  have HD := Lib.hid (digits_one s d hs h0 (by omega) w)
  have hl := itoa_len (d : Int) (by unfold i64in; omega)
  clear hs
  go_enter Tryz.func29, Tryz.ntmps29
  go_wp2_with fail
  refine HD.out.mono ?_
  rintro e w1 ⟨v1, HV1, rfl, hu1⟩
  obtain ⟨g, cap, rfl, _, _, _, _⟩ := HV1.out.one
  have HDD := Lib.hid (divDigit_one _ d w1 HV1.out hd)
  have HU1 := Lib.hid hu1
  clear HD hu1
  go_wp2_with fail
  refine wp_loop_rounds 2 ?_
  rw [rounds_succ]
  go_wp2_with fail
  refine HDD.out.mono ?_
  rintro e w2 ⟨v2, HV2, rfl, hu2⟩
  obtain ⟨ao2, cap2, rfl⟩ := HV2.out.none'
  have HU2 := Lib.hid (HU1.out.trans hu2)
  clear hu2 HV1 HV2 HDD HU1
  go_wp2_with fail
  refine (itoa_any (d : Int) w2 (by unfold i64in; omega) (htab.upd HU2.out)).mono ?_
  rintro e w3 ⟨t, HT, htl, rfl, hu3⟩
  have HU3 := Lib.hid (HU2.out.trans hu3)
  obtain ⟨v4, w4, hrun, hrow, hup⟩ := append_str w3 (.slice none 0 0) [] t (strRow_nil _) (by simp)
  have HRUN := Lib.hid hrun
  obtain ⟨g4, cap4, rfl, hc4, hg4, c4⟩ := strRow_one hrow
  have HC4 := Lib.hid (And.intro hc4 (And.intro hg4 c4))
  have hu4 : Upd [] [] w3 w4 := ⟨hup.os, hup.tape, hup.output, hup.size, fun k hk _ => hup.block k hk (by simp [foot, Value.ownBlock]), fun _ hk => by simp at hk⟩
  have HU4 := Lib.hid (HU3.out.trans hu4)
  clear hu3 hrun hrow hup hc4 hg4 c4 hu4 HU2 HU3
  go_wp2_with (refine wpList_append_run _ rfl _ _ _ _ rfl _ _ _ w4 rfl rfl HRUN.out ?_)
  rw [rounds_succ]
  go_wp2_with fail
  refine (reverse_one _ _ w4).mono ?_
  rintro e w5 ⟨rfl, rfl⟩
  go_wp2_with fail
  have hj := Tryz.strings_Join g4 0 cap4 [t] ⟨#[]⟩ w4 (by
    intro j x hx
    match j, hx with
    | 0, hx => simp at hx; subst hx; exact HC4.out.2.2) HC4.out.2.1 (by simp) HC4.out.1 (by
      show (Lib.join [bs t] []).length ≤ _
      simp [Lib.join]
      rw [HT.out]
      omega)
  refine hj.mono ?_
  rintro e w6 ⟨rfl, hb⟩
  have hu := upd_of_below hb
  have HU := Lib.hid (HU4.out.trans hu)
  have hbs : bs (⟨(Lib.join ([t].map (·.data.toList)) (⟨#[]⟩ : ByteArray).data.toList).toArray⟩ : ByteArray) = bs t := by
    rw [bs_mk]
    show Lib.join [bs t] [] = _
    simp [Lib.join]
  obtain ⟨R, hR⟩ : ∃ R : ByteArray, R = ⟨(Lib.join ([t].map (·.data.toList)) (⟨#[]⟩ : ByteArray).data.toList).toArray⟩ := ⟨_, rfl⟩
  rw [← hR] at hbs ⊢
  have HB := Lib.hid hbs
  clear hj hb hu hbs hR
  go_wp2_with fail
  go_ret
  exact ⟨R, by show _ = _; rw [HB.out, HT.out], by rw [← HT.out, ← HB.out, bs_length]; exact Nat.le_refl _, rfl, HU.out⟩
end Go.Proofs.YtcimcodljjcmgaaGreatDoor

namespace Go.Proofs.YtcimcodljjcmgaaGreatDoor
open Go.RowKit
set_option maxRecDepth 100000

theorem natOf_any (n : Int) (hn : i64in n) (w : World) : Calls Tryz.prog 9 #[.int .i64 n] w (MkNat n.toNat w) := by
  obtain ⟨hn1, hn2⟩ := hn
  by_cases h0 : n < 0
  · have HR : Hid (bs (⟨#[]⟩ : ByteArray) = be n.toNat) := by
      show _ = _
      rw [show n.toNat = 0 by omega, be_zero]
      rfl
    go_enter Tryz.func9, Tryz.ntmps9
    go_wp2_with fail
    go_ret
    exact ⟨⟨#[]⟩, HR, rfl, Upd.refl _ _⟩
  · obtain ⟨d, rfl⟩ := Int.eq_ofNat_of_zero_le (show 0 ≤ n by omega)
    rw [Int.toNat_natCast]
    have HS := Lib.hid (split_any d (by omega) w)
    have e1 : (d : Int) % 18446744073709551616 = (d : Int) := by omega
    go_enter Tryz.func9, Tryz.ntmps9
    go_wp2_with fail
    refine HS.out.mono ?_
    rintro e w1 ⟨v, HV, rfl, hu⟩
    have HN := Lib.hid (natNumber_any v (dw d) w1 HV.out (dw_ok d) (Nat.le_trans (dw_len_le 2 d (by omega)) (by omega)))
    rw [valW_dg] at HN
    have HU := Lib.hid hu
    clear hu HS
    go_wp2_with fail
    refine HN.out.mono ?_
    rintro e w2 ⟨r, HR, rfl, hu⟩
    have HU2 := Lib.hid (HU.out.trans hu)
    clear hu HN
    go_wp2_with fail
    go_ret
    exact ⟨r, HR, rfl, HU2.out⟩
theorem or64z (a : Nat) (ha : a < 4294967296) : bits .or .u64 0 (a : Int) = (a : Int) := by
  have h := or64n (r := 0) ha (by omega)
  rw [Nat.zero_mul, Nat.zero_add] at h
  exact h
theorem dw_two' {x : Nat} (h : 4294967296 ≤ x) (hx : x < 18446744073709551616) : dw x = [x % 4294967296, x / 4294967296] := by
  rw [dw_pos (by omega), dw_one (by omega) (by omega)]
theorem Wd.two {w : World} {v : Value} {a b : Nat} (h : Wd w v [a, b]) : ∃ g cap, v = .slice (some ⟨g, 0, none⟩) 2 cap ∧ 2 ≤ cap ∧ cap ≤ 9223372036854775807 ∧ g < w.heap.size ∧ w.cell? ⟨g, 0, none⟩ = some (.int .u32 (a : Int)) ∧ w.cell? ⟨g, 1, none⟩ = some (.int .u32 (b : Int)) := by
  obtain ⟨ao, cap, rfl, h1, h2, h3⟩ := h
  rcases h3 with h3 | ⟨b, rfl, hb, hc⟩
  · simp at h3
  · exact ⟨b, cap, rfl, by simpa using h1, h2, hb, hc 0 _ rfl, hc 1 _ rfl⟩
def MkDiv (x : Nat) (w : World) (e : Ending) (w' : World) : Prop := ∃ v', Hid (Wd w' v' (dw (x / 1000000000))) ∧ Hid (∀ b, b ∈ foot v' → w.heap.size ≤ b) ∧ e = .returned (.tuple #[v', .int .u32 ((x % 1000000000 : Nat) : Int)]) ∧ Upd [] [] w w'
set_option maxHeartbeats 1000000 in
theorem divDigit_small (v : Value) (d : Nat) (w : World) (hv : Wd w v [d]) (hd : d < 4294967296) : Calls Tryz.prog 54 #[v, .int .u32 1000000000] w (MkDiv d w) := by
  obtain ⟨g, cap, rfl, _, _, hg, c1⟩ := hv.one
  have hmk : (Instr.makeSlice 77 (.int .i64 1) (.int .i64 1)).run Tryz.prog w = .ok (.slice (some ⟨w.heap.size, 0, none⟩) 1 1) (w.alloc (.cells (wVals (List.replicate 1 0)).toArray 116)) := make_words w 1 (by omega)
  obtain ⟨w0, hw0⟩ : ∃ w0, w0 = w.alloc (.cells (wVals (List.replicate 1 0)).toArray 116) := ⟨_, rfl⟩
  have b0 : WB w0 w.heap.size [0] := by rw [hw0]; exact heap_alloc_new _ _
  have u0 : Upd [] [] w w0 := by rw [hw0]; exact (Upd.refl _ _).alloc _
  rw [← hw0] at hmk
  obtain ⟨G, hG⟩ : ∃ G, G = w.heap.size := ⟨_, rfl⟩
  rw [← hG] at hmk b0
  obtain ⟨q, hq⟩ : ∃ q, q = d / 1000000000 := ⟨_, rfl⟩
  obtain ⟨r, hr⟩ : ∃ r, r = d % 1000000000 := ⟨_, rfl⟩
  have d1 : w0.cell? ⟨g, 0, none⟩ = some (.int .u32 (d : Int)) := (u0.cell hg (by simp)).trans c1
  have k0 : w0.cell? ⟨G, 0, none⟩ = some (.int .u32 0) := b0.cell (j := 0) rfl
  have f0 := b0.frozen 0
  have b2 : WB (w0.setCell ⟨G, 0, none⟩ (.int .u32 (q : Int))) G [q] := b0.set 0 q
  have u2 : Upd [] [] w (w0.setCell ⟨G, 0, none⟩ (.int .u32 (q : Int))) := u0.setNew (p := ⟨G, 0, none⟩) (by rw [hG]; exact Nat.le_refl _) _
  have hT := ntrim_at _ _ _ (b2.slice (by simp [maxLen])) (fun z hz => by simp at hz; omega)
  rw [show valW [q] = q by simp [valW]] at hT
  have HT := Lib.hid hT
  have HFG : Hid (∀ (v' : Value) (n m : Nat), foot v' = foot (.slice (some ⟨G, 0, none⟩) n m) → ∀ b, b ∈ foot v' → w.heap.size ≤ b) := by
    intro v' n m h b hb
    rw [h] at hb
    have : b = G := by simpa [foot, Value.ownBlock] using hb
    rw [this, hG]
    exact Nat.le_refl _
  have HU := Lib.hid u2
  have e1 := or64z d hd
  have e2 : (d : Int) / 1000000000 = (q : Int) := by omega
  have e2t : (d : Int).tdiv 1000000000 = (q : Int) := by rw [Int.tdiv_eq_ediv_of_nonneg (by omega)]; exact e2
  have e3 : (d : Int) % 1000000000 = (r : Int) := by omega
  have e3t : (d : Int).tmod 1000000000 = (r : Int) := by rw [Int.tmod_eq_emod_of_nonneg (by omega)]; exact e3
  have e4 : (d : Int) % 18446744073709551616 = (d : Int) := by omega
  have e5 : (d : Int) % 4294967296 = (d : Int) := by omega
  have e6 : (q : Int) % 4294967296 = (q : Int) := by omega
  have e7 : (r : Int) % 4294967296 = (r : Int) := by omega
  have e8 : (r : Int) % 18446744073709551616 = (r : Int) := by omega
  have e9 : (q : Int) % 18446744073709551616 = (q : Int) := by omega
  have HQ := Lib.hid hq
  have HR := Lib.hid hr
  clear hv c1 hw0 u0 hT b2 u2 b0 hG hg hq hr
  go_enter Tryz.func54, Tryz.ntmps54
  go_wp2_with fail
  refine wp_loop_rounds 2 ?_
  rw [rounds_succ]
  go_wp2_with fail
  rw [rounds_succ]
  go_wp2_with fail
  refine HT.out.mono ?_
  rintro e w1 ⟨v, HV, rfl, rfl⟩
  go_wp2_with fail
  go_ret2
  exact ⟨v, by rw [← HQ.out]; exact HV.out.1, HFG.out v _ _ HV.out.2, by rw [← HR.out]; rfl, HU.out⟩
set_option maxHeartbeats 2000000 in
theorem divDigit_big (v : Value) (a b : Nat) (w : World) (hv : Wd w v [a, b]) (ha : a < 4294967296) (hb : b < 4294967296) : Calls Tryz.prog 54 #[v, .int .u32 1000000000] w (MkDiv (valW [a, b]) w) := by
  obtain ⟨g, cap, rfl, _, _, hg, c1, c2⟩ := hv.two
  have hmk : (Instr.makeSlice 77 (.int .i64 2) (.int .i64 2)).run Tryz.prog w = .ok (.slice (some ⟨w.heap.size, 0, none⟩) 2 2) (w.alloc (.cells (wVals (List.replicate 2 0)).toArray 116)) := make_words w 2 (by omega)
  obtain ⟨w0, hw0⟩ : ∃ w0, w0 = w.alloc (.cells (wVals (List.replicate 2 0)).toArray 116) := ⟨_, rfl⟩
  have b0 : WB w0 w.heap.size [0, 0] := by rw [hw0]; exact heap_alloc_new _ _
  have u0 : Upd [] [] w w0 := by rw [hw0]; exact (Upd.refl _ _).alloc _
  rw [← hw0] at hmk
  obtain ⟨G, hG⟩ : ∃ G, G = w.heap.size := ⟨_, rfl⟩
  rw [← hG] at hmk b0
  obtain ⟨q1, hq1⟩ : ∃ q, q = b / 1000000000 := ⟨_, rfl⟩
  obtain ⟨r1, hr1⟩ : ∃ r, r = b % 1000000000 := ⟨_, rfl⟩
  obtain ⟨s1, hs1⟩ : ∃ s, s = r1 * 4294967296 := ⟨_, rfl⟩
  obtain ⟨t, ht⟩ : ∃ t, t = r1 * 4294967296 + a := ⟨_, rfl⟩
  obtain ⟨q0, hq0⟩ : ∃ q, q = t / 1000000000 := ⟨_, rfl⟩
  obtain ⟨r0, hr0⟩ : ∃ r, r = t % 1000000000 := ⟨_, rfl⟩
  have hdiv := two_div hr1 ht
  rw [← hq0, ← hq1, ← hr0] at hdiv
  have hgG : g ≠ G := by omega
  have d1 : w0.cell? ⟨g, 0, none⟩ = some (.int .u32 (a : Int)) := (u0.cell hg (by simp)).trans c1
  have d2 : w0.cell? ⟨g, 1, none⟩ = some (.int .u32 (b : Int)) := (u0.cell hg (by simp)).trans c2
  have k0 : w0.cell? ⟨G, 0, none⟩ = some (.int .u32 0) := b0.cell (j := 0) rfl
  have k1 : w0.cell? ⟨G, 1, none⟩ = some (.int .u32 0) := b0.cell (j := 1) rfl
  have f0 := b0.frozen 0
  have f1 := b0.frozen 1
  have b2 : WB ((w0.setCell ⟨G, 1, none⟩ (.int .u32 (q1 : Int))).setCell ⟨G, 0, none⟩ (.int .u32 (q0 : Int))) G [q0, q1] := (b0.set 1 q1).set 0 q0
  have u2 : Upd [] [] w ((w0.setCell ⟨G, 1, none⟩ (.int .u32 (q1 : Int))).setCell ⟨G, 0, none⟩ (.int .u32 (q0 : Int))) := (u0.setNew (p := ⟨G, 1, none⟩) (by rw [hG]; exact Nat.le_refl _) _).setNew (p := ⟨G, 0, none⟩) (by rw [hG]; exact Nat.le_refl _) _
  have hq0l : q0 < 4294967296 := by omega
  have hT := ntrim_at _ _ _ (b2.slice (by simp [maxLen])) (fun z hz => by simp at hz; omega)
  rw [hdiv.1] at hT
  have HT := Lib.hid hT
  have HFG : Hid (∀ (v' : Value) (n m : Nat), foot v' = foot (.slice (some ⟨G, 0, none⟩) n m) → ∀ b, b ∈ foot v' → w.heap.size ≤ b) := by
    intro v' n m h b hb
    rw [h] at hb
    have : b = G := by simpa [foot, Value.ownBlock] using hb
    rw [this, hG]
    exact Nat.le_refl _
  have HU := Lib.hid u2
  have HM := Lib.hid hdiv.2
  have e1 := or64z b hb
  have o2 : bits .or .u64 (s1 : Int) (a : Int) = (t : Int) := by
    rw [hs1, ht]
    exact or64n ha (by omega)
  have e2 : (b : Int) / 1000000000 = (q1 : Int) := by omega
  have e2t : (b : Int).tdiv 1000000000 = (q1 : Int) := by rw [Int.tdiv_eq_ediv_of_nonneg (by omega)]; exact e2
  have e3 : (b : Int) % 1000000000 = (r1 : Int) := by omega
  have e3t : (b : Int).tmod 1000000000 = (r1 : Int) := by rw [Int.tmod_eq_emod_of_nonneg (by omega)]; exact e3
  have e4 : (b : Int) % 18446744073709551616 = (b : Int) := by omega
  have e4a : (a : Int) % 18446744073709551616 = (a : Int) := by omega
  have e4t : (t : Int) % 18446744073709551616 = (t : Int) := by omega
  have e4s : (s1 : Int) % 18446744073709551616 = (s1 : Int) := by omega
  have e4r : (r1 : Int) % 18446744073709551616 = (r1 : Int) := by omega
  have e4q : (q1 : Int) % 18446744073709551616 = (q1 : Int) := by omega
  have e4p : (q0 : Int) % 18446744073709551616 = (q0 : Int) := by omega
  have e4o : (r0 : Int) % 18446744073709551616 = (r0 : Int) := by omega
  have e5 : (r1 : Int) * 4294967296 = (s1 : Int) := by omega
  have e6 : (q1 : Int) % 4294967296 = (q1 : Int) := by omega
  have e7 : (r0 : Int) % 4294967296 = (r0 : Int) := by omega
  have e8 : (q0 : Int) % 4294967296 = (q0 : Int) := by omega
  have e9 : (t : Int) / 1000000000 = (q0 : Int) := by omega
  have e9t : (t : Int).tdiv 1000000000 = (q0 : Int) := by rw [Int.tdiv_eq_ediv_of_nonneg (by omega)]; exact e9
  have e0 : (t : Int) % 1000000000 = (r0 : Int) := by omega
  have e0t : (t : Int).tmod 1000000000 = (r0 : Int) := by rw [Int.tmod_eq_emod_of_nonneg (by omega)]; exact e0
  clear hv c1 c2 hw0 u0 hT b2 u2 b0 hG hg hq0 hq1 hr0 hr1 hs1 ht hdiv hq0l
  go_enter Tryz.func54, Tryz.ntmps54
  go_wp2_with fail
  refine wp_loop_rounds 3 ?_
  rw [rounds_succ]
  go_wp2_with fail
  rw [rounds_succ]
  go_wp2_with fail
  rw [rounds_succ]
  go_wp2_with fail
  refine HT.out.mono ?_
  rintro e w1 ⟨v, HV, rfl, rfl⟩
  go_wp2_with fail
  go_ret2
  exact ⟨v, HV.out.1, HFG.out v _ _ HV.out.2, by rw [← HM.out]; rfl, HU.out⟩
theorem divDigit_any (v : Value) (x : Nat) (w : World) (hv : Wd w v (dw x)) (h0 : 0 < x) (hx : x < 18446744073709551616) : Calls Tryz.prog 54 #[v, .int .u32 1000000000] w (MkDiv x w) := by
  by_cases h : x < 4294967296
  · rw [dw_one h0 h] at hv
    exact divDigit_small v x w hv h
  · rw [dw_two' (by omega) hx] at hv
    have e : valW [x % 4294967296, x / 4294967296] = x := by simp only [valW]; omega
    have k := divDigit_big v _ _ w hv (by omega) (by omega)
    rw [e] at k
    exact k
end Go.Proofs.YtcimcodljjcmgaaGreatDoor
