/- sortesref03.Read: a hash's text, read: the walk. sorteslaw05.sanity. Receipts in blocks; entry.join, entry.body. Court's example: the texts of its two events, plainly. Events in general: their texts and codes, plainly. -/
import Derived.Test.YtcimcodljjcmgaaGreatDoorGAH
import Derived.Test.YtcimcodljjcmgaaGreatDoorGAF
import Derived.Lib.SplitLaws
namespace Go.Proofs.YtcimcodljjcmgaaGreatDoor
open Go.RowKit
set_option maxRecDepth 100000

def cand (c : UInt8) (j : Nat) : Int := match digH c with | some d => if d < j then (d : Int) else -1 | none => -1
theorem cand_hit {c : UInt8} {j : Nat} (hj : j < 16) (h : hexD j = c) : cand c (j + 1) = (j : Int) := by
  unfold cand
  rw [← h, digH_hexD j hj]
  show (if j < j + 1 then (j : Int) else -1) = _
  rw [if_pos (by omega)]
theorem cand_miss {c : UInt8} {j : Nat} (h : hexD j ≠ c) : cand c (j + 1) = cand c j := by
  unfold cand
  cases hd : digH c with
  | none => rfl
  | some d =>
    have hne : d ≠ j := fun e => h (by rw [← e]; exact (hexD_digH hd).2)
    show (if d < j + 1 then (d : Int) else -1) = (if d < j then (d : Int) else -1)
    by_cases hl : d < j
    · rw [if_pos hl, if_pos (by omega)]
    · rw [if_neg hl, if_neg (by omega)]
theorem run_index_digitI (n : Nat) (hn : n < 16) (w : World) : (Instr.index 9 (.string ⟨#[48, 49, 50, 51, 52, 53, 54, 55, 56, 57, 97, 98, 99, 100, 101, 102]⟩) (.int .i64 (n : Int))).run Tryz.prog w = .ok (.int .u8 ((hexD n).toNat : Int)) w := by
  have hu : Tryz.prog.underlying 9 = some .string := Tryz.underlying9
  have h0 : (0 : Int) ≤ (n : Int) := by omega
  simp only [Instr.index, asIntOf, Sem.run_bind, Sem.run_pure, Result.andThen_ok, run_underlying hu w]
  rw [if_pos h0, Int.toNat_natCast]
  have := hexS_get n hn
  unfold hexS at this
  rw [this]
  rfl

set_option maxHeartbeats 2000000 in
theorem rhexRead_any (s : ByteArray) (w : World) : Calls Tryz.prog 107 #[.string s] w (MkHash (bs s) w) := by
  have hz : zero32.length = 32 := by simp [zero32]
  have hr1 : AB 29 (w.alloc (.cells (byteVals zero32).toArray 29)) w.heap.size zero32 := heap_alloc_new _ _
  by_cases h64 : s.size = 64
  case neg =>
    have hr2 : AB 29 ((w.alloc (.cells (byteVals zero32).toArray 29)).alloc (.cells (byteVals zero32).toArray 29)) (w.heap.size + 1) zero32 := by
      have h := heap_alloc_new (w.alloc (.cells (byteVals zero32).toArray 29)) (.cells (byteVals zero32).toArray 29)
      rw [World.size_alloc] at h
      exact h
    have HR1 := Lib.hid (hr1.upd ((Upd.refl [] _).alloc (.cells (byteVals zero32).toArray 29)))
    have HR2 := Lib.hid hr2
    have HZ := Lib.hid hz
    have hq : ¬ (s.size : Int) = 64 := by omega
    clear hr1 hr2 hz
    go_enter Tryz.func107, Tryz.ntmps107
    go_wp2_with (first | (refine wpList_load_row rfl 29 _ rfl (w.heap.size + 1) rfl _ (byteVals zero32).toArray _ _ HR2.out Tryz.underlying29 rfl (hashInfo HZ.out) ?_) | (refine wpList_store_row rfl 29 _ _ rfl w.heap.size (byteVals zero32).toArray rfl rfl _ _ HR1.out (hashInfo HZ.out) rfl (hashOne _) ?_))
    refine bodyPost_ret (results_row_tmp rfl _ _ w.heap.size _ (byteVals zero32).toArray _ _ rfl (HR1.out.setRow zero32) Tryz.underlying29 rfl (hashInfo HZ.out)) rfl ⟨zero32, false, hexOk_len (by rw [bs_length]; exact h64), rfl, (((Upd.refl _ _).alloc _).alloc _).setRowNew (Nat.le_refl _) _⟩
  case pos =>
    have hr2 : AB 29 ((w.alloc (.cells (byteVals zero32).toArray 29)).alloc (.cells (byteVals zero32).toArray 29)) (w.heap.size + 1) zero32 := by
      have h := heap_alloc_new (w.alloc (.cells (byteVals zero32).toArray 29)) (.cells (byteVals zero32).toArray 29)
      rw [World.size_alloc] at h
      exact h
    have HR1 := Lib.hid (hr1.upd ((Upd.refl [] _).alloc (.cells (byteVals zero32).toArray 29)))
    have HR2 := Lib.hid hr2
    have HZ := Lib.hid hz
    have hq : (s.size : Int) = 64 := by omega
    clear hr1 hr2 hz
    go_enter Tryz.func107, Tryz.ntmps107
    go_wp2_with fail
    go_loopw [5, 6, 7] (fun i _ _ wr => ∃ k : Nat, i = .int .i64 (k : Int) ∧ k ≤ 64 ∧ Hid (AB 29 wr (w.heap.size + 1) (fillH ((bs s).take k) ++ List.replicate (32 - (k + 1) / 2) 0)) ∧ Hid (AB 29 wr w.heap.size zero32) ∧ Hid (digs16 ((bs s).take k)) ∧ Hid (Upd [] [] w wr)) (fun i _ _ _ => 64 - (intOf i).toNat)
    case atStart => exact ⟨0, rfl, Nat.zero_le _, HR2.out, HR1.out, fun c h => by simp at h, ((Upd.refl _ _).alloc _).alloc _⟩
    case round =>
      obtain ⟨k, rfl, hk, HA, HR, HD, HU⟩ := hrel
      by_cases hlt : k < 64
      · have hks : k < s.size := by omega
        have hc := bs_get' s k hks
        have HC := Lib.hid hc
        clear hc
        have i0 : (0 : Int) ≤ (k : Int) := by omega
        have i1 : (k : Int) < 64 := by omega
        obtain ⟨c, hcE⟩ : ∃ c, c = s[k] := ⟨_, rfl⟩
        have HCE := Lib.hid hcE
        have hcT : (s[k].toNat : Int) = (c.toNat : Int) := by rw [hcE]
        clear hcE
        go_wp2_with fail
        go_loopw [6, 7] (fun nv jv wi => ∃ j : Nat, nv = .int .i64 (cand c j) ∧ jv = .int .i64 (j : Int) ∧ j ≤ 16 ∧ Hid (Upd [] [] wr wi)) (fun _ jv _ => 16 - (intOf jv).toNat)
        case atStart => exact ⟨0, by unfold cand; cases digH c <;> rfl, rfl, Nat.zero_le _, Upd.refl _ _⟩
        case round =>
          obtain ⟨j, rfl, rfl, hj, HUI⟩ := hrel
          by_cases hj16 : j < 16
          · have hix := run_index_digitI j hj16
            by_cases heq : hexD j = c
            · have hb : (((hexD j).toNat : Int) == (c.toNat : Int)) = true := by rw [beq_iff_eq, heq]
              have hcd := cand_hit hj16 heq
              clear heq
              go_wp2_with fail
              go_region_held3 (fun _ => True) (first | trivial | assumption) (fail)
              all_goals
                go_wp2_with fail
                exact ⟨⟨j + 1, by rw [hcd], by go_num, by omega, HUI.out.drew⟩, by simp [intOf]; omega⟩
            · have hb : (((hexD j).toNat : Int) == (c.toNat : Int)) = false := by
                rw [beq_eq_false_iff_ne]
                exact fun e => heq (UInt8.toNat_inj.1 (by omega))
              have hcd := cand_miss heq
              clear heq
              go_wp2_with fail
              go_region_held3 (fun _ => True) (first | trivial | assumption) (fail)
              all_goals
                go_wp2_with fail
                exact ⟨⟨j + 1, by rw [hcd], by go_num, by omega, HUI.out.drew⟩, by simp [intOf]; omega⟩
          · obtain rfl : j = 16 := by omega
            have HC2 : Hid ((bs s)[k]? = some c) := by show _ = _; rw [HC.out, HCE.out]
            have hA0 := HA.out.upd HUI.out
            have hR0 := HR.out.upd HUI.out
            have hU0 := HU.out.trans HUI.out
            clear HA HR HU HUI HC HCE hcT hj hj16
            have HA := Lib.hid hA0
            have HR := Lib.hid hR0
            have HU := Lib.hid hU0
            clear hA0 hR0 hU0
            cases hd : digH c with
            | none =>
              have hn1 : cand c 16 = -1 := by unfold cand; rw [hd]
              have HN := Lib.hid (hexOk_dig (t := bs s) (List.mem_of_getElem? HC2.out) hd)
              clear hd
              rw [hn1]
              clear hn1
              go_wp2_with (first | (refine wpList_store_row rfl 29 _ _ rfl w.heap.size (byteVals zero32).toArray rfl rfl _ _ HR.out (hashInfo HZ.out) rfl (hashOne _) ?_))
              refine bodyPost_ret (results_row_tmp rfl _ _ w.heap.size _ (byteVals zero32).toArray _ _ rfl (HR.out.setRow zero32) Tryz.underlying29 rfl (hashInfo HZ.out)) rfl ⟨zero32, false, HN.out, rfl, HU.out.setRowNew (Nat.le_refl _) _⟩
            | some n =>
              obtain ⟨hdv, hn16⟩ := dv_of hd
              have hn1 : cand c 16 = (n : Int) := by
                unfold cand
                rw [hd]
                show (if n < 16 then (n : Int) else -1) = _
                rw [if_pos hn16]
              have HD2 : Hid (digs16 ((bs s).take (k + 1))) := by
                intro x hcm
                rw [List.take_add_one, HC2.out] at hcm
                rcases List.mem_append.1 hcm with h | h
                · exact HD.out x h
                · rw [show x = c by simpa using h]
                  exact ⟨n, hd⟩
              have HDG := Lib.hid hd
              have HDV := Lib.hid hdv
              rw [hn1]
              clear hd hdv hn1
              have w1 : IntKind.u8.wrap (n : Int) = (n : Int) := by unfold IntKind.wrap; simp [IntKind.bits, IntKind.signed]; omega
              by_cases hev : k % 2 = 0
              · obtain ⟨m, rfl⟩ : ∃ m, k = 2 * m := ⟨k / 2, by omega⟩
                have hA2 := HA.out.set m (dv c)
                rw [show (2 * m + 1) / 2 = m by omega, fill_even HC2.out (by omega), HDV.out] at hA2
                have hcell := HA.out.cell (j := m) (b := 0) (by rw [show (2 * m + 1) / 2 = m by omega, List.getElem?_append_right (by rw [fillH_len, List.length_take, bs_length]; omega), List.getElem?_replicate, if_pos (by rw [fillH_len, List.length_take, bs_length]; omega)])
                have hfz := HA.out.frozen m
                have e1 : ((2 * m : Nat) : Int).tdiv 2 = (m : Int) := by rw [Int.tdiv_eq_ediv_of_nonneg (by omega)]; omega
                have e2 : ((2 * m : Nat) : Int) / 2 = (m : Int) := by omega
                have b0 : (0 : Int) ≤ (m : Int) := by omega
                have b1 : (m : Int) < 32 := by omega
                rw [show 32 - (m + 1) = 32 - (2 * m + 1 + 1) / 2 by omega] at hA2
                have HA2 := Lib.hid hA2
                clear hA2 hev
                go_wp2_with fail
                refine ⟨⟨2 * m + 1, by go_num, by omega, HA2.out, HR.out.other (by omega) _, HD2.out, HU.out.setNew (p := ⟨_, _, none⟩) (by show w.heap.size ≤ w.heap.size + 1; omega) _⟩, by simp [intOf]; omega⟩
              · obtain ⟨m, rfl⟩ : ∃ m, k = 2 * m + 1 := ⟨k / 2, by omega⟩
                have ha0 := bs_get' s (2 * m) (by omega)
                obtain ⟨f1, f2⟩ := fill_odd ha0 HC2.out
                obtain ⟨o, ho⟩ : ∃ o, digH s[2 * m] = some o := HD.out s[2 * m] (by
                  refine List.mem_of_getElem? (i := 2 * m) ?_
                  rw [List.getElem?_take_of_lt (by omega)]
                  exact ha0)
                obtain ⟨hov, ho16⟩ := dv_of ho
                have hA := HA.out
                rw [show (2 * m + 1 + 1) / 2 = m + 1 by omega] at hA
                have hcell := hA.cell f1
                rw [hov] at hcell
                have hA2 := hA.set m (UInt8.ofNat (16 * (dv s[2 * m]).toNat + (dv c).toNat))
                rw [f2, hov, HDV.out] at hA2
                have hfz := HA.out.frozen m
                have e1 : ((2 * m + 1 : Nat) : Int).tdiv 2 = (m : Int) := by rw [Int.tdiv_eq_ediv_of_nonneg (by omega)]; omega
                have e2 : ((2 * m + 1 : Nat) : Int) / 2 = (m : Int) := by omega
                have e3 : (2 * (m : Int) + 1) / 2 = (m : Int) := by omega
                have b0 : (0 : Int) ≤ (m : Int) := by omega
                have b1 : (m : Int) < 32 := by omega
                rw [show 32 - (m + 1) = 32 - (2 * m + 1 + 1 + 1) / 2 by omega, UInt8.toNat_ofNat', Nat.mod_eq_of_lt (by omega)] at hA2
                obtain ⟨o16, ho'⟩ : ∃ o16 : Nat, o16 = 16 * o := ⟨_, rfl⟩
                have w2 : IntKind.u8.wrap ((o : Int) * 16) = (o16 : Int) := by unfold IntKind.wrap; simp [IntKind.bits, IntKind.signed]; omega
                have w3 : IntKind.u8.wrap ((o16 : Int) + (n : Int)) = ((o16 + n : Nat) : Int) := by unfold IntKind.wrap; simp [IntKind.bits, IntKind.signed]; omega
                rw [← ho'] at hA2
                have HO := Lib.hid ho'
                have HA2 := Lib.hid hA2
                have HHA := Lib.hid hA
                clear hA2 hA hev f1 f2 ha0 ho hov HA ho'
                go_wp2_with fail
                refine ⟨⟨2 * m + 1 + 1, by go_num, by omega, HA2.out, HR.out.other (by omega) _, HD2.out, HU.out.setNew (p := ⟨_, _, none⟩) (by show w.heap.size ≤ w.heap.size + 1; omega) _⟩, by simp [intOf]; omega⟩
      · obtain rfl : k = 64 := by omega
        obtain ⟨H, hH⟩ : ∃ H, H = fillH (bs s) := ⟨_, rfl⟩
        have hA := HA.out
        have hD := HD.out
        have hsl : (bs s).length = 64 := by rw [bs_length]; exact h64
        rw [List.take_of_length_le (by omega)] at hA hD
        have hy := hexOk_yes hsl hD
        rw [show 32 - (64 + 1) / 2 = 0 by omega, List.replicate_zero, List.append_nil, ← hH] at hA
        rw [← hH] at hy
        have HL := Lib.hid hy.1
        have HY := Lib.hid hy
        have HA2 := Lib.hid hA
        clear hA hD hy hH HA hlt hk
        go_wp2_with (first | (refine wpList_load_row rfl 29 _ rfl (w.heap.size + 1) rfl _ (byteVals H).toArray _ _ HA2.out Tryz.underlying29 rfl (hashInfo HL.out) ?_) | (refine wpList_store_row rfl 29 _ _ rfl w.heap.size (byteVals H).toArray rfl rfl _ _ HR.out (hashInfo HL.out) (by simp [byteVals, HL.out, HZ.out]) (hashOne _) ?_))
        refine bodyPost_ret (results_row_tmp rfl _ _ w.heap.size _ (byteVals H).toArray _ _ rfl (HR.out.setRow H) Tryz.underlying29 rfl (hashInfo HL.out)) rfl ⟨H, true, HY.out, rfl, HU.out.setRowNew (Nat.le_refl _) _⟩
end Go.Proofs.YtcimcodljjcmgaaGreatDoor

namespace Go.Proofs.YtcimcodljjcmgaaGreatDoor
open Go.RowKit
set_option maxRecDepth 100000

def TrueMk (w : World) (e : Ending) (w' : World) : Prop := e = .returned (.bool true) ∧ Upd [] [] w w'

theorem itoa_3 : Lib.itoa 3 = [51] := by
  show Lib.decDigits 3 = _
  rw [Lib.decDigits_one (by omega)]
  rfl
end Go.Proofs.YtcimcodljjcmgaaGreatDoor

namespace Go.Proofs.YtcimcodljjcmgaaGreatDoor
open Go.RowKit
set_option maxRecDepth 100000

def RcAt (w : World) (g : Nat) (x : Rc) : Prop := w.heap[g]? = some (.cells (rcV x).toArray 185 (0, 0))
theorem RcAt.upd {w w' : World} {g : Nat} {x : Rc} (h : RcAt w g x) (u : Upd [] [] w w') : RcAt w' g x := row_updH h u
theorem RcAt.lt {w : World} {g : Nat} {x : Rc} (h : RcAt w g x) : g < w.heap.size := (Array.getElem?_eq_some_iff.1 h).1
theorem RcAt.cell {w : World} {g : Nat} {x : Rc} (h : RcAt w g x) (j : Nat) : w.cell? ⟨g, j, none⟩ = (rcV x)[j]? := by
  rw [cell_of_row w g j _ _ _ h, List.getElem?_toArray]
theorem RcAt.all {w : World} {g : Nat} {x : Rc} (h : RcAt w g x) : w.rangeAt g 0 (rcV x) := by
  intro j v hv
  rw [h.cell, Nat.zero_add]
  exact hv
theorem RcAt.head {w : World} {g : Nat} {x : Rc} (h : RcAt w g x) : w.cell? ⟨g, 0, none⟩ = some (.int .i64 x.kiosk) ∧ w.cell? ⟨g, 1, none⟩ = some (.int .i64 x.serial) ∧ w.cell? ⟨g, 2, none⟩ = some (.string x.draw) ∧ w.cell? ⟨g, 3, none⟩ = some (.int .i64 x.seen) :=
  ⟨h.cell 0, h.cell 1, h.cell 2, h.cell 3⟩
theorem mid_get {A B C : List Value} {o j : Nat} {v : Value} (ho : A.length = o) (h : B[j]? = some v) : (A ++ (B ++ C))[o + j]? = some v := by
  have hj := (List.getElem?_eq_some_iff.1 h).1
  rw [List.getElem?_append_right (by omega), show o + j - A.length = j by omega, List.getElem?_append_left hj]
  exact h
theorem RcAt.ranges {w : World} {g : Nat} {x : Rc} (h : RcAt w g x) (hx : x.ok) : w.rangeAt g 4 (byteVals x.out) ∧ w.rangeAt g 36 (byteVals x.hash) ∧ w.rangeAt g 68 (byteVals x.prev) := by
  obtain ⟨_, _, _, h1, h2, h3, _⟩ := hx
  refine ⟨fun j v hv => ?_, fun j v hv => ?_, fun j v hv => ?_⟩
  · rw [h.cell]
    exact mid_get rfl hv
  · rw [h.cell]
    have := mid_get (A := [.int .i64 x.kiosk, .int .i64 x.serial, .string x.draw, .int .i64 x.seen] ++ byteVals x.out) (C := byteVals x.prev ++ [.int .i64 x.r, .int .i64 x.s]) (o := 36) (by simp [byteVals_length, h1]) hv
    rw [List.append_assoc] at this
    exact this
  · rw [h.cell]
    have := mid_get (A := [.int .i64 x.kiosk, .int .i64 x.serial, .string x.draw, .int .i64 x.seen] ++ (byteVals x.out ++ byteVals x.hash)) (C := [.int .i64 x.r, .int .i64 x.s]) (o := 68) (by simp [byteVals_length, h1, h2]) hv
    rw [List.append_assoc, List.append_assoc] at this
    exact this
theorem RcAt.sig {w : World} {g : Nat} {x : Rc} (h : RcAt w g x) (hx : x.ok) : w.cell? ⟨g, 100, none⟩ = some (.int .i64 x.r) ∧ w.cell? ⟨g, 101, none⟩ = some (.int .i64 x.s) := by
  obtain ⟨_, _, _, h1, h2, h3, _⟩ := hx
  have key : ∀ j v, ([.int .i64 x.r, .int .i64 x.s] : List Value)[j]? = some v → (rcV x)[100 + j]? = some v := by
    intro j v hv
    have := mid_get (A := [.int .i64 x.kiosk, .int .i64 x.serial, .string x.draw, .int .i64 x.seen] ++ (byteVals x.out ++ (byteVals x.hash ++ byteVals x.prev))) (C := []) (o := 100) (by simp [byteVals_length, h1, h2, h3]) hv
    rw [List.append_nil, List.append_assoc, List.append_assoc, List.append_assoc] at this
    exact this
  exact ⟨(h.cell 100).trans (key 0 _ rfl), (h.cell 101).trans (key 1 _ rfl)⟩
theorem rcInfo {x : Rc} (h : x.ok) : (Tryz.prog.info? 185).map (·.size) = some (rcV x).length := by
  rw [rcV_len h]
  kernel_rfl
end Go.Proofs.YtcimcodljjcmgaaGreatDoor

namespace Go.Proofs.YtcimcodljjcmgaaGreatDoor
open Go.RowKit
set_option maxRecDepth 100000

def evV (c : UInt8) (r s : Int) : List Value := [.int .i64 5, .int .i64 4, .int .i64 3, .int .i64 0, .int .i64 0, .string ⟨#[c]⟩] ++ (byteVals zero32 ++ [.int .i64 r, .int .i64 s])
theorem evV_len (c : UInt8) (r s : Int) : (evV c r s).length = 40 := by simp [evV, byteVals, zero32]
theorem evV_one (c : UInt8) (r s : Int) : ∀ u ∈ evV c r s, u.oneCell' = true := by
  intro u hu
  simp only [evV, List.mem_append, List.mem_cons, List.not_mem_nil, or_false] at hu
  rcases hu with (rfl | rfl | rfl | rfl | rfl | rfl) | hu | rfl | rfl
  all_goals first | rfl | exact byteVals_one _ _ hu
def tOf (c : UInt8) : List UInt8 := tPre ++ [c]
def wEv : List UInt8 := [101, 118, 101, 110, 116]
def codeL (c : UInt8) : List UInt8 := [48, 32, 48, 32] ++ tOf c
theorem tOf_len (c : UInt8) : (tOf c).length = 84 := by simp [tOf, tPre, zeros64]
theorem codeL_len (c : UInt8) : (codeL c).length = 88 := by simp [codeL, tOf_len]
theorem itoa_d (n : Nat) (h : n < 10) : Lib.itoa (n : Int) = [UInt8.ofNat (48 + n)] := by
  unfold Lib.itoa
  rw [if_neg (by omega), Int.toNat_natCast, Lib.decDigits_one h]
theorem itoa_5 : Lib.itoa 5 = [53] := itoa_d 5 (by omega)
theorem itoa_4 : Lib.itoa 4 = [52] := itoa_d 4 (by omega)
theorem itoa_0 : Lib.itoa 0 = [48] := itoa_d 0 (by omega)
theorem itoa_1 : Lib.itoa 1 = [49] := itoa_d 1 (by omega)
theorem hex_zero : hexL zero32 = zeros64 := by decide
theorem evt_join (c : UInt8) : Lib.join [wEv, [53], [52], [51], [48], [48], zeros64, [49, 58, c]] [32] = tOf c := by
  simp [Lib.join, List.intercalate_cons_cons, tOf, tPre, wEv]
theorem splitK_hit {c : UInt8} {k : Nat} {a b : List UInt8} (h : c ∉ a) : Lib.splitK [c] 0 (k + 1) (a ++ c :: b) = a :: Lib.splitK [c] 0 k b := by
  have hi := index_hit1 c a b h
  have h1 : (a ++ c :: b).take a.length = a := List.take_left
  have h2 : (a ++ c :: b).drop (a.length + 1) = b := by
    rw [show a ++ c :: b = (a ++ [c]) ++ b by simp, show a.length + 1 = (a ++ [c]).length by simp]
    exact List.drop_left
  rw [Lib.splitK, hi, if_neg (by simp), Int.toNat_natCast, Nat.add_zero, h1]
  show a :: Lib.splitK [c] 0 k ((a ++ c :: b).drop (a.length + 1)) = _
  rw [h2]
theorem code_split (c : UInt8) : Lib.splitK [32] 0 9 (codeL c) = [[48], [48], wEv, [53], [52], [51], [48], [48], zeros64, [49, 58, c]] := by
  have e : codeL c = [48] ++ 32 :: ([48] ++ 32 :: (wEv ++ 32 :: ([53] ++ 32 :: ([52] ++ 32 :: ([51] ++ 32 :: ([48] ++ 32 :: ([48] ++ 32 :: (zeros64 ++ 32 :: [49, 58, c])))))))) := by
    simp [codeL, tOf, tPre, wEv]
  rw [e, splitK_hit (by decide), splitK_hit (by decide), splitK_hit (by decide), splitK_hit (by decide), splitK_hit (by decide), splitK_hit (by decide), splitK_hit (by decide), splitK_hit (by decide), splitK_hit (by decide)]
  rfl
theorem splitB_of {s sep : ByteArray} {k : Nat} {l : List (List UInt8)} (h : Lib.splitK (bs sep) 0 k (bs s) = l) : Lib.splitB sep 0 k s = l.map (fun x => ⟨x.toArray⟩) := by
  have e := Lib.splitB_data sep 0 k s
  have e2 : (Lib.splitB sep 0 k s).map (·.data.toList) = l := e.trans h
  rw [← e2, List.map_map]
  conv => lhs; rw [← List.map_id (Lib.splitB sep 0 k s)]
  refine List.map_congr_left fun x _ => ?_
  exact bs_inj rfl
theorem tOf_count {c : UInt8} (h : c ≠ 32) {s : ByteArray} (hs : bs s = tOf c) : Lib.countB s ⟨#[32]⟩ = 7 := by
  have e : Lib.countB s ⟨#[32]⟩ = (bs s).count 32 := Lib.count_one 32 (bs s)
  rw [e, hs, tOf, List.count_append, show tPre.count 32 = 7 by decide, List.count_cons_of_ne (by simpa using h)]
  rfl
end Go.Proofs.YtcimcodljjcmgaaGreatDoor

namespace Go.Proofs.YtcimcodljjcmgaaGreatDoor
open Go.RowKit
set_option maxRecDepth 100000

structure EvG where
  q : Int
  k : Int
  h : Int
  t : Int
  n : Int
  x : ByteArray
  p : List UInt8
  r : Int
  s : Int
def EvG.ok (e : EvG) : Prop := i64in e.q ∧ i64in e.k ∧ i64in e.h ∧ i64in e.t ∧ i64in e.n ∧ e.p.length = 32 ∧ i64in e.r ∧ i64in e.s
def EvG.V (e : EvG) : List Value := [.int .i64 e.q, .int .i64 e.k, .int .i64 e.h, .int .i64 e.t, .int .i64 e.n, .string e.x] ++ (byteVals e.p ++ [.int .i64 e.r, .int .i64 e.s])
theorem EvG.V_len {e : EvG} (h : e.p.length = 32) : e.V.length = 40 := by simp [EvG.V, byteVals, h]
theorem EvG.V_one (e : EvG) : ∀ u ∈ e.V, u.oneCell' = true := by
  intro u hu
  simp only [EvG.V, List.mem_append, List.mem_cons, List.not_mem_nil, or_false] at hu
  rcases hu with (rfl | rfl | rfl | rfl | rfl | rfl) | hu | rfl | rfl
  all_goals first | rfl | exact byteVals_one _ _ hu
def wordG (t : List UInt8) : List UInt8 := Lib.itoa (t.length : Int) ++ 58 :: t
def EvG.parts (e : EvG) : List (List UInt8) := [Lib.itoa e.r, Lib.itoa e.s, wEv, Lib.itoa e.q, Lib.itoa e.k, Lib.itoa e.h, Lib.itoa e.t, Lib.itoa e.n, hexL e.p, wordG (bs e.x)]
def EvG.text (e : EvG) : List UInt8 := wEv ++ 32 :: (Lib.itoa e.q ++ 32 :: (Lib.itoa e.k ++ 32 :: (Lib.itoa e.h ++ 32 :: (Lib.itoa e.t ++ 32 :: (Lib.itoa e.n ++ 32 :: (hexL e.p ++ 32 :: wordG (bs e.x)))))))
def EvG.code (e : EvG) : List UInt8 := Lib.itoa e.r ++ 32 :: (Lib.itoa e.s ++ 32 :: e.text)
theorem EvG.text_join (e : EvG) : Lib.join [wEv, Lib.itoa e.q, Lib.itoa e.k, Lib.itoa e.h, Lib.itoa e.t, Lib.itoa e.n, hexL e.p, wordG (bs e.x)] [32] = e.text := by
  simp [Lib.join, List.intercalate_cons_cons, EvG.text]
theorem EvG.code_len (e : EvG) : 9 ≤ e.code.length := by
  simp only [EvG.code, EvG.text, List.length_append, List.length_cons]
  omega
theorem EvG.text_len {e : EvG} (h : e.ok) (z : e.x.size ≤ 1000000000) : e.text.length ≤ e.x.size + 250 := by
  obtain ⟨a, b, c, d, f, g, _, _⟩ := h
  have h1 := itoa_len _ a
  have h2 := itoa_len _ b
  have h3 := itoa_len _ c
  have h4 := itoa_len _ d
  have h5 := itoa_len _ f
  have h6 := hexL_len e.p
  have h7 := itoa_len ((bs e.x).length : Int) (by rw [bs_length]; unfold i64in; omega)
  have h8 : (bs e.x).length = e.x.size := bs_length _
  simp only [EvG.text, wordG, List.length_append, List.length_cons]
  have : wEv.length = 5 := rfl
  omega
theorem wEv_no32 : (32 : UInt8) ∉ wEv := by decide
theorem EvG.code_split (e : EvG) : Lib.splitK [32] 0 9 e.code = e.parts := by
  unfold EvG.code EvG.text
  rw [splitK_hit (itoa_no32 _), splitK_hit (itoa_no32 _), splitK_hit wEv_no32, splitK_hit (itoa_no32 _), splitK_hit (itoa_no32 _), splitK_hit (itoa_no32 _), splitK_hit (itoa_no32 _), splitK_hit (itoa_no32 _), splitK_hit (hexL_no32 _)]
  rfl
def IsCode (l : List UInt8) (e : EvG) : Prop := e.ok ∧ l = e.code
theorem word_cut (t : List UInt8) (R : List UInt8) : Lib.cut (Lib.itoa (t.length : Int) ++ 58 :: R) [58] = (Lib.itoa (t.length : Int), R, true) := cut_hit 58 _ _ (itoa_no58 _)
theorem word_inj {a b A B : List UInt8} (ha : a.length ≤ 9223372036854775807) (hb : b.length ≤ 9223372036854775807) (h : wordG a ++ A = wordG b ++ B) : a = b ∧ A = B := by
  have e1 : wordG a ++ A = Lib.itoa (a.length : Int) ++ 58 :: (a ++ A) := by simp [wordG]
  have e2 : wordG b ++ B = Lib.itoa (b.length : Int) ++ 58 :: (b ++ B) := by simp [wordG]
  rw [e1, e2] at h
  have c1 := word_cut a (a ++ A)
  rw [h, word_cut b (b ++ B)] at c1
  injection c1 with c1 c2
  injection c2 with c2 _
  have hl : (b.length : Int) = (a.length : Int) := itoa_inj (by unfold i64in; omega) (by unfold i64in; omega) c1
  have hl : b.length = a.length := by omega
  have := List.append_inj c2 hl
  exact ⟨this.1.symm, this.2.symm⟩
theorem isCode_inj {l : List UInt8} {e f : EvG} (he : IsCode l e) (hf : IsCode l f) (ze : e.x.size ≤ 1000000000) (zf : f.x.size ≤ 1000000000) : e = f := by
  obtain ⟨⟨a1, a2, a3, a4, a5, a6, a7, a8⟩, he⟩ := he
  obtain ⟨⟨b1, b2, b3, b4, b5, b6, b7, b8⟩, hf⟩ := hf
  have h := e.code_split
  rw [← he, hf, f.code_split] at h
  simp only [EvG.parts, List.cons.injEq, and_true, true_and] at h
  obtain ⟨h1, h2, h3, h4, h5, h6, h7, h8, h9⟩ := h
  cases e with
  | mk q k hh t n x p r s =>
  cases f with
  | mk q' k' hh' t' n' x' p' r' s' =>
  dsimp only at *
  obtain rfl := itoa_inj b7 a7 h1
  obtain rfl := itoa_inj b8 a8 h2
  obtain rfl := itoa_inj b1 a1 h3
  obtain rfl := itoa_inj b2 a2 h4
  obtain rfl := itoa_inj b3 a3 h5
  obtain rfl := itoa_inj b4 a4 h6
  obtain rfl := itoa_inj b5 a5 h7
  obtain rfl := hexL_inj h8
  have hw := word_inj (a := bs x') (b := bs x) (A := []) (B := []) (by rw [bs_length]; omega) (by rw [bs_length]; omega) (by rw [List.append_nil, List.append_nil]; exact h9)
  obtain rfl := bs_inj hw.1
  rfl
theorem IsCode.size {l : List UInt8} {e : EvG} (h : IsCode l e) : e.x.size ≤ l.length := by
  rw [h.2, ← bs_length]
  simp only [EvG.code, EvG.text, wordG, List.length_append, List.length_cons]
  omega
end Go.Proofs.YtcimcodljjcmgaaGreatDoor
