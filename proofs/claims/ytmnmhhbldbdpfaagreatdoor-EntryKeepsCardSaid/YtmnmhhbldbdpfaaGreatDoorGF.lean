/- digest.Read: a hash's text, read: the walk. sortesref03.Read: a hash's text, read: the walk. Receipts in blocks; entry.join, entry.body. entry.body. Receipts built out of their parts. entry.Text, entry.Verify, entry.Hash, entry.Print. entry.Hash, entry.Print. -/
import Derived.Test.YtmnmhhbldbdpfaaGreatDoorGE
import Derived.Great.BuildSlice
namespace Go.Proofs.YtmnmhhbldbdpfaaGreatDoor
open Go.RowKit
set_option maxRecDepth 100000

theorem idx_is (c : UInt8) (w : World) : Calls Tryz.prog 113 #[.string ⟨#[48, 49, 50, 51, 52, 53, 54, 55, 56, 57, 97, 98, 99, 100, 101, 102]⟩, .int .u8 (c.toNat : Int)] w (fun e w' => e = .returned (.int .i64 (match digH c with | some n => (n : Int) | none => -1)) ∧ w' = w) := by
  refine (Tryz.strings_IndexByte _ (c.toNat : Int) w).mono ?_
  rintro e w' ⟨rfl, rfl⟩
  refine ⟨?_, rfl⟩
  have h := digit_index c
  have e1 : ((c.toNat : Int)).toNat.toUInt8 = c := by simp
  rw [e1]
  exact congrArg (fun x => Ending.returned (.int .i64 x)) h
theorem idx_some {c : UInt8} {n : Nat} (h : digH c = some n) (w : World) : Calls Tryz.prog 113 #[.string ⟨#[48, 49, 50, 51, 52, 53, 54, 55, 56, 57, 97, 98, 99, 100, 101, 102]⟩, .int .u8 (c.toNat : Int)] w (fun e w' => e = .returned (.int .i64 (n : Int)) ∧ w' = w) := by
  have := idx_is c w
  rw [h] at this
  exact this
theorem idx_none {c : UInt8} (h : digH c = none) (w : World) : Calls Tryz.prog 113 #[.string ⟨#[48, 49, 50, 51, 52, 53, 54, 55, 56, 57, 97, 98, 99, 100, 101, 102]⟩, .int .u8 (c.toNat : Int)] w (fun e w' => e = .returned (.int .i64 (-1)) ∧ w' = w) := by
  have := idx_is c w
  rw [h] at this
  exact this
/-- The zero hash. -/
def zero32 : List UInt8 := List.replicate 32 0
theorem hashInfo {l : List UInt8} (h : l.length = 32) : (Tryz.prog.info? 24).map (·.size) = some (byteVals l).toArray.size := by
  rw [show (byteVals l).toArray.size = 32 by simp [byteVals, h]]
  kernel_rfl
theorem hashOne (l : List UInt8) : (byteVals l).toArray.all (·.oneCell') = true := by
  rw [Array.all_eq_true_iff_forall_mem]
  intro v hv
  exact byteVals_one _ v (by simpa using hv)
theorem AB.setRow {T : TypeId} {w : World} {g : Nat} {c : List UInt8} (h : AB T w g c) (d : List UInt8) : AB T (w.setRow g (byteVals d).toArray) g d := setRow_heap w g _ _ _ _ h

theorem AB.other {T : TypeId} {w : World} {g L j : Nat} {c : List UInt8} (h : AB T w g c) (n : g ≠ L) (v : Value) : AB T (w.setCell ⟨L, j, none⟩ v) g c := by
  unfold AB at h ⊢
  rw [((Upd.refl [L] w).setCell (p := ⟨L, j, none⟩) (by simp) v).block g (Array.getElem?_eq_some_iff.1 h).1 (by simpa using n)]
  exact h

set_option maxHeartbeats 2000000 in
theorem hexRead_any (s : ByteArray) (w : World) : Calls Tryz.prog 78 #[.string s] w (MkHash (bs s) w) := by
  have hz : zero32.length = 32 := by simp [zero32]
  have hr1 : AB 24 (w.alloc (.cells (byteVals zero32).toArray 24)) w.heap.size zero32 := heap_alloc_new _ _
  by_cases h64 : s.size = 64
  case neg =>
    have HR1 := Lib.hid hr1
    have HZ := Lib.hid hz
    have hq : ¬ (s.size : Int) = 64 := by omega
    clear hr1 hz
    go_enter Tryz.func78, Tryz.ntmps78
    go_wp2_with (first | (refine wpList_store_row rfl 24 _ _ rfl w.heap.size (byteVals zero32).toArray rfl rfl _ _ HR1.out (hashInfo HZ.out) rfl (hashOne _) ?_))
    refine bodyPost_ret (results_row_tmp rfl _ _ w.heap.size _ (byteVals zero32).toArray _ _ rfl (HR1.out.setRow zero32) Tryz.underlying24 rfl (hashInfo HZ.out)) rfl ⟨zero32, false, hexOk_len (by rw [bs_length]; exact h64), rfl, ((Upd.refl _ _).alloc _).setRowNew (Nat.le_refl _) _⟩
  case pos =>
    have hr2 : AB 24 ((w.alloc (.cells (byteVals zero32).toArray 24)).alloc (.cells (byteVals zero32).toArray 24)) (w.heap.size + 1) zero32 := by
      have h := heap_alloc_new (w.alloc (.cells (byteVals zero32).toArray 24)) (.cells (byteVals zero32).toArray 24)
      rw [World.size_alloc] at h
      exact h
    have HR1 := Lib.hid (hr1.upd ((Upd.refl [] _).alloc (.cells (byteVals zero32).toArray 24)))
    have HR2 := Lib.hid hr2
    have HZ := Lib.hid hz
    have hq : (s.size : Int) = 64 := by omega
    clear hr1 hr2 hz
    go_enter Tryz.func78, Tryz.ntmps78
    go_wp2_with fail
    go_loopw [5, 6, 13] (fun _ _ i wr => ∃ k : Nat, i = .int .i64 (k : Int) ∧ k ≤ 64 ∧ Hid (AB 24 wr (w.heap.size + 1) (fillH ((bs s).take k) ++ List.replicate (32 - (k + 1) / 2) 0)) ∧ Hid (AB 24 wr w.heap.size zero32) ∧ Hid (digs16 ((bs s).take k)) ∧ Hid (Upd [] [] w wr)) (fun _ _ i _ => 64 - (intOf i).toNat)
    case atStart => exact ⟨0, rfl, Nat.zero_le _, HR2.out, HR1.out, fun c h => by simp at h, ((Upd.refl _ _).alloc _).alloc _⟩
    case round =>
      obtain ⟨k, rfl, hk, HA, HR, HD, HU⟩ := hrel
      by_cases hlt : k < 64
      · have hks : k < s.size := by omega
        have hc := bs_get' s k hks
        have HC := Lib.hid hc
        clear hc
        have i0 : (0 : Int) ≤ (k : Int) := by omega
        have i1 : (k : Int) < 64 := by omega
        cases hd : digH s[k] with
        | none =>
          have HN := Lib.hid (hexOk_dig (t := bs s) (List.mem_of_getElem? HC.out) hd)
          have hct := idx_none hd
          clear hd
          go_wp2_with fail
          refine (hct wr).mono ?_
          rintro e w1 ⟨rfl, rfl⟩
          go_wp2_with (first | (refine wpList_store_row rfl 24 _ _ rfl w.heap.size (byteVals zero32).toArray rfl rfl _ _ HR.out (hashInfo HZ.out) rfl (hashOne _) ?_))
          refine bodyPost_ret (results_row_tmp rfl _ _ w.heap.size _ (byteVals zero32).toArray _ _ rfl (HR.out.setRow zero32) Tryz.underlying24 rfl (hashInfo HZ.out)) rfl ⟨zero32, false, HN.out, rfl, HU.out.setRowNew (Nat.le_refl _) _⟩
        | some n =>
          obtain ⟨hdv, hn16⟩ := dv_of hd
          have hct := idx_some hd
          have HD2 : Hid (digs16 ((bs s).take (k + 1))) := by
            intro c hcm
            rw [List.take_add_one, HC.out] at hcm
            rcases List.mem_append.1 hcm with h | h
            · exact HD.out c h
            · rw [show c = s[k] by simpa using h]
              exact ⟨n, hd⟩
          have HDG := Lib.hid hd
          have HDV := Lib.hid hdv
          clear hd hdv
          by_cases hev : k % 2 = 0
          · obtain ⟨m, rfl⟩ : ∃ m, k = 2 * m := ⟨k / 2, by omega⟩
            have hA2 := (HA.out.set m (dv s[2 * m])).upd (Upd.refl [] _)
            rw [show (2 * m + 1) / 2 = m by omega, fill_even HC.out (by omega)] at hA2
            have hcell := HA.out.cell (j := m) (b := 0) (by rw [show (2 * m + 1) / 2 = m by omega, List.getElem?_append_right (by rw [fillH_len, List.length_take, bs_length]; omega), List.getElem?_replicate, if_pos (by rw [fillH_len, List.length_take, bs_length]; omega)])
            have hfz := HA.out.frozen m
            have e1 : ((2 * m : Nat) : Int).tdiv 2 = (m : Int) := by rw [Int.tdiv_eq_ediv_of_nonneg (by omega)]; omega
            have e2 : ((2 * m : Nat) : Int) / 2 = (m : Int) := by omega
            have b0 : (0 : Int) ≤ (m : Int) := by omega
            have b1 : (m : Int) < 32 := by omega
            rw [show 32 - (m + 1) = 32 - (2 * m + 1 + 1) / 2 by omega] at hA2
            have HA2 := Lib.hid hA2
            clear hA2 hev
            go_wp2_with fail
            refine (hct wr).mono ?_
            rintro e w1 ⟨rfl, rfl⟩
            have vb : Go.bits .or .u8 0 (n : Int) = ((dv s[2 * m]).toNat : Int) := by
              have h := or_digit 0 (by omega) n hn16
              rw [HDV.out]
              simpa using h
            go_wp2_with fail
            refine ⟨⟨2 * m + 1, by go_num, by omega, HA2.out, HR.out.other (by omega) _, HD2.out, HU.out.setNew (p := ⟨_, _, none⟩) (by show w.heap.size ≤ w.heap.size + 1; omega) _⟩, by simp [intOf]; omega⟩
          · obtain ⟨m, rfl⟩ : ∃ m, k = 2 * m + 1 := ⟨k / 2, by omega⟩
            have ha0 := bs_get' s (2 * m) (by omega)
            obtain ⟨f1, f2⟩ := fill_odd ha0 HC.out
            obtain ⟨o, ho⟩ : ∃ o, digH s[2 * m] = some o := HD.out s[2 * m] (by
              refine List.mem_of_getElem? (i := 2 * m) ?_
              rw [List.getElem?_take_of_lt (by omega)]
              exact ha0)
            obtain ⟨hov, ho16⟩ := dv_of ho
            have hA := HA.out
            rw [show (2 * m + 1 + 1) / 2 = m + 1 by omega] at hA
            have hcell := hA.cell f1
            rw [hov] at hcell
            have hA2 := hA.set m (UInt8.ofNat (16 * (dv s[2 * m]).toNat + (dv s[2 * m + 1]).toNat))
            rw [f2, hov, HDV.out] at hA2
            have hfz := HA.out.frozen m
            have e1 : ((2 * m + 1 : Nat) : Int).tdiv 2 = (m : Int) := by rw [Int.tdiv_eq_ediv_of_nonneg (by omega)]; omega
            have e2 : ((2 * m + 1 : Nat) : Int) / 2 = (m : Int) := by omega
            have e3 : (2 * (m : Int) + 1) / 2 = (m : Int) := by omega
            have b0 : (0 : Int) ≤ (m : Int) := by omega
            have b1 : (m : Int) < 32 := by omega
            rw [show 32 - (m + 1) = 32 - (2 * m + 1 + 1 + 1) / 2 by omega] at hA2
            have HA2 := Lib.hid hA2
            have HHA := Lib.hid hA
            clear hA2 hA hev f1 f2 ha0 ho hov HA
            go_wp2_with fail
            refine (hct wr).mono ?_
            rintro e w1 ⟨rfl, rfl⟩
            have vb : Go.bits .or .u8 ((o : Int) * 16) (n : Int) = ((UInt8.ofNat (16 * o + n)).toNat : Int) := by
              have h := or_digit o ho16 n hn16
              rw [show ((16 * o : Nat) : Int) = (o : Int) * 16 by omega] at h
              rw [h, UInt8.toNat_ofNat', Nat.mod_eq_of_lt (by omega)]
            go_wp2_with fail
            refine ⟨⟨2 * m + 1 + 1, by go_num, by omega, HA2.out, HR.out.other (by omega) _, HD2.out, HU.out.setNew (p := ⟨_, _, none⟩) (by show w.heap.size ≤ w.heap.size + 1; omega) _⟩, by simp [intOf]; omega⟩
      · obtain rfl : k = 64 := by omega
        obtain ⟨H, hH⟩ : ∃ H, H = fillH (bs s) := ⟨_, rfl⟩
        have hA := HA.out
        have hD := HD.out
        have hsl : (bs s).length = 64 := by rw [bs_length]; exact h64
        rw [List.take_of_length_le (by omega)] at hA hD
        have hy := hexOk_yes hsl hD
        rw [show 32 - (64 + 1) / 2 = 0 by omega, List.replicate_zero, List.append_nil, ← hH] at hA
        rw [← hH] at hy
        have HL := Lib.hid hy.1
        have HY := Lib.hid hy
        have HA2 := Lib.hid hA
        clear hA hD hy hH HA hlt hk
        go_wp2_with (first | (refine wpList_load_row rfl 24 _ rfl (w.heap.size + 1) rfl _ (byteVals H).toArray _ _ HA2.out Tryz.underlying24 rfl (hashInfo HL.out) ?_) | (refine wpList_store_row rfl 24 _ _ rfl w.heap.size (byteVals H).toArray rfl rfl _ _ HR.out (hashInfo HL.out) (by simp [byteVals, HL.out, HZ.out]) (hashOne _) ?_))
        refine bodyPost_ret (results_row_tmp rfl _ _ w.heap.size _ (byteVals H).toArray _ _ rfl (HR.out.setRow H) Tryz.underlying24 rfl (hashInfo HL.out)) rfl ⟨H, true, HY.out, rfl, HU.out.setRowNew (Nat.le_refl _) _⟩
end Go.Proofs.YtmnmhhbldbdpfaaGreatDoor

namespace Go.Proofs.YtmnmhhbldbdpfaaGreatDoor
open Go.RowKit
set_option maxRecDepth 100000

/-- The digit found among the first j. -/
def cand (c : UInt8) (j : Nat) : Int := match digH c with | some d => if d < j then (d : Int) else -1 | none => -1
theorem cand_hit {c : UInt8} {j : Nat} (hj : j < 16) (h : hexD j = c) : cand c (j + 1) = (j : Int) := by
  unfold cand
  rw [← h, digH_hexD j hj]
  show (if j < j + 1 then (j : Int) else -1) = _
  rw [if_pos (by omega)]
theorem cand_miss {c : UInt8} {j : Nat} (h : hexD j ≠ c) : cand c (j + 1) = cand c j := by
  unfold cand
  cases hd : digH c with
  | none => rfl
  | some d =>
    have hne : d ≠ j := fun e => h (by rw [← e]; exact (hexD_digH hd).2)
    show (if d < j + 1 then (d : Int) else -1) = (if d < j then (d : Int) else -1)
    by_cases hl : d < j
    · rw [if_pos hl, if_pos (by omega)]
    · rw [if_neg hl, if_neg (by omega)]
theorem cand_bounds (c : UInt8) (j : Nat) : -1 ≤ cand c j ∧ cand c j ≤ 15 := by
  unfold cand
  cases hd : digH c with
  | none => exact ⟨by show (-1 : Int) ≤ -1; omega, by show (-1 : Int) ≤ 15; omega⟩
  | some d =>
    have := (hexD_digH hd).1
    show -1 ≤ (if d < j then (d : Int) else -1) ∧ (if d < j then (d : Int) else -1) ≤ 15
    split <;> omega
theorem run_index_digitI (n : Nat) (hn : n < 16) (w : World) : (Instr.index 9 (.string ⟨#[48, 49, 50, 51, 52, 53, 54, 55, 56, 57, 97, 98, 99, 100, 101, 102]⟩) (.int .i64 (n : Int))).run Tryz.prog w = .ok (.int .u8 ((hexD n).toNat : Int)) w := by
  have hu : Tryz.prog.underlying 9 = some .string := Tryz.underlying9
  have h0 : (0 : Int) ≤ (n : Int) := by omega
  simp only [Instr.index, asIntOf, Sem.run_bind, Sem.run_pure, Result.andThen_ok, run_underlying hu w]
  rw [if_pos h0, Int.toNat_natCast]
  have := hexS_get n hn
  unfold hexS at this
  rw [this]
  rfl

set_option maxHeartbeats 2000000 in
theorem rhexRead_any (s : ByteArray) (w : World) : Calls Tryz.prog 81 #[.string s] w (MkHash (bs s) w) := by
  have hz : zero32.length = 32 := by simp [zero32]
  have hr1 : AB 24 (w.alloc (.cells (byteVals zero32).toArray 24)) w.heap.size zero32 := heap_alloc_new _ _
  by_cases h64 : s.size = 64
  case neg =>
    have hr2 : AB 24 ((w.alloc (.cells (byteVals zero32).toArray 24)).alloc (.cells (byteVals zero32).toArray 24)) (w.heap.size + 1) zero32 := by
      have h := heap_alloc_new (w.alloc (.cells (byteVals zero32).toArray 24)) (.cells (byteVals zero32).toArray 24)
      rw [World.size_alloc] at h
      exact h
    have HR1 := Lib.hid (hr1.upd ((Upd.refl [] _).alloc (.cells (byteVals zero32).toArray 24)))
    have HR2 := Lib.hid hr2
    have HZ := Lib.hid hz
    have hq : ¬ (s.size : Int) = 64 := by omega
    clear hr1 hr2 hz
    go_enter Tryz.func81, Tryz.ntmps81
    go_wp2_with (first | (refine wpList_load_row rfl 24 _ rfl (w.heap.size + 1) rfl _ (byteVals zero32).toArray _ _ HR2.out Tryz.underlying24 rfl (hashInfo HZ.out) ?_) | (refine wpList_store_row rfl 24 _ _ rfl w.heap.size (byteVals zero32).toArray rfl rfl _ _ HR1.out (hashInfo HZ.out) rfl (hashOne _) ?_))
    refine bodyPost_ret (results_row_tmp rfl _ _ w.heap.size _ (byteVals zero32).toArray _ _ rfl (HR1.out.setRow zero32) Tryz.underlying24 rfl (hashInfo HZ.out)) rfl ⟨zero32, false, hexOk_len (by rw [bs_length]; exact h64), rfl, (((Upd.refl _ _).alloc _).alloc _).setRowNew (Nat.le_refl _) _⟩
  case pos =>
    have hr2 : AB 24 ((w.alloc (.cells (byteVals zero32).toArray 24)).alloc (.cells (byteVals zero32).toArray 24)) (w.heap.size + 1) zero32 := by
      have h := heap_alloc_new (w.alloc (.cells (byteVals zero32).toArray 24)) (.cells (byteVals zero32).toArray 24)
      rw [World.size_alloc] at h
      exact h
    have HR1 := Lib.hid (hr1.upd ((Upd.refl [] _).alloc (.cells (byteVals zero32).toArray 24)))
    have HR2 := Lib.hid hr2
    have HZ := Lib.hid hz
    have hq : (s.size : Int) = 64 := by omega
    clear hr1 hr2 hz
    go_enter Tryz.func81, Tryz.ntmps81
    go_wp2_with fail
    go_loopw [5, 6, 7] (fun i _ _ wr => ∃ k : Nat, i = .int .i64 (k : Int) ∧ k ≤ 64 ∧ Hid (AB 24 wr (w.heap.size + 1) (fillH ((bs s).take k) ++ List.replicate (32 - (k + 1) / 2) 0)) ∧ Hid (AB 24 wr w.heap.size zero32) ∧ Hid (digs16 ((bs s).take k)) ∧ Hid (Upd [] [] w wr)) (fun i _ _ _ => 64 - (intOf i).toNat)
    case atStart => exact ⟨0, rfl, Nat.zero_le _, HR2.out, HR1.out, fun c h => by simp at h, ((Upd.refl _ _).alloc _).alloc _⟩
    case round =>
      obtain ⟨k, rfl, hk, HA, HR, HD, HU⟩ := hrel
      by_cases hlt : k < 64
      · have hks : k < s.size := by omega
        have hc := bs_get' s k hks
        have HC := Lib.hid hc
        clear hc
        have i0 : (0 : Int) ≤ (k : Int) := by omega
        have i1 : (k : Int) < 64 := by omega
        obtain ⟨c, hcE⟩ : ∃ c, c = s[k] := ⟨_, rfl⟩
        have HCE := Lib.hid hcE
        have hcT : (s[k].toNat : Int) = (c.toNat : Int) := by rw [hcE]
        clear hcE
        go_wp2_with fail
        go_loopw [6, 7] (fun nv jv wi => ∃ j : Nat, nv = .int .i64 (cand c j) ∧ jv = .int .i64 (j : Int) ∧ j ≤ 16 ∧ Hid (Upd [] [] wr wi)) (fun _ jv _ => 16 - (intOf jv).toNat)
        case atStart => exact ⟨0, by unfold cand; cases digH c <;> rfl, rfl, Nat.zero_le _, Upd.refl _ _⟩
        case round =>
          obtain ⟨j, rfl, rfl, hj, HUI⟩ := hrel
          by_cases hj16 : j < 16
          · have hix := run_index_digitI j hj16
            by_cases heq : hexD j = c
            · have hb : (((hexD j).toNat : Int) == (c.toNat : Int)) = true := by rw [beq_iff_eq, heq]
              have hcd := cand_hit hj16 heq
              clear heq
              go_wp2_with fail
              go_region_held3 (fun _ => True) (first | trivial | assumption) (fail)
              all_goals
                go_wp2_with fail
                exact ⟨⟨j + 1, by rw [hcd], by go_num, by omega, HUI.out.drew⟩, by simp [intOf]; omega⟩
            · have hb : (((hexD j).toNat : Int) == (c.toNat : Int)) = false := by
                rw [beq_eq_false_iff_ne]
                exact fun e => heq (UInt8.toNat_inj.1 (by omega))
              have hcd := cand_miss heq
              clear heq
              go_wp2_with fail
              go_region_held3 (fun _ => True) (first | trivial | assumption) (fail)
              all_goals
                go_wp2_with fail
                exact ⟨⟨j + 1, by rw [hcd], by go_num, by omega, HUI.out.drew⟩, by simp [intOf]; omega⟩
          · obtain rfl : j = 16 := by omega
            have HC2 : Hid ((bs s)[k]? = some c) := by show _ = _; rw [HC.out, HCE.out]
            have hA0 := HA.out.upd HUI.out
            have hR0 := HR.out.upd HUI.out
            have hU0 := HU.out.trans HUI.out
            clear HA HR HU HUI HC HCE hcT hj hj16
            have HA := Lib.hid hA0
            have HR := Lib.hid hR0
            have HU := Lib.hid hU0
            clear hA0 hR0 hU0
            cases hd : digH c with
            | none =>
              have hn1 : cand c 16 = -1 := by unfold cand; rw [hd]
              have HN := Lib.hid (hexOk_dig (t := bs s) (List.mem_of_getElem? HC2.out) hd)
              clear hd
              rw [hn1]
              clear hn1
              go_wp2_with (first | (refine wpList_store_row rfl 24 _ _ rfl w.heap.size (byteVals zero32).toArray rfl rfl _ _ HR.out (hashInfo HZ.out) rfl (hashOne _) ?_))
              refine bodyPost_ret (results_row_tmp rfl _ _ w.heap.size _ (byteVals zero32).toArray _ _ rfl (HR.out.setRow zero32) Tryz.underlying24 rfl (hashInfo HZ.out)) rfl ⟨zero32, false, HN.out, rfl, HU.out.setRowNew (Nat.le_refl _) _⟩
            | some n =>
              obtain ⟨hdv, hn16⟩ := dv_of hd
              have hn1 : cand c 16 = (n : Int) := by
                unfold cand
                rw [hd]
                show (if n < 16 then (n : Int) else -1) = _
                rw [if_pos hn16]
              have HD2 : Hid (digs16 ((bs s).take (k + 1))) := by
                intro x hcm
                rw [List.take_add_one, HC2.out] at hcm
                rcases List.mem_append.1 hcm with h | h
                · exact HD.out x h
                · rw [show x = c by simpa using h]
                  exact ⟨n, hd⟩
              have HDG := Lib.hid hd
              have HDV := Lib.hid hdv
              rw [hn1]
              clear hd hdv hn1
              have w1 : IntKind.u8.wrap (n : Int) = (n : Int) := by unfold IntKind.wrap; simp [IntKind.bits, IntKind.signed]; omega
              by_cases hev : k % 2 = 0
              · obtain ⟨m, rfl⟩ : ∃ m, k = 2 * m := ⟨k / 2, by omega⟩
                have hA2 := HA.out.set m (dv c)
                rw [show (2 * m + 1) / 2 = m by omega, fill_even HC2.out (by omega), HDV.out] at hA2
                have hcell := HA.out.cell (j := m) (b := 0) (by rw [show (2 * m + 1) / 2 = m by omega, List.getElem?_append_right (by rw [fillH_len, List.length_take, bs_length]; omega), List.getElem?_replicate, if_pos (by rw [fillH_len, List.length_take, bs_length]; omega)])
                have hfz := HA.out.frozen m
                have e1 : ((2 * m : Nat) : Int).tdiv 2 = (m : Int) := by rw [Int.tdiv_eq_ediv_of_nonneg (by omega)]; omega
                have e2 : ((2 * m : Nat) : Int) / 2 = (m : Int) := by omega
                have b0 : (0 : Int) ≤ (m : Int) := by omega
                have b1 : (m : Int) < 32 := by omega
                rw [show 32 - (m + 1) = 32 - (2 * m + 1 + 1) / 2 by omega] at hA2
                have HA2 := Lib.hid hA2
                clear hA2 hev
                go_wp2_with fail
                refine ⟨⟨2 * m + 1, by go_num, by omega, HA2.out, HR.out.other (by omega) _, HD2.out, HU.out.setNew (p := ⟨_, _, none⟩) (by show w.heap.size ≤ w.heap.size + 1; omega) _⟩, by simp [intOf]; omega⟩
              · obtain ⟨m, rfl⟩ : ∃ m, k = 2 * m + 1 := ⟨k / 2, by omega⟩
                have ha0 := bs_get' s (2 * m) (by omega)
                obtain ⟨f1, f2⟩ := fill_odd ha0 HC2.out
                obtain ⟨o, ho⟩ : ∃ o, digH s[2 * m] = some o := HD.out s[2 * m] (by
                  refine List.mem_of_getElem? (i := 2 * m) ?_
                  rw [List.getElem?_take_of_lt (by omega)]
                  exact ha0)
                obtain ⟨hov, ho16⟩ := dv_of ho
                have hA := HA.out
                rw [show (2 * m + 1 + 1) / 2 = m + 1 by omega] at hA
                have hcell := hA.cell f1
                rw [hov] at hcell
                have hA2 := hA.set m (UInt8.ofNat (16 * (dv s[2 * m]).toNat + (dv c).toNat))
                rw [f2, hov, HDV.out] at hA2
                have hfz := HA.out.frozen m
                have e1 : ((2 * m + 1 : Nat) : Int).tdiv 2 = (m : Int) := by rw [Int.tdiv_eq_ediv_of_nonneg (by omega)]; omega
                have e2 : ((2 * m + 1 : Nat) : Int) / 2 = (m : Int) := by omega
                have e3 : (2 * (m : Int) + 1) / 2 = (m : Int) := by omega
                have b0 : (0 : Int) ≤ (m : Int) := by omega
                have b1 : (m : Int) < 32 := by omega
                rw [show 32 - (m + 1) = 32 - (2 * m + 1 + 1 + 1) / 2 by omega, UInt8.toNat_ofNat', Nat.mod_eq_of_lt (by omega)] at hA2
                obtain ⟨o16, ho'⟩ : ∃ o16 : Nat, o16 = 16 * o := ⟨_, rfl⟩
                have w2 : IntKind.u8.wrap ((o : Int) * 16) = (o16 : Int) := by unfold IntKind.wrap; simp [IntKind.bits, IntKind.signed]; omega
                have w3 : IntKind.u8.wrap ((o16 : Int) + (n : Int)) = ((o16 + n : Nat) : Int) := by unfold IntKind.wrap; simp [IntKind.bits, IntKind.signed]; omega
                rw [← ho'] at hA2
                have HO := Lib.hid ho'
                have HA2 := Lib.hid hA2
                have HHA := Lib.hid hA
                clear hA2 hA hev f1 f2 ha0 ho hov HA ho'
                go_wp2_with fail
                refine ⟨⟨2 * m + 1 + 1, by go_num, by omega, HA2.out, HR.out.other (by omega) _, HD2.out, HU.out.setNew (p := ⟨_, _, none⟩) (by show w.heap.size ≤ w.heap.size + 1; omega) _⟩, by simp [intOf]; omega⟩
      · obtain rfl : k = 64 := by omega
        obtain ⟨H, hH⟩ : ∃ H, H = fillH (bs s) := ⟨_, rfl⟩
        have hA := HA.out
        have hD := HD.out
        have hsl : (bs s).length = 64 := by rw [bs_length]; exact h64
        rw [List.take_of_length_le (by omega)] at hA hD
        have hy := hexOk_yes hsl hD
        rw [show 32 - (64 + 1) / 2 = 0 by omega, List.replicate_zero, List.append_nil, ← hH] at hA
        rw [← hH] at hy
        have HL := Lib.hid hy.1
        have HY := Lib.hid hy
        have HA2 := Lib.hid hA
        clear hA hD hy hH HA hlt hk
        go_wp2_with (first | (refine wpList_load_row rfl 24 _ rfl (w.heap.size + 1) rfl _ (byteVals H).toArray _ _ HA2.out Tryz.underlying24 rfl (hashInfo HL.out) ?_) | (refine wpList_store_row rfl 24 _ _ rfl w.heap.size (byteVals H).toArray rfl rfl _ _ HR.out (hashInfo HL.out) (by simp [byteVals, HL.out, HZ.out]) (hashOne _) ?_))
        refine bodyPost_ret (results_row_tmp rfl _ _ w.heap.size _ (byteVals H).toArray _ _ rfl (HR.out.setRow H) Tryz.underlying24 rfl (hashInfo HL.out)) rfl ⟨H, true, HY.out, rfl, HU.out.setRowNew (Nat.le_refl _) _⟩
end Go.Proofs.YtmnmhhbldbdpfaaGreatDoor

namespace Go.Proofs.YtmnmhhbldbdpfaaGreatDoor
open Go.RowKit
set_option maxRecDepth 100000

/-- The block holds the receipt. -/
def RcAt (w : World) (g : Nat) (x : Rc) : Prop := w.heap[g]? = some (.cells (rcV x).toArray 33 (0, 0))
theorem RcAt.upd {w w' : World} {g : Nat} {x : Rc} (h : RcAt w g x) (u : Upd [] [] w w') : RcAt w' g x := row_updH h u
theorem RcAt.lt {w : World} {g : Nat} {x : Rc} (h : RcAt w g x) : g < w.heap.size := (Array.getElem?_eq_some_iff.1 h).1
theorem RcAt.cell {w : World} {g : Nat} {x : Rc} (h : RcAt w g x) (j : Nat) : w.cell? ⟨g, j, none⟩ = (rcV x)[j]? := by
  rw [cell_of_row w g j _ _ _ h, List.getElem?_toArray]
theorem RcAt.all {w : World} {g : Nat} {x : Rc} (h : RcAt w g x) : w.rangeAt g 0 (rcV x) := by
  intro j v hv
  rw [h.cell, Nat.zero_add]
  exact hv
theorem RcAt.head {w : World} {g : Nat} {x : Rc} (h : RcAt w g x) : w.cell? ⟨g, 0, none⟩ = some (.int .i64 x.kiosk) ∧ w.cell? ⟨g, 1, none⟩ = some (.int .i64 x.serial) ∧ w.cell? ⟨g, 2, none⟩ = some (.string x.draw) ∧ w.cell? ⟨g, 3, none⟩ = some (.int .i64 x.seen) :=
  ⟨h.cell 0, h.cell 1, h.cell 2, h.cell 3⟩
theorem mid_get {A B C : List Value} {o j : Nat} {v : Value} (ho : A.length = o) (h : B[j]? = some v) : (A ++ (B ++ C))[o + j]? = some v := by
  have hj := (List.getElem?_eq_some_iff.1 h).1
  rw [List.getElem?_append_right (by omega), show o + j - A.length = j by omega, List.getElem?_append_left hj]
  exact h
theorem RcAt.ranges {w : World} {g : Nat} {x : Rc} (h : RcAt w g x) (hx : x.ok) : w.rangeAt g 4 (byteVals x.out) ∧ w.rangeAt g 36 (byteVals x.hash) ∧ w.rangeAt g 68 (byteVals x.prev) := by
  obtain ⟨_, _, _, h1, h2, h3, _⟩ := hx
  refine ⟨fun j v hv => ?_, fun j v hv => ?_, fun j v hv => ?_⟩
  · rw [h.cell]
    exact mid_get rfl hv
  · rw [h.cell]
    have := mid_get (A := [.int .i64 x.kiosk, .int .i64 x.serial, .string x.draw, .int .i64 x.seen] ++ byteVals x.out) (C := byteVals x.prev ++ [.int .i64 x.r, .int .i64 x.s]) (o := 36) (by simp [byteVals_length, h1]) hv
    rw [List.append_assoc] at this
    exact this
  · rw [h.cell]
    have := mid_get (A := [.int .i64 x.kiosk, .int .i64 x.serial, .string x.draw, .int .i64 x.seen] ++ (byteVals x.out ++ byteVals x.hash)) (C := [.int .i64 x.r, .int .i64 x.s]) (o := 68) (by simp [byteVals_length, h1, h2]) hv
    rw [List.append_assoc, List.append_assoc] at this
    exact this
theorem RcAt.sig {w : World} {g : Nat} {x : Rc} (h : RcAt w g x) (hx : x.ok) : w.cell? ⟨g, 100, none⟩ = some (.int .i64 x.r) ∧ w.cell? ⟨g, 101, none⟩ = some (.int .i64 x.s) := by
  obtain ⟨_, _, _, h1, h2, h3, _⟩ := hx
  have key : ∀ j v, ([.int .i64 x.r, .int .i64 x.s] : List Value)[j]? = some v → (rcV x)[100 + j]? = some v := by
    intro j v hv
    have := mid_get (A := [.int .i64 x.kiosk, .int .i64 x.serial, .string x.draw, .int .i64 x.seen] ++ (byteVals x.out ++ (byteVals x.hash ++ byteVals x.prev))) (C := []) (o := 100) (by simp [byteVals_length, h1, h2, h3]) hv
    rw [List.append_nil, List.append_assoc, List.append_assoc, List.append_assoc] at this
    exact this
  exact ⟨(h.cell 100).trans (key 0 _ rfl), (h.cell 101).trans (key 1 _ rfl)⟩
theorem rcInfo {x : Rc} (h : x.ok) : (Tryz.prog.info? 33).map (·.size) = some (rcV x).length := by
  rw [rcV_len h]
  kernel_rfl
theorem rcOne (x : Rc) : (rcV x).toArray.all (·.oneCell') = true := by
  rw [Array.all_eq_true_iff_forall_mem]
  intro v hv
  exact rcV_one _ v (by simpa using hv)

theorem join_any (g c : Nat) (xs : List ByteArray) (w : World) (hx : StrsIn w g xs) (hc : xs.length ≤ c) (hN : xs.length ≤ 1000) (hl : (Lib.join (xs.map bs) [32]).length ≤ 140737488355328) :
    Calls Tryz.prog 42 #[.slice (some ⟨g, 0, none⟩) xs.length c] w (MkS (Lib.join (xs.map bs) [32]) w) := by
  have hj : Lib.join (xs.map (·.data.toList)) (ByteArray.mk #[32]).data.toList = Lib.join (xs.map bs) [32] := rfl
  have HJ := Lib.hid hj
  have HX := Lib.hid hx
  clear hj hx
  go_enter Tryz.func42, Tryz.ntmps42
  go_wp2_with fail
  refine (Tryz.strings_Join g 0 c xs ⟨#[32]⟩ w HX.out.2 HX.out.1 (by omega) hc (by rw [HJ.out]; omega)).mono ?_
  rintro e w1 ⟨rfl, hb⟩
  have hu := upd_of_below hb
  clear hb
  rw [HJ.out]
  obtain ⟨T, hT⟩ : ∃ T : ByteArray, T = ⟨(Lib.join (xs.map bs) [32]).toArray⟩ := ⟨_, rfl⟩
  rw [← hT]
  have hTb : bs T = Lib.join (xs.map bs) [32] := by rw [hT, bs_mk]
  have HTB := Lib.hid hTb
  clear hT hTb
  go_wp2_with fail
  go_ret
  exact ⟨T, HTB, by rw [← HTB.out, bs_length]; exact Nat.le_refl _, rfl, hu⟩
end Go.Proofs.YtmnmhhbldbdpfaaGreatDoor

namespace Go.Proofs.YtmnmhhbldbdpfaaGreatDoor
open Go.RowKit
set_option maxRecDepth 100000

/-- What a region reads of a receipt. -/
def rcS (g : Nat) (x : Rc) (w : World) : Prop := w.cell? ⟨g, 0, none⟩ = some (.int .i64 x.kiosk) ∧ w.cell? ⟨g, 1, none⟩ = some (.int .i64 x.serial) ∧ w.cell? ⟨g, 2, none⟩ = some (.string x.draw) ∧ w.cell? ⟨g, 3, none⟩ = some (.int .i64 x.seen) ∧ w.rangeAt g 4 (byteVals x.out) ∧ w.rangeAt g 36 (byteVals x.hash) ∧ w.rangeAt g 68 (byteVals x.prev)
theorem RcAt.s {w : World} {g : Nat} {x : Rc} (h : RcAt w g x) (hx : x.ok) : rcS g x w := ⟨h.head.1, h.head.2.1, h.head.2.2.1, h.head.2.2.2, (h.ranges hx).1, (h.ranges hx).2.1, (h.ranges hx).2.2⟩
theorem hashLen {l : List UInt8} (h : l.length = 32) : (Tryz.prog.info? 24).map (·.size) = some (byteVals l).length := by
  rw [byteVals_length, h]
  kernel_rfl
theorem join_body (x : Rc) (k s n a b c : ByteArray) (hk : bs k = Lib.itoa x.kiosk) (hs : bs s = Lib.itoa x.serial) (hn : bs n = Lib.itoa x.seen) (ha : bs a = hexL x.out) (hb : bs b = hexL x.hash) (hc : bs c = hexL x.prev) : Lib.join ([ByteArray.mk #[114, 101, 99, 101, 105, 112, 116], k, s, n, a, b, c, x.draw].map bs) [32] = bodyL x := by
  simp only [List.map_cons, List.map_nil, hk, hs, hn, ha, hb, hc, Lib.join, bodyL]
  simp [List.intercalate, wRc, bs]
theorem bodyL_len {x : Rc} (hx : x.ok) : (bodyL x).length ≤ 300 + x.draw.size := by
  obtain ⟨h1, h2, h3, h4, h5, h6, _⟩ := hx
  have l1 := itoa_len _ h1
  have l2 := itoa_len _ h2
  have l3 := itoa_len _ h3
  unfold bodyL
  simp only [List.length_append, List.length_cons, hexL_len, h4, h5, h6, bs_length]
  have : wRc.length = 7 := rfl
  omega

theorem strsIn_new (w : World) (xs : List ByteArray) (T : TypeId) : StrsIn (w.alloc (.cells (xs.map Value.string).toArray T)) w.heap.size xs := by
  refine ⟨by rw [World.size_alloc]; omega, fun j x hx => ?_⟩
  rw [cell_of_row _ _ _ _ _ _ (heap_alloc_new w _), List.getElem?_toArray, Nat.zero_add, List.getElem?_map, hx]
  rfl

set_option maxHeartbeats 4000000 in
theorem body_any (x : Rc) (hx : x.ok) (hd : x.draw.size ≤ 1000000000) (w : World) (htab : Tabs w) : Calls Tryz.prog 44 #[.agg (rcV x).toArray] w (MkS (bodyL x) w) := by
  obtain ⟨C, hC⟩ : ∃ C, C = (rcV x).toArray := ⟨_, rfl⟩
  have r0 : RcAt (w.alloc (.cells C 33)).drew w.heap.size x := by
    rw [hC]
    exact RcAt.upd (heap_alloc_new w _) (Upd.refl _ _).drew
  rw [← hC]
  clear hC
  have u0 : Upd [] [] w (w.alloc (.cells C 33)).drew := ((Upd.refl _ _).alloc _).drew
  have hx' := hx
  obtain ⟨h1, h2, h3, h4, h5, h6, _, _⟩ := hx'
  have l1 := itoa_len _ h1
  have l2 := itoa_len _ h2
  have l3 := itoa_len _ h3
  have hu24 : Tryz.prog.underlying 24 = some (.array 32 5) := Tryz.underlying24
  have i1 := hashLen h4
  have i2 := hashLen h5
  have i3 := hashLen h6
  obtain ⟨k0, k1, k2, k3, k4, k5, k6⟩ := r0.s hx
  have kk : ∀ W, RcAt W w.heap.size x → (W.cell? ⟨w.heap.size, 0, none⟩ = some (.int .i64 x.kiosk) ∧ W.cell? ⟨w.heap.size, 1, none⟩ = some (.int .i64 x.serial) ∧ W.cell? ⟨w.heap.size, 2, none⟩ = some (.string x.draw) ∧ W.cell? ⟨w.heap.size, 3, none⟩ = some (.int .i64 x.seen) ∧ W.rangeAt w.heap.size 4 (byteVals x.out) ∧ W.rangeAt w.heap.size 36 (byteVals x.hash) ∧ W.rangeAt w.heap.size 68 (byteVals x.prev)) := fun W r => r.s hx
  have HK := Lib.hid kk
  clear kk
  go_enter Tryz.func44, Tryz.ntmps44
  go_wp2_with fail
  refine wp_region_noPanic ?_
  refine wp_region_held_drew (S := fun wp => wp.cell? ⟨w.heap.size, 0, none⟩ = some (.int .i64 x.kiosk) ∧ wp.cell? ⟨w.heap.size, 1, none⟩ = some (.int .i64 x.serial) ∧ wp.cell? ⟨w.heap.size, 2, none⟩ = some (.string x.draw) ∧ wp.cell? ⟨w.heap.size, 3, none⟩ = some (.int .i64 x.seen) ∧ wp.rangeAt w.heap.size 4 (byteVals x.out) ∧ wp.rangeAt w.heap.size 36 (byteVals x.hash) ∧ wp.rangeAt w.heap.size 68 (byteVals x.prev)) (by kernel_rfl) ?_ (fun hHeld => ?_)
  · exact HK.out _ r0
  refine wpAnyH_take (i := 0) (v := ?v1) (by simp only [List.getElem?_toArray, List.getElem?_cons_zero] <;> rfl) (by kernel_rfl) (by kernel_rfl) (by kernel_rfl) (fun _ _ _ h => h) (Or.inl ⟨by rfl, ?y1⟩) hHeld ?r1
  case y1 => (intro w hSw; (try dsimp only at hSw); go_simp; first | done | with_reducible rfl | rfl)
  try simp only [Act.put, List.setIfInBounds_toArray, List.set_cons_zero, List.set_cons_succ]
  refine wpAnyH_take (i := 1) (v := ?v2) (by simp only [List.getElem?_toArray, List.getElem?_cons_succ, List.getElem?_cons_zero] <;> rfl) (by kernel_rfl) (by kernel_rfl) (by kernel_rfl) (fun _ _ _ h => h) (Or.inl ⟨by rfl, ?y2⟩) hHeld ?r2
  case y2 => (intro w hSw; (try dsimp only at hSw); go_simp; first | done | with_reducible rfl | rfl)
  try simp only [Act.put, List.setIfInBounds_toArray, List.set_cons_zero, List.set_cons_succ]
  refine wpAnyH_take (i := 3) (v := ?v3) (by simp only [List.getElem?_toArray, List.getElem?_cons_succ, List.getElem?_cons_zero] <;> rfl) (by kernel_rfl) (by kernel_rfl) (by kernel_rfl) (fun _ _ _ h => h) (Or.inl ⟨by rfl, ?y3⟩) hHeld ?r3
  case y3 => (intro w hSw; (try dsimp only at hSw); go_simp; first | done | with_reducible rfl | rfl)
  try simp only [Act.put, List.setIfInBounds_toArray, List.set_cons_zero, List.set_cons_succ]
  refine wpAnyH_take (i := 4) (v := ?v4) (by simp only [List.getElem?_toArray, List.getElem?_cons_succ, List.getElem?_cons_zero] <;> rfl) (by kernel_rfl) (by kernel_rfl) (by kernel_rfl) (fun _ _ _ h => h) (Or.inl ⟨by rfl, ?y4⟩) hHeld ?r4
  case y4 => (intro w hSw; (try dsimp only at hSw); go_simp; first | done | with_reducible rfl | rfl)
  try simp only [Act.put, List.setIfInBounds_toArray, List.set_cons_zero, List.set_cons_succ]
  refine wpAnyH_take (i := 6) (v := ?v5) (by simp only [List.getElem?_toArray, List.getElem?_cons_succ, List.getElem?_cons_zero] <;> rfl) (by kernel_rfl) (by kernel_rfl) (by kernel_rfl) (fun _ _ _ h => h) (Or.inl ⟨by rfl, ?y5⟩) hHeld ?r5
  case y5 => (intro w hSw; (try dsimp only at hSw); go_simp; first | done | with_reducible rfl | rfl)
  try simp only [Act.put, List.setIfInBounds_toArray, List.set_cons_zero, List.set_cons_succ]
  refine wpAnyH_take (i := 7) (v := ?v6) (by simp only [List.getElem?_toArray, List.getElem?_cons_succ, List.getElem?_cons_zero] <;> rfl) (by kernel_rfl) (by kernel_rfl) (by kernel_rfl) (fun _ _ _ h => h) (Or.inl ⟨by rfl, ?y6⟩) hHeld ?r6
  case y6 => (intro w hSw; (try dsimp only at hSw); go_simp; first | done | with_reducible rfl | rfl)
  try simp only [Act.put, List.setIfInBounds_toArray, List.set_cons_zero, List.set_cons_succ]
  refine wpAnyH_take (i := 9) (v := ?v7) (by simp only [List.getElem?_toArray, List.getElem?_cons_succ, List.getElem?_cons_zero] <;> rfl) (by kernel_rfl) (by kernel_rfl) (by kernel_rfl) (fun _ _ _ h => h) (Or.inl ⟨by rfl, ?y7⟩) hHeld ?r7
  case y7 => (intro w hSw; (try dsimp only at hSw); go_simp; first | done | with_reducible rfl | rfl)
  try simp only [Act.put, List.setIfInBounds_toArray, List.set_cons_zero, List.set_cons_succ]
  refine wpAnyH_take (i := 10) (v := .agg (byteVals x.out).toArray) (by simp only [List.getElem?_toArray, List.getElem?_cons_succ, List.getElem?_cons_zero] <;> rfl) (by kernel_rfl) (by kernel_rfl) (by kernel_rfl) (fun _ _ _ h => h) (yieldsIf_load_mid (by rfl) _ _ rfl _ _ rfl (byteVals x.out) _ (fun w hSw => hSw.2.2.2.2.1) hu24 rfl i1) hHeld ?_
  try simp only [Act.put, List.setIfInBounds_toArray, List.set_cons_zero, List.set_cons_succ]
  refine wpAnyH_take (i := 12) (v := ?v8) (by simp only [List.getElem?_toArray, List.getElem?_cons_succ, List.getElem?_cons_zero] <;> rfl) (by kernel_rfl) (by kernel_rfl) (by kernel_rfl) (fun _ _ _ h => h) (Or.inl ⟨by rfl, ?y8⟩) hHeld ?r8
  case y8 => (intro w hSw; (try dsimp only at hSw); go_simp; first | done | with_reducible rfl | rfl)
  try simp only [Act.put, List.setIfInBounds_toArray, List.set_cons_zero, List.set_cons_succ]
  refine wpAnyH_take (i := 13) (v := .agg (byteVals x.hash).toArray) (by simp only [List.getElem?_toArray, List.getElem?_cons_succ, List.getElem?_cons_zero] <;> rfl) (by kernel_rfl) (by kernel_rfl) (by kernel_rfl) (fun _ _ _ h => h) (yieldsIf_load_mid (by rfl) _ _ rfl _ _ rfl (byteVals x.hash) _ (fun w hSw => hSw.2.2.2.2.2.1) hu24 rfl i2) hHeld ?_
  try simp only [Act.put, List.setIfInBounds_toArray, List.set_cons_zero, List.set_cons_succ]
  refine wpAnyH_take (i := 15) (v := ?v9) (by simp only [List.getElem?_toArray, List.getElem?_cons_succ, List.getElem?_cons_zero] <;> rfl) (by kernel_rfl) (by kernel_rfl) (by kernel_rfl) (fun _ _ _ h => h) (Or.inl ⟨by rfl, ?y9⟩) hHeld ?r9
  case y9 => (intro w hSw; (try dsimp only at hSw); go_simp; first | done | with_reducible rfl | rfl)
  try simp only [Act.put, List.setIfInBounds_toArray, List.set_cons_zero, List.set_cons_succ]
  refine wpAnyH_take (i := 16) (v := .agg (byteVals x.prev).toArray) (by simp only [List.getElem?_toArray, List.getElem?_cons_succ, List.getElem?_cons_zero] <;> rfl) (by kernel_rfl) (by kernel_rfl) (by kernel_rfl) (fun _ _ _ h => h) (yieldsIf_load_mid (by rfl) _ _ rfl _ _ rfl (byteVals x.prev) _ (fun w hSw => hSw.2.2.2.2.2.2) hu24 rfl i3) hHeld ?_
  try simp only [Act.put, List.setIfInBounds_toArray, List.set_cons_zero, List.set_cons_succ]
  refine wpAnyH_take (i := 18) (v := ?v10) (by simp only [List.getElem?_toArray, List.getElem?_cons_succ, List.getElem?_cons_zero] <;> rfl) (by kernel_rfl) (by kernel_rfl) (by kernel_rfl) (fun _ _ _ h => h) (Or.inl ⟨by rfl, ?y10⟩) hHeld ?r10
  case y10 => (intro w hSw; (try dsimp only at hSw); go_simp; first | done | with_reducible rfl | rfl)
  try simp only [Act.put, List.setIfInBounds_toArray, List.set_cons_zero, List.set_cons_succ]
  refine wpAnyH_take (i := 19) (v := ?v11) (by simp only [List.getElem?_toArray, List.getElem?_cons_succ, List.getElem?_cons_zero] <;> rfl) (by kernel_rfl) (by kernel_rfl) (by kernel_rfl) (fun _ _ _ h => h) (Or.inl ⟨by rfl, ?y11⟩) hHeld ?r11
  case y11 => (intro w hSw; (try dsimp only at hSw); go_simp; first | done | with_reducible rfl | rfl)
  try simp only [Act.put, List.setIfInBounds_toArray, List.set_cons_zero, List.set_cons_succ]
  refine wpAnyH_ready (rs := [2]) (by kernel_rfl) (by simp) ?_
  refine AllReadyH.cons (by simp only [List.getElem?_toArray, List.getElem?_cons_succ, List.getElem?_cons_zero] <;> rfl) (fun K hK => ?_) ?_
  · go_simp; refine (itoa_any x.kiosk _ h1 (htab.upd u0)).mono ?_; rintro e w1 ⟨y1, HY1, hy1, rfl, hq⟩; have r1 := r0.upd hq; have u1 := u0.trans hq; clear hq; go_wp2_with fail
    refine hK.out _ _ ?_ (fun hHeld => ?_)
    · exact HK.out _ r1
    clear hK K
    try simp only [Act.put, List.setIfInBounds_toArray, List.set_cons_zero, List.set_cons_succ]
    refine wpAnyH_ready (rs := [5]) (by kernel_rfl) (by simp) ?_
    refine AllReadyH.cons (by simp only [List.getElem?_toArray, List.getElem?_cons_succ, List.getElem?_cons_zero] <;> rfl) (fun K hK => ?_) ?_
    · go_simp; refine (itoa_any x.serial _ h2 (htab.upd u1)).mono ?_; rintro e w2 ⟨y2, HY2, hy2, rfl, hq⟩; have r2 := r1.upd hq; have u2 := u1.trans hq; clear hq; go_wp2_with fail
      refine hK.out _ _ ?_ (fun hHeld => ?_)
      · exact HK.out _ r2
      clear hK K
      try simp only [Act.put, List.setIfInBounds_toArray, List.set_cons_zero, List.set_cons_succ]
      refine wpAnyH_ready (rs := [8]) (by kernel_rfl) (by simp) ?_
      refine AllReadyH.cons (by simp only [List.getElem?_toArray, List.getElem?_cons_succ, List.getElem?_cons_zero] <;> rfl) (fun K hK => ?_) ?_
      · go_simp; refine (itoa_any x.seen _ h3 (htab.upd u2)).mono ?_; rintro e w3 ⟨y3, HY3, hy3, rfl, hq⟩; have r3 := r2.upd hq; have u3 := u2.trans hq; clear hq; go_wp2_with fail
        refine hK.out _ _ ?_ (fun hHeld => ?_)
        · exact HK.out _ r3
        clear hK K
        try simp only [Act.put, List.setIfInBounds_toArray, List.set_cons_zero, List.set_cons_succ]
        refine wpAnyH_ready (rs := [11]) (by kernel_rfl) (by simp) ?_
        refine AllReadyH.cons (by simp only [List.getElem?_toArray, List.getElem?_cons_succ, List.getElem?_cons_zero] <;> rfl) (fun K hK => ?_) ?_
        · go_simp; refine (hexText_any x.out h4 _).mono ?_; rintro e w4 ⟨y4, HY4, hy4, rfl, hq⟩; have r4 := r3.upd hq; have u4 := u3.trans hq; clear hq; go_wp2_with fail
          refine hK.out _ _ ?_ (fun hHeld => ?_)
          · exact HK.out _ r4
          clear hK K
          try simp only [Act.put, List.setIfInBounds_toArray, List.set_cons_zero, List.set_cons_succ]
          refine wpAnyH_ready (rs := [14]) (by kernel_rfl) (by simp) ?_
          refine AllReadyH.cons (by simp only [List.getElem?_toArray, List.getElem?_cons_succ, List.getElem?_cons_zero] <;> rfl) (fun K hK => ?_) ?_
          · go_simp; refine (hexText_any x.hash h5 _).mono ?_; rintro e w5 ⟨y5, HY5, hy5, rfl, hq⟩; have r5 := r4.upd hq; have u5 := u4.trans hq; clear hq; go_wp2_with fail
            refine hK.out _ _ ?_ (fun hHeld => ?_)
            · exact HK.out _ r5
            clear hK K
            try simp only [Act.put, List.setIfInBounds_toArray, List.set_cons_zero, List.set_cons_succ]
            refine wpAnyH_ready (rs := [17]) (by kernel_rfl) (by simp) ?_
            refine AllReadyH.cons (by simp only [List.getElem?_toArray, List.getElem?_cons_succ, List.getElem?_cons_zero] <;> rfl) (fun K hK => ?_) ?_
            · go_simp; refine (hexText_any x.prev h6 _).mono ?_; rintro e w6 ⟨y6, HY6, hy6, rfl, hq⟩; have r6 := r5.upd hq; have u6 := u5.trans hq; clear hq; go_wp2_with fail
              refine hK.out _ _ ?_ (fun hHeld => ?_)
              · exact HK.out _ r6
              clear hK K
              try simp only [Act.put, List.setIfInBounds_toArray, List.set_cons_zero, List.set_cons_succ]
              refine wpAnyH_ready (rs := [20]) (by kernel_rfl) (by simp) ?_
              refine AllReadyH.cons (by simp only [List.getElem?_toArray, List.getElem?_cons_succ, List.getElem?_cons_zero] <;> rfl) (fun K hK => ?_) ?_
              · go_simp
                refine hK.out _ _ ?_ (fun hHeld => ?_)
                · exact HK.out _ (r6.upd ((Upd.refl [] _).alloc _))
                clear hK K
                try simp only [Act.put, List.setIfInBounds_toArray, List.set_cons_zero, List.set_cons_succ]
                refine wpAnyH_ready (rs := [21]) (by kernel_rfl) (by simp) ?_
                refine AllReadyH.cons (by simp only [List.getElem?_toArray, List.getElem?_cons_succ, List.getElem?_cons_zero] <;> rfl) (fun K hK => ?_) ?_
                · go_simp; refine (join_any _ 8 [ByteArray.mk #[114, 101, 99, 101, 105, 112, 116], y1, y2, y3, y4, y5, y6, x.draw] _ (strsIn_new w6 [ByteArray.mk #[114, 101, 99, 101, 105, 112, 116], y1, y2, y3, y4, y5, y6, x.draw] 9) (Nat.le_refl 8) (by show 8 ≤ 1000; omega) (by rw [join_body x y1 y2 y3 y4 y5 y6 HY1.out HY2.out HY3.out HY4.out HY5.out HY6.out]; exact Nat.le_trans (bodyL_len hx) (by omega))).mono ?_; rintro e w7 ⟨z, HZ, hz, rfl, hq⟩; have r7 := r6.upd (((Upd.refl [] _).alloc _).trans hq); have u7 := u6.trans (((Upd.refl [] _).alloc _).trans hq); clear hq; go_wp2_with fail
                  refine hK.out _ _ ?_ (fun hHeld => ?_)
                  · exact HK.out _ r7
                  clear hK K
                  try simp only [Act.put, List.setIfInBounds_toArray, List.set_cons_zero, List.set_cons_succ]
                  refine wpAnyH_take (i := 22) (v := ?v12) (by simp only [List.getElem?_toArray, List.getElem?_cons_succ, List.getElem?_cons_zero] <;> rfl) (by kernel_rfl) (by kernel_rfl) (by kernel_rfl) (fun _ _ _ h => h) (Or.inl ⟨by rfl, ?y12⟩) hHeld ?r12
                  case y12 => (intro w hSw; (try dsimp only at hSw); go_simp; first | done | with_reducible rfl | rfl)
                  try simp only [Act.put, List.setIfInBounds_toArray, List.set_cons_zero, List.set_cons_succ]
                  refine wpAnyH_done (by kernel_rfl) ?_ _
                  refine NoPanic.normal ?_
                  go_wp2_with fail
                  go_ret
                  have hz2 := HZ.out
                  rw [join_body x y1 y2 y3 y4 y5 y6 HY1.out HY2.out HY3.out HY4.out HY5.out HY6.out] at hz2 hz
                  exact ⟨z, hz2, hz, rfl, u7⟩
                exact AllReadyH.nil
              exact AllReadyH.nil
            exact AllReadyH.nil
          exact AllReadyH.nil
        exact AllReadyH.nil
      exact AllReadyH.nil
    exact AllReadyH.nil
  exact AllReadyH.nil
end Go.Proofs.YtmnmhhbldbdpfaaGreatDoor

namespace Go.Proofs.YtmnmhhbldbdpfaaGreatDoor
open Go.RowKit
set_option maxRecDepth 100000

theorem fold_set (off : Nat) : ∀ (V : List Value) (s : Nat) (A B C : List Value), A.length = off + s → B.length = V.length → (V.zipIdx s).foldl (fun (cs : Array Value) (p : Value × Nat) => cs.setIfInBounds (off + p.2) p.1) (A ++ (B ++ C)).toArray = (A ++ (V ++ C)).toArray
  | [], s, A, B, C, hA, hB => by
    have : B = [] := List.eq_nil_of_length_eq_zero (by simpa using hB)
    subst this
    rfl
  | v :: V, s, A, [], C, hA, hB => by simp at hB
  | v :: V, s, A, b :: B, C, hA, hB => by
    rw [List.zipIdx_cons, List.foldl_cons]
    have e : ((A ++ (b :: B ++ C)).toArray.setIfInBounds (off + s) v) = ((A ++ [v]) ++ (B ++ C)).toArray := by
      apply Array.ext'
      rw [Array.toList_setIfInBounds]
      show (A ++ (b :: B ++ C)).set (off + s) v = (A ++ [v]) ++ (B ++ C)
      rw [List.set_append_right _ _ (by omega), ← hA, Nat.sub_self]
      simp
    show (V.zipIdx (s + 1)).foldl _ ((A ++ (b :: B ++ C)).toArray.setIfInBounds (off + s) v) = _
    rw [e, fold_set off V (s + 1) (A ++ [v]) B C (by simp; omega) (by simpa using hB)]
    simp
theorem fold_arr (off : Nat) (V A B C : List Value) (hA : A.length = off) (hB : B.length = V.length) : V.toArray.zipIdx.foldl (fun (cs : Array Value) (p : Value × Nat) => cs.setIfInBounds (off + p.2) p.1) (A ++ (B ++ C)).toArray = (A ++ (V ++ C)).toArray := by
  have h := fold_set off V 0 A B C (by omega) hB
  rw [← Array.foldl_toList, Array.toList_zipIdx]
  exact h
/-- The places of a receipt's fields. -/
def rcPl : Array (Nat × Nat) := #[(0, 1), (1, 1), (2, 1), (3, 1), (4, 32), (36, 32), (68, 32), (100, 2)]
theorem rcV_zero : rcV Rc.zero = [.int .i64 0, .int .i64 0, .string ByteArray.empty, .int .i64 0] ++ (byteVals zero32 ++ (byteVals zero32 ++ (byteVals zero32 ++ [.int .i64 0, .int .i64 0]))) := rfl
theorem built_rc (ps : List (Nat × Value)) : Tryz.prog.built 33 ps = Instr.fill (rcPl[·]?) (rcV Rc.zero).toArray ps := by kernel_rfl
theorem fill_mid {pl : Nat → Option (Nat × Nat)} {i off n : Nat} {v : Value} {V A B C : List Value} {r : List (Nat × Value)} (hp : pl i = some (off, n)) (hv : v.cells = V.toArray) (hV : V.length = n) (hA : A.length = off) (hB : B.length = n) : Instr.fill pl (A ++ (B ++ C)).toArray ((i, v) :: r) = Instr.fill pl (A ++ (V ++ C)).toArray r := by
  rw [Instr.fill, hp]
  have hs : v.cells.size = n := by rw [hv]; simpa using hV
  have hc : ¬ (decide (v.cells.size ≠ n) || decide (off + v.cells.size > (A ++ (B ++ C)).toArray.size)) = true := by
    rw [hs]
    simp
    omega
  show (if (decide (v.cells.size ≠ n) || decide (off + v.cells.size > (A ++ (B ++ C)).toArray.size)) = true then none else _) = _
  rw [if_neg hc, hv]
  exact congrArg (fun z => Instr.fill pl z r) (fold_arr off V A B C hA (by omega))
theorem built_print (k s n : Int) (d : ByteArray) (a b c : List UInt8) (ha : a.length = 32) (hb : b.length = 32) (hc : c.length = 32) :
    Tryz.prog.built 33 [(0, .int .i64 k), (1, .int .i64 s), (2, .string d), (3, .int .i64 n), (4, .agg (byteVals a).toArray), (5, .agg (byteVals b).toArray), (6, .agg (byteVals c).toArray)] = some (rcV ⟨k, s, n, d, a, b, c, 0, 0⟩).toArray := by
  rw [built_rc]
  have z32 : (byteVals zero32).length = 32 := by simp [byteVals_length, zero32]
  have la : (byteVals a).length = 32 := by rw [byteVals_length, ha]
  have lb : (byteVals b).length = 32 := by rw [byteVals_length, hb]
  have lc : (byteVals c).length = 32 := by rw [byteVals_length, hc]
  have e0 : (rcV Rc.zero).toArray = ([] ++ ([Value.int .i64 0] ++ ([Value.int .i64 0, Value.string ByteArray.empty, Value.int .i64 0] ++ (byteVals zero32 ++ (byteVals zero32 ++ (byteVals zero32 ++ [Value.int .i64 0, Value.int .i64 0])))))).toArray := rfl
  rw [e0, fill_mid (off := 0) (n := 1) (V := [Value.int .i64 k]) rfl rfl rfl rfl rfl]
  rw [show ([] ++ ([Value.int .i64 k] ++ ([Value.int .i64 0, Value.string ByteArray.empty, Value.int .i64 0] ++ (byteVals zero32 ++ (byteVals zero32 ++ (byteVals zero32 ++ [Value.int .i64 0, Value.int .i64 0]))))) : List Value) = [Value.int .i64 k] ++ ([Value.int .i64 0] ++ ([Value.string ByteArray.empty, Value.int .i64 0] ++ (byteVals zero32 ++ (byteVals zero32 ++ (byteVals zero32 ++ [Value.int .i64 0, Value.int .i64 0]))))) from rfl, fill_mid (off := 1) (n := 1) (V := [Value.int .i64 s]) rfl rfl rfl rfl rfl]
  rw [show ([Value.int .i64 k] ++ ([Value.int .i64 s] ++ ([Value.string ByteArray.empty, Value.int .i64 0] ++ (byteVals zero32 ++ (byteVals zero32 ++ (byteVals zero32 ++ [Value.int .i64 0, Value.int .i64 0]))))) : List Value) = [Value.int .i64 k, Value.int .i64 s] ++ ([Value.string ByteArray.empty] ++ ([Value.int .i64 0] ++ (byteVals zero32 ++ (byteVals zero32 ++ (byteVals zero32 ++ [Value.int .i64 0, Value.int .i64 0]))))) from rfl, fill_mid (off := 2) (n := 1) (V := [Value.string d]) rfl rfl rfl rfl rfl]
  rw [show ([Value.int .i64 k, Value.int .i64 s] ++ ([Value.string d] ++ ([Value.int .i64 0] ++ (byteVals zero32 ++ (byteVals zero32 ++ (byteVals zero32 ++ [Value.int .i64 0, Value.int .i64 0]))))) : List Value) = [Value.int .i64 k, Value.int .i64 s, Value.string d] ++ ([Value.int .i64 0] ++ (byteVals zero32 ++ (byteVals zero32 ++ (byteVals zero32 ++ [Value.int .i64 0, Value.int .i64 0])))) from rfl, fill_mid (off := 3) (n := 1) (V := [Value.int .i64 n]) rfl rfl rfl rfl rfl]
  rw [show ([Value.int .i64 k, Value.int .i64 s, Value.string d] ++ ([Value.int .i64 n] ++ (byteVals zero32 ++ (byteVals zero32 ++ (byteVals zero32 ++ [Value.int .i64 0, Value.int .i64 0])))) : List Value) = [Value.int .i64 k, Value.int .i64 s, Value.string d, Value.int .i64 n] ++ (byteVals zero32 ++ (byteVals zero32 ++ (byteVals zero32 ++ [Value.int .i64 0, Value.int .i64 0]))) from rfl, fill_mid (off := 4) (n := 32) (V := byteVals a) rfl rfl la rfl z32]
  rw [← List.append_assoc, fill_mid (off := 36) (n := 32) (V := byteVals b) rfl rfl lb (by simp [la]) z32]
  rw [← List.append_assoc, fill_mid (off := 68) (n := 32) (V := byteVals c) rfl rfl lc (by simp [la, lb]) z32]
  rw [Instr.fill]
  simp [rcV]
end Go.Proofs.YtmnmhhbldbdpfaaGreatDoor

namespace Go.Proofs.YtmnmhhbldbdpfaaGreatDoor
open Go.RowKit
set_option maxRecDepth 100000

theorem textL_len {x : Rc} (hx : x.ok) : (textL x).length ≤ 400 + x.draw.size := by
  have h := bodyL_len hx
  have hp := pairL_len (a := x.r) (b := x.s) hx.2.2.2.2.2.2.1 hx.2.2.2.2.2.2.2
  unfold textL
  rw [List.length_append, List.length_cons]
  omega
theorem join_text (x : Rc) (a b : ByteArray) (ha : bs a = pairL x.r x.s) (hb : bs b = bodyL x) : Lib.join ([a, b].map bs) [32] = textL x := by
  simp only [List.map_cons, List.map_nil, ha, hb, Lib.join, textL]
  simp [List.intercalate]
theorem rcDesc : ∃ d, Tryz.prog.underlying 33 = some d ∧ d.isRow = true := ⟨_, Tryz.underlying33, rfl⟩
/-- What a region reads: the signature, and all. -/
theorem RcAt.two {w : World} {g : Nat} {x : Rc} (h : RcAt w g x) (hx : x.ok) : w.cell? ⟨g, 100, none⟩ = some (.int .i64 x.r) ∧ w.cell? ⟨g, 101, none⟩ = some (.int .i64 x.s) ∧ w.rangeAt g 0 (rcV x) := ⟨(h.sig hx).1, (h.sig hx).2, h.all⟩
theorem rc_box (w : World) (x : Rc) (C : Array Value) (hC : C = (rcV x).toArray) : RcAt (w.alloc (.cells C 33)) w.heap.size x := by
  rw [hC]
  exact heap_alloc_new w _

set_option maxHeartbeats 4000000 in
theorem text22_any (x : Rc) (hx : x.ok) (hd : x.draw.size ≤ 1000000000) (w : World) (htab : Tabs w) : Calls Tryz.prog 13 #[.agg (rcV x).toArray] w (MkS (textL x) w) := by
  have r0 := (rc_box w x _ rfl).upd (Upd.refl _ _).drew
  have u0 : Upd [] [] w (w.alloc (.cells (rcV x).toArray 33)).drew := ((Upd.refl _ _).alloc _).drew
  obtain ⟨C, hC⟩ : ∃ C, C = (rcV x).toArray := ⟨_, rfl⟩
  rw [← hC] at r0 u0 ⊢
  clear hC
  obtain ⟨_, _, _, _, _, _, h7, h8⟩ := id hx
  have hi := rcInfo hx
  have hu33 := Tryz.underlying33
  have HK := Lib.hid (fun (W : World) (r : RcAt W w.heap.size x) => r.two hx)
  obtain ⟨k0, k1, k2⟩ := r0.two hx
  have lb := bodyL_len hx
  go_enter Tryz.func13, Tryz.ntmps13
  go_wp2_with fail
  refine wp_region_noPanic ?_
  refine wp_region_held_drew (S := fun wp => wp.cell? ⟨w.heap.size, 100, none⟩ = some (.int .i64 x.r) ∧ wp.cell? ⟨w.heap.size, 101, none⟩ = some (.int .i64 x.s) ∧ wp.rangeAt w.heap.size 0 (rcV x)) (by kernel_rfl) ?_ (fun hHeld => ?_)
  · exact HK.out _ r0
  refine wpAnyH_take (i := 0) (v := ?v1) (by simp only [List.getElem?_toArray, List.getElem?_cons_zero] <;> rfl) (by kernel_rfl) (by kernel_rfl) (by kernel_rfl) (fun _ _ _ h => h) (Or.inl ⟨by rfl, ?y1⟩) hHeld ?r1
  case y1 => (intro w hSw; (try dsimp only at hSw); go_simp; first | done | with_reducible rfl | rfl)
  try simp only [Act.put, List.setIfInBounds_toArray, List.set_cons_zero, List.set_cons_succ]
  refine wpAnyH_take (i := 1) (v := ?v2) (by simp only [List.getElem?_toArray, List.getElem?_cons_succ, List.getElem?_cons_zero] <;> rfl) (by kernel_rfl) (by kernel_rfl) (by kernel_rfl) (fun _ _ _ h => h) (Or.inl ⟨by rfl, ?y2⟩) hHeld ?r2
  case y2 => (intro w hSw; (try dsimp only at hSw); go_simp; first | done | with_reducible rfl | rfl)
  try simp only [Act.put, List.setIfInBounds_toArray, List.set_cons_zero, List.set_cons_succ]
  refine wpAnyH_take (i := 3) (v := .agg (rcV x).toArray) (by simp only [List.getElem?_toArray, List.getElem?_cons_succ, List.getElem?_cons_zero] <;> rfl) (by kernel_rfl) (by kernel_rfl) (by kernel_rfl) (fun _ _ _ h => h) (yieldsIf_load_mid (by rfl) _ _ rfl _ _ rfl (rcV x) _ (fun w hSw => hSw.2.2) hu33 rfl hi) hHeld ?_
  try simp only [Act.put, List.setIfInBounds_toArray, List.set_cons_zero, List.set_cons_succ]
  refine wpAnyH_ready (rs := [2]) (by kernel_rfl) (by simp) ?_
  refine AllReadyH.cons (by simp only [List.getElem?_toArray, List.getElem?_cons_succ, List.getElem?_cons_zero] <;> rfl) (fun K hK => ?_) ?_
  · go_simp; refine (text_any x.r x.s _ h7 h8 (htab.upd u0)).mono ?_; rintro e w1 ⟨y1, HY1, hy1, rfl, hq⟩; have r1 := r0.upd hq; have u1 := u0.trans hq; clear hq; go_wp2_with fail
    refine hK.out _ _ ?_ (fun hHeld => ?_)
    · exact HK.out _ r1
    clear hK K
    try simp only [Act.put, List.setIfInBounds_toArray, List.set_cons_zero, List.set_cons_succ]
    refine wpAnyH_ready (rs := [4]) (by kernel_rfl) (by simp) ?_
    refine AllReadyH.cons (by simp only [List.getElem?_toArray, List.getElem?_cons_succ, List.getElem?_cons_zero] <;> rfl) (fun K hK => ?_) ?_
    · go_simp; refine (body_any x hx hd _ (htab.upd u1)).mono ?_; rintro e w2 ⟨y2, HY2, hy2, rfl, hq⟩; have r2 := r1.upd hq; have u2 := u1.trans hq; clear hq; go_wp2_with fail
      refine hK.out _ _ ?_ (fun hHeld => ?_)
      · exact HK.out _ r2
      clear hK K
      try simp only [Act.put, List.setIfInBounds_toArray, List.set_cons_zero, List.set_cons_succ]
      refine wpAnyH_ready (rs := [5]) (by kernel_rfl) (by simp) ?_
      refine AllReadyH.cons (by simp only [List.getElem?_toArray, List.getElem?_cons_succ, List.getElem?_cons_zero] <;> rfl) (fun K hK => ?_) ?_
      · go_simp
        refine hK.out _ _ ?_ (fun hHeld => ?_)
        · exact HK.out _ (r2.upd ((Upd.refl [] _).alloc _))
        clear hK K
        try simp only [Act.put, List.setIfInBounds_toArray, List.set_cons_zero, List.set_cons_succ]
        refine wpAnyH_ready (rs := [6]) (by kernel_rfl) (by simp) ?_
        refine AllReadyH.cons (by simp only [List.getElem?_toArray, List.getElem?_cons_succ, List.getElem?_cons_zero] <;> rfl) (fun K hK => ?_) ?_
        · go_simp; refine (join_any _ 2 [y1, y2] _ (strsIn_new w2 [y1, y2] 9) (Nat.le_refl 2) (by show 2 ≤ 1000; omega) (by rw [join_text x y1 y2 HY1.out HY2.out]; exact Nat.le_trans (textL_len hx) (by omega))).mono ?_; rintro e w3 ⟨z, HZ, hz, rfl, hq⟩; have r3 := r2.upd (((Upd.refl [] _).alloc _).trans hq); have u3 := u2.trans (((Upd.refl [] _).alloc _).trans hq); clear hq; go_wp2_with fail
          refine hK.out _ _ ?_ (fun hHeld => ?_)
          · exact HK.out _ r3
          clear hK K
          try simp only [Act.put, List.setIfInBounds_toArray, List.set_cons_zero, List.set_cons_succ]
          refine wpAnyH_take (i := 7) (v := ?v3) (by simp only [List.getElem?_toArray, List.getElem?_cons_succ, List.getElem?_cons_zero] <;> rfl) (by kernel_rfl) (by kernel_rfl) (by kernel_rfl) (fun _ _ _ h => h) (Or.inl ⟨by rfl, ?y3⟩) hHeld ?r3
          case y3 => (intro w hSw; (try dsimp only at hSw); go_simp; first | done | with_reducible rfl | rfl)
          try simp only [Act.put, List.setIfInBounds_toArray, List.set_cons_zero, List.set_cons_succ]
          refine wpAnyH_done (by kernel_rfl) ?_ _
          refine NoPanic.normal ?_
          go_wp2_with fail
          go_ret
          have hz2 := HZ.out
          rw [join_text x y1 y2 HY1.out HY2.out] at hz2 hz
          exact ⟨z, hz2, hz, rfl, u3⟩
        exact AllReadyH.nil
      exact AllReadyH.nil
    exact AllReadyH.nil
  exact AllReadyH.nil

set_option maxHeartbeats 4000000 in
theorem verify22_any (p : Int) (x : Rc) (hp : i64in p) (hx : x.ok) (hd : x.draw.size ≤ 1000000000) (w : World) (htab : Tabs w) : Calls Tryz.prog 25 #[.int .i64 p, .agg (rcV x).toArray] w (fun e w' => e = .returned (.bool (verB p (bodyL x) x.r x.s)) ∧ Upd [] [] w w') := by
  have r0 := (rc_box w x _ rfl).upd (Upd.refl _ _).drew
  have u0 : Upd [] [] w (w.alloc (.cells (rcV x).toArray 33)).drew := ((Upd.refl _ _).alloc _).drew
  obtain ⟨C, hC⟩ : ∃ C, C = (rcV x).toArray := ⟨_, rfl⟩
  rw [← hC] at r0 u0 ⊢
  clear hC
  obtain ⟨_, _, _, _, _, _, h7, h8⟩ := id hx
  have hi := rcInfo hx
  have hu33 := Tryz.underlying33
  have HK := Lib.hid (fun (W : World) (r : RcAt W w.heap.size x) => r.two hx)
  obtain ⟨k0, k1, k2⟩ := r0.two hx
  have lb := bodyL_len hx
  go_enter Tryz.func25, Tryz.ntmps25
  go_wp2_with fail
  refine wp_region_noPanic ?_
  refine wp_region_held_drew (S := fun wp => wp.cell? ⟨w.heap.size, 100, none⟩ = some (.int .i64 x.r) ∧ wp.cell? ⟨w.heap.size, 101, none⟩ = some (.int .i64 x.s) ∧ wp.rangeAt w.heap.size 0 (rcV x)) (by kernel_rfl) ?_ (fun hHeld => ?_)
  · exact HK.out _ r0
  refine wpAnyH_take (i := 0) (v := ?v1) (by simp only [List.getElem?_toArray, List.getElem?_cons_zero] <;> rfl) (by kernel_rfl) (by kernel_rfl) (by kernel_rfl) (fun _ _ _ h => h) (Or.inl ⟨by rfl, ?y1⟩) hHeld ?r1
  case y1 => (intro w hSw; (try dsimp only at hSw); go_simp; first | done | with_reducible rfl | rfl)
  try simp only [Act.put, List.setIfInBounds_toArray, List.set_cons_zero, List.set_cons_succ]
  refine wpAnyH_take (i := 1) (v := .agg (rcV x).toArray) (by simp only [List.getElem?_toArray, List.getElem?_cons_succ, List.getElem?_cons_zero] <;> rfl) (by kernel_rfl) (by kernel_rfl) (by kernel_rfl) (fun _ _ _ h => h) (yieldsIf_load_mid (by rfl) _ _ rfl _ _ rfl (rcV x) _ (fun w hSw => hSw.2.2) hu33 rfl hi) hHeld ?_
  try simp only [Act.put, List.setIfInBounds_toArray, List.set_cons_zero, List.set_cons_succ]
  refine wpAnyH_take (i := 3) (v := ?v2) (by simp only [List.getElem?_toArray, List.getElem?_cons_succ, List.getElem?_cons_zero] <;> rfl) (by kernel_rfl) (by kernel_rfl) (by kernel_rfl) (fun _ _ _ h => h) (Or.inl ⟨by rfl, ?y2⟩) hHeld ?r2
  case y2 => (intro w hSw; (try dsimp only at hSw); go_simp; first | done | with_reducible rfl | rfl)
  try simp only [Act.put, List.setIfInBounds_toArray, List.set_cons_zero, List.set_cons_succ]
  refine wpAnyH_take (i := 4) (v := ?v3) (by simp only [List.getElem?_toArray, List.getElem?_cons_succ, List.getElem?_cons_zero] <;> rfl) (by kernel_rfl) (by kernel_rfl) (by kernel_rfl) (fun _ _ _ h => h) (Or.inl ⟨by rfl, ?y3⟩) hHeld ?r3
  case y3 => (intro w hSw; (try dsimp only at hSw); go_simp; first | done | with_reducible rfl | rfl)
  try simp only [Act.put, List.setIfInBounds_toArray, List.set_cons_zero, List.set_cons_succ]
  refine wpAnyH_ready (rs := [2]) (by kernel_rfl) (by simp) ?_
  refine AllReadyH.cons (by simp only [List.getElem?_toArray, List.getElem?_cons_succ, List.getElem?_cons_zero] <;> rfl) (fun K hK => ?_) ?_
  · go_simp; refine (body_any x hx hd _ (htab.upd u0)).mono ?_; rintro e w1 ⟨y1, HY1, hy1, rfl, hq⟩; have r1 := r0.upd hq; have u1 := u0.trans hq; clear hq; go_wp2_with fail
    refine hK.out _ _ ?_ (fun hHeld => ?_)
    · exact HK.out _ r1
    clear hK K
    try simp only [Act.put, List.setIfInBounds_toArray, List.set_cons_zero, List.set_cons_succ]
    refine wpAnyH_ready (rs := [5]) (by kernel_rfl) (by simp) ?_
    refine AllReadyH.cons (by simp only [List.getElem?_toArray, List.getElem?_cons_succ, List.getElem?_cons_zero] <;> rfl) (fun K hK => ?_) ?_
    · go_simp; refine (verify_is p y1 x.r x.s _ _ hp h7 h8 (by omega) (htab.upd u1) rfl).mono ?_; rintro e w2 ⟨rfl, hq⟩; have r2 := r1.upd hq; have u2 := u1.trans hq; clear hq; go_wp2_with fail
      refine hK.out _ _ ?_ (fun hHeld => ?_)
      · exact HK.out _ r2
      clear hK K
      try simp only [Act.put, List.setIfInBounds_toArray, List.set_cons_zero, List.set_cons_succ]
      refine wpAnyH_take (i := 6) (v := ?v4) (by simp only [List.getElem?_toArray, List.getElem?_cons_succ, List.getElem?_cons_zero] <;> rfl) (by kernel_rfl) (by kernel_rfl) (by kernel_rfl) (fun _ _ _ h => h) (Or.inl ⟨by rfl, ?y4⟩) hHeld ?r4
      case y4 => (intro w hSw; (try dsimp only at hSw); go_simp; first | done | with_reducible rfl | rfl)
      try simp only [Act.put, List.setIfInBounds_toArray, List.set_cons_zero, List.set_cons_succ]
      refine wpAnyH_done (by kernel_rfl) ?_ _
      refine NoPanic.normal ?_
      go_wp2_with fail
      go_ret
      exact ⟨by rw [HY1.out]; rfl, u2⟩
    exact AllReadyH.nil
  exact AllReadyH.nil

end Go.Proofs.YtmnmhhbldbdpfaaGreatDoor

namespace Go.Proofs.YtmnmhhbldbdpfaaGreatDoor
open Go.RowKit
set_option maxRecDepth 100000

theorem rcSz {x : Rc} (h : x.ok) : (Tryz.prog.info? 33).map (·.size) = some (rcV x).toArray.size := by
  rw [rcInfo h]
  simp
theorem sha_len (s : List UInt8) : (sha s).length = 32 := by unfold sha; rw [outS_length]

set_option maxHeartbeats 2000000 in
theorem hash22_any (x : Rc) (hx : x.ok) (hd : x.draw.size ≤ 1000000000) (w : World) (htab : Tabs w) : Calls Tryz.prog 29 #[.agg (rcV x).toArray] w (Mk (.agg (byteVals (sha (textL x))).toArray) w) := by
  have r0 : RcAt ((w.alloc (.cells (rcV x).toArray 33)).alloc (.cells (byteVals zero32).toArray 24)) w.heap.size x := (rc_box w x _ rfl).upd ((Upd.refl _ _).alloc _)
  have s0 : AB 24 ((w.alloc (.cells (rcV x).toArray 33)).alloc (.cells (byteVals zero32).toArray 24)) (w.heap.size + 1) zero32 := by
    have h := heap_alloc_new (w.alloc (.cells (rcV x).toArray 33)) (.cells (byteVals zero32).toArray 24)
    rw [World.size_alloc] at h
    exact h
  have u0 : Upd [] [] w ((w.alloc (.cells (rcV x).toArray 33)).alloc (.cells (byteVals zero32).toArray 24)) := ((Upd.refl _ _).alloc _).alloc _
  have HS := Lib.hid (rcSz hx)
  have HCT := Lib.hid (text22_any x hx hd _ (htab.upd u0))
  have lb := textL_len hx
  obtain ⟨C, hC⟩ : ∃ C, C = (rcV x).toArray := ⟨_, rfl⟩
  rw [← hC] at r0 u0 s0 HS HCT ⊢
  have HR : Hid (((w.alloc (.cells C 33)).alloc (.cells (byteVals zero32).toArray 24)).heap[w.heap.size]? = some (.cells C 33 (0, 0))) := by
    show _ = _
    rw [hC] at r0 ⊢
    exact r0
  clear hC
  have HZ := Lib.hid s0
  clear r0 s0
  go_enter Tryz.func29, Tryz.ntmps29
  go_wp2_with (first | (refine wpList_load_row rfl 33 _ rfl w.heap.size rfl _ C _ _ HR.out Tryz.underlying33 rfl HS.out ?_))
  refine HCT.out.mono ?_
  rintro e w1 ⟨y, HY, hy, rfl, hq⟩
  have u1 := u0.trans hq
  have HZ1 := Lib.hid (HZ.out.upd hq)
  clear hq HCT HR
  go_wp2_with fail
  refine (sum_any y w1 (by omega) (htab.upd u1)).mono ?_
  rintro e w2 ⟨rfl, hq⟩
  have u2 := u1.trans hq
  have HZ2 := Lib.hid (HZ1.out.upd hq)
  obtain ⟨D, hD⟩ : ∃ D, D = sha (bs y) := ⟨_, rfl⟩
  have hDl : D.length = 32 := by rw [hD]; exact sha_len _
  have HDL := Lib.hid hDl
  have HDE := Lib.hid hD
  rw [← hD]
  clear hq hD hDl
  go_wp2_with (first | (refine wpList_store_row rfl 24 _ _ rfl (w.heap.size + 1) (byteVals D).toArray rfl rfl _ _ HZ2.out (hashInfo HDL.out) (by simp [byteVals, HDL.out, zero32]) (hashOne _) ?_))
  refine bodyPost_ret (results_cell_row rfl _ _ (w.heap.size + 1) _ (byteVals D).toArray _ _ rfl (HZ2.out.setRow D) Tryz.underlying24 rfl (hashInfo HDL.out)) rfl ⟨?_, u2.setRowNew (by omega) _⟩
  rw [HDE.out, HY.out]
end Go.Proofs.YtmnmhhbldbdpfaaGreatDoor
