/- sortesref04: Residue, plus, Add, Mul, Pow. sortesref04.number, Scalar, Member; sortesref05.Bytes, Exponent, positive, Public, Key, Challenge, SignWith, Sign, Verify. sortesref04.Member; sortesref05.SignWith, Sign, Verify. One byte as a text. sortesref05.decimal, Text. How numerals and pairs are read digit by digit, plainly. sortesref05.Text, number, Read. digest.Read: a hash's text, read: the walk. sortesref03.Read: a hash's text, read: the walk. sorteslaw05.sanity. -/
import Derived.Test.YtinpenoeohejoaaGreatDoorGB
import Derived.Test.YtinpenoeohejoaaGreatDoorGC
import Derived.Test.YtinpenoeohejoaaGreatDoorRows
import Derived.Test.YtinpenoeohejoaaGreatDoorGA
namespace Go.Proofs.YtinpenoeohejoaaGreatDoor
open Go.RowKit
set_option maxRecDepth 100000

end Go.Proofs.YtinpenoeohejoaaGreatDoor

namespace Go.Proofs.YtinpenoeohejoaaGreatDoor
open Go.RowKit
set_option maxRecDepth 100000

end Go.Proofs.YtinpenoeohejoaaGreatDoor

namespace Go.Proofs.YtinpenoeohejoaaGreatDoor
open Go.RowKit
set_option maxRecDepth 100000

end Go.Proofs.YtinpenoeohejoaaGreatDoor

namespace Go.Proofs.YtinpenoeohejoaaGreatDoor
open Go.RowKit
set_option maxRecDepth 100000

end Go.Proofs.YtinpenoeohejoaaGreatDoor

namespace Go.Proofs.YtinpenoeohejoaaGreatDoor
open Go.RowKit
set_option maxRecDepth 100000

end Go.Proofs.YtinpenoeohejoaaGreatDoor

namespace Go.Proofs.YtinpenoeohejoaaGreatDoor
set_option maxRecDepth 100000
open Go Go.RowKit

end Go.Proofs.YtinpenoeohejoaaGreatDoor

namespace Go.Proofs.YtinpenoeohejoaaGreatDoor
open Go.RowKit
set_option maxRecDepth 100000

theorem bs_get' (s : ByteArray) (k : Nat) (h : k < s.size) : (bs s)[k]? = some s[k] := by
  have : k < (bs s).length := h
  rw [List.getElem?_eq_getElem this]; rfl
end Go.Proofs.YtinpenoeohejoaaGreatDoor

namespace Go.Proofs.YtinpenoeohejoaaGreatDoor
open Go.RowKit
set_option maxRecDepth 100000

theorem idx_is (c : UInt8) (w : World) : Calls Tryz.prog 148 #[.string ⟨#[48, 49, 50, 51, 52, 53, 54, 55, 56, 57, 97, 98, 99, 100, 101, 102]⟩, .int .u8 (c.toNat : Int)] w (fun e w' => e = .returned (.int .i64 (match digH c with | some n => (n : Int) | none => -1)) ∧ w' = w) := by
  refine (Tryz.strings_IndexByte _ (c.toNat : Int) w).mono ?_
  rintro e w' ⟨rfl, rfl⟩
  refine ⟨?_, rfl⟩
  have h := digit_index c
  have e1 : ((c.toNat : Int)).toNat.toUInt8 = c := by simp
  rw [e1]
  exact congrArg (fun x => Ending.returned (.int .i64 x)) h
theorem idx_some {c : UInt8} {n : Nat} (h : digH c = some n) (w : World) : Calls Tryz.prog 148 #[.string ⟨#[48, 49, 50, 51, 52, 53, 54, 55, 56, 57, 97, 98, 99, 100, 101, 102]⟩, .int .u8 (c.toNat : Int)] w (fun e w' => e = .returned (.int .i64 (n : Int)) ∧ w' = w) := by
  have := idx_is c w
  rw [h] at this
  exact this
theorem idx_none {c : UInt8} (h : digH c = none) (w : World) : Calls Tryz.prog 148 #[.string ⟨#[48, 49, 50, 51, 52, 53, 54, 55, 56, 57, 97, 98, 99, 100, 101, 102]⟩, .int .u8 (c.toNat : Int)] w (fun e w' => e = .returned (.int .i64 (-1)) ∧ w' = w) := by
  have := idx_is c w
  rw [h] at this
  exact this
def zero32 : List UInt8 := List.replicate 32 0
theorem hashInfo {l : List UInt8} (h : l.length = 32) : (Tryz.prog.info? 37).map (·.size) = some (byteVals l).toArray.size := by
  rw [show (byteVals l).toArray.size = 32 by simp [byteVals, h]]
  kernel_rfl
theorem hashOne (l : List UInt8) : (byteVals l).toArray.all (·.oneCell') = true := by
  rw [Array.all_eq_true_iff_forall_mem]
  intro v hv
  exact byteVals_one _ v (by simpa using hv)
theorem AB.setRow {T : TypeId} {w : World} {g : Nat} {c : List UInt8} (h : AB T w g c) (d : List UInt8) : AB T (w.setRow g (byteVals d).toArray) g d := setRow_heap w g _ _ _ _ h

theorem AB.other {T : TypeId} {w : World} {g L j : Nat} {c : List UInt8} (h : AB T w g c) (n : g ≠ L) (v : Value) : AB T (w.setCell ⟨L, j, none⟩ v) g c := by
  unfold AB at h ⊢
  rw [((Upd.refl [L] w).setCell (p := ⟨L, j, none⟩) (by simp) v).block g (Array.getElem?_eq_some_iff.1 h).1 (by simpa using n)]
  exact h

set_option maxHeartbeats 2000000 in
theorem hexRead_any (s : ByteArray) (w : World) : Calls Tryz.prog 115 #[.string s] w (MkHash (bs s) w) := by
  have hz : zero32.length = 32 := by simp [zero32]
  have hr1 : AB 37 (w.alloc (.cells (byteVals zero32).toArray 37)) w.heap.size zero32 := heap_alloc_new _ _
  by_cases h64 : s.size = 64
  case neg =>
    have HR1 := Lib.hid hr1
    have HZ := Lib.hid hz
    have hq : ¬ (s.size : Int) = 64 := by omega
    clear hr1 hz
    go_enter Tryz.func115, Tryz.ntmps115
    go_wp2_with (first | (refine wpList_store_row rfl 37 _ _ rfl w.heap.size (byteVals zero32).toArray rfl rfl _ _ HR1.out (hashInfo HZ.out) rfl (hashOne _) ?_))
    refine bodyPost_ret (results_row_tmp rfl _ _ w.heap.size _ (byteVals zero32).toArray _ _ rfl (HR1.out.setRow zero32) Tryz.underlying37 rfl (hashInfo HZ.out)) rfl ⟨zero32, false, hexOk_len (by rw [bs_length]; exact h64), rfl, ((Upd.refl _ _).alloc _).setRowNew (Nat.le_refl _) _⟩
  case pos =>
    have hr2 : AB 37 ((w.alloc (.cells (byteVals zero32).toArray 37)).alloc (.cells (byteVals zero32).toArray 37)) (w.heap.size + 1) zero32 := by
      have h := heap_alloc_new (w.alloc (.cells (byteVals zero32).toArray 37)) (.cells (byteVals zero32).toArray 37)
      rw [World.size_alloc] at h
      exact h
    have HR1 := Lib.hid (hr1.upd ((Upd.refl [] _).alloc (.cells (byteVals zero32).toArray 37)))
    have HR2 := Lib.hid hr2
    have HZ := Lib.hid hz
    have hq : (s.size : Int) = 64 := by omega
    clear hr1 hr2 hz
    go_enter Tryz.func115, Tryz.ntmps115
    go_wp2_with fail
    go_loopw [5, 6, 13] (fun _ _ i wr => ∃ k : Nat, i = .int .i64 (k : Int) ∧ k ≤ 64 ∧ Hid (AB 37 wr (w.heap.size + 1) (fillH ((bs s).take k) ++ List.replicate (32 - (k + 1) / 2) 0)) ∧ Hid (AB 37 wr w.heap.size zero32) ∧ Hid (digs16 ((bs s).take k)) ∧ Hid (Upd [] [] w wr)) (fun _ _ i _ => 64 - (intOf i).toNat)
    case atStart => exact ⟨0, rfl, Nat.zero_le _, HR2.out, HR1.out, fun c h => by simp at h, ((Upd.refl _ _).alloc _).alloc _⟩
    case round =>
      obtain ⟨k, rfl, hk, HA, HR, HD, HU⟩ := hrel
      by_cases hlt : k < 64
      · have hks : k < s.size := by omega
        have hc := bs_get' s k hks
        have HC := Lib.hid hc
        clear hc
        have i0 : (0 : Int) ≤ (k : Int) := by omega
        have i1 : (k : Int) < 64 := by omega
        cases hd : digH s[k] with
        | none =>
          have HN := Lib.hid (hexOk_dig (t := bs s) (List.mem_of_getElem? HC.out) hd)
          have hct := idx_none hd
          clear hd
          go_wp2_with fail
          refine (hct wr).mono ?_
          rintro e w1 ⟨rfl, rfl⟩
          go_wp2_with (first | (refine wpList_store_row rfl 37 _ _ rfl w.heap.size (byteVals zero32).toArray rfl rfl _ _ HR.out (hashInfo HZ.out) rfl (hashOne _) ?_))
          refine bodyPost_ret (results_row_tmp rfl _ _ w.heap.size _ (byteVals zero32).toArray _ _ rfl (HR.out.setRow zero32) Tryz.underlying37 rfl (hashInfo HZ.out)) rfl ⟨zero32, false, HN.out, rfl, HU.out.setRowNew (Nat.le_refl _) _⟩
        | some n =>
          obtain ⟨hdv, hn16⟩ := dv_of hd
          have hct := idx_some hd
          have HD2 : Hid (digs16 ((bs s).take (k + 1))) := by
            intro c hcm
            rw [List.take_add_one, HC.out] at hcm
            rcases List.mem_append.1 hcm with h | h
            · exact HD.out c h
            · rw [show c = s[k] by simpa using h]
              exact ⟨n, hd⟩
          have HDG := Lib.hid hd
          have HDV := Lib.hid hdv
          clear hd hdv
          by_cases hev : k % 2 = 0
          · obtain ⟨m, rfl⟩ : ∃ m, k = 2 * m := ⟨k / 2, by omega⟩
            have hA2 := (HA.out.set m (dv s[2 * m])).upd (Upd.refl [] _)
            rw [show (2 * m + 1) / 2 = m by omega, fill_even HC.out (by omega)] at hA2
            have hcell := HA.out.cell (j := m) (b := 0) (by rw [show (2 * m + 1) / 2 = m by omega, List.getElem?_append_right (by rw [fillH_len, List.length_take, bs_length]; omega), List.getElem?_replicate, if_pos (by rw [fillH_len, List.length_take, bs_length]; omega)])
            have hfz := HA.out.frozen m
            have e1 : ((2 * m : Nat) : Int).tdiv 2 = (m : Int) := by rw [Int.tdiv_eq_ediv_of_nonneg (by omega)]; omega
            have e2 : ((2 * m : Nat) : Int) / 2 = (m : Int) := by omega
            have b0 : (0 : Int) ≤ (m : Int) := by omega
            have b1 : (m : Int) < 32 := by omega
            rw [show 32 - (m + 1) = 32 - (2 * m + 1 + 1) / 2 by omega] at hA2
            have HA2 := Lib.hid hA2
            clear hA2 hev
            go_wp2_with fail
            refine (hct wr).mono ?_
            rintro e w1 ⟨rfl, rfl⟩
            have vb : Go.bits .or .u8 0 (n : Int) = ((dv s[2 * m]).toNat : Int) := by
              have h := or_digit 0 (by omega) n hn16
              rw [HDV.out]
              simpa using h
            go_wp2_with fail
            refine ⟨⟨2 * m + 1, by go_num, by omega, HA2.out, HR.out.other (by omega) _, HD2.out, HU.out.setNew (p := ⟨_, _, none⟩) (by show w.heap.size ≤ w.heap.size + 1; omega) _⟩, by simp [intOf]; omega⟩
          · obtain ⟨m, rfl⟩ : ∃ m, k = 2 * m + 1 := ⟨k / 2, by omega⟩
            have ha0 := bs_get' s (2 * m) (by omega)
            obtain ⟨f1, f2⟩ := fill_odd ha0 HC.out
            obtain ⟨o, ho⟩ : ∃ o, digH s[2 * m] = some o := HD.out s[2 * m] (by
              refine List.mem_of_getElem? (i := 2 * m) ?_
              rw [List.getElem?_take_of_lt (by omega)]
              exact ha0)
            obtain ⟨hov, ho16⟩ := dv_of ho
            have hA := HA.out
            rw [show (2 * m + 1 + 1) / 2 = m + 1 by omega] at hA
            have hcell := hA.cell f1
            rw [hov] at hcell
            have hA2 := hA.set m (UInt8.ofNat (16 * (dv s[2 * m]).toNat + (dv s[2 * m + 1]).toNat))
            rw [f2, hov, HDV.out] at hA2
            have hfz := HA.out.frozen m
            have e1 : ((2 * m + 1 : Nat) : Int).tdiv 2 = (m : Int) := by rw [Int.tdiv_eq_ediv_of_nonneg (by omega)]; omega
            have e2 : ((2 * m + 1 : Nat) : Int) / 2 = (m : Int) := by omega
            have e3 : (2 * (m : Int) + 1) / 2 = (m : Int) := by omega
            have b0 : (0 : Int) ≤ (m : Int) := by omega
            have b1 : (m : Int) < 32 := by omega
            rw [show 32 - (m + 1) = 32 - (2 * m + 1 + 1 + 1) / 2 by omega] at hA2
            have HA2 := Lib.hid hA2
            have HHA := Lib.hid hA
            clear hA2 hA hev f1 f2 ha0 ho hov HA
            go_wp2_with fail
            refine (hct wr).mono ?_
            rintro e w1 ⟨rfl, rfl⟩
            have vb : Go.bits .or .u8 ((o : Int) * 16) (n : Int) = ((UInt8.ofNat (16 * o + n)).toNat : Int) := by
              have h := or_digit o ho16 n hn16
              rw [show ((16 * o : Nat) : Int) = (o : Int) * 16 by omega] at h
              rw [h, UInt8.toNat_ofNat', Nat.mod_eq_of_lt (by omega)]
            go_wp2_with fail
            refine ⟨⟨2 * m + 1 + 1, by go_num, by omega, HA2.out, HR.out.other (by omega) _, HD2.out, HU.out.setNew (p := ⟨_, _, none⟩) (by show w.heap.size ≤ w.heap.size + 1; omega) _⟩, by simp [intOf]; omega⟩
      · obtain rfl : k = 64 := by omega
        obtain ⟨H, hH⟩ : ∃ H, H = fillH (bs s) := ⟨_, rfl⟩
        have hA := HA.out
        have hD := HD.out
        have hsl : (bs s).length = 64 := by rw [bs_length]; exact h64
        rw [List.take_of_length_le (by omega)] at hA hD
        have hy := hexOk_yes hsl hD
        rw [show 32 - (64 + 1) / 2 = 0 by omega, List.replicate_zero, List.append_nil, ← hH] at hA
        rw [← hH] at hy
        have HL := Lib.hid hy.1
        have HY := Lib.hid hy
        have HA2 := Lib.hid hA
        clear hA hD hy hH HA hlt hk
        go_wp2_with (first | (refine wpList_load_row rfl 37 _ rfl (w.heap.size + 1) rfl _ (byteVals H).toArray _ _ HA2.out Tryz.underlying37 rfl (hashInfo HL.out) ?_) | (refine wpList_store_row rfl 37 _ _ rfl w.heap.size (byteVals H).toArray rfl rfl _ _ HR.out (hashInfo HL.out) (by simp [byteVals, HL.out, HZ.out]) (hashOne _) ?_))
        refine bodyPost_ret (results_row_tmp rfl _ _ w.heap.size _ (byteVals H).toArray _ _ rfl (HR.out.setRow H) Tryz.underlying37 rfl (hashInfo HL.out)) rfl ⟨H, true, HY.out, rfl, HU.out.setRowNew (Nat.le_refl _) _⟩
end Go.Proofs.YtinpenoeohejoaaGreatDoor

namespace Go.Proofs.YtinpenoeohejoaaGreatDoor
open Go.RowKit
set_option maxRecDepth 100000

end Go.Proofs.YtinpenoeohejoaaGreatDoor

namespace Go.Proofs.YtinpenoeohejoaaGreatDoor
open Go.RowKit
set_option maxRecDepth 100000

def TrueMk (w : World) (e : Ending) (w' : World) : Prop := e = .returned (.bool true) ∧ Upd [] [] w w'

theorem verify_is (p : Int) (t : ByteArray) (r s : Int) (b : Bool) (w : World) (hp : i64in p) (hr : i64in r) (hs : i64in s) (ht : t.size ≤ 140737488355000) (htab : Tabs w) (h : verB p (bs t) r s = b) :
    Calls Tryz.prog 118 #[.int .i64 p, .string t, .agg #[.int .i64 r, .int .i64 s]] w (fun e w' => e = .returned (.bool b) ∧ Upd [] [] w w') := by
  refine (verify_any p t r s w hp hr hs ht htab).mono ?_
  rintro e w' ⟨x, HX, rfl, hu⟩
  exact ⟨by rw [HX.out, h], hu⟩

theorem itoa_3 : Lib.itoa 3 = [51] := by
  show Lib.decDigits 3 = _
  rw [Lib.decDigits_one (by omega)]
  rfl
end Go.Proofs.YtinpenoeohejoaaGreatDoor
