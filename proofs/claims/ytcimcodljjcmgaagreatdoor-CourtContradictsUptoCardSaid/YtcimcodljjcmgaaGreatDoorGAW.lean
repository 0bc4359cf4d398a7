/- sortesref01: Int of a large number, Cmp against one, Sub by one. -/
import Derived.Test.YtcimcodljjcmgaaGreatDoorGAV
import Derived.Test.YtcimcodljjcmgaaGreatDoorGAH
namespace Go.Proofs.YtcimcodljjcmgaaGreatDoor
open Go.RowKit
set_option maxRecDepth 100000

theorem be_ge {x : Nat} (h : 72057594037927936 ≤ x) : 8 ≤ (be x).length := by
  by_cases h2 : 8 ≤ (be x).length
  · exact h2
  · have := be_le7 (n := 7) (by omega) (show (be x).length ≤ 7 by omega)
    omega
set_option maxHeartbeats 1000000 in
theorem int_large (s : ByteArray) (x : Nat) (w : World) (hs : s.size ≤ 1000000000000) (hx : x = natB (bs s)) (hb : 9223372036854775808 ≤ x) :
    Calls Tryz.prog 59 #[.string s] w (fun e w' => e = .returned (.tuple #[.int .i64 0, .bool false]) ∧ w = w') := by
  have HX := Lib.hid hx
  clear hx
  go_enter Tryz.func59, Tryz.ntmps59
  go_wp2_with fail
  refine (canon_any s w hs).mono ?_
  rintro e w' ⟨r, HR, rfl, rfl⟩
  have hr : bs r = be x := by rw [HR.out, HX.out]
  have hl : 8 ≤ r.size := by
    rw [size_of_be hr]
    exact be_ge (by omega)
  clear HR
  have hnat : natB (bs r) = x := by rw [hr, natB_be]
  clear hr
  by_cases h8 : 8 < r.size
  · clear hnat
    go_wp2_with fail
    go_ret2
    exact ⟨rfl, rfl⟩
  · have hg : 0 < r.size := by omega
    have h0 : 127 < (r[0]'hg).toNat := by
      have h1 := natB_cons (r[0]'hg) ((bs r).drop 1)
      have h2 := bs_cons' r hg
      have h3 : (bs r).length = 8 := by rw [bs_length]; omega
      have h4 := natB_lt ((bs r).drop 1)
      rw [← h2, hnat, List.length_drop, h3] at h1
      rw [List.length_drop, h3] at h4
      have e : (256 : Nat) ^ (8 - 1) = 72057594037927936 := by decide
      rw [e] at h1 h4
      omega
    have h9 : 127 < ((r[0]'hg).toNat : Int) := by omega
    have hb8 : ((r.size : Int) == 8) = true := by rw [beq_iff_eq]; omega
    clear hnat h0
    go_wp2_with fail
    go_ret2
    exact ⟨rfl, rfl⟩
theorem be_one : be 1 = [1] := by
  rw [be_pos (by omega), show 1 / 256 = 0 by rfl, be_zero]
  rfl
theorem less_one {a b : ByteArray} {c : UInt8} (ha : bs a = [c]) (hb : bs b = [1]) (hc : c ≠ 0) : Op.bytesLess a.toList b.toList = false := by
  have h1 : a.toList = [c] := by rw [ByteArray.toList_eq]; exact ha
  have h2 : b.toList = [1] := by rw [ByteArray.toList_eq]; exact hb
  rw [h1, h2]
  have h3 : (1 : UInt8).toNat = 1 := rfl
  have h4 : ¬ c < 1 := by
    intro h
    have h5 : c.toNat < 1 := by rw [← h3]; exact UInt8.lt_iff_toNat_lt.1 h
    exact hc (UInt8.toNat_inj.1 (by have : (0 : UInt8).toNat = 0 := rfl; omega))
  simp [Op.bytesLess, h4]
set_option maxHeartbeats 1000000 in
theorem cmp_one (a b : ByteArray) (x : Nat) (w : World) (ha : bs a = be x) (hb : bs b = be 1) (lx : (be x).length ≤ 20000000) :
    Calls Tryz.prog 154 #[.string a, .string b] w (fun e w' => ∃ r : Int, Hid (r < 0 ↔ x = 0) ∧ (-1 ≤ r ∧ r ≤ 1) ∧ e = .returned (.int .i64 r) ∧ w = w') := by
  have sa : a.size ≤ 20000000 := by rw [size_of_be ha]; omega
  have sb : b.size ≤ 1 := by rw [size_of_be hb, be_one]; simp
  have HA := Lib.hid ha
  have HB := Lib.hid hb
  have HL := Lib.hid lx
  clear ha hb lx
  go_enter Tryz.func154, Tryz.ntmps154
  go_wp2_with fail
  refine (canon_any a w (by omega)).mono ?_
  rintro e w' ⟨p, HP, rfl, rfl⟩
  go_wp2_with fail
  refine (canon_any b w (by omega)).mono ?_
  rintro e w' ⟨q, HQ, rfl, rfl⟩
  have hp : bs p = be x := by rw [HP.out, HA.out, natB_be]
  have hq : bs q = [1] := by rw [HQ.out, HB.out, natB_be, be_one]
  have lp : p.size = (be x).length := size_of_be hp
  have lq : q.size = 1 := by rw [← bs_length, hq]; rfl
  clear HP HQ
  by_cases h0 : x = 0
  · have l0 : p.size = 0 := by rw [lp, h0, be_zero]; rfl
    have HR : Hid ((-1 : Int) < 0 ↔ x = 0) := ⟨fun _ => h0, fun _ => by omega⟩
    clear lp hp hq h0
    go_wp2_with fail
    go_ret
    exact ⟨-1, HR.out, by omega, rfl, rfl⟩
  · have l0 : 0 < p.size := by rw [lp]; exact be_ne (by omega)
    have HR0 : Hid ((0 : Int) < 0 ↔ x = 0) := ⟨fun h => absurd h (by omega), fun h => absurd h h0⟩
    have HR1 : Hid ((1 : Int) < 0 ↔ x = 0) := ⟨fun h => absurd h (by omega), fun h => absurd h h0⟩
    have l9 : p.size ≤ 20000000 := by rw [lp]; exact HL.out
    clear lp
    by_cases h1 : p.size = 1
    · have hlen : (bs p).length = 1 := h1
      obtain ⟨c, hc⟩ : ∃ c, bs p = [c] := List.length_eq_one_iff.1 hlen
      have hc0 : c ≠ 0 := by
        intro e
        have h2 := natB_be x
        rw [← hp, hc, e] at h2
        exact h0 h2.symm
      have hless := less_one hc hq hc0
      clear hlen hc hc0 hp hq h0
      cases heq : (p.toList == q.toList)
      · go_wp2_with fail
        go_ret
        exact ⟨1, HR1.out, by omega, rfl, rfl⟩
      · go_wp2_with fail
        go_ret
        exact ⟨0, HR0.out, by omega, rfl, rfl⟩
    · clear hp hq h0
      go_wp2_with fail
      go_ret
      exact ⟨1, HR1.out, by omega, rfl, rfl⟩
def MkSub (x : Nat) (w : World) (e : Ending) (w' : World) : Prop := ∃ (r : ByteArray) (ok : Bool), Hid (ok = true ↔ 0 < x) ∧ Hid (ok = true → bs r = be (x - 1)) ∧ r.size ≤ 20000000 ∧ e = .returned (.tuple #[.string r, .bool ok]) ∧ Upd [] [] w w'
theorem dg_one : dg 1 = [1] := by
  rw [dg_pos (by omega), Nat.mod_eq_of_lt (by omega), Nat.div_eq_of_lt (by omega), dg_zero]
set_option maxHeartbeats 1000000 in
theorem sub_one (a b : ByteArray) (x : Nat) (w : World) (ha : bs a = be x) (hb : bs b = be 1) (lx : (be x).length ≤ 20000000) :
    Calls Tryz.prog 106 #[.string a, .string b] w (MkSub x w) := by
  have sa : a.size ≤ 20000000 := by rw [size_of_be ha]; omega
  have sb : b.size ≤ 1 := by rw [size_of_be hb, be_one]; simp
  have hx : x = natB (bs a) := by rw [ha, natB_be]
  have hy : 1 = natB (bs b) := by rw [hb, natB_be]
  have HC := Lib.hid (cmp_one a b x w ha hb lx)
  have HX := Lib.hid hx
  have HY := Lib.hid hy
  have HL := Lib.hid lx
  clear ha hb lx hx hy
  go_enter Tryz.func106, Tryz.ntmps106
  go_wp2_with fail
  refine HC.out.mono ?_
  rintro e w' ⟨r, HR, hr, rfl, rfl⟩
  by_cases h0 : r < 0
  · have h1 := HR.out.1 h0
    have HS : Hid (false = true ↔ 0 < x) := ⟨(fun h => by cases h), fun h => by omega⟩
    clear HC HR h1
    go_wp2_with fail
    go_ret2
    exact ⟨⟨#[]⟩, false, HS, (fun h => by cases h), Nat.zero_le _, rfl, Upd.refl _ _⟩
  · have h1 : 0 < x := by
      have : ¬ x = 0 := fun h => h0 (HR.out.2 h)
      omega
    have h2 : 0 ≤ r := by omega
    have HS := Lib.hid h1
    have HD := Lib.hid (Nat.le_trans (dg_len_be x) HL.out)
    clear HC HR h0
    go_wp2_with fail
    refine (of_big a x w HX.out (by omega) (Nat.le_trans HD.out (by omega))).mono ?_
    rintro e w1 ⟨u, SU, rfl, hq⟩
    have U1 := Lib.hid hq
    clear hq
    go_wp2_with fail
    refine (of_big b 1 w1 HY.out (by omega) (by rw [dg_one]; simp)).mono ?_
    rintro e w2 ⟨v, SV, rfl, hq⟩
    have SU2 := Lib.hid (SU.out.upd hq)
    have U2 := Lib.hid (U1.out.trans hq)
    clear hq U1 SU
    go_wp2_with fail
    refine (minus_any u v x 1 w2 SU2.out SV.out h1 (Nat.le_trans HD.out (by omega))).mono ?_
    rintro e w3 ⟨d, SD, rfl, hq⟩
    have U3 := Lib.hid (U2.out.trans hq)
    have HDL : Hid ((dg (x - 1)).length ≤ 100000000) := Nat.le_trans (dg_len_mono (Nat.sub_le x 1)) (Nat.le_trans HD.out (by omega))
    clear hq U2 SU2 SV
    go_wp2_with fail
    refine (number_big d (dg (x - 1)) w3 SD.out (dg_ok _) HDL.out).mono ?_
    rintro e w4 ⟨z, HZ, rfl, hq⟩
    rw [valL_dg] at HZ
    have hz : z.size ≤ 20000000 := by
      rw [size_of_be HZ.out]
      exact Nat.le_trans (be_len_le _ _ (Nat.lt_of_le_of_lt (Nat.sub_le x 1) (be_len x))) HL.out
    have U4 := Lib.hid (U3.out.trans hq)
    clear hq U3
    go_wp2_with fail
    go_ret2
    exact ⟨z, true, ⟨fun _ => HS.out, fun _ => rfl⟩, (fun _ => HZ.out), hz, rfl, U4.out⟩
end Go.Proofs.YtcimcodljjcmgaaGreatDoor
