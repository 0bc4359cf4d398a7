/- sortesref05.decimal, Text. -/
import Derived.Test.YtkhodajdionaaaaGreatDoorRSgnB
import Derived.Test.YtkhodajdionaaaaGreatDoorDecB
import Derived.Test.YtkhodajdionaaaaGreatDoorByteStr
namespace Go.Proofs.YtkhodajdionaaaaGreatDoor
open Go.RowKit
set_option maxRecDepth 100000

set_option maxHeartbeats 1000000 in
theorem decimal_any (n : Int) (w : World) (hn : i64in n) : Calls Tryz.prog 75 #[.int .i64 n] w (MkS (Lib.itoa n) w) := by
  have hn1 := hn.1
  have hn2 := hn.2
  by_cases h0 : n = 0
  · subst h0
    go_enter Tryz.func75, Tryz.ntmps75
    go_wp2_with fail
    go_ret
    exact ⟨⟨#[48]⟩, by show _ = _; rw [itoa_zero]; rfl, by rw [itoa_zero]; decide, rfl, Upd.refl _ _⟩
  · have hb0 : (n == 0) = false := by rw [beq_eq_false_iff_ne]; exact h0
    have HN := Lib.hid h0
    clear h0
    obtain ⟨u, hu⟩ : ∃ u : Nat, u = n.natAbs := ⟨_, rfl⟩
    have hul : u ≤ 9223372036854775808 := by omega
    have HU := Lib.hid hu
    have HUL := Lib.hid hul
    clear hu hul
    go_enter Tryz.func75, Tryz.ntmps75
    go_wp2_with fail
    go_loopw [3, 4] (fun t i wr => ∃ (z : Int) (r : ByteArray), i = .int .i64 z ∧ t = .string r ∧ (-9223372036854775808 ≤ z ∧ z ≤ 9223372036854775807) ∧ Hid (digs z.natAbs ++ bs r = digs u) ∧ r.size ≤ 30 ∧ Upd [] [] w wr) (fun _ i _ => (intOf i).natAbs)
    case atStart => exact ⟨n, ⟨#[]⟩, rfl, rfl, hn, by show _ = _; rw [HU.out]; simp [bs], by decide, Upd.refl _ _⟩
    case round =>
      obtain ⟨z, r, rfl, rfl, hz, HR, hr, hup⟩ := hrel
      by_cases hz0 : z = 0
      · subst hz0
        have hR := HR.out
        have hR : bs r = digs u := by simpa [digs] using hR
        have HR2 := Lib.hid hR
        clear hR HR
        by_cases hneg : n < 0
        · go_wp2_with fail
          go_ret
          refine ⟨_, ?_, ?_, rfl, hup⟩
          · show _ = _
            rw [bs_append, HR2.out, itoa_neg hneg, HU.out]
            rfl
          · rw [itoa_neg hneg, ByteArray.size_append]
            have := bs_size HR2.out
            have e : (ByteArray.mk #[45]).size = 1 := rfl
            simp [this, e, ← HU.out]; omega
        · go_wp2_with fail
          go_ret
          have hpos : 0 < n := by have := HN.out; omega
          refine ⟨r, ?_, ?_, rfl, hup⟩
          · show _ = _
            rw [HR2.out, itoa_pos hpos, HU.out]
          · rw [itoa_pos hpos, ← HU.out, ← HR2.out]
            exact Nat.le_refl _
      · have hnz : (z == 0) = false := by rw [beq_eq_false_iff_ne]; exact hz0
        obtain ⟨b, hb⟩ : ∃ b, b = UInt8.ofNat (48 + z.natAbs % 10) := ⟨_, rfl⟩
        have hbn : b.toNat = 48 + z.natAbs % 10 := by rw [hb]; exact digit_toNat (Nat.mod_lt _ (by omega))
        have hst := digs_step z.natAbs (by omega)
        rw [← hb] at hst
        have hq : (z.tdiv 10).natAbs = z.natAbs / 10 := by rw [Int.natAbs_tdiv]; rfl
        have hm : (z.tmod 10).natAbs = z.natAbs % 10 := by rw [Int.natAbs_tmod]; rfl
        have hR2 : digs (z.tdiv 10).natAbs ++ bs (⟨#[b]⟩ ++ r) = digs u := by
          rw [bs_append, ← HR.out, hst, hq, List.append_assoc]
          rfl
        have hlen : (⟨#[b]⟩ ++ r : ByteArray).size ≤ 19 := by
          have h1 := congrArg List.length hR2
          rw [List.length_append, bs_length] at h1
          have h2 := digs_len HUL.out
          omega
        have HR2 := Lib.hid hR2
        have HLEN := Lib.hid hlen
        have hbig : (z.tdiv 10).natAbs < z.natAbs := by rw [hq]; omega
        have HBIG := Lib.hid hbig
        have hdb : -9223372036854775808 ≤ z.tdiv 10 ∧ z.tdiv 10 ≤ 9223372036854775807 := by omega
        have HDB := Lib.hid hdb
        have HCV := Lib.hid (byte_str wr b)
        have hu1 := hup.alloc (.cells #[.int .u8 (b.toNat : Int)] 5)
        have h1 : (ByteArray.mk #[b]).size ≤ 1 := Nat.le_refl _
        by_cases hd : z.tmod 10 < 0
        · have hb1 : 48 + -(z.tmod 10) = (b.toNat : Int) := by omega
          have hlo : -10 < z.tmod 10 := by omega
          have HB1 := Lib.hid hb1
          clear hb hbn hst hq hm hR2 hlen hbig hdb hz0 hb1
          go_wp2_with fail
          rw [HB1.out, HCV.out]
          go_wp2_with fail
          exact ⟨⟨_, _, rfl, rfl, HDB.out, HR2.out, by have := HLEN.out; omega, hu1⟩, by simp only [intOf]; exact HBIG.out⟩
        · have hb1 : 48 + z.tmod 10 = (b.toNat : Int) := by omega
          have hlo : z.tmod 10 < 10 := by omega
          have HB1 := Lib.hid hb1
          clear hb hbn hst hq hm hR2 hlen hbig hdb hz0 hb1
          go_wp2_with fail
          rw [HB1.out, HCV.out]
          go_wp2_with fail
          exact ⟨⟨_, _, rfl, rfl, HDB.out, HR2.out, by have := HLEN.out; omega, hu1⟩, by simp only [intOf]; exact HBIG.out⟩
end Go.Proofs.YtkhodajdionaaaaGreatDoor
