/- The contract of disk.put. -/
import Derived.Test.YtbpbmigdfjnneaaRows
import Derived.Test.YtbpbmigdfjnneaaBytes
namespace Go.Proofs.Ytbpbmigdfjnneaa
open Go.RowKit

theorem info_u8 : (Try.prog.info? 5).map (fun i => (i.zero, i.size, i.bytes)) = some (some (.int .u8 0), 1, 1) := by kernel_rfl

/-- the copy in put, at a row that is long enough -/
theorem put_tail (w : World) (v : Value) (c : List UInt8) (off n : Nat) (s : ByteArray) (hn : n = c.length) (hrow : w.ownsRow 0 5 1 v n (byteVals c)) (hfit : off + s.size ≤ n) :
    ∃ w', w'.ownsRow 0 5 1 v n (byteVals (c.take off ++ bs s ++ c.drop (off + s.size))) ∧ Upd (foot v) (foot v) w w' ∧
      ∀ (ao : Option Addr) (dCap ty : Nat), (∀ g m cap, v = .slice (some ⟨g, 0, none⟩) m cap → 0 < s.size → ao = some ⟨g, off, none⟩) →
        (Builtin.copy_ #[52, 9] ty #[.slice ao (n - off) dCap, .string s]).run Try.prog w = .ok (.int .i64 (s.size : Int)) w' := by
  obtain ⟨i0, hi, hz0, hz1, hz2⟩ := info_parts info_u8
  subst hn
  by_cases h0 : 0 < c.length
  · obtain ⟨g, cap, cur, rfl, hg, hnc, hcm, hcs, htake⟩ := row_pos hrow h0
    simp only [Nat.mul_one] at hcs htake
    refine ⟨w.setRow g (cur.toList.take off ++ byteVals (bs s) ++ cur.toList.drop (off + s.size)).toArray, ⟨?_, .inr ⟨g, cap, _, rfl, Nat.zero_le _, setRow_heap w g cur _ 5 _ hg, hnc, hcm, ?_, ?_⟩⟩,
      ⟨rfl, rfl, rfl, by simp, fun j _ hj => setRow_other w g j _ (fun e => hj (by simp [foot, Value.ownBlock, e])), fun j hj => .inl hj⟩, ?_⟩
    · simp [byteVals_length, bs_length]; omega
    · simp [byteVals_length, bs_length]; omega
    · simp only [byteVals_append, byteVals_take, byteVals_drop, ← htake, Nat.mul_one]
      rw [List.take_take, Nat.min_eq_left (by omega), List.drop_take, List.take_append, List.take_append, List.take_take]
      simp only [List.length_append, List.length_take, Array.length_toList, byteVals_length, bs_length]
      rw [Nat.min_eq_right (by omega), List.take_of_length_le (l := byteVals (bs s)) (by rw [byteVals_length, bs_length]; omega)]
      congr 2
      omega
    · intro ao dCap ty hao
      exact copy_string w 52 9 ty 5 i0 Try.underlying52 hi hz1 g off c.length cap cur hg hnc hcs ao dCap s hfit (hao g _ _ rfl)
  · have hc0 : c = [] := List.eq_nil_of_length_eq_zero (by omega)
    subst hc0
    have hs0 : s.size = 0 := by have : ([] : List UInt8).length = 0 := rfl; omega
    have hbn : bs s = [] := List.eq_nil_of_length_eq_zero (by rw [bs_length, hs0])
    refine ⟨w, by simpa [hbn] using hrow, Upd.refl _ _, ?_⟩
    intro ao dCap ty _
    have e0 : ([] : List UInt8).length - off = 0 := by simp
    rw [e0]
    cases ao <;> simp [Builtin.copy_, run_underlying Try.underlying52, sizeOf, typeInfo, hi, Builtin.lenOf, hs0, Builtin.firstCells, goInt, storeCells]

theorem putL_grow (c : List UInt8) (off : Nat) (s : List UInt8) (k : Nat) (h : k = off + s.length - c.length) :
    putL c off s = (c ++ List.replicate k 0).take off ++ s ++ (c ++ List.replicate k 0).drop (off + s.length) := by subst h; rfl

theorem putL_fit (c : List UInt8) (off : Nat) (s : List UInt8) (h : off + s.length ≤ c.length) :
    putL c off s = c.take off ++ s ++ c.drop (off + s.length) := by
  have e : off + s.length - c.length = 0 := by omega
  simp [putL, e]

set_option maxRecDepth 100000 in
set_option maxHeartbeats 400000 in
theorem put_any (v : Value) (c : List UInt8) (off : Nat) (s : ByteArray) (w : World) (hrow : w.ownsRow 0 5 1 v c.length (byteVals c)) (hb : off + s.size ≤ 1099511627776) (hc : c.length ≤ 1099511627776) :
    Calls Try.prog 49 #[v, .int .i64 (off : Int), .string s] w fun e w' => ∃ v', e = .returned v' ∧ w'.ownsRow 0 5 1 v' (putL c off (bs s)).length (byteVals (putL c off (bs s))) ∧ Upd (foot v) (foot v') w w' := by
  obtain ⟨i0, hi, hz0, hz1, hz2⟩ := info_parts info_u8
  by_cases hgr : c.length < off + s.size
  · obtain ⟨v1, w1, hap, hrow1, hup1⟩ := append_made (P := Try.prog) w 52 3 52 5 .i64 i0 (.int .u8 0) 1 Try.underlying52 Try.underlying3 hi hz0 hz1 hz2 rfl rfl _ _ _ hrow (off + s.size - c.length) (by omega) (by omega) (by omega)
    have hk : ((off + s.size - c.length : Nat) : Int) = (off : Int) + (s.size : Int) - (c.length : Int) := by omega
    rw [hk] at hap
    have hL : c.length + (off + s.size - c.length) = off + s.size := by omega
    rw [hL] at hrow1
    have hz : byteVals c ++ List.replicate (off + s.size - c.length) (Value.int .u8 0) = byteVals (c ++ List.replicate (off + s.size - c.length) 0) := by simp [byteVals_append, byteVals_replicate, byteV]
    rw [hz] at hrow1
    obtain ⟨w2, hrow2, hup2, hcp⟩ := put_tail w1 v1 (c ++ List.replicate (off + s.size - c.length) 0) off (off + s.size) s (by simp; omega) hrow1 (Nat.le_refl _)
    have hP := putL_grow c off (bs s) _ rfl
    rw [bs_length] at hP
    rw [← hP] at hrow2
    have hPl : (putL c off (bs s)).length = off + s.size := by rw [putL_length, bs_length]; omega
    rw [← hPl] at hrow2
    have hup := hup1.trans hup2
    clear hk hi hz0 hz1 hz2 hL hz hP hup1 hup2
    clear i0
    have HP := Lib.hid hPl
    clear hPl
    obtain ⟨ao, cap, rfl, hcap, hcm⟩ := row_slice hrow
    obtain ⟨g1, cap1, cur1, rfl, _, hcap1, hcm1, _⟩ := row_pos hrow1 (by omega)
    have hcm : cap ≤ 9223372036854775807 := hcm
    have hcm1 : cap1 ≤ 9223372036854775807 := hcm1
    rw [Nat.add_sub_cancel_left] at hcp
    have HC := Lib.hid hcp
    have HA := Lib.hid hap
    clear hcp hap
    by_cases hco : off = cap1
    · subst hco
      go_enter Try.func49, Try.ntmps49
      go_wp2_with (at_builtin; refine wpList_append_run _ rfl _ _ _ _ rfl _ _ _ _ rfl rfl HA.out ?_)
      have hs0 : s.size = 0 := by omega
      have hcz := fun ao dCap ty => HC.out ao dCap ty (by intro g m c hv hs; exfalso; omega)
      rw [hs0] at hcz
      rw [hcz]
      clear hcz hs0
      go_wp2
      go_ret
      exact ⟨_, rfl, hrow2, hup⟩
    · go_enter Try.func49, Try.ntmps49
      go_wp2_with (at_builtin; refine wpList_append_run _ rfl _ _ _ _ rfl _ _ _ _ rfl rfl HA.out ?_)
      rw [HC.out _ _ _ (by intro g m c hv hs; simp at hv; obtain ⟨rfl, _, rfl⟩ := hv; rfl)]
      go_wp2
      go_ret
      exact ⟨_, rfl, hrow2, hup⟩
  · obtain ⟨w2, hrow2, hup, hcp⟩ := put_tail w v c off c.length s rfl hrow (by omega)
    have hP := putL_fit c off (bs s) (by rw [bs_length]; omega)
    rw [bs_length] at hP
    rw [← hP] at hrow2
    have hPl : (putL c off (bs s)).length = c.length := by rw [putL_length, bs_length]; omega
    rw [← hPl] at hrow2
    clear hi hz0 hz1 hz2 hP hPl
    clear i0
    obtain ⟨ao, cap, rfl, hcap, hcm⟩ := row_slice hrow
    have hcm : cap ≤ 9223372036854775807 := hcm
    have HC := Lib.hid hcp
    clear hcp
    by_cases hco : off = cap
    · subst hco
      go_enter Try.func49, Try.ntmps49
      go_wp2
      have hs0 : c.length - off = 0 := by omega
      have hcz := fun ao dCap ty => HC.out ao dCap ty (by intro g m c hv hs; exfalso; omega)
      rw [hs0] at hcz
      rw [hcz]
      clear hcz hs0
      go_wp2
      go_ret
      exact ⟨_, rfl, hrow2, hup⟩
    · go_enter Try.func49, Try.ntmps49
      go_wp2
      rw [HC.out _ _ _ (by intro g m c hv hs; simp at hv; obtain ⟨rfl, _, rfl⟩ := hv; simp [Addr.add]; omega)]
      go_wp2
      go_ret
      exact ⟨_, rfl, hrow2, hup⟩
end Go.Proofs.Ytbpbmigdfjnneaa
