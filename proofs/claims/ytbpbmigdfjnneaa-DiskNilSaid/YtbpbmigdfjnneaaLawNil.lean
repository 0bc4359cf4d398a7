/- DiskNil returns true: the walk. -/
import Derived.Test.YtbpbmigdfjnneaaLawB
namespace Go.Proofs.Ytbpbmigdfjnneaa
open Go.RowKit
set_option maxRecDepth 100000

theorem nil_Size (w : World) : Calls Try.prog 29 #[.pointer none] w (Same (.int .i64 0) w) := by
  go_enter Try.func29, Try.ntmps29
  go_wp2
  go_ret
  exact ⟨rfl, rfl⟩
theorem nil_Calls (w : World) : Calls Try.prog 31 #[.pointer none] w (Same (.int .i64 0) w) := by
  go_enter Try.func31, Try.ntmps31
  go_wp2
  go_ret
  exact ⟨rfl, rfl⟩
theorem nil_Read (a b : Int) (w : World) : Calls Try.prog 30 #[.pointer none, .int .i64 a, .int .i64 b] w (Same (.string ⟨#[]⟩) w) := by
  go_enter Try.func30, Try.ntmps30
  go_wp2
  go_ret
  exact ⟨rfl, rfl⟩
theorem nil_Write (a : Int) (s : ByteArray) (w : World) : Calls Try.prog 27 #[.pointer none, .int .i64 a, .string s] w (Same (.int .i64 1) w) := by
  go_enter Try.func27, Try.ntmps27
  go_wp2_with fail
  go_ret
  exact ⟨rfl, rfl⟩
theorem nil_Sync (w : World) : Calls Try.prog 28 #[.pointer none] w (Same (.int .i64 1) w) := by
  go_enter Try.func28, Try.ntmps28
  go_wp2_with fail
  go_ret
  exact ⟨rfl, rfl⟩
theorem nil_Fail (a : Int) (w : World) : Calls Try.prog 35 #[.pointer none, .int .i64 a] w (Same (.tuple #[]) w) := by
  go_enter Try.func35, Try.ntmps35
  go_wp2
  go_end0
  exact ⟨rfl, rfl⟩
theorem nil_Crash (v : Value) (w : World) : Calls Try.prog 22 #[.pointer none, v] w (Born w) := by
  go_enter Try.func22, Try.ntmps22
  go_wp2_with fail
  refine (New_to w).mono ?_
  rintro e w' ⟨b, S, rfl, hd, hu⟩
  go_wp2_with fail
  go_ret
  exact ⟨b, S, rfl, hd, hu⟩

set_option maxHeartbeats 3200000 in
theorem walk_DiskNil (off : Int) (s : ByteArray) (vq : Value) (zq : List Int) (w : World) (ho1 : -9223372036854775808 ≤ off) (ho2 : off ≤ 9223372036854775807) (hs : s.size ≤ maxLen) (_hq : IntsAt w vq zq) :
    Calls Try.prog 10 #[.int .i64 off, .string s, vq] w (TrueB w) := by
  have hs2 : s.size ≤ 9223372036854775807 := hs
  clear hs
  go_enter Try.func10, Try.ntmps10
  go_wp2_with fail
  refine (sanity24 w).mono ?_
  rintro e w1 ⟨rfl, hb⟩
  go_wp2_with fail
  refine (nil_Fail off w1).mono ?_
  rintro e w' ⟨rfl, rfl⟩
  go_wp2_with fail
  refine (nil_Crash vq w1).mono ?_
  rintro e w2 ⟨bc, Sc, rfl, hc2, hu2⟩
  have c2 := DiskOk.start hb hb.size hc2 hu2
  clear hb hc2 hu2
  have hz : Upd [] [w2.heap.size] w2 (w2.alloc (.cells #[.slice none 0 0, .slice none 0 0, .slice none 0 0, .int .i64 0, .bool false, .int .i64 0] 59)) := ⟨rfl, rfl, rfl, by simp, fun k hk _ => Below.heap_alloc _ _ _ hk, fun k hk => .inr (by simp at hk; omega)⟩
  have hzd := diskAt_zero w2
  go_wp2_with fail
  generalize w2.alloc (.cells #[.slice none 0 0, .slice none 0 0, .slice none 0 0, .int .i64 0, .bool false, .int .i64 0] 59) = w3 at *
  have c3 := c2.quiet hz
  have hb2 := c2.below
  have hB2 := c2.size
  have j3 := c2.bornDisj hz
  refine (RNew_to w3).mono ?_
  rintro e w4 ⟨bm, Sm, rfl, hm4, hu4⟩
  have hx := start_desk hb2 hzd hz hm4 hu4
  have c4 := c3.quiet hu4
  have j4 := c3.bornDisj hu4
  have c5 := c4.alloc (.cells #[.pointer (some ⟨w2.heap.size, 0, none⟩), .pointer (some ⟨bm, 0, none⟩)] 31)
  have j5 : ∀ k, k ∈ Sc → k ∉ w4.heap.size :: ([w2.heap.size] ++ Sm) := by
    intro k hk hm
    simp only [List.mem_cons, List.mem_append] at hm
    rcases hm with rfl | hm | hm
    · have := c4.at_.lt _ hk; omega
    · exact j3 k hk (by simpa using hm)
    · exact j4 k hk hm
  clear hz hzd c2 hb2 hB2 j3 c3 hm4 hu4 c4 j4
  go_wp2_with fail
  generalize w4.alloc (.cells #[.pointer (some ⟨w2.heap.size, 0, none⟩), .pointer (some ⟨bm, 0, none⟩)] 31) = w5 at *
  generalize w4.heap.size = x at *
  generalize x :: ([w2.heap.size] ++ Sm) = Sx at *
  refine (do_any x .empty .empty Sx 0 off 0 s w5 hx.at_ hx.rel (by decide) ho1 ho2 (by omega) (by omega) hs2).mono ?_
  rintro e w6 ⟨D6, M6, S6, rfl, hd6, hu6, hr6, hc6⟩
  have hx6 := hx.step hd6 hu6 hr6
  have c6 := c5.other hu6 hx.above j5
  have j6 := hu6.disj c5.at_.lt j5
  have hcb : D6.calls ≤ 1 := hc6
  clear hx c5 j5 hd6 hu6 hr6 hc6
  go_wp2_with fail
  refine (do_any x D6 M6 S6 7 0 off ⟨#[]⟩ w6 hx6.at_ hx6.rel (by omega) (by omega) (by omega) ho1 ho2 (by decide)).mono ?_
  rintro e w7 ⟨D7, M7, S7, rfl, hd7, hu7, hr7, hc7⟩
  have hx7 := hx6.step hd7 hu7 hr7
  have c7 := c6.other hu7 hx6.above j6
  clear hx6 c6 j6 hd7 hu7 hr7 hc7
  go_wp2_with fail
  refine (same_any x D7 M7 S7 w7 hx7.at_ hx7.rel).mono ?_
  rintro e w8 ⟨n8, rfl, rfl⟩
  have c8 := c7.quiet ((Upd.refl [] w7).drewN n8)
  clear hx7 c7
  generalize w7.drewN n8 = w8 at *
  go_wp2_with fail
  refine (nil_Size w8).mono ?_
  rintro e w' ⟨rfl, rfl⟩
  go_wp2_with fail
  refine (nil_Calls w8).mono ?_
  rintro e w' ⟨rfl, rfl⟩
  go_wp2_with fail
  refine (nil_Read off 5 w8).mono ?_
  rintro e w' ⟨rfl, rfl⟩
  go_wp2_with fail
  refine (nil_Write off s w8).mono ?_
  rintro e w' ⟨rfl, rfl⟩
  go_wp2_with fail
  refine (nil_Sync w8).mono ?_
  rintro e w' ⟨rfl, rfl⟩
  go_wp2_with fail
  refine (Size_to bc .empty Sc w8 0 c8.at_ rfl).mono ?_
  rintro e w' ⟨rfl, rfl⟩
  go_wp2_with fail
  refine (Write_to bc .empty Sc 0 ⟨#[97]⟩ w8 0 _ c8.at_ DiskM.ok_empty (by decide) (by decide) (by decide +kernel) rfl).mono ?_
  rintro e w9 ⟨S9, rfl, hd9, hu9⟩
  have c9 := c8.step hd9 hu9
  go_wp2_with fail
  go_ret
  exact ⟨rfl, c9.below⟩
end Go.Proofs.Ytbpbmigdfjnneaa
