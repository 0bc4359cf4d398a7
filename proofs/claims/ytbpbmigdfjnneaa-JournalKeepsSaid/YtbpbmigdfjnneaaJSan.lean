/- sanity of layer 25. -/
import Derived.Test.YtbpbmigdfjnneaaJLawA
namespace Go.Proofs.Ytbpbmigdfjnneaa
open Go.RowKit
set_option maxRecDepth 100000

theorem strs_two (w : World) (a b : ByteArray) : StrsAt (w.alloc (.cells #[.string a, .string b] 9)) (.slice (some ⟨w.heap.size, 0, none⟩) 2 2) [bs a, bs b] := by
  refine ⟨2, by omega, by simp, .inr ⟨w.heap.size, 0, rfl, fun j s hj => ?_⟩⟩
  match j, hj with
  | 0, hj => simp at hj; subst hj; simp [strV_bs]
  | 1, hj => simp at hj; subst hj; simp [strV_bs]

theorem StrRow.kept {w w' : World} {v : Value} {ss : List (List UInt8)} {T T' : List Nat} (h : StrRow w v ss) (hu : Upd T T' w w') (hd : ∀ k, k ∈ foot v → k ∉ T) : StrRow w' v ss := h.same fun k hk => hu.block k (h.lt k hk) (hd k hk)

def sanRs : List (List UInt8) := [[97], []]

set_option maxHeartbeats 800000 in
theorem sanity25 (w : World) : Calls Try.prog 36 #[] w (TrueB w) := by
  go_enter Try.func36, Try.ntmps36
  go_wp2_with fail
  refine (New_to w).mono ?_
  rintro e w1 ⟨bd, Sd, rfl, hd1, hu1⟩
  have d1 := DiskOk.first hd1 hu1
  clear hd1 hu1
  go_wp2_with fail
  refine (Open_fine d1.at_ JClean.empty (recsL_nil [] rfl) rfl (by decide) d1.above d1.below d1.size).mono ?_
  rintro e w2 ⟨jb, v0, S2, rfl, st2, hv0, hu2, hn2⟩
  obtain ⟨ao0, cap0, rfl, _, _⟩ := row_slice hv0
  clear d1 hv0 hu2 hn2
  have f2 : DiskM.empty.synced1.count.failing = false := rfl
  have k2 : DiskM.empty.synced1.count.calls ≤ 10 := by decide
  generalize DiskM.empty.synced1.count = D2 at *
  simp only [List.length_nil]
  go_wp2_with fail
  refine (App_fine st2 ⟨#[97]⟩ f2 (by omega) (by decide)).mono ?_
  rintro e w3 ⟨D3, S3, rfl, st3, _, f3, k3⟩
  clear st2
  go_wp2_with fail
  refine (App_fine st3 ⟨#[]⟩ (f3.trans f2) (by omega) (by decide)).mono ?_
  rintro e w4 ⟨D4, S4, rfl, st4, _, f4, k4⟩
  have f4' : D4.failing = false := f4.trans (f3.trans f2)
  clear st3 f3 f4 f2
  have hrs : [] ++ [bs ⟨#[97]⟩] ++ [bs ⟨#[]⟩] = sanRs := rfl
  rw [hrs] at st4
  clear hrs
  generalize [] ++ frameL (bs ⟨#[97]⟩) ++ frameL (bs ⟨#[]⟩) = F4 at *
  go_wp2_with fail
  refine (Many_fine st4).mono ?_
  rintro e w' ⟨rfl, rfl⟩
  have hl : sanRs.length = 2 := rfl
  rw [hl]
  clear hl
  go_wp2_with fail
  refine (Crash_to bd D4 S4 _ [] w4 st4.d (nil_ints _) st4.clean.ok).mono ?_
  rintro e w5 ⟨bc, Sc, rfl, hc5, hu5⟩
  have st5 := st4.quiet hu5
  have dis5 := hu5.disj st4.lt (by simp)
  have ac5 := hu5.above (above_nil _) st4.size
  clear st4
  go_wp2_with fail
  refine (Open_fine (w0 := w) (B := w.heap.size) hc5 (st5.clean.crashed []) st5.recs rfl (by show 0 < 65536; decide) ac5 st5.below st5.size).mono ?_
  rintro e w6 ⟨jc, v6, S6, rfl, st6, hv6, hu6, hn6⟩
  have st5' := st5.other hu6 ac5 dis5
  have dis6 := hu6.disj st5.lt dis5
  have hv6n : ∀ k, k ∈ foot v6 → k ∉ jb :: S4 := fun k hk hm => dis6 k hm (by simp [hk])
  have bel6 := st6.below
  clear st5 dis5 hc5 hu5 ac5 hu6 hn6 st6 dis6
  go_wp2_with fail
  refine (Fail_any bd D4 S4 0 w6 st5'.d).mono ?_
  rintro e w7 ⟨rfl, hd7, hu7⟩
  have st7 := st5'.disk hd7 hu7 (st5'.clean.fail 0 (by decide))
  have hv7 := hv6.kept hu7 (fun k hk hm => hv6n k hk (by simp [hm]))
  clear st5' hv6 hu7 hd7
  go_wp2_with fail
  refine (App_off st7 ⟨#[98]⟩ rfl (by show D4.calls + 4 ≤ _; omega) (by decide)).mono ?_
  rintro e w8 ⟨S8, rfl, hj8, hd8, hjS8, ha8, hb8, hz8, hu8⟩
  have hv8 := hv7.kept hu8 hv6n
  have cl8 := st7.clean
  have re8 := st7.recs
  clear st7 hv7 hu8 hv6n
  go_wp2_with fail
  refine (Append_broken jb bd _ ⟨#[99]⟩ w8 hj8 rfl).mono ?_
  rintro e w9 ⟨rfl, hu9⟩
  have hd9 := hd8.kept hu9 (by simp)
  have hv9 := hv8.kept hu9 (by simp)
  have hb9 := hu9.belowOf hb8 (above_nil _) hz8
  have hz9 := Nat.le_trans hz8 hu9.size
  clear hd8 hv8 hb8 hz8 hu9 hj8
  go_wp2_with fail
  refine (Crash_to bd _ S8 _ [] w9 hd9 (nil_ints _) cl8.ok).mono ?_
  rintro e w10 ⟨bx, Sx, rfl, hx10, hu10⟩
  have hv10 := hv9.kept hu10 (by simp)
  have ax10 := hu10.above (above_nil _) hz9
  have hb10 := hu10.belowOf hb9 (above_nil _) hz9
  have hz10 := Nat.le_trans hz9 hu10.size
  have dv10 := hu10.disj hv9.lt (by simp)
  clear hd9 hv9 hb9 hz9 hu10
  go_wp2_with fail
  refine (Open_fine (w0 := w) (B := w.heap.size) hx10 (cl8.crashed []) re8 rfl (by show 0 < 65536; decide) ax10 hb10 hz10).mono ?_
  rintro e w11 ⟨jx, v11, S11, rfl, st11, hv11, hu11, hn11⟩
  have hv11' := hv10.kept hu11 dv10
  have hb11 := st11.below
  have hz11 := st11.size
  clear st11 hv10 hb10 hz10 hu11 hn11 hx10 dv10 cl8 re8
  go_wp2_with fail
  have q1 := Same_any v11 _ sanRs [bs ⟨#[97]⟩, bs ⟨#[]⟩] _ (hv11.strs.alloc (.cells #[.string ⟨#[97]⟩, .string ⟨#[]⟩] 9)) (strs_two w11 ⟨#[97]⟩ ⟨#[]⟩)
  have e1 : decide (sanRs = [bs ⟨#[97]⟩, bs ⟨#[]⟩]) = true := by decide
  rw [e1] at q1
  refine q1.mono ?_
  rintro e w' ⟨n1, rfl, rfl⟩
  clear q1
  go_wp2_with fail
  have hs2 : StrsAt (((w11.alloc (.cells #[.string ⟨#[97]⟩, .string ⟨#[]⟩] 9)).drewN n1).alloc (.cells #[.string ⟨#[97]⟩, .string ⟨#[]⟩] 9)) (.slice (some ⟨w11.heap.size + 1, 0, none⟩) 2 2) [bs ⟨#[97]⟩, bs ⟨#[]⟩] := by
    have := strs_two ((w11.alloc (.cells #[.string ⟨#[97]⟩, .string ⟨#[]⟩] 9)).drewN n1) ⟨#[97]⟩ ⟨#[]⟩
    rw [World.heap_drewN, World.size_alloc] at this
    exact this
  have q2 := Same_any v6 _ sanRs [bs ⟨#[97]⟩, bs ⟨#[]⟩] _ (((hv11'.strs.alloc (.cells #[.string ⟨#[97]⟩, .string ⟨#[]⟩] 9)).drewN n1).alloc (.cells #[.string ⟨#[97]⟩, .string ⟨#[]⟩] 9)) hs2
  rw [e1] at q2
  refine q2.mono ?_
  rintro e w' ⟨n2, rfl, rfl⟩
  clear q2
  go_wp2_with fail
  go_ret
  refine ⟨rfl, below_drewN ?_ n2⟩
  have h1 : Below w.heap.size w (w11.alloc (.cells #[.string ⟨#[97]⟩, .string ⟨#[]⟩] 9)) := hb11.trans (((Below.refl _ w11).alloc (Nat.le_refl _) _).mono hz11)
  have h2 := below_drewN h1 n1
  exact h2.trans (((Below.refl _ _).alloc (Nat.le_refl _) _).mono (by simp; omega))
end Go.Proofs.Ytbpbmigdfjnneaa
