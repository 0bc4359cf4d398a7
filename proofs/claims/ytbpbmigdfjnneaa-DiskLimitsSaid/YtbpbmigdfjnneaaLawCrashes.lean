/- DiskCrashes returns true: the walk. -/
import Derived.Test.YtbpbmigdfjnneaaLawA
namespace Go.Proofs.Ytbpbmigdfjnneaa
open Go.RowKit
set_option maxRecDepth 100000

/-- A new disk and a new model in a box: the start of most laws. -/
theorem crashes_pair {w0 : World} {B x : Nat} {D : DiskM} {M : RefM} {S Sd Sm : List Nat} {wp w1 w2 : World} {bd bm : Nat} {D' : DiskM} {M' : RefM} (h : DeskOk w0 B x D M S wp) (hd : DiskAt w1 bd D' Sd) (hu1 : Upd [] Sd wp w1) (hm : RefAt w2 bm M' Sm) (hu2 : Upd [] Sm w1 w2) (hr : Rel D' M') :
    DeskOk w0 B w2.heap.size D' M' (w2.heap.size :: (Sd ++ Sm)) (w2.alloc (.cells #[.pointer (some ⟨bd, 0, none⟩), .pointer (some ⟨bm, 0, none⟩)] 31)) := by
  have s1 := hu1.size
  have s0 := h.size
  exact desk_boxed h.below h.size (hd.kept hu2 (by simp)) hm (hu1.above (above_nil B) h.size) (hu2.above (above_nil B) (by omega)) (hu2.disj hd.lt (by simp)) ((hu1.belowOf (Below.refl _ _) (above_nil B) h.size).trans (hu2.belowOf (Below.refl _ _) (above_nil B) (by omega))) hr

theorem start_desk {w w1 w2 w3 : World} {bd bm : Nat} {Sd Sm : List Nat} (hb : Below w.heap.size w w1) (hd : DiskAt w2 bd .empty Sd) (hu1 : Upd [] Sd w1 w2) (hm : RefAt w3 bm .empty Sm) (hu2 : Upd [] Sm w2 w3) :
    DeskOk w w.heap.size w3.heap.size .empty .empty (w3.heap.size :: (Sd ++ Sm)) (w3.alloc (.cells #[.pointer (some ⟨bd, 0, none⟩), .pointer (some ⟨bm, 0, none⟩)] 31)) := by
  have s1 := hb.size
  have s2 := hu1.size
  exact desk_boxed hb s1 (hd.kept hu2 (by simp)) hm (hu1.above (above_nil _) s1) (hu2.above (above_nil _) (by omega)) (hu2.disj hd.lt (by simp)) ((hu1.belowOf (Below.refl _ _) (above_nil _) s1).trans (hu2.belowOf (Below.refl _ _) (above_nil _) (by omega))) Rel.empty

/-- Two desks at a world on the way, the first laid open. -/
structure Trip (w0 : World) (B x : Nat) (D : DiskM) (M : RefM) (bd bm : Nat) (Sd Sm : List Nat) (x7 : Nat) (D7 : DiskM) (M7 : RefM) (S7 : List Nat) (wp : World) : Prop where
  dk : DeskOk w0 B x D M (x :: (Sd ++ Sm)) wp
  is : DeskIs wp x D M bd bm Sd Sm
  other : DeskOk w0 B x7 D7 M7 S7 wp
theorem Trip.quiet {w0 : World} {B x : Nat} {D : DiskM} {M : RefM} {bd bm : Nat} {Sd Sm : List Nat} {x7 : Nat} {D7 : DiskM} {M7 : RefM} {S7 T' : List Nat} {wp w1 : World} (h : Trip w0 B x D M bd bm Sd Sm x7 D7 M7 S7 wp) (hu : Upd [] T' wp w1) : Trip w0 B x D M bd bm Sd Sm x7 D7 M7 S7 w1 :=
  ⟨h.dk.quiet hu, h.is.kept hu (by simp), h.other.quiet hu⟩

set_option maxHeartbeats 3200000 in
theorem walk_DiskCrashes (vl : Value) (l : List ActM) (va : Value) (za : List Int) (b : Int) (w : World) (hl : ActsAt w vl l) (ha : IntsAt w va za) (hb1 : -9223372036854775808 ≤ b) (hb2 : b ≤ 9223372036854775807) :
    Calls Try.prog 3 #[vl, va, .int .i64 b] w (TrueB w) := by
  obtain ⟨cap, hcap, hlc, hok, hl⟩ := hl
  have hcap2 : cap ≤ 9223372036854775807 := hcap
  clear hcap
  obtain ⟨ao, rfl⟩ : ∃ ao, vl = .slice ao l.length cap := by
    rcases hl with ⟨h0, ao, rfl⟩ | ⟨b, off, rfl, _⟩
    · exact ⟨ao, by rw [h0]; rfl⟩
    · exact ⟨_, rfl⟩
  go_enter Try.func3, Try.ntmps3
  go_wp2_with fail
  refine (sanity24 w).mono ?_
  rintro e w1 ⟨rfl, hb⟩
  go_wp2_with fail
  refine (New_to w1).mono ?_
  rintro e w2 ⟨bd, Sd, rfl, hd2, hu2⟩
  go_wp2_with fail
  refine (RNew_to w2).mono ?_
  rintro e w3 ⟨bm, Sm, rfl, hm3, hu3⟩
  have hx := start_desk hb hd2 hu2 hm3 hu3
  have c0 : (w3.alloc (.cells #[.pointer (some ⟨bd, 0, none⟩), .pointer (some ⟨bm, 0, none⟩)] 31)).cell? ⟨w3.heap.size, 0, none⟩ = some (.pointer (some ⟨bd, 0, none⟩)) := by simp
  clear hb hd2 hu2 hm3 hu3
  go_wp2_with fail
  generalize w3.alloc (.cells #[.pointer (some ⟨bd, 0, none⟩), .pointer (some ⟨bm, 0, none⟩)] 31) = W at *
  generalize w3.heap.size = x at *
  generalize x :: (Sd ++ Sm) = Sx at *
  clear c0
  go_loopw [9] (fun i wr => ∃ (k : Nat) (D : DiskM) (M : RefM) (S : List Nat), i = .int .i64 (k : Int) ∧ k ≤ l.length ∧ k ≤ 20 ∧ D.calls ≤ k ∧ DeskOk w w.heap.size x D M S wr) (fun i _ => l.length - (intOf i).toNat)
  case atStart => exact ⟨0, .empty, .empty, Sx, rfl, Nat.zero_le _, Nat.zero_le _, Nat.le_refl _, hx⟩
  case round =>
    obtain ⟨k, D, M, S, rfl, hk1, hk2, hdc, hx⟩ := hrel
    by_cases hin : k < l.length ∧ k < 20
    · obtain ⟨hlt, h20⟩ := hin
      rcases hl with ⟨h0, _⟩ | ⟨bl, offl, hv, hcell⟩
      · rw [h0] at hlt; simp at hlt
      · simp only [Value.slice.injEq] at hv
        obtain ⟨rfl, _, _⟩ := hv
        obtain ⟨a, hak⟩ : ∃ a, l[k]? = some a := ⟨_, List.getElem?_eq_getElem hlt⟩
        obtain ⟨q0', q1', q2', q3'⟩ := hcell k a hak
        have aok := hok a (List.mem_of_getElem? hak)
        have hbl := World.block_lt_of_cell? _ _ q0'
        have q0 := (hx.below.cell (p := ⟨bl, offl + k * 4, none⟩) hbl).trans q0'
        have q1 := (hx.below.cell (p := ⟨bl, offl + k * 4 + 1, none⟩) hbl).trans q1'
        have q2 := (hx.below.cell (p := ⟨bl, offl + k * 4 + 2, none⟩) hbl).trans q2'
        have q3 := (hx.below.cell (p := ⟨bl, offl + k * 4 + 3, none⟩) hbl).trans q3'
        clear q0' q1' q2' q3' hak
        obtain ⟨kind, off, n, text⟩ := a
        obtain ⟨_, _, o1, o2, n1, n2, t1⟩ := aok
        simp only at q0 q1 q2 q3 o1 o2 n1 n2 t1
        go_wp2_with fail
        refine (Mod_any kind 5 _ (by omega) (by omega)).mono ?_
        rintro e w' ⟨rfl, rfl⟩
        go_wp2_with fail
        have hx2 := hx.alloc (.cells #[.int .i64 (kind % 5), .int .i64 off, .int .i64 n, .string text] 33)
        refine (do_any x D M S (kind % 5) off n text _ hx2.at_ hx2.rel (by omega) o1 o2 n1 n2 t1).mono ?_
        rintro e w4 ⟨D', M', S', rfl, hd4, hu4, hr4, hc4⟩
        have hx3 := hx2.step hd4 hu4 hr4
        clear hx hx2 hd4 hu4 hr4 q0 q1 q2 q3
        go_wp2_with fail
        go_roundw
        case rel => exact ⟨k + 1, D', M', S', by go_num, by omega, by omega, by omega, hx3⟩
        case measure => simp [intOf]; omega
    · have hout : l.length ≤ k ∨ (k < l.length ∧ 20 ≤ k) := by omega
      clear hin hl hok
      obtain ⟨bd', bm', Sd', Sm', hdi, rfl⟩ := hx.at_
      have hxA := hx.drew
      have kA := hdi.drew.cells
      have HC5 := Lib.hid (Crash_to bd' D Sd' va za wr.drew hdi.drew.dat (ha.below hxA.below) hx.rel.ok)
      rcases hout with ho1 | ⟨ho1, ho2⟩
      all_goals
        go_wp2_with fail
        go_region_held3 (fun wp => wp.cell? ⟨x, 0, none⟩ = some (.pointer (some ⟨bd', 0, none⟩)) ∧ wp.cell? ⟨x, 1, none⟩ = some (.pointer (some ⟨bm', 0, none⟩))) (first | exact kA | assumption | go_keep)
          (first
            | (go_at_call 22; ((with_reducible refine HC5.out.mono ?_); rintro e w5 ⟨b5, S5, rfl, hd5, hu5⟩; have hx5 := hxA.quiet hu5; have hdi5 := hdi.drew.kept hu5 (by simp); have k5 := hdi5.cells))
            | (go_at_call 23; ((with_reducible refine (RCrash_to bm' M Sm' va za _ hdi5.rat (ha.below hx5.below) D hx.rel).mono ?_); rintro e w6 ⟨b6, rfl, hd6, hu6⟩; have hx6 := hx5.quiet hu6; have hdi6 := hdi5.kept hu6 (by simp); have k6 := hdi6.cells; have hxl6 := blk_lt hdi6.1)))
        have p6 := crashes_pair hxA hd5 hu5 hd6 hu6 (hx.rel.crash za)
        have hx7 := hx6.alloc (.cells #[.pointer (some ⟨b5, 0, none⟩), .pointer (some ⟨b6, 0, none⟩)] 31)
        have hdi7 := hdi6.alloc (.cells #[.pointer (some ⟨b5, 0, none⟩), .pointer (some ⟨b6, 0, none⟩)] 31)
        clear hd5 hu5 hd6 hu6 hx5 hx6 hdi5 hdi6 k5 k6 kA hxA hxl6 HC5
        generalize w6.alloc (.cells #[.pointer (some ⟨b5, 0, none⟩), .pointer (some ⟨b6, 0, none⟩)] 31) = w7 at *
        generalize w6.heap.size = x7 at *
        generalize x7 :: (S5 ++ [b6]) = S7 at *
        have tA : Trip w w.heap.size x D M bd' bm' Sd' Sm' x7 (D.crash za) (M.crash za) S7 w7.drew := ⟨hx7.drew, hdi7.drew, p6.drew⟩
        have kA := tA.is.cells
        clear hx7 p6 hdi7
        go_wp2_with fail
        go_region_held3 (fun wp => wp.cell? ⟨x, 0, none⟩ = some (.pointer (some ⟨bd', 0, none⟩)) ∧ wp.cell? ⟨x, 1, none⟩ = some (.pointer (some ⟨bm', 0, none⟩))) (first | exact kA | assumption | go_keep)
          (first
            | (go_at_call 24; ((with_reducible refine (survive_any b _ hb1 hb2).mono ?_); rintro e wq ⟨vq, rfl, hiq, hq⟩; have tq := Trip.quiet (by assumption) hq; have kq := tq.is.cells))
            | (go_at_call 22; ((with_reducible refine (Crash_to bd' D Sd' _ _ _ tq.is.dat hiq tq.dk.rel.ok).mono ?_); rintro e w8 ⟨b8, S8, rfl, hd8, hu8⟩; have t0 := tq; have t8 := tq.quiet hu8; have k8 := t8.is.cells))
            | (go_at_call 23; ((with_reducible refine (RCrash_to bm' M Sm' _ _ _ tq.is.rat hiq D tq.dk.rel).mono ?_); rintro e w9 ⟨b9, rfl, hd9, hu9⟩; have t9 := tq.quiet hu9; have k9 := t9.is.cells; have hxl9 := blk_lt t9.is.1)))
        have p9 := crashes_pair t0.dk (hd8.kept hq (by simp)) (hu8.trans hq.quiet) hd9 hu9 (t0.dk.rel.crash (survL b))
        have t10 := t9.quiet ((Upd.refl [] w9).alloc (.cells #[.pointer (some ⟨b8, 0, none⟩), .pointer (some ⟨b9, 0, none⟩)] 31))
        clear t0 t8 k8 hd8 hu8 hd9 hu9 k9 hxl9 tA kA t9 tq kq hq hiq
        generalize w9.alloc (.cells #[.pointer (some ⟨b8, 0, none⟩), .pointer (some ⟨b9, 0, none⟩)] 31) = w10 at *
        generalize w9.heap.size = x10 at *
        generalize x10 :: (S8 ++ [b9]) = S10 at *
        go_wp2_with fail
        refine (same_any x7 _ _ _ w10 t10.other.at_ t10.other.rel).mono ?_
        rintro e w11 ⟨n1, rfl, rfl⟩
        go_wp2_with fail
        refine (same_any x10 _ _ _ _ (p9.drewN n1).at_ p9.rel).mono ?_
        rintro e w12 ⟨n2, rfl, rfl⟩
        go_wp2_with fail
        refine (same_any x _ _ _ _ (t10.dk.drewN (n1 + n2)).at_ t10.dk.rel).mono ?_
        rintro e w13 ⟨n3, rfl, rfl⟩
        go_wp2_with fail
        go_ret
        exact ⟨rfl, (t10.dk.drewN _).below⟩
end Go.Proofs.Ytbpbmigdfjnneaa
