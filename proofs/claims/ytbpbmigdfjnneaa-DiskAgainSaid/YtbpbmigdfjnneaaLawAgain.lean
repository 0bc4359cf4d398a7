/- DiskAgain returns true: the walk. -/
import Derived.Test.YtbpbmigdfjnneaaLawB
namespace Go.Proofs.Ytbpbmigdfjnneaa
open Go.RowKit
set_option maxRecDepth 100000

set_option maxHeartbeats 3200000 in
theorem walk_DiskAgain (vl : Value) (l : List ActM) (va : Value) (za : List Int) (vb : Value) (zb : List Int) (w : World) (hl : ActsAt w vl l) (ha : IntsAt w va za) (hbb : IntsAt w vb zb) :
    Calls Try.prog 7 #[vl, va, vb] w (TrueB w) := by
  obtain ⟨cap, hcap, hlc, hok, hl⟩ := hl
  have hcap2 : cap ≤ 9223372036854775807 := hcap
  clear hcap
  obtain ⟨ao, rfl⟩ : ∃ ao, vl = .slice ao l.length cap := by
    rcases hl with ⟨h0, ao, rfl⟩ | ⟨b, off, rfl, _⟩
    · exact ⟨ao, by rw [h0]; rfl⟩
    · exact ⟨_, rfl⟩
  go_enter Try.func7, Try.ntmps7
  go_wp2_with fail
  refine (sanity24 w).mono ?_
  rintro e w1 ⟨rfl, hb⟩
  go_wp2_with fail
  refine (New_to w1).mono ?_
  rintro e w2 ⟨bd, Sd, rfl, hd2, hu2⟩
  go_wp2_with fail
  refine (RNew_to w2).mono ?_
  rintro e w3 ⟨bm, Sm, rfl, hm3, hu3⟩
  have hx := start_desk hb hd2 hu2 hm3 hu3
  have c0 : (w3.alloc (.cells #[.pointer (some ⟨bd, 0, none⟩), .pointer (some ⟨bm, 0, none⟩)] 31)).cell? ⟨w3.heap.size, 0, none⟩ = some (.pointer (some ⟨bd, 0, none⟩)) := by simp
  clear hb hd2 hu2 hm3 hu3
  go_wp2_with fail
  generalize w3.alloc (.cells #[.pointer (some ⟨bd, 0, none⟩), .pointer (some ⟨bm, 0, none⟩)] 31) = W at *
  generalize w3.heap.size = x at *
  generalize x :: (Sd ++ Sm) = Sx at *
  clear c0
  go_loopw [9] (fun i wr => ∃ (k : Nat) (D : DiskM) (M : RefM) (S : List Nat), i = .int .i64 (k : Int) ∧ k ≤ l.length ∧ k ≤ 15 ∧ D.calls ≤ k ∧ DeskOk w w.heap.size x D M S wr) (fun i _ => l.length - (intOf i).toNat)
  case atStart => exact ⟨0, .empty, .empty, Sx, rfl, Nat.zero_le _, Nat.zero_le _, Nat.le_refl _, hx⟩
  case round =>
    obtain ⟨k, D, M, S, rfl, hk1, hk2, hdc, hx⟩ := hrel
    by_cases hin : k < l.length ∧ k < 15
    · obtain ⟨hlt, h20⟩ := hin
      rcases hl with ⟨h0, _⟩ | ⟨bl, offl, hv, hcell⟩
      · rw [h0] at hlt; simp at hlt
      · simp only [Value.slice.injEq] at hv
        obtain ⟨rfl, _, _⟩ := hv
        obtain ⟨a, hak⟩ : ∃ a, l[k]? = some a := ⟨_, List.getElem?_eq_getElem hlt⟩
        obtain ⟨q0', q1', q2', q3'⟩ := hcell k a hak
        have aok := hok a (List.mem_of_getElem? hak)
        have hbl := World.block_lt_of_cell? _ _ q0'
        have q0 := (hx.below.cell (p := ⟨bl, offl + k * 4, none⟩) hbl).trans q0'
        have q1 := (hx.below.cell (p := ⟨bl, offl + k * 4 + 1, none⟩) hbl).trans q1'
        have q2 := (hx.below.cell (p := ⟨bl, offl + k * 4 + 2, none⟩) hbl).trans q2'
        have q3 := (hx.below.cell (p := ⟨bl, offl + k * 4 + 3, none⟩) hbl).trans q3'
        clear q0' q1' q2' q3' hak
        obtain ⟨kind, off, n, text⟩ := a
        obtain ⟨_, _, o1, o2, n1, n2, t1⟩ := aok
        simp only at q0 q1 q2 q3 o1 o2 n1 n2 t1
        go_wp2_with fail
        refine (do_any x D M S kind off n text _ hx.at_ hx.rel (by omega) o1 o2 n1 n2 t1).mono ?_
        rintro e w4 ⟨D', M', S', rfl, hd4, hu4, hr4, hc4⟩
        have hx3 := hx.step hd4 hu4 hr4
        clear hx hd4 hu4 hr4 q0 q1 q2 q3
        go_wp2_with fail
        go_roundw
        case rel => exact ⟨k + 1, D', M', S', by go_num, by omega, by omega, by omega, hx3⟩
        case measure => simp [intOf]; omega
    · have hout : l.length ≤ k ∨ (k < l.length ∧ 15 ≤ k) := by omega
      clear hin hl hok
      obtain ⟨bd', bm', Sd', Sm', hdi, rfl⟩ := hx.at_
      obtain ⟨c0, c1⟩ := hdi.cells
      have dx : DiskOk w w.heap.size bd' D Sd' wr := ⟨hdi.dat, fun k hk => hx.above k (by simp [hk]), hx.below, hx.size⟩
      have okD := hx.rel.ok
      clear hdi hx
      rcases hout with ho1 | ⟨ho1, ho2⟩
      all_goals
        go_wp2_with fail
        refine (Crash_to bd' D Sd' va za wr dx.at_ (ha.below dx.below) okD).mono ?_
        rintro e w5 ⟨b5, S5, rfl, hd5, hu5⟩
        have d5 := dx.born hd5 hu5
        clear hd5 hu5 c0 c1
        go_wp2_with fail
        refine (Crash_to b5 (D.crash za) S5 vb zb w5 d5.at_ (hbb.below d5.below) (okD.crash za)).mono ?_
        rintro e w6 ⟨b6, S6, rfl, hd6, hu6⟩
        have d6 := d5.born hd6 hu6
        have d5' := d5.quiet hu6
        have hcc : (D.crash za).crash zb = D.crash za := rfl
        rw [hcc] at d6
        have okC := okD.crash za
        obtain ⟨C, hC⟩ : ∃ C, C = D.crash za := ⟨_, rfl⟩
        have hc0 : C.calls = 0 := by rw [hC]; rfl
        rw [← hC] at d6 d5' okC
        clear hd6 hu6 hC hcc d5
        go_wp2_with fail
        refine (Size_to b6 C S6 w6 C.now.length d6.at_ rfl).mono ?_
        rintro e w' ⟨rfl, rfl⟩
        go_wp2_with fail
        refine (Size_to b5 C S5 w6 C.now.length d5'.at_ rfl).mono ?_
        rintro e w' ⟨rfl, rfl⟩
        go_wp2_with fail
        refine (Read_str b6 C S6 0 33554432 w6 d6.at_ (by have := okC.now; omega)).mono ?_
        rintro e w' ⟨r1, hr1, rfl, rfl⟩
        go_wp2_with fail
        refine (Read_str b5 C S5 0 33554432 w6 d5'.at_ (by have := okC.now; omega)).mono ?_
        rintro e w' ⟨r2, hr2, rfl, rfl⟩
        have hk := eq_toList hr1 hr2
        go_wp2_with fail
        refine (Calls_to b6 C S6 w6 0 d6.at_ (by rw [hc0]; rfl)).mono ?_
        rintro e w' ⟨rfl, rfl⟩
        clear hc0
        go_wp2_with fail
        go_ret
        exact ⟨rfl, d6.below⟩
end Go.Proofs.Ytbpbmigdfjnneaa
