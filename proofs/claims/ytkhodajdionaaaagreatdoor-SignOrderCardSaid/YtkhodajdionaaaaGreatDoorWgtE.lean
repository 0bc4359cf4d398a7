/- sorteslaw05.members. -/
import Derived.Test.YtkhodajdionaaaaGreatDoorWgtD
namespace Go.Proofs.YtkhodajdionaaaaGreatDoor
open Go.RowKit Go.Maps
set_option maxRecDepth 100000

theorem memsL_ok (l : List (Int × Int)) (k : Nat) (hk : k ≤ 8) : ∀ m ∈ memsL l k, m.ok ∧ m.id ≤ 8 := by
  intro m hm
  unfold memsL at hm
  rw [List.mem_map] at hm
  obtain ⟨i, hi, rfl⟩ := hm
  rw [List.mem_range] at hi
  have h1 : idN i (l.getD i (0, 0)) ≤ 8 := by unfold idN; split <;> omega
  have m1 := Int.lt_tmod_of_pos (l.getD i (0, 0)).2 (b := 24) (by omega)
  have m2 := Int.tmod_lt_of_pos (l.getD i (0, 0)).2 (b := 24) (by omega)
  have m3 : gP (keyN (seedL (idN i (l.getD i (0, 0))))) < 2305843009213691579 := gP_lt _
  refine ⟨⟨?_, ?_, ?_⟩, ?_⟩
  · show i64in ((idN i (l.getD i (0, 0)) : Nat) : Int)
    unfold i64in; omega
  · show i64in ((l.getD i (0, 0)).2.tmod 24 - 1)
    unfold i64in; omega
  · show i64in ((gP (keyN (seedL (idN i (l.getD i (0, 0))))) : Nat) : Int)
    unfold i64in; omega
  · show ((idN i (l.getD i (0, 0)) : Nat) : Int) ≤ 8
    omega

/-- Secrets as a list. -/
theorem secs_of_row {w : World} {v : Value} {l : List Nat} (h : w.ownsRow 0 3 1 v l.length (natVals l)) : ∃ ao cap, v = .slice ao l.length cap ∧ l.length ≤ cap ∧ ∀ (k x : Nat), l[k]? = some x → ∃ g, ao = some ⟨g, 0, none⟩ ∧ g < w.heap.size ∧ w.cell? ⟨g, k, none⟩ = some (.int .i64 (x : Int)) := by
  rcases h.2 with ⟨rfl, hn⟩ | ⟨g, cap, cur, rfl, _, hg, hc, _, hcs, ht⟩
  · refine ⟨none, 0, by rw [hn], by omega, fun k m hk => ?_⟩
    have := (List.getElem?_eq_some_iff.1 hk).1
    omega
  · refine ⟨_, cap, rfl, hc, fun k m hk => ⟨g, rfl, (Array.getElem?_eq_some_iff.1 hg).1, ?_⟩⟩
    have hkl := (List.getElem?_eq_some_iff.1 hk).1
    have cell : w.cell? ⟨g, k, none⟩ = (natVals l)[k]? := by
      rw [cell_of_row _ _ _ _ _ _ hg, ← ht, List.getElem?_take, if_pos (by omega), Array.getElem?_toList]
    rw [cell]
    unfold natVals
    rw [List.getElem?_map, hk]
    rfl
theorem memsL_get (l : List (Int × Int)) (q k : Nat) (hk : k < q) : (memsL l q)[k]? = some (memN' k (l.getD k (0, 0))) := by
  unfold memsL
  rw [List.getElem?_map, List.getElem?_range hk]
  rfl
theorem secsL_get (l : List (Int × Int)) (q k : Nat) (hk : k < q) : (secsL l q)[k]? = some (keyN (seedL (idN k (l.getD k (0, 0))))) := by
  unfold secsL
  rw [List.getElem?_map, List.getElem?_range hk]
  rfl

theorem two_keep {w w' : World} {g j gs k : Nat} {v x : Value} (h : g < w.heap.size ∧ gs < w.heap.size ∧ w.cell? ⟨g, j, none⟩ = some v ∧ w.cell? ⟨gs, k, none⟩ = some x) (u : Upd [] [] w w') : g < w'.heap.size ∧ gs < w'.heap.size ∧ w'.cell? ⟨g, j, none⟩ = some v ∧ w'.cell? ⟨gs, k, none⟩ = some x :=
  ⟨Nat.lt_of_lt_of_le h.1 u.size, Nat.lt_of_lt_of_le h.2.1 u.size, (World.cell?_of_block (a := ⟨g, j, none⟩) (u.block g h.1 (by simp))).trans h.2.2.1, (World.cell?_of_block (a := ⟨gs, k, none⟩) (u.block gs h.2.1 (by simp))).trans h.2.2.2⟩

/-- A new vote's cells. -/
def VoteAt (w : World) (g : Nat) : Prop := w.frozen? ⟨g, 0, none⟩ = false ∧ w.frozen? ⟨g, 1, none⟩ = false ∧ w.frozen? ⟨g, 2, none⟩ = false ∧ w.frozen? ⟨g, 3, none⟩ = false ∧ w.cell? ⟨g, 0, none⟩ = some (.int .i64 0) ∧ w.cell? ⟨g, 1, none⟩ = some (.string ByteArray.empty) ∧ w.cell? ⟨g, 2, none⟩ = some (.int .i64 0) ∧ w.cell? ⟨g, 3, none⟩ = some (.int .i64 0)
theorem voteAt_row {w : World} {g : Nat} (h : w.heap[g]? = some (.cells #[.int .i64 0, .string ByteArray.empty, .int .i64 0, .int .i64 0] 54 (0, 0))) : VoteAt w g :=
  ⟨frozen_of_row _ _ _ _ _ h, frozen_of_row _ _ _ _ _ h, frozen_of_row _ _ _ _ _ h, frozen_of_row _ _ _ _ _ h, by rw [cell_of_row _ _ _ _ _ _ h]; rfl, by rw [cell_of_row _ _ _ _ _ _ h]; rfl, by rw [cell_of_row _ _ _ _ _ _ h]; rfl, by rw [cell_of_row _ _ _ _ _ _ h]; rfl⟩
theorem vote_new (w : World) : VoteAt (w.alloc (.cells #[.int .i64 0, .string ByteArray.empty, .int .i64 0, .int .i64 0] 54)) w.heap.size := voteAt_row (heap_alloc_new w _)
theorem vote_new_upd {w w' : World} (h : Upd [] [] (w.alloc (.cells #[.int .i64 0, .string ByteArray.empty, .int .i64 0, .int .i64 0] 54)) w') : VoteAt w' w.heap.size := voteAt_row (row_updW (heap_alloc_new w _) h)

theorem vote_new_updD {w w' : World} (h : Upd [] [] (w.alloc (.cells #[.int .i64 0, .string ByteArray.empty, .int .i64 0, .int .i64 0] 54)).drew w') : VoteAt w' w.heap.size := voteAt_row (row_updW (heap_alloc_new w _) ((Upd.refl [] _).drew.trans h))

theorem row4 {w : World} {g : Nat} {t : TypeId} {a b c d a' b' c' d' : Value} (h : w.heap[g]? = some (.cells #[a, b, c, d] t (0, 0))) : ((((w.setCell ⟨g, 0, none⟩ a').setCell ⟨g, 1, none⟩ b').setCell ⟨g, 2, none⟩ c').setCell ⟨g, 3, none⟩ d').heap[g]? = some (.cells #[a', b', c', d'] t (0, 0)) :=
  heap_setCell_same _ g 3 _ _ d' (heap_setCell_same _ g 2 _ _ c' (heap_setCell_same _ g 1 _ _ b' (heap_setCell_same w g 0 _ _ a' h)))

set_option maxHeartbeats 4000000 in
theorem voters_any (l : List (Int × Int)) (t : ByteArray) (bits : Int) (ao : Option Addr) (ca n : Nat) (w : World) (hm : PairsIn w ao l) (hn : n = l.length) (hca : n ≤ ca) (hca2 : ca ≤ 9223372036854775807) (ht : t.size ≤ 1000) (hb : 0 ≤ bits ∧ bits ≤ 65535) :
    Calls Tryz.prog 26 #[.slice ao n ca, .string t, .int .u16 bits, .int .u16 0] w (fun e w' => ∃ (u v : Value) (vs : List VtV), Hid (w'.ownsRow 0 81 3 u (min n 8) (memVals (memsL l (min n 8)))) ∧ Hid (w'.ownsRow 0 54 4 v vs.length (voteVals vs)) ∧ vs.length = min n 8 ∧ Hid (∀ x ∈ vs, x.ok) ∧ e = .returned (.tuple #[u, v]) ∧ Upd [] [] w w') := by
  have HMB := Lib.hid (members_any l ao ca n w hm hn hca hca2)
  clear hca2 hm hn
  obtain ⟨q, hq⟩ : ∃ q, q = min n 8 := ⟨_, rfl⟩
  have hq8 : q ≤ 8 := by omega
  go_enter Tryz.func26, Tryz.ntmps26
  go_wp2_with fail
  refine HMB.out.mono ?_
  clear HMB
  rintro e w1 ⟨u, s, HU, HS, rfl, HUP, HD⟩
  rw [← hq] at HU HS
  have HQ := Lib.hid hq
  clear hq
  have hrow := mems_of_row (w := w1) (v := u) (l := memsL l q) (by rw [memsL_len]; exact HU.out) (fun m h => (memsL_ok l q hq8 m h).1)
  rw [memsL_len] at hrow
  obtain ⟨au, cu, rfl, hcu, hM⟩ := hrow
  have HM := Lib.hid hM
  clear hM
  have hsr := secs_of_row (w := w1) (v := s) (l := secsL l q) (by rw [secsL_len]; exact HS.out)
  rw [secsL_len] at hsr
  obtain ⟨sa, cs, rfl, hcs, hS⟩ := hsr
  have HSS := Lib.hid hS
  clear hS
  go_wp2_with fail
  go_loopw [12, 13] (fun v i wr => ∃ (k : Nat) (vs : List VtV), i = .int .i64 (k : Int) ∧ k ≤ q ∧ vs.length = k ∧ Hid (∀ x ∈ vs, x.ok) ∧ Hid (wr.ownsRow 0 54 4 v k (voteVals vs)) ∧ Hid (Upd [] (foot v) w1 wr)) (fun _ i _ => q - (intOf i).toNat)
  case atStart => exact ⟨0, [], rfl, Nat.zero_le _, rfl, fun x h => (by cases h), by show World.ownsRow _ _ _ _ _ _ _; exact World.ownsRow_nil _ _ _ _, Upd.refl _ _⟩
  case round =>
    obtain ⟨k, vs, rfl, hk, hvl, HVO, HVR, HUQ⟩ := hrel
    by_cases hlt : k < q
    · have hup0 : Upd [] [] w1 wr := HUQ.out.mono (fun _ h => h) (fun _ h => absurd h (by simp))
      obtain ⟨p, hp⟩ : ∃ p, memN' k (l.getD k (0, 0)) = p := ⟨_, rfl⟩
      obtain ⟨x, hx⟩ : ∃ x, keyN (seedL (idN k (l.getD k (0, 0)))) = x := ⟨_, rfl⟩
      have hxl : x < 1152921504606845789 := by rw [← hx]; exact keyN_lt _
      obtain ⟨⟨o0, o1, o2⟩, g, rfl, hg, c0, c1, c2⟩ := (HM.out.upd hup0) k p (by rw [memsL_get l q k hlt, hp])
      obtain ⟨gs, rfl, hgs, s0'⟩ := HSS.out k x (by rw [secsL_get l q k hlt, hx])
      have s0 := (World.cell?_of_block (a := ⟨gs, k, none⟩) (hup0.block gs hgs (by simp))).trans s0'
      have hgs' := Nat.lt_of_lt_of_le hgs hup0.size
      have z0 : (0 : Int) / 2 ^ k = 0 := Int.zero_ediv _
      have z1 : Go.bits .and .u16 0 1 = 0 := by kernel_rfl
      have z2 : IntKind.i64.wrap (x : Int) = (x : Int) := IntWalk.i64_in _ (by omega)
      have z3 : IntKind.i64.wrap 0 = 0 := by kernel_rfl
      have q120 : (ByteArray.mk #[120]).size = 1 := rfl
      clear s0' c1 c2 o1 o2 hup0
      go_wp2_with fail
      all_goals
        have k3 := two_keep ⟨hg, hgs', c0, s0⟩ (Upd.refl [] wr)
        have k4 := two_keep k3 (Upd.refl [] wr).drew
        go_region_held3 (fun wp => g < wp.heap.size ∧ gs < wp.heap.size ∧ wp.cell? ⟨g, k * 3, none⟩ = some (.int .i64 p.id) ∧ wp.cell? ⟨gs, k, none⟩ = some (.int .i64 (x : Int))) (first | with_reducible exact k4 | with_reducible assumption | with_reducible exact k5 | with_reducible exact two_keep k4 ((Upd.refl [] _).alloc _) | with_reducible exact two_keep k5 ((Upd.refl [] _).alloc _) | with_reducible exact two_keep k3 ((((((((Upd.refl [] _).alloc _).drew).trans hq).setNew (p := ⟨_, _, none⟩) (Nat.le_refl _) _).setNew (p := ⟨_, _, none⟩) (Nat.le_refl _) _).setNew (p := ⟨_, _, none⟩) (Nat.le_refl _) _).setNew (p := ⟨_, _, none⟩) (Nat.le_refl _) _))
          (first | (go_at_call 60; ((with_reducible refine (rvote_any p.id (x : Int) _ _ (by omega) (by first | omega | (rw [ByteArray.size_append]; omega))).mono ?_); rintro e wq ⟨r, s, HRS, hr, hs, rfl, hq⟩; have k5 := two_keep (g := g) (j := k * 3) (gs := gs) (k := k) (by first | exact k4 | exact two_keep k4 ((Upd.refl [] _).alloc _)) hq; obtain ⟨f0, f1, f2, f3, g0, g1, g2, g3⟩ := vote_new wq; try (have hh := vote_new_updD hq; obtain ⟨m0, m1, m2, m3, n0, n1, n2, n3⟩ := hh))))
      · have hrow : (wq.alloc (.cells #[.int .i64 p.id, .string (t ++ ⟨#[120]⟩), .int .i64 (r : Int), .int .i64 (s : Int)] 54)).heap[wq.heap.size]? = some (.cells #[.int .i64 p.id, .string (t ++ ⟨#[120]⟩), .int .i64 (r : Int), .int .i64 (s : Int)] 54 (0, 0)) := heap_alloc_new _ _
        have hu9 : Upd [] [] wr (wq.alloc (.cells #[.int .i64 p.id, .string (t ++ ⟨#[120]⟩), .int .i64 (r : Int), .int .i64 (s : Int)] 54)) := ((Upd.refl [] wr).drew.trans hq).alloc _
        obtain ⟨w9, hw9⟩ : ∃ w9, wq.alloc (.cells #[.int .i64 p.id, .string (t ++ ⟨#[120]⟩), .int .i64 (r : Int), .int .i64 (s : Int)] 54) = w9 := ⟨_, rfl⟩
        rw [hw9] at hrow hu9 ⊢
        clear hw9
        have hv9 := row_same HVR.out (fun j hj => hu9.block j (row_foot_lt HVR.out j hj) (by simp))
        have hTs : ((t ++ ⟨#[120]⟩)).size ≤ 2000 := by first | omega | (rw [ByteArray.size_append]; omega)
        obtain ⟨v', w4, hr4, hw4, hB⟩ := append_vts w9 _ vs [⟨p.id, (t ++ ⟨#[120]⟩), (r : Int), (s : Int)⟩] (by rw [hvl]; exact hv9) (by omega) (by simp)
        have HW4 := Lib.hid hw4
        have HUP4 : Hid (Upd [] (foot v') w1 w4) := (HUQ.out.trans (hu9.mono (fun _ h => absurd h (by simp)) (fun _ h => .inr h))).trans hB
        have HOK : Hid (∀ y ∈ vs ++ [(⟨p.id, (t ++ ⟨#[120]⟩), (r : Int), (s : Int)⟩ : VtV)], y.ok) := by
          intro y hy
          rcases List.mem_append.1 hy with hy | hy
          · exact HVO.out y hy
          · rw [List.mem_singleton] at hy
            subst hy
            refine ⟨o0, ?_, ?_, ?_⟩
            · show ((t ++ ⟨#[120]⟩)).size ≤ _
              omega
            · show i64in (r : Int)
              unfold i64in; omega
            · show i64in (s : Int)
              unfold i64in; omega
        have HR4 := Lib.hid hr4
        have e0 : w9.cell? ⟨wq.heap.size, 0, none⟩ = some (.int .i64 p.id) := by rw [cell_of_row _ _ _ _ _ _ hrow]; rfl
        have e1 : w9.cell? ⟨wq.heap.size, 1, none⟩ = some (.string (t ++ ⟨#[120]⟩)) := by rw [cell_of_row _ _ _ _ _ _ hrow]; rfl
        have e2 : w9.cell? ⟨wq.heap.size, 2, none⟩ = some (.int .i64 (r : Int)) := by rw [cell_of_row _ _ _ _ _ _ hrow]; rfl
        have e3 : w9.cell? ⟨wq.heap.size, 3, none⟩ = some (.int .i64 (s : Int)) := by rw [cell_of_row _ _ _ _ _ _ hrow]; rfl
        clear hr4 hw4 hB hv9 hrow hu9 k3 k4 k5 c0 s0 hq f0 f1 f2 f3 g0 g1 g2 g3
        go_wp2_with (first | (refine wpList_append_run _ rfl _ _ _ _ rfl _ _ v' w4 rfl rfl HR4.out ?_))
        refine ⟨⟨k + 1, vs ++ [⟨p.id, (t ++ ⟨#[120]⟩), (r : Int), (s : Int)⟩], by go_num, by omega, by rw [List.length_append, hvl]; rfl, HOK, ?_, HUP4⟩, by simp [intOf]; omega⟩
        show World.ownsRow _ _ _ _ _ _ _
        have h := HW4.out
        rw [List.length_append, hvl] at h
        exact h
      · have hrow : ((((wq.setCell ⟨wr.heap.size, 0, none⟩ (.int .i64 p.id)).setCell ⟨wr.heap.size, 1, none⟩ (.string (t ++ ⟨#[120]⟩))).setCell ⟨wr.heap.size, 2, none⟩ (.int .i64 (r : Int))).setCell ⟨wr.heap.size, 3, none⟩ (.int .i64 (s : Int))).heap[wr.heap.size]? = some (.cells #[.int .i64 p.id, .string (t ++ ⟨#[120]⟩), .int .i64 (r : Int), .int .i64 (s : Int)] 54 (0, 0)) := row4 (row_updW (heap_alloc_new wr _) ((Upd.refl [] _).drew.trans hq))
        have hu9 : Upd [] [] wr ((((wq.setCell ⟨wr.heap.size, 0, none⟩ (.int .i64 p.id)).setCell ⟨wr.heap.size, 1, none⟩ (.string (t ++ ⟨#[120]⟩))).setCell ⟨wr.heap.size, 2, none⟩ (.int .i64 (r : Int))).setCell ⟨wr.heap.size, 3, none⟩ (.int .i64 (s : Int))) := ((((((Upd.refl [] wr).alloc _).drew.trans hq).setNew (p := ⟨_, _, none⟩) (Nat.le_refl _) _).setNew (p := ⟨_, _, none⟩) (Nat.le_refl _) _).setNew (p := ⟨_, _, none⟩) (Nat.le_refl _) _).setNew (p := ⟨_, _, none⟩) (Nat.le_refl _) _
        obtain ⟨w9, hw9⟩ : ∃ w9, (((wq.setCell ⟨wr.heap.size, 0, none⟩ (.int .i64 p.id)).setCell ⟨wr.heap.size, 1, none⟩ (.string (t ++ ⟨#[120]⟩))).setCell ⟨wr.heap.size, 2, none⟩ (.int .i64 (r : Int))).setCell ⟨wr.heap.size, 3, none⟩ (.int .i64 (s : Int)) = w9 := ⟨_, rfl⟩
        rw [hw9] at hrow hu9 ⊢
        clear hw9
        have hv9 := row_same HVR.out (fun j hj => hu9.block j (row_foot_lt HVR.out j hj) (by simp))
        have hTs : ((t ++ ⟨#[120]⟩)).size ≤ 2000 := by first | omega | (rw [ByteArray.size_append]; omega)
        obtain ⟨v', w4, hr4, hw4, hB⟩ := append_vts w9 _ vs [⟨p.id, (t ++ ⟨#[120]⟩), (r : Int), (s : Int)⟩] (by rw [hvl]; exact hv9) (by omega) (by simp)
        have HW4 := Lib.hid hw4
        have HUP4 : Hid (Upd [] (foot v') w1 w4) := (HUQ.out.trans (hu9.mono (fun _ h => absurd h (by simp)) (fun _ h => .inr h))).trans hB
        have HOK : Hid (∀ y ∈ vs ++ [(⟨p.id, (t ++ ⟨#[120]⟩), (r : Int), (s : Int)⟩ : VtV)], y.ok) := by
          intro y hy
          rcases List.mem_append.1 hy with hy | hy
          · exact HVO.out y hy
          · rw [List.mem_singleton] at hy
            subst hy
            refine ⟨o0, ?_, ?_, ?_⟩
            · show ((t ++ ⟨#[120]⟩)).size ≤ _
              omega
            · show i64in (r : Int)
              unfold i64in; omega
            · show i64in (s : Int)
              unfold i64in; omega
        have HR4 := Lib.hid hr4
        have e0 : w9.cell? ⟨wr.heap.size, 0, none⟩ = some (.int .i64 p.id) := by rw [cell_of_row _ _ _ _ _ _ hrow]; rfl
        have e1 : w9.cell? ⟨wr.heap.size, 1, none⟩ = some (.string (t ++ ⟨#[120]⟩)) := by rw [cell_of_row _ _ _ _ _ _ hrow]; rfl
        have e2 : w9.cell? ⟨wr.heap.size, 2, none⟩ = some (.int .i64 (r : Int)) := by rw [cell_of_row _ _ _ _ _ _ hrow]; rfl
        have e3 : w9.cell? ⟨wr.heap.size, 3, none⟩ = some (.int .i64 (s : Int)) := by rw [cell_of_row _ _ _ _ _ _ hrow]; rfl
        clear hr4 hw4 hB hv9 hrow hu9 k3 k4 k5 c0 s0 hq f0 f1 f2 f3 g0 g1 g2 g3
        go_wp2_with (first | (refine wpList_append_run _ rfl _ _ _ _ rfl _ _ v' w4 rfl rfl HR4.out ?_))
        refine ⟨⟨k + 1, vs ++ [⟨p.id, (t ++ ⟨#[120]⟩), (r : Int), (s : Int)⟩], by go_num, by omega, by rw [List.length_append, hvl]; rfl, HOK, ?_, HUP4⟩, by simp [intOf]; omega⟩
        show World.ownsRow _ _ _ _ _ _ _
        have h := HW4.out
        rw [List.length_append, hvl] at h
        exact h
      · have hrow : (wq.alloc (.cells #[.int .i64 p.id, .string t, .int .i64 (r : Int), .int .i64 (s : Int)] 54)).heap[wq.heap.size]? = some (.cells #[.int .i64 p.id, .string t, .int .i64 (r : Int), .int .i64 (s : Int)] 54 (0, 0)) := heap_alloc_new _ _
        have hu9 : Upd [] [] wr (wq.alloc (.cells #[.int .i64 p.id, .string t, .int .i64 (r : Int), .int .i64 (s : Int)] 54)) := ((Upd.refl [] wr).drew.trans hq).alloc _
        obtain ⟨w9, hw9⟩ : ∃ w9, wq.alloc (.cells #[.int .i64 p.id, .string t, .int .i64 (r : Int), .int .i64 (s : Int)] 54) = w9 := ⟨_, rfl⟩
        rw [hw9] at hrow hu9 ⊢
        clear hw9
        have hv9 := row_same HVR.out (fun j hj => hu9.block j (row_foot_lt HVR.out j hj) (by simp))
        have hTs : (t).size ≤ 2000 := by first | omega | (rw [ByteArray.size_append]; omega)
        obtain ⟨v', w4, hr4, hw4, hB⟩ := append_vts w9 _ vs [⟨p.id, t, (r : Int), (s : Int)⟩] (by rw [hvl]; exact hv9) (by omega) (by simp)
        have HW4 := Lib.hid hw4
        have HUP4 : Hid (Upd [] (foot v') w1 w4) := (HUQ.out.trans (hu9.mono (fun _ h => absurd h (by simp)) (fun _ h => .inr h))).trans hB
        have HOK : Hid (∀ y ∈ vs ++ [(⟨p.id, t, (r : Int), (s : Int)⟩ : VtV)], y.ok) := by
          intro y hy
          rcases List.mem_append.1 hy with hy | hy
          · exact HVO.out y hy
          · rw [List.mem_singleton] at hy
            subst hy
            refine ⟨o0, ?_, ?_, ?_⟩
            · show (t).size ≤ _
              omega
            · show i64in (r : Int)
              unfold i64in; omega
            · show i64in (s : Int)
              unfold i64in; omega
        have HR4 := Lib.hid hr4
        have e0 : w9.cell? ⟨wq.heap.size, 0, none⟩ = some (.int .i64 p.id) := by rw [cell_of_row _ _ _ _ _ _ hrow]; rfl
        have e1 : w9.cell? ⟨wq.heap.size, 1, none⟩ = some (.string t) := by rw [cell_of_row _ _ _ _ _ _ hrow]; rfl
        have e2 : w9.cell? ⟨wq.heap.size, 2, none⟩ = some (.int .i64 (r : Int)) := by rw [cell_of_row _ _ _ _ _ _ hrow]; rfl
        have e3 : w9.cell? ⟨wq.heap.size, 3, none⟩ = some (.int .i64 (s : Int)) := by rw [cell_of_row _ _ _ _ _ _ hrow]; rfl
        clear hr4 hw4 hB hv9 hrow hu9 k3 k4 k5 c0 s0 hq f0 f1 f2 f3 g0 g1 g2 g3
        go_wp2_with (first | (refine wpList_append_run _ rfl _ _ _ _ rfl _ _ v' w4 rfl rfl HR4.out ?_))
        refine ⟨⟨k + 1, vs ++ [⟨p.id, t, (r : Int), (s : Int)⟩], by go_num, by omega, by rw [List.length_append, hvl]; rfl, HOK, ?_, HUP4⟩, by simp [intOf]; omega⟩
        show World.ownsRow _ _ _ _ _ _ _
        have h := HW4.out
        rw [List.length_append, hvl] at h
        exact h
      · have hrow : ((((wq.setCell ⟨wr.heap.size, 0, none⟩ (.int .i64 p.id)).setCell ⟨wr.heap.size, 1, none⟩ (.string t)).setCell ⟨wr.heap.size, 2, none⟩ (.int .i64 (r : Int))).setCell ⟨wr.heap.size, 3, none⟩ (.int .i64 (s : Int))).heap[wr.heap.size]? = some (.cells #[.int .i64 p.id, .string t, .int .i64 (r : Int), .int .i64 (s : Int)] 54 (0, 0)) := row4 (row_updW (heap_alloc_new wr _) ((Upd.refl [] _).drew.trans hq))
        have hu9 : Upd [] [] wr ((((wq.setCell ⟨wr.heap.size, 0, none⟩ (.int .i64 p.id)).setCell ⟨wr.heap.size, 1, none⟩ (.string t)).setCell ⟨wr.heap.size, 2, none⟩ (.int .i64 (r : Int))).setCell ⟨wr.heap.size, 3, none⟩ (.int .i64 (s : Int))) := ((((((Upd.refl [] wr).alloc _).drew.trans hq).setNew (p := ⟨_, _, none⟩) (Nat.le_refl _) _).setNew (p := ⟨_, _, none⟩) (Nat.le_refl _) _).setNew (p := ⟨_, _, none⟩) (Nat.le_refl _) _).setNew (p := ⟨_, _, none⟩) (Nat.le_refl _) _
        obtain ⟨w9, hw9⟩ : ∃ w9, (((wq.setCell ⟨wr.heap.size, 0, none⟩ (.int .i64 p.id)).setCell ⟨wr.heap.size, 1, none⟩ (.string t)).setCell ⟨wr.heap.size, 2, none⟩ (.int .i64 (r : Int))).setCell ⟨wr.heap.size, 3, none⟩ (.int .i64 (s : Int)) = w9 := ⟨_, rfl⟩
        rw [hw9] at hrow hu9 ⊢
        clear hw9
        have hv9 := row_same HVR.out (fun j hj => hu9.block j (row_foot_lt HVR.out j hj) (by simp))
        have hTs : (t).size ≤ 2000 := by first | omega | (rw [ByteArray.size_append]; omega)
        obtain ⟨v', w4, hr4, hw4, hB⟩ := append_vts w9 _ vs [⟨p.id, t, (r : Int), (s : Int)⟩] (by rw [hvl]; exact hv9) (by omega) (by simp)
        have HW4 := Lib.hid hw4
        have HUP4 : Hid (Upd [] (foot v') w1 w4) := (HUQ.out.trans (hu9.mono (fun _ h => absurd h (by simp)) (fun _ h => .inr h))).trans hB
        have HOK : Hid (∀ y ∈ vs ++ [(⟨p.id, t, (r : Int), (s : Int)⟩ : VtV)], y.ok) := by
          intro y hy
          rcases List.mem_append.1 hy with hy | hy
          · exact HVO.out y hy
          · rw [List.mem_singleton] at hy
            subst hy
            refine ⟨o0, ?_, ?_, ?_⟩
            · show (t).size ≤ _
              omega
            · show i64in (r : Int)
              unfold i64in; omega
            · show i64in (s : Int)
              unfold i64in; omega
        have HR4 := Lib.hid hr4
        have e0 : w9.cell? ⟨wr.heap.size, 0, none⟩ = some (.int .i64 p.id) := by rw [cell_of_row _ _ _ _ _ _ hrow]; rfl
        have e1 : w9.cell? ⟨wr.heap.size, 1, none⟩ = some (.string t) := by rw [cell_of_row _ _ _ _ _ _ hrow]; rfl
        have e2 : w9.cell? ⟨wr.heap.size, 2, none⟩ = some (.int .i64 (r : Int)) := by rw [cell_of_row _ _ _ _ _ _ hrow]; rfl
        have e3 : w9.cell? ⟨wr.heap.size, 3, none⟩ = some (.int .i64 (s : Int)) := by rw [cell_of_row _ _ _ _ _ _ hrow]; rfl
        clear hr4 hw4 hB hv9 hrow hu9 k3 k4 k5 c0 s0 hq f0 f1 f2 f3 g0 g1 g2 g3
        go_wp2_with (first | (refine wpList_append_run _ rfl _ _ _ _ rfl _ _ v' w4 rfl rfl HR4.out ?_))
        refine ⟨⟨k + 1, vs ++ [⟨p.id, t, (r : Int), (s : Int)⟩], by go_num, by omega, by rw [List.length_append, hvl]; rfl, HOK, ?_, HUP4⟩, by simp [intOf]; omega⟩
        show World.ownsRow _ _ _ _ _ _ _
        have h := HW4.out
        rw [List.length_append, hvl] at h
        exact h
    · have hkq : k = q := by omega
      rw [hkq] at HVR hvl
      have HR := Lib.hid (row_same HU.out (fun j hj => HUQ.out.block j (row_foot_lt HU.out j hj) (by simp)))
      have HUA : Hid (Upd [] [] w wr) := (HUP.out.mono (fun _ h => h) (fun _ h => absurd h (by simp))).trans (HUQ.out.mono (fun _ h => h) (fun _ h => absurd h (by simp)))
      go_wp2_with fail
      go_ret2
      have e := HQ.out
      exact ⟨_, _, vs, by rw [← e]; exact HR, by rw [hvl]; exact HVR, by rw [hvl, e], HVO, rfl, HUA.out⟩
end Go.Proofs.YtkhodajdionaaaaGreatDoor
