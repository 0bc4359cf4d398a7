/- SignOrder: the walk. -/
import Derived.Test.YtkhodajdionaaaaGreatDoorWgtF
namespace Go.Proofs.YtkhodajdionaaaaGreatDoor
open Go.RowKit Go.Maps
set_option maxRecDepth 100000

set_option maxHeartbeats 4000000 in
theorem signOrder_walk (l : List (Int × Int)) (text : ByteArray) (bits : Int) (ao : Option Addr) (ca : Nat) (w : World) (hm : PairsIn w ao l) (hca : l.length ≤ ca) (hca2 : ca ≤ 9223372036854775807) (htx : text.size ≤ 9223372036854775807) (hb : 0 ≤ bits ∧ bits ≤ 65535) (htab : Tabs w) :
    Calls Tryz.prog 8 #[.slice ao l.length ca, .string text, .int .u16 bits] w (TrueMk w) := by
  obtain ⟨n, hn⟩ : ∃ n, n = l.length := ⟨_, rfl⟩
  rw [← hn]
  rw [← hn] at hca
  have HN := Lib.hid hn
  have HPI := Lib.hid hm
  have HT := Lib.hid htab
  clear hn hm htab
  obtain ⟨T, hT⟩ : ∃ T, T = text.extract 0 (min (text.size : Int) 40).toNat := ⟨_, rfl⟩
  have hTs : T.size ≤ 40 := by rw [hT, ByteArray.size_extract]; omega
  go_enter Tryz.func8, Tryz.ntmps8
  go_wp2_with fail
  refine (sanityS_any w HT.out).mono ?_
  rintro e w1 ⟨rfl, hu1⟩
  have HT1 := Lib.hid (HT.out.upd hu1)
  go_wp2_with fail
  refine (example5_any w1 HT1.out).mono ?_
  rintro e w2 ⟨rfl, hu2⟩
  have hu := hu1.trans hu2
  have HT2 := Lib.hid (HT.out.upd hu)
  have HP2 := Lib.hid (HPI.out.upd hu)
  have HU2 := Lib.hid hu
  clear hu hu1 hu2 HT1
  go_wp2_with fail
  rw [← hT]
  have HTT := Lib.hid hT
  clear hT
  refine (voters_any l T bits ao ca n w2 HP2.out HN.out hca hca2 (by omega) hb).mono ?_
  rintro e w3 ⟨u, v, vs, HU, HV, hvl, HOK, rfl, hu3⟩
  obtain ⟨q, hq⟩ : ∃ q, q = min n 8 := ⟨_, rfl⟩
  have hq8 : q ≤ 8 := by omega
  rw [← hq] at HU hvl
  clear hq
  obtain ⟨L, hL⟩ : ∃ L, L = memsL l q := ⟨_, rfl⟩
  have hLl : L.length = q := by rw [hL, memsL_len]
  have HL8 : Hid (∀ m ∈ L, m.ok ∧ m.id ≤ 8) := by intro m hm; rw [hL] at hm; exact memsL_ok l q hq8 m hm
  have hu1 := mems_of_row (w := w3) (v := u) (l := L) (by rw [hLl, hL]; exact HU.out) (fun m hm => (HL8.out m hm).1)
  have hv1 := votes_of_row HV.out HOK.out
  clear hL HU HV
  rw [hLl] at hu1
  rw [hvl] at hv1
  obtain ⟨au, cu, rfl, hcu, hM⟩ := hu1
  obtain ⟨av, cv, rfl, hcv, hVI⟩ := hv1
  have HM := Lib.hid hM
  have HV := Lib.hid hVI
  have HU3 := Lib.hid (HU2.out.trans hu3)
  have HT3 := Lib.hid (HT2.out.upd hu3)
  have HLL := Lib.hid hLl
  have HVL := Lib.hid hvl
  clear hM hVI hu3 HT2 HU2 HP2 hLl hvl
  go_wp2_with fail
  go_loopw [10, 11] (fun tv i wr => ∃ (j : Nat) (us : List VtV), i = .int .i64 ((j : Int) - 1) ∧ j ≤ q ∧ us.length = 2 * (q - j) ∧ Hid (∀ x, x ∈ us ↔ x ∈ vs.drop j) ∧ Hid (∀ x ∈ us, x.ok) ∧ Hid (wr.ownsRow 0 54 4 tv us.length (voteVals us)) ∧ Hid (Upd [] (foot tv) w3 wr)) (fun _ i _ => (intOf i + 1).toNat)
  case atStart => exact ⟨q, [], rfl, Nat.le_refl _, by simp, by intro x; rw [List.drop_of_length_le (by rw [HVL.out]; exact Nat.le_refl _)], fun x h => (by cases h), by show World.ownsRow _ _ _ _ _ _ _; exact World.ownsRow_nil _ _ _ _, Upd.refl _ _⟩
  case round =>
    obtain ⟨j, us, rfl, hj, hul, HMEM, HUO, HROW, HUQ⟩ := hrel
    by_cases hj0 : j = 0
    · subst hj0
      have hup0 : Upd [] [] w3 wr := HUQ.out.mono (fun _ h => h) (fun _ h => absurd h (by simp))
      have HT4 := Lib.hid (HT3.out.upd hup0)
      have hul16 : us.length ≤ 16 := by omega
      go_wp2_with fail
      refine (key_any ⟨#[115, 111, 109, 101, 98, 111, 100, 121]⟩ wr (by decide) HT4.out).mono ?_
      rintro e w5 ⟨K, P, HK, HP, hK, hP, rfl, hu5⟩
      have HT5 := Lib.hid (HT4.out.upd hu5)
      clear HK HP hP
      have hKr : -9223372036854775808 ≤ (K : Int) ∧ (K : Int) ≤ 9223372036854775807 := by omega
      go_wp2_with fail
      refine (vote_any 99 (K : Int) T w5 hKr (Nat.le_trans hTs (by decide)) HT5.out).mono ?_
      rintro e w6 ⟨r, s, HRS, hr, hs, rfl, hu6⟩
      have HT6 := Lib.hid (HT5.out.upd hu6)
      have q121 : (ByteArray.mk #[121]).size = 1 := rfl
      have hTy : (T ++ ByteArray.mk #[121]).size ≤ 41 := by rw [ByteArray.size_append]; omega
      have hTy2 : (T ++ ByteArray.mk #[121]).size ≤ 140737488355000 := by omega
      clear HRS
      go_wp2_with fail
      refine (vote_any 1 (K : Int) _ w6 hKr hTy2 HT6.out).mono ?_
      rintro e w7 ⟨r', s', HRS', hr', hs', rfl, hu7⟩
      have HT7 := Lib.hid (HT6.out.upd hu7)
      clear HRS' HT4 HT5 HT6
      obtain ⟨va, hva⟩ : ∃ va : VtV, va = ⟨99, T, (r : Int), (s : Int)⟩ := ⟨_, rfl⟩
      obtain ⟨vb, hvb⟩ : ∃ vb : VtV, vb = ⟨1, T ++ ByteArray.mk #[121], (r' : Int), (s' : Int)⟩ := ⟨_, rfl⟩
      have hu57 := (hu5.trans hu6).trans hu7
      have hv7 := row_same HROW.out (fun j hj => hu57.block j (row_foot_lt HROW.out j hj) (by simp))
      obtain ⟨v', w8, hr8, hw8, hB⟩ := append_vts w7 _ us [va, vb] hv7 (by omega) (by simp)
      have hr8' : (Builtin.append_ #[50, 50] 50 #[u10, .slice (some ⟨w7.heap.size, 0, none⟩) 2 2]).run Tryz.prog (w7.alloc (.cells #[.int .i64 99, .string T, .int .i64 (r : Int), .int .i64 (s : Int), .int .i64 1, .string (T ++ ByteArray.mk #[121]), .int .i64 (r' : Int), .int .i64 (s' : Int)] 54)) = .ok v' w8 := by rw [hva, hvb] at hr8; exact hr8
      have HR8 := Lib.hid hr8'
      have hu8 : Upd [] [] w3 w8 := ((HUQ.out.trans (hu57.mono (fun _ h => absurd h (by simp)) (fun _ h => .inr h))).trans hB).mono (fun _ h => h) (fun _ h => absurd h (by simp))
      obtain ⟨ts, hts⟩ : ∃ ts, ts = us ++ [va, vb] := ⟨_, rfl⟩
      have htl : ts.length ≤ 18 := by rw [hts, List.length_append]; show us.length + 2 ≤ 18; omega
      have hto : ∀ x ∈ ts, x.ok := by
        intro x hx
        rw [hts] at hx
        rcases List.mem_append.1 hx with hx | hx
        · exact HUO.out x hx
        · simp only [List.mem_cons, List.not_mem_nil, or_false] at hx
          rcases hx with rfl | rfl
          · rw [hva]
            exact ⟨show i64in (99 : Int) by unfold i64in; omega, show T.size ≤ _ by omega, show i64in (r : Int) by unfold i64in; omega, show i64in (s : Int) by unfold i64in; omega⟩
          · rw [hvb]
            exact ⟨show i64in (1 : Int) by unfold i64in; omega, show (T ++ ByteArray.mk #[121]).size ≤ _ by omega, show i64in (r' : Int) by unfold i64in; omega, show i64in (s' : Int) by unfold i64in; omega⟩
      have HSAME : Hid (weightL L (vs.map VtV.plain) (bs T) = weightL L (ts.map VtV.plain) (bs T)) := by
        refine weight_same (fun m hm x hx => ?_)
        have h8 := (HL8.out m (firsts_mem hm)).2
        unfold goodB at hx
        simp only [Bool.and_eq_true, beq_iff_eq] at hx
        rw [hts, List.map_append, List.mem_append]
        have e1 : x ∈ vs.map VtV.plain ↔ x ∈ us.map VtV.plain := by
          rw [List.mem_map, List.mem_map]
          constructor
          · rintro ⟨y, hy, rfl⟩
            exact ⟨y, (HMEM.out y).2 (by simpa using hy), rfl⟩
          · rintro ⟨y, hy, rfl⟩
            exact ⟨y, by simpa using (HMEM.out y).1 hy, rfl⟩
        rw [e1]
        constructor
        · exact fun h => .inl h
        · rintro (h | h)
          · exact h
          · exfalso
            simp only [List.map_cons, List.map_nil, List.mem_cons, List.not_mem_nil, or_false] at h
            rcases h with h | h
            · rw [h, hva] at hx
              have : (99 : Int) = m.id := hx.1
              omega
            · rw [h, hvb] at hx
              have e : bs (T ++ ByteArray.mk #[121]) = bs T := hx.2.1
              have := congrArg List.length e
              rw [bs_length, bs_length, ByteArray.size_append] at this
              omega
      rw [← hts] at hw8
      have hv8 := votes_of_row hw8 hto
      have HTO := Lib.hid hto
      have HTS := Lib.hid hts
      clear hto hts hw8 hv7 hr8 hr8' hu57 hu5 hu6 hu7 HROW HMEM hB hva hvb
      obtain ⟨m, hm⟩ : ∃ m, m = ts.length := ⟨_, rfl⟩
      rw [← hm] at hv8 htl
      obtain ⟨at', ct, rfl, hct, hVT⟩ := hv8
      have hw1 := weight_any L vs T au av cu cv w8 (HM.out.upd hu8) (HV.out.upd hu8) (by rw [HLL.out]; omega) (by rw [HVL.out]; omega) (by rw [HLL.out]; omega) (by rw [HVL.out]; omega) (by omega) (HT3.out.upd hu8)
      rw [HLL.out, HVL.out] at hw1
      have HW1 := Lib.hid hw1
      have HVT := Lib.hid hVT
      have HMM := Lib.hid hm
      have HU8 := Lib.hid hu8
      clear hw1 hVT hm hu8 hup0
      go_wp2_with (first | (refine wpList_append_run _ rfl _ _ _ _ rfl _ _ _ w8 rfl rfl HR8.out ?_))
      refine HW1.out.mono ?_
      rintro e w9 ⟨x1, HX1, rfl, hu9⟩
      have b1 := weight_pos L (vs.map VtV.plain) (bs T)
      have b2 := weight_le L (vs.map VtV.plain) (bs T)
      rw [← HX1.out] at b1 b2
      rw [HLL.out] at b2
      have hw2 := weight_any L ts T au at' cu ct w9 (HM.out.upd (HU8.out.trans hu9)) (HVT.out.upd hu9) (by rw [HLL.out]; omega) (by rw [← HMM.out]; omega) (by rw [HLL.out]; omega) (by rw [← HMM.out]; omega) (by omega) (HT3.out.upd (HU8.out.trans hu9))
      rw [HLL.out, ← HMM.out] at hw2
      have HW2 := Lib.hid hw2
      have HU9 := Lib.hid (HU8.out.trans hu9)
      clear hw2 hu9 HW1 HR8
      go_wp2_with fail
      refine HW2.out.mono ?_
      rintro e w10 ⟨x2, HX2, rfl, hu10⟩
      obtain rfl : x2 = x1 := by rw [HX2.out, HX1.out]; exact HSAME.out.symm
      have q120 : (ByteArray.mk #[120]).size = 1 := rfl
      have hTx : (T ++ ByteArray.mk #[120]).size ≤ 41 := by rw [ByteArray.size_append]; omega
      have hw3 := weight_any L vs (T ++ ByteArray.mk #[120]) au av cu cv w10 (HM.out.upd (HU9.out.trans hu10)) (HV.out.upd (HU9.out.trans hu10)) (by rw [HLL.out]; omega) (by rw [HVL.out]; omega) (by rw [HLL.out]; omega) (by rw [HVL.out]; omega) (by omega) (HT3.out.upd (HU9.out.trans hu10))
      rw [HLL.out, HVL.out] at hw3
      have HW3 := Lib.hid hw3
      have HU10 := Lib.hid (HU9.out.trans hu10)
      have b3 := weight_two L (vs.map VtV.plain) (t := bs T) (u := bs (T ++ ByteArray.mk #[120])) (fun e => by
        have := congrArg List.length e
        rw [bs_length, bs_length, ByteArray.size_append] at this
        omega)
      rw [← HX1.out, List.length_map, HVL.out] at b3
      have b4 := weight_pos L (vs.map VtV.plain) (bs (T ++ ByteArray.mk #[120]))
      clear hw3 hu10 HW2
      obtain ⟨x3, hx3⟩ : ∃ x3, x3 = weightL L (vs.map VtV.plain) (bs (T ++ ByteArray.mk #[120])) := ⟨_, rfl⟩
      rw [← hx3] at b3 b4
      have HX3 := Lib.hid hx3
      clear hx3
      have z1 : IntKind.i64.wrap (22 * (q : Int)) = 22 * (q : Int) := IntWalk.i64_in _ (by omega)
      have z2 : IntKind.i64.wrap (x2 + x3) = x2 + x3 := IntWalk.i64_in _ (by omega)
      have z3 : x2 ≤ 22 * (q : Int) := by omega
      have z4 : x2 + x3 ≤ 22 * (q : Int) := by omega
      go_wp2_with fail
      refine HW3.out.mono ?_
      rintro e w11 ⟨x4, HX4, rfl, hu11⟩
      obtain rfl : x4 = x3 := HX4.out.trans HX3.out.symm
      go_wp2_with fail
      go_ret
      exact ⟨rfl, (HU3.out.trans HU10.out).trans hu11⟩
    · obtain ⟨i, rfl⟩ : ∃ i, j = i + 1 := ⟨j - 1, by omega⟩
      have hij : ((i + 1 : Nat) : Int) - 1 = (i : Int) := by omega
      rw [hij]
      have hup0 : Upd [] [] w3 wr := HUQ.out.mono (fun _ h => h) (fun _ h => absurd h (by simp))
      obtain ⟨vt, hvt⟩ : ∃ vt, vs[i]? = some vt := ⟨_, List.getElem?_eq_getElem (by rw [HVL.out]; omega)⟩
      obtain ⟨⟨o0, o1, o2, o3⟩, g, rfl, hg, c0, c1, c2, c3⟩ := (HV.out.upd hup0) i vt hvt
      have hvtl := (List.getElem?_eq_some_iff.1 hvt).1
      have HDR : Hid (∀ x, x ∈ us ++ [vt, vt] ↔ x ∈ vs.drop i) := by
        intro x
        rw [List.drop_eq_getElem_cons hvtl, (List.getElem?_eq_some_iff.1 hvt).2, List.mem_append, HMEM.out, List.mem_cons]
        simp [or_comm]
      have i0 : (0 : Int) ≤ (i : Int) := by omega
      have i1 : (i : Int) < (q : Int) := by omega
      have hgl : g < w3.heap.size := by
        obtain ⟨_, g', e, hg', _⟩ := HV.out i vt hvt
        cases e
        exact hg'
      have hng : g ∉ foot u10 := fun h => by
        rcases HUQ.out.new g h with h | h
        · cases h
        · omega
      have hd : Upd [] [] wr wr.drew := (Upd.refl _ _).drew
      have hv9 := row_same HROW.out (fun j hj => hd.block j (row_foot_lt HROW.out j hj) (by simp))
      obtain ⟨v', w4, hr4, hw4, hB⟩ := append_vts wr.drew _ us [vt, vt] hv9 (by omega) (by simp)
      have hr4' : (Builtin.append_ #[50, 50] 50 #[u10, .slice (some ⟨wr.heap.size, 0, none⟩) 2 2]).run Tryz.prog (wr.alloc (.cells #[.int .i64 vt.who, .string vt.text, .int .i64 vt.r, .int .i64 vt.s, .int .i64 vt.who, .string vt.text, .int .i64 vt.r, .int .i64 vt.s] 54)).drew = .ok v' w4 := hr4
      have HR4 := Lib.hid hr4'
      have HW4 := Lib.hid hw4
      have HUP4 : Hid (Upd [] (foot v') w3 w4) := (HUQ.out.trans (hd.mono (fun _ h => absurd h (by simp)) (fun _ h => .inr h))).trans hB
      have cellAt : ∀ W : World, W.heap[g]? = wr.heap[g]? → W.cell? ⟨g, i * 4, none⟩ = some (.int .i64 vt.who) ∧ W.cell? ⟨g, i * 4 + 1, none⟩ = some (.string vt.text) ∧ W.cell? ⟨g, i * 4 + 2, none⟩ = some (.int .i64 vt.r) ∧ W.cell? ⟨g, i * 4 + 3, none⟩ = some (.int .i64 vt.s) := fun W e =>
        ⟨(World.cell?_of_block (a := ⟨g, _, none⟩) e).trans c0, (World.cell?_of_block (a := ⟨g, _, none⟩) e).trans c1, (World.cell?_of_block (a := ⟨g, _, none⟩) e).trans c2, (World.cell?_of_block (a := ⟨g, _, none⟩) e).trans c3⟩
      have k4 := cellAt wr.drew rfl
      have k5 := cellAt ((wr.alloc (.cells #[.int .i64 vt.who, .string vt.text, .int .i64 vt.r, .int .i64 vt.s, .int .i64 vt.who, .string vt.text, .int .i64 vt.r, .int .i64 vt.s] 54)).drew) (((Upd.refl [] wr).alloc _).drew.block g hg (by simp))
      have k6 := cellAt w4 ((hB.block g hg hng).trans rfl)
      clear hr4 hr4' hw4 hB hv9 c0 c1 c2 c3 cellAt hd
      go_wp2_with fail
      go_region_held3 (fun wp => wp.cell? ⟨g, i * 4, none⟩ = some (.int .i64 vt.who) ∧ wp.cell? ⟨g, i * 4 + 1, none⟩ = some (.string vt.text) ∧ wp.cell? ⟨g, i * 4 + 2, none⟩ = some (.int .i64 vt.r) ∧ wp.cell? ⟨g, i * 4 + 3, none⟩ = some (.int .i64 vt.s)) (first | with_reducible exact k4 | with_reducible exact k5 | with_reducible exact k6 | with_reducible assumption | go_keep)
        (first | (refine step_append_run _ rfl (.tmp 38) (.tmp 47) 50 50 rfl _ _ _ _ rfl rfl HR4.out ?_))
      go_wp2_with fail
      have hlen2 : (us ++ [vt, vt]).length = 2 * (q - i) := by
        have : (us ++ [vt, vt]).length = us.length + 2 := List.length_append
        omega
      refine ⟨⟨i, us ++ [vt, vt], by first | rfl | go_num, by omega, hlen2, HDR, ?_, HW4, HUP4⟩, by simp [intOf] <;> omega⟩
      intro x hx
      rcases List.mem_append.1 hx with hx | hx
      · exact HUO.out x hx
      · have : x = vt := by simpa using hx
        rw [this]
        exact ⟨o0, o1, o2, o3⟩
end Go.Proofs.YtkhodajdionaaaaGreatDoor
