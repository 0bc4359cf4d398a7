/- sortesref05.Members. -/
import Derived.Test.YtkhodajdionaaaaGreatDoorWgtB
namespace Go.Proofs.YtkhodajdionaaaaGreatDoor
open Go.RowKit Go.Maps
set_option maxRecDepth 100000

/-- Pairs of ints, one behind the other, from block g on. -/
def PairsIn (w : World) (ao : Option Addr) (l : List (Int × Int)) : Prop :=
  ∀ (k : Nat) p, l[k]? = some p → i64in p.1 ∧ i64in p.2 ∧ ∃ g o, ao = some ⟨g, o, none⟩ ∧ g < w.heap.size ∧ w.cell? ⟨g, o + k * 2, none⟩ = some (.int .i64 p.1) ∧ w.cell? ⟨g, o + k * 2 + 1, none⟩ = some (.int .i64 p.2)
theorem PairsIn.upd {w w' : World} {ao : Option Addr} {l : List (Int × Int)} (h : PairsIn w ao l) (u : Upd [] [] w w') : PairsIn w' ao l := by
  intro k m hm
  obtain ⟨i0, i1, g, o, e, hg, h0, h1⟩ := h k m hm
  have hb := u.block g hg (by simp)
  exact ⟨i0, i1, g, o, e, Nat.lt_of_lt_of_le hg u.size, (World.cell?_of_block (a := ⟨g, _, none⟩) hb).trans h0, (World.cell?_of_block (a := ⟨g, _, none⟩) hb).trans h1⟩
/-- The number of the k-th member. -/
def idN (k : Nat) (p : Int × Int) : Nat := if p.1.tmod 9 = 8 then 1 + k / 2 else 1 + k
/-- "member " and a number. -/
def seedL (i : Nat) : List UInt8 := [109, 101, 109, 98, 101, 114, 32] ++ Lib.itoa (i : Int)
/-- The k-th member. -/
def memN' (k : Nat) (p : Int × Int) : Mem := ⟨(idN k p : Int), p.2.tmod 24 - 1, (gP (keyN (seedL (idN k p))) : Int)⟩
/-- The first k members, and their secrets. -/
def memsL (l : List (Int × Int)) (k : Nat) : List Mem := (List.range k).map fun i => memN' i (l.getD i (0, 0))
def secsL (l : List (Int × Int)) (k : Nat) : List Nat := (List.range k).map fun i => keyN (seedL (idN i (l.getD i (0, 0))))
theorem memsL_succ (l : List (Int × Int)) (k : Nat) : memsL l (k + 1) = memsL l k ++ [memN' k (l.getD k (0, 0))] := by simp [memsL, List.range_succ]
theorem secsL_succ (l : List (Int × Int)) (k : Nat) : secsL l (k + 1) = secsL l k ++ [keyN (seedL (idN k (l.getD k (0, 0))))] := by simp [secsL, List.range_succ]
theorem memsL_len (l : List (Int × Int)) (k : Nat) : (memsL l k).length = k := by simp [memsL]
theorem secsL_len (l : List (Int × Int)) (k : Nat) : (secsL l k).length = k := by simp [secsL]
def natVals (l : List Nat) : List Value := l.map fun (n : Nat) => Value.int .i64 (n : Int)

/-- Two rows that grow, one after the other. -/
theorem rows_step {w wr w2 w3 w4 : World} {u v u' v' : Value} (HUP : Upd [] (foot u ++ foot v) w wr) (hd : ∀ x, x ∈ foot u → x ∉ foot v) (hv : ∀ x, x ∈ foot v → x < wr.heap.size) (h2 : Upd [] [] wr w2) (hA : Upd (foot u) (foot u') w2 w3) (hu' : ∀ x, x ∈ foot u' → x < w3.heap.size) (hB : Upd (foot v) (foot v') w3 w4) :
    (∀ x, x ∈ foot u' → x ∉ foot v') ∧ Upd [] (foot u' ++ foot v') w w4 ∧ ∀ x, x ∈ foot u' → w4.heap[x]? = w3.heap[x]? := by
  have d1 : ∀ x, x ∈ foot u' → x ∉ foot v := by
    intro x hx hxv
    rcases hA.new x hx with h | h
    · exact hd x h hxv
    · have := hv x hxv
      have := h2.size
      omega
  refine ⟨fun x hx hxv => ?_, ?_, fun x hx => hB.block x (hu' x hx) (d1 x hx)⟩
  · rcases hB.new x hxv with h | h
    · exact d1 x hx h
    · have := hu' x hx
      omega
  · have a1 : Upd (foot u ++ foot v) (foot u ++ foot v) wr w2 := h2.mono (fun _ h => absurd h (by simp)) (fun _ h => .inr h)
    have a2 : Upd (foot u ++ foot v) (foot u' ++ foot v) w2 w3 := hA.mono (fun _ h => List.mem_append_left _ h) (fun k h => by
      rcases List.mem_append.1 h with h | h
      · exact .inl h
      · exact .inr (List.mem_append_right _ h))
    have a3 : Upd (foot u' ++ foot v) (foot u' ++ foot v') w3 w4 := hB.mono (fun _ h => List.mem_append_right _ h) (fun k h => by
      rcases List.mem_append.1 h with h | h
      · exact .inr (List.mem_append_left _ h)
      · exact .inl h)
    exact ((HUP.trans a1).trans a2).trans a3
theorem itoa_small : ∀ i : Nat, i ≤ 9 → (Lib.itoa (i : Int)).length ≤ 20 := by decide +kernel
set_option maxHeartbeats 4000000 in
theorem members_any (l : List (Int × Int)) (ao : Option Addr) (ca n : Nat) (w : World) (hm : PairsIn w ao l) (hn : n = l.length) (hca : n ≤ ca) (hca2 : ca ≤ 9223372036854775807) :
    Calls Tryz.prog 61 #[.slice ao n ca] w (fun e w' => ∃ (u v : Value), Hid (w'.ownsRow 0 81 3 u (min n 8) (memVals (memsL l (min n 8)))) ∧ Hid (w'.ownsRow 0 3 1 v (min n 8) (natVals (secsL l (min n 8)))) ∧ e = .returned (.tuple #[u, v]) ∧ Hid (Upd [] (foot u ++ foot v) w w') ∧ Hid (∀ x, x ∈ foot u → x ∉ foot v)) := by
  have HM := Lib.hid hm
  have HN := Lib.hid hn
  clear hm hn
  go_enter Tryz.func61, Tryz.ntmps61
  go_wp2_with fail
  go_loopw [4, 5, 6] (fun u v i wr => ∃ k : Nat, i = .int .i64 (k : Int) ∧ k ≤ n ∧ k ≤ 8 ∧ Hid (wr.ownsRow 0 81 3 u k (memVals (memsL l k))) ∧ Hid (wr.ownsRow 0 3 1 v k (natVals (secsL l k))) ∧ Hid (∀ x, x ∈ foot u → x ∉ foot v) ∧ Hid (Upd [] (foot u ++ foot v) w wr)) (fun _ _ i _ => 8 - (intOf i).toNat)
  case atStart => exact ⟨0, rfl, Nat.zero_le _, Nat.zero_le _, by show World.ownsRow _ _ _ _ _ _ _; exact World.ownsRow_nil _ _ _ _, by show World.ownsRow _ _ _ _ _ _ _; exact World.ownsRow_nil _ _ _ _, fun x h => (by cases h), Upd.refl _ _⟩
  case round =>
    obtain ⟨k, rfl, hk, hk8, HU, HVV, HD, HUP⟩ := hrel
    by_cases hlt : k < n
    · by_cases h8 : k < 8
      · obtain ⟨p, hpk⟩ : ∃ p, l[k]? = some p := ⟨_, List.getElem?_eq_getElem (by rw [← HN.out]; exact hlt)⟩
        have hup0 : Upd [] [] w wr := HUP.out.mono (fun _ h => h) (fun _ h => absurd h (by simp))
        obtain ⟨o0, o1, g, o, rfl, hg, c0, c1⟩ := (HM.out.upd hup0) k p hpk
        have HPK := Lib.hid hpk
        clear hpk
        obtain ⟨I, hI⟩ : ∃ I, I = idN k p := ⟨_, rfl⟩
        have hIb : I ≤ 9 := by rw [hI]; unfold idN; split <;> omega
        obtain ⟨ku, kv⟩ : k ≤ 1000 ∧ k ≤ 1000 := ⟨by omega, by omega⟩
        have hdiv : (k : Int).tdiv 2 = ((k / 2 : Nat) : Int) := by rw [Int.tdiv_eq_ediv_of_nonneg (by omega)]; omega
        by_cases h9 : p.1.tmod 9 = 8
        · have hI1 : I = 1 + k / 2 := by rw [hI, idN, if_pos h9]
          have HI := Lib.hid hI
          clear hI
          go_wp2_with fail
          have hrw : (1 + (k : Int) / 2) = (I : Int) := by omega
          rw [hrw]
          clear hrw hdiv hI1 c0
          have m1 := Int.lt_tmod_of_pos p.2 (b := 24) (by omega)
          have m2 := Int.tmod_lt_of_pos p.2 (b := 24) (by omega)
          refine (decimal_any (I : Int) wr ⟨by omega, by omega⟩).mono ?_
          rintro e w1 ⟨d, HDD, hd, rfl, hu1⟩
          have hd2 : d.size ≤ 20 := Nat.le_trans hd (itoa_small I hIb)
          have h7 : (ByteArray.mk #[109, 101, 109, 98, 101, 114, 32]).size = 7 := rfl
          have c1' := (World.cell?_of_block (a := ⟨g, o + k * 2 + 1, none⟩) (hu1.block g hg (by simp))).trans c1
          clear c1
          go_wp2_with fail
          refine (rkey_any _ w1 (by simp [ByteArray.size_append]; omega)).mono ?_
          rintro e w2 ⟨K, Y, HK, HY, hK, hY, rfl, hu2⟩
          have c1 := (World.cell?_of_block (a := ⟨g, o + k * 2 + 1, none⟩) (hu2.block g (Nat.lt_of_lt_of_le hg hu1.size) (by simp))).trans c1'
          clear c1'
          have hu := hu1.trans hu2
          obtain ⟨u', w3, hr3, hw3, hA⟩ := append_mem w2 _ (memsL l k) ⟨(I : Int), p.2.tmod 24 - 1, (Y : Int)⟩ (by rw [memsL_len]; exact row_same HU.out (fun j hj => hu.block j (row_foot_lt HU.out j hj) (by simp))) (by rw [memsL_len]; omega)
          obtain ⟨v', w4, hr4, hw4, hB⟩ := append_one w3 _ k (natVals (secsL l k)) (K : Int) (row_same HVV.out (fun j hj => (hA.block j (Nat.lt_of_lt_of_le (row_foot_lt HVV.out j hj) hu.size) (fun h => HD.out j h hj)).trans (hu.block j (row_foot_lt HVV.out j hj) (by simp)))) (by omega)
          obtain ⟨z1, z2, z3⟩ := rows_step HUP.out HD.out (row_foot_lt HVV.out) hu hA (row_foot_lt hw3) hB
          have HR3 := Lib.hid hr3
          have HR4 := Lib.hid hr4
          have HW3 := Lib.hid (row_same hw3 z3)
          have HW4 := Lib.hid hw4
          have Z1 := Lib.hid z1
          have Z2 := Lib.hid z2
          clear hr3 hr4 hw3 hw4 z1 z2 z3 hA hB hu1 hu2 hu
          go_wp2_with (first | (refine wpList_append_run _ rfl _ _ _ _ rfl _ _ u' w3 rfl rfl HR3.out ?_) | (refine wpList_append_run _ rfl _ _ _ _ rfl _ _ v' w4 rfl rfl HR4.out ?_))
          have hmk : memN' k p = ⟨(I : Int), p.2.tmod 24 - 1, (Y : Int)⟩ := by
            unfold memN'
            rw [← HI.out, HY.out, bs_append, HDD.out]
            rfl
          have hkk : keyN (seedL (idN k p)) = K := by
            rw [← HI.out, HK.out, bs_append, HDD.out]
            rfl
          have hgd : l.getD k (0, 0) = p := by rw [List.getD_eq_getElem?_getD, HPK.out]; rfl
          refine ⟨⟨k + 1, by go_num, by omega, by omega, ?_, ?_, Z1.out, Z2.out⟩, by simp [intOf]; omega⟩
          · show World.ownsRow _ _ _ _ _ _ _
            have h := HW3.out
            rw [List.length_append, memsL_len] at h
            rw [memsL_succ, hgd, hmk]
            exact h
          · show World.ownsRow _ _ _ _ _ _ _
            have h := HW4.out
            rw [secsL_succ, hgd, hkk]
            unfold natVals at h ⊢
            rw [List.map_append]
            exact h
        · have hI1 : I = 1 + k := by rw [hI, idN, if_neg h9]
          have HI := Lib.hid hI
          clear hI
          go_wp2_with fail
          have hrw : (1 + (k : Int)) = (I : Int) := by omega
          rw [hrw]
          clear hrw hdiv hI1 c0
          have m1 := Int.lt_tmod_of_pos p.2 (b := 24) (by omega)
          have m2 := Int.tmod_lt_of_pos p.2 (b := 24) (by omega)
          refine (decimal_any (I : Int) wr ⟨by omega, by omega⟩).mono ?_
          rintro e w1 ⟨d, HDD, hd, rfl, hu1⟩
          have hd2 : d.size ≤ 20 := Nat.le_trans hd (itoa_small I hIb)
          have h7 : (ByteArray.mk #[109, 101, 109, 98, 101, 114, 32]).size = 7 := rfl
          have c1' := (World.cell?_of_block (a := ⟨g, o + k * 2 + 1, none⟩) (hu1.block g hg (by simp))).trans c1
          clear c1
          go_wp2_with fail
          refine (rkey_any _ w1 (by simp [ByteArray.size_append]; omega)).mono ?_
          rintro e w2 ⟨K, Y, HK, HY, hK, hY, rfl, hu2⟩
          have c1 := (World.cell?_of_block (a := ⟨g, o + k * 2 + 1, none⟩) (hu2.block g (Nat.lt_of_lt_of_le hg hu1.size) (by simp))).trans c1'
          clear c1'
          have hu := hu1.trans hu2
          obtain ⟨u', w3, hr3, hw3, hA⟩ := append_mem w2 _ (memsL l k) ⟨(I : Int), p.2.tmod 24 - 1, (Y : Int)⟩ (by rw [memsL_len]; exact row_same HU.out (fun j hj => hu.block j (row_foot_lt HU.out j hj) (by simp))) (by rw [memsL_len]; omega)
          obtain ⟨v', w4, hr4, hw4, hB⟩ := append_one w3 _ k (natVals (secsL l k)) (K : Int) (row_same HVV.out (fun j hj => (hA.block j (Nat.lt_of_lt_of_le (row_foot_lt HVV.out j hj) hu.size) (fun h => HD.out j h hj)).trans (hu.block j (row_foot_lt HVV.out j hj) (by simp)))) (by omega)
          obtain ⟨z1, z2, z3⟩ := rows_step HUP.out HD.out (row_foot_lt HVV.out) hu hA (row_foot_lt hw3) hB
          have HR3 := Lib.hid hr3
          have HR4 := Lib.hid hr4
          have HW3 := Lib.hid (row_same hw3 z3)
          have HW4 := Lib.hid hw4
          have Z1 := Lib.hid z1
          have Z2 := Lib.hid z2
          clear hr3 hr4 hw3 hw4 z1 z2 z3 hA hB hu1 hu2 hu
          go_wp2_with (first | (refine wpList_append_run _ rfl _ _ _ _ rfl _ _ u' w3 rfl rfl HR3.out ?_) | (refine wpList_append_run _ rfl _ _ _ _ rfl _ _ v' w4 rfl rfl HR4.out ?_))
          have hmk : memN' k p = ⟨(I : Int), p.2.tmod 24 - 1, (Y : Int)⟩ := by
            unfold memN'
            rw [← HI.out, HY.out, bs_append, HDD.out]
            rfl
          have hkk : keyN (seedL (idN k p)) = K := by
            rw [← HI.out, HK.out, bs_append, HDD.out]
            rfl
          have hgd : l.getD k (0, 0) = p := by rw [List.getD_eq_getElem?_getD, HPK.out]; rfl
          refine ⟨⟨k + 1, by go_num, by omega, by omega, ?_, ?_, Z1.out, Z2.out⟩, by simp [intOf]; omega⟩
          · show World.ownsRow _ _ _ _ _ _ _
            have h := HW3.out
            rw [List.length_append, memsL_len] at h
            rw [memsL_succ, hgd, hmk]
            exact h
          · show World.ownsRow _ _ _ _ _ _ _
            have h := HW4.out
            rw [secsL_succ, hgd, hkk]
            unfold natVals at h ⊢
            rw [List.map_append]
            exact h
      · have e : min n 8 = k := by omega
        go_wp2_with fail
        go_ret2
        exact ⟨_, _, by rw [e]; exact HU, by rw [e]; exact HVV, rfl, HUP, HD⟩
    · have e : min n 8 = k := by omega
      go_wp2_with fail
      go_ret2
      exact ⟨_, _, by rw [e]; exact HU, by rw [e]; exact HVV, rfl, HUP, HD⟩
end Go.Proofs.YtkhodajdionaaaaGreatDoor
