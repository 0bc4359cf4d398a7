/- equal.scalar, sortesref06.Exponent, Element. -/
import Derived.Test.YtkhodajdionaaaaGreatDoorEqP
import Derived.Test.YtkhodajdionaaaaGreatDoorSgnC
import Derived.Test.YtkhodajdionaaaaGreatDoorGrpB
namespace Go.Proofs.YtkhodajdionaaaaGreatDoor
open Go.RowKit
set_option maxRecDepth 100000

/-- Ints in the cells of a block. -/
def IntsIn (w : World) (g : Nat) (xs : List Int) : Prop := g < w.heap.size ∧ (∀ (j : Nat) x, xs[j]? = some x → w.cell? ⟨g, j, none⟩ = some (.int .i64 x)) ∧ ∀ x ∈ xs, i64in x
theorem IntsIn.upd {w w' : World} {g : Nat} {xs : List Int} (h : IntsIn w g xs) (u : Upd [] [] w w') : IntsIn w' g xs :=
  ⟨Nat.lt_of_lt_of_le h.1 u.size, fun j x hx => (u.cell h.1 (by simp)).trans (h.2.1 j x hx), h.2.2⟩

theorem exponent6_any (x : Int) (w : World) (_hx : -9223372036854775808 ≤ x ∧ x ≤ 9223372036854775807) :
    Calls Tryz.prog 13 #[.int .i64 x] w (fun e w' => ∃ r : Nat, Hid (r = expN x) ∧ r < 1152921504606845789 ∧ e = .returned (.int .i64 (r : Int)) ∧ w = w') := by
  have e1 := Int.tmod_eq_emod (a := x) (b := 1152921504606845789)
  have e2 := expN_cast x
  have H1 := Lib.hid (And.intro e1 e2)
  clear e1 e2
  have hlt := expN_lt x
  go_enter Tryz.func13, Tryz.ntmps13
  go_wp2_with fail
  all_goals go_ret
  all_goals refine ⟨expN x, rfl, hlt, ret_i64 ?_, rfl⟩
  all_goals have h := H1.out
  all_goals obtain ⟨h1, h2⟩ := h
  all_goals first | simp only [wrap64] | skip
  all_goals split at h1 <;> omega

theorem element_any (x : Int) (w : World) (hx : -9223372036854775808 ≤ x ∧ x ≤ 9223372036854775807) :
    Calls Tryz.prog 10 #[.int .i64 x] w (fun e w' => ∃ r : Nat, Hid (r = elemN (expN x)) ∧ r < 2305843009213691579 ∧ e = .returned (.int .i64 (r : Int)) ∧ w = w') := by
  go_enter Tryz.func10, Tryz.ntmps10
  go_wp2_with fail
  refine (exponent6_any x w hx).mono ?_
  rintro e w1 ⟨n, HN, hn, rfl, rfl⟩
  have hm : (n : Int) % 2305843009213691578 = (n : Int) := by omega
  go_wp2_with fail
  refine (rMul_any _ _ _ _ (by omega) (by omega) (by omega)).mono ?_
  rintro e w1 ⟨r, HR, r0, r1, rfl, rfl⟩
  obtain ⟨m, rfl⟩ : ∃ m : Nat, r = (m : Int) := ⟨r.toNat, by omega⟩
  go_wp2_with fail
  go_ret
  refine ⟨m, ?_, by omega, rfl, rfl⟩
  show _ = _
  have h := HR.out
  rw [elemN, ← HN.out]
  have h2 : ((m : Nat) : Int) = (((n + 1) * (n + 1) % Pn : Nat) : Int) := by
    rw [h]; simp [Pn]
  omega

theorem str_parts : ∃ i, Tryz.prog.info? 9 = some i ∧ i.zero = some (.string ⟨#[]⟩) ∧ i.size = 1 ∧ i.bytes = 16 := by
  have h : (Tryz.prog.info? 9).map (fun i => (i.zero, i.size, i.bytes)) = some (some (.string ⟨#[]⟩), 1, 16) := by kernel_rfl
  obtain ⟨i, hi, he⟩ := Option.map_eq_some_iff.1 h
  simp only [Prod.mk.injEq] at he
  exact ⟨i, hi, he.1, he.2.1, he.2.2⟩
/-- Texts as values. -/
def strVals (l : List ByteArray) : List Value := l.map Value.string
theorem made_strs (k : Nat) : madeCells (Value.string ⟨#[]⟩).cells k = (strVals (List.replicate k ⟨#[]⟩)).toArray := by
  apply Array.ext
  · simp [madeCells, strVals]
  · intro i h1 h2
    simp [madeCells, strVals, Value.cells, Nat.mod_one]
theorem make_strs (w : World) (n : Nat) (hn : n ≤ 1000) : (Instr.makeSlice 94 (.int .i64 (n : Int)) (.int .i64 (n : Int))).run Tryz.prog w = .ok (.slice (some ⟨w.heap.size, 0, none⟩) n n) (w.alloc (.cells (strVals (List.replicate n ⟨#[]⟩)).toArray 9)) := by
  obtain ⟨i0, hi, hz0, hz1, hz2⟩ := str_parts
  have := run_make (P := Tryz.prog) w 94 9 i0 (.string ⟨#[]⟩) Tryz.underlying94 hi hz0 .i64 .i64 n n (by omega) (by omega) (by rw [hz2]; omega) (by omega)
  rw [this, hz1]
  simp only [Int.toNat_natCast, Nat.mul_one, made_strs]
theorem strVals_set (l : List ByteArray) (k : Nat) (x : ByteArray) : (strVals l).toArray.setIfInBounds k (.string x) = (strVals (l.set k x)).toArray := by
  simp [strVals, List.map_set]
theorem str_cell (wr : World) (g k : Nat) (l : List ByteArray) (t : TypeId) (h : wr.heap[g]? = some (.cells (strVals l).toArray t (0, 0))) (x : ByteArray) (hk : l[k]? = some x) :
    wr.cell? ⟨g, k, none⟩ = some (.string x) := by
  rw [cell_of_row wr g k _ _ _ h]
  simp [strVals, hk]

theorem joinL_len (ls : List (List UInt8)) (h : ∀ l ∈ ls, l.length ≤ 20) : (Lib.join ls [47]).length ≤ 21 * ls.length := by
  unfold Lib.join
  induction ls with
  | nil => simp
  | cons x r ih =>
    have hx := h x (by simp)
    have ih := ih (fun l hl => h l (by simp [hl]))
    cases r with
    | nil => simp; omega
    | cons y r =>
      simp only [List.intercalate_cons_cons, List.length_append, List.length_cons, List.length_nil] at ih ⊢
      omega

set_option maxHeartbeats 1000000 in
theorem eScalar_any (word : ByteArray) (xs : List Int) (g c : Nat) (w : World) (hx : IntsIn w g xs) (hw : word.size ≤ 100) (hl : 1 ≤ xs.length ∧ xs.length ≤ 100) (htab : Tabs w) :
    Calls Tryz.prog 35 #[.string word, .slice (some ⟨g, 0, none⟩) xs.length c] w (MkN 1152921504606845789 (eqScal (bs word) xs) w) := by
  have HX := Lib.hid hx
  clear hx
  go_enter Tryz.func35, Tryz.ntmps35
  go_wp2_with fail
  obtain ⟨n, hn⟩ : ∃ n, n = xs.length := ⟨_, rfl⟩
  rw [← hn] at hl
  rw [← hn, make_strs w n (by omega)]
  have hw1 : (w.alloc (.cells (strVals (List.replicate n ⟨#[]⟩)).toArray 9)).heap[w.heap.size]? = some (.cells (strVals (List.replicate n ⟨#[]⟩)).toArray 9 (0, 0)) := heap_alloc_new _ _
  have HW1 := Lib.hid hw1
  have hu1 : Upd [] [] w (w.alloc (.cells (strVals (List.replicate n ⟨#[]⟩)).toArray 9)) := (Upd.refl _ _).alloc _
  have HNN := Lib.hid hn
  clear hw1 hn
  go_wp2_with fail
  go_loopw [13] (fun i wr => ∃ (k : Nat) (l : List ByteArray), i = .int .i64 (k : Int) ∧ k ≤ n ∧ Hid (wr.heap[w.heap.size]? = some (.cells (strVals (l ++ List.replicate (n - k) ⟨#[]⟩)).toArray 9 (0, 0))) ∧ Hid (l.map bs = (xs.take k).map Lib.itoa) ∧ Upd [] [] w wr) (fun i _ => n - (intOf i).toNat)
  case atStart => exact ⟨0, [], rfl, Nat.zero_le _, HW1.out, rfl, hu1⟩
  case round =>
    clear HW1 hu1
    obtain ⟨k, l, rfl, hk, HR, HLL, hup⟩ := hrel
    have hll : l.length = k := by
      have h1 := congrArg List.length HLL.out
      have h2 := HNN.out
      simp at h1
      omega
    by_cases hlt : k < n
    · have hi := HX.out.upd hup
      have hkl : k < xs.length := by have := HNN.out; omega
      obtain ⟨x, hx⟩ : ∃ x, xs[k]? = some x := ⟨_, List.getElem?_eq_getElem hkl⟩
      have q1 := hi.2.1 k x hx
      have hxi : i64in x := hi.2.2 x (List.mem_of_getElem? hx)
      have htk : xs.take (k + 1) = xs.take k ++ [x] := by
        rw [List.take_add_one, hx]; rfl
      have HTK := Lib.hid htk
      have HLE := Lib.hid hll
      clear hx htk hi hll
      go_wp2_with fail
      refine (itoa_any x wr hxi (htab.upd hup)).mono ?_
      rintro e w2 ⟨y, HY, hy, rfl, hu2⟩
      have hR2 : w2.heap[w.heap.size]? = some (.cells (strVals (l ++ List.replicate (n - k) ⟨#[]⟩)).toArray 9 (0, 0)) := by
        have hR := HR.out
        rw [hu2.block _ (Array.getElem?_eq_some_iff.1 hR).1 (by simp)]; exact hR
      have hup2 := hup.trans hu2
      have q2 : w2.cell? ⟨w.heap.size, k, none⟩ = some (.string ⟨#[]⟩) := str_cell w2 w.heap.size k _ _ hR2 _ (by
        have := HLE.out
        rw [List.getElem?_append_right (by omega), show k - l.length = 0 by omega]
        simp [show 0 < n - k by omega])
      have q3 : w2.frozen? ⟨w.heap.size, k, none⟩ = false := frozen_of_row w2 w.heap.size k _ _ hR2
      have hR3 := heap_setCell_same w2 w.heap.size k _ _ (.string y) hR2
      have hset : (l ++ List.replicate (n - k) (ByteArray.mk #[])).set k y = (l ++ [y]) ++ List.replicate (n - (k + 1)) (ByteArray.mk #[]) := by
        have := HLE.out
        rw [List.set_append_right _ _ (by omega), show k - l.length = 0 by omega, show n - k = (n - (k + 1)) + 1 by omega, List.replicate_succ, List.set_cons_zero, List.append_assoc]
        rfl
      rw [strVals_set, hset] at hR3
      have HR3 := Lib.hid hR3
      have hup3 := hup2.setNew (p := ⟨w.heap.size, k, none⟩) (Nat.le_refl _) (.string y)
      clear hR2 hR3 hset
      go_wp2_with fail
      refine ⟨⟨k + 1, l ++ [y], by go_num, by omega, HR3.out, ?_, hup3⟩, by simp [intOf]; omega⟩
      show _ = _
      rw [HTK.out, List.map_append, List.map_append, HLL.out, List.map_cons, List.map_nil, HY.out]
      rfl
    · have hkn : k = n := by omega
      have hR := HR.out
      have hL := HLL.out
      rw [hkn, Nat.sub_self, List.replicate_zero, List.append_nil] at hR
      rw [hkn, HNN.out, List.take_length] at hL
      have hki : (k : Int) = (n : Int) := by omega
      rw [hki]
      have HRE := Lib.hid hR
      have HLE := Lib.hid hL
      have hln : l.length = n := by omega
      have HLN := Lib.hid hln
      have hjoin : Lib.join (l.map (·.data.toList)) (ByteArray.mk #[47]).data.toList = Lib.join (xs.map Lib.itoa) [47] := by
        have : l.map (·.data.toList) = xs.map Lib.itoa := hL
        rw [this]
      have HJ := Lib.hid hjoin
      have hjl : (Lib.join (xs.map Lib.itoa) [47]).length ≤ 2100 := by
        have h1 := joinL_len (xs.map Lib.itoa) (by
          intro z hz
          simp only [List.mem_map] at hz
          obtain ⟨v, hv, rfl⟩ := hz
          exact itoa_len v (HX.out.2.2 v hv))
        have h2 := HNN.out
        rw [List.length_map] at h1
        omega
      clear hkn hki hR hL hln hjoin hlt hk HR HLL hll
      have hsl : word.size + 1 + 2100 ≤ 3000 := by omega
      have h47 : (ByteArray.mk #[47]).size = 1 := rfl
      have hlt2 : w.heap.size < wr.heap.size := (Array.getElem?_eq_some_iff.1 HRE.out).1
      go_wp2_with fail
      rw [← HLN.out]
      refine (Tryz.strings_Join w.heap.size 0 _ l ⟨#[47]⟩ wr (fun j x hx => by rw [Nat.zero_add]; exact str_cell wr w.heap.size j l _ HRE.out x hx) hlt2 (by have := HLN.out; omega) (by omega) (by rw [HJ.out]; omega)).mono ?_
      rintro e w3 ⟨rfl, hb⟩
      have hu3 := upd_of_below hb
      clear hb
      rw [HJ.out]
      obtain ⟨T, hT⟩ : ∃ T : ByteArray, T = ⟨(Lib.join (xs.map Lib.itoa) [47]).toArray⟩ := ⟨_, rfl⟩
      rw [← hT]
      have hTb : bs T = Lib.join (xs.map Lib.itoa) [47] := by rw [hT, bs_mk]
      have hTl : T.size ≤ 2100 := by rw [bs_size hTb]; exact hjl
      have HTB := Lib.hid hTb
      clear hT hTb
      go_wp2_with fail
      refine (gScalar_any _ w3 (by simp [ByteArray.size_append]; omega) (htab.upd (hup.trans hu3))).mono ?_
      rintro e w4 ⟨r, HRR, hr, rfl, hu4⟩
      go_wp2_with fail
      go_ret
      refine ⟨r, ?_, hr, rfl, (hup.trans hu3).trans hu4⟩
      show _ = _
      rw [HRR.out, bs_append, bs_append, HTB.out, eqScal, eqText]
      rfl
end Go.Proofs.YtkhodajdionaaaaGreatDoor
