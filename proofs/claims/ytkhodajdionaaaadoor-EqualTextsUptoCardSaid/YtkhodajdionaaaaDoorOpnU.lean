/- How much the arguments hold: the bound of the second form, for texts. -/
import Derived.Test.YtkhodajdionaaaaDoorOpn
namespace Go.Proofs.YtkhodajdionaaaaDoor
open Go.ChangeShapes Go.WideShapes Go.ChangeAt Go.RowKit Go.Deep Go.Joins
set_option maxRecDepth 100000

section
variable {H : Type} {enc : TypeId × Value → H} {P : Program} {w : World} {base : Nat} {sp : Nat → Bool} {hd : Bool}
theorem bulkAll_mem : ∀ {l : List (DataW H)} {d : DataW H}, d ∈ l → Rows.uptoBulk d ≤ Rows.uptoBulkAll l
  | x :: r, d, h => by
    simp only [Rows.uptoBulkAll]
    rcases List.mem_cons.1 h with rfl | h
    · omega
    · have := bulkAll_mem h
      omega
theorem bulk_of {ds : List (DataW H)} {d : DataW H} (hk : Rows.uptoSmall H ds = true) (h : d ∈ ds) : Rows.uptoBulk d ≤ 1048576 :=
  Nat.le_trans (bulkAll_mem h) (of_decide_eq_true hk)
theorem bulk_str {ds : List (DataW H)} {s : ByteArray} (hk : Rows.uptoSmall H ds = true) (h : DataW.lit (.string s.data.toList) ∈ ds) : s.size ≤ 1048576 := by
  have := bulk_of hk h
  simp only [Rows.uptoBulk, Array.length_toList] at this
  have e : s.data.size = s.size := rfl
  omega

theorem flatF_at {fl : TypeId → Option (List Kd)} : ∀ (fs : List Field) (off : Nat) (ks : List Kd), flatF P fl off fs = some ks → ∀ i, i < ks.length → ∃ f ∈ fs, ∃ l, fl f.type = some l ∧ l.length = P.cellsOf f.type ∧ ∃ j, j < l.length ∧ off + i = f.offset + j
  | [], off, ks, h, i, hi => by
    simp only [flatF, Option.some.injEq] at h
    subst h
    simp at hi
  | f :: r, off, ks, h, i, hi => by
    simp only [flatF] at h
    split at h
    · rename_i l hl
      split at h
      · rename_i hc
        obtain ⟨ks', hk', rfl⟩ := Option.map_eq_some_iff.1 h
        by_cases hil : i < l.length
        · exact ⟨f, by simp, l, hl, hc.2, i, hil, by rw [hc.1]⟩
        · rw [List.length_append] at hi
          obtain ⟨f', hf', l', h1, h2, j, h3, h4⟩ := flatF_at r (off + l.length) ks' hk' (i - l.length) (by omega)
          exact ⟨f', by simp [hf'], l', h1, h2, j, h3, by omega⟩
      · cases h
    · cases h

theorem chunk_put {cs : List Value} {off sz j : Nat} {v : Value} (hj : j < sz) (h : cs[off + j]? = some v) : ((cs.drop off).take sz)[j]? = some v := by
  rw [List.getElem?_take_of_lt hj, List.getElem?_drop]; exact h

theorem bulk_flat : ∀ (f : Nat) (t : TypeId) (ks : List Kd) (fuel : Nat) (cs : List Value) (x : DataW H × List MemPlace), flatK P f t = some ks → DataW.trod enc P w base sp hd fuel t cs = some x → ∀ (i : Nat) (s : ByteArray), cs[i]? = some (.string s) → s.size ≤ Rows.uptoBulk x.1
  | 0, t, ks, fuel, cs, x, h, _, _, _, _ => by simp [flatK] at h
  | f + 1, t, ks, fuel, cs, x, h, hx, i, s, hi => by
    have hm := flatK_ok (f + 1) t ks fuel cs x h hx
    simp only [flatK] at h
    split at h
    · rename_i k hu
      obtain ⟨n, rfl, _, hw⟩ := DataW.trod_int hu hx
      cases i with
      | zero => simp at hi
      | succ i => simp at hi
    · rename_i hu
      obtain ⟨s', rfl, rfl, hs⟩ := DataW.trod_string hu hx
      cases i with
      | zero =>
        simp at hi
        subst hi
        simp only [Rows.uptoBulk, Array.length_toList]
        have e : s'.data.size = s'.size := rfl
        omega
      | succ i => simp at hi
    · rename_i hu
      obtain ⟨b, rfl, _⟩ := DataW.trod_bool hu hx
      cases i with
      | zero => simp at hi
      | succ i => simp at hi
    · rename_i n e hu
      split at h
      · rename_i l hl
        split at h
        · rename_i hc
          obtain ⟨xs, m, _, rfl, hlen, hxl, hi'⟩ := DataW.trod_array hu hx
          have hil : i < cs.length := (List.getElem?_eq_some_iff.1 hi).1
          have hce : 0 < P.cellsOf e := by omega
          have hq : i / P.cellsOf e < n := by
            rw [Nat.div_lt_iff_lt_mul hce]
            have := hc.2.1
            rw [hc.1] at this
            omega
          have h1 := hi' (i / P.cellsOf e) hq
          have e0 : xs[i / P.cellsOf e]? = some (xs[i / P.cellsOf e]'(by omega)) := List.getElem?_eq_getElem (by omega)
          rw [e0] at h1
          have hd : i / P.cellsOf e * P.cellsOf e + i % P.cellsOf e = i := by rw [Nat.mul_comm]; exact Nat.div_add_mod i _
          have h2 := bulk_flat f e l m _ _ hl h1 (i % P.cellsOf e) s (chunk_put (Nat.mod_lt _ hce) (by rw [hd]; exact hi))
          refine Nat.le_trans h2 ?_
          simp only [Rows.uptoBulk]
          refine Nat.le_trans (bulkAll_mem (List.mem_map_of_mem (f := (·.1)) (List.getElem_mem (show i / P.cellsOf e < xs.length by omega)))) (Nat.le_succ _)
        · cases h
      · cases h
    · rename_i fs hu
      split at h
      · rename_i l hl
        split at h
        · rename_i hc
          simp only [Option.some.injEq] at h
          subst h
          obtain ⟨xs, m, _, rfl, hlen, hxl, hi'⟩ := DataW.trod_struct hu hx
          have hil : i < cs.length := (List.getElem?_eq_some_iff.1 hi).1
          obtain ⟨fd, hfd, lf, h1, h2, j, h3, h4⟩ := flatF_at fs.toList 0 l hl i (by have := hm.1; omega)
          obtain ⟨q, hq⟩ := List.getElem?_of_mem hfd
          have h5 := hi' q fd (by simpa using hq)
          have hql : q < xs.length := by
            have := (List.getElem?_eq_some_iff.1 hq).1
            simp at this
            omega
          have e0 : xs[q]? = some (xs[q]'hql) := List.getElem?_eq_getElem hql
          rw [e0] at h5
          have h6 := bulk_flat f fd.type lf m _ _ h1 h5 j s (chunk_put (by omega) (by rw [← h4, Nat.zero_add]; exact hi))
          refine Nat.le_trans h6 ?_
          simp only [Rows.uptoBulk]
          refine Nat.le_trans (bulkAll_mem (List.mem_map_of_mem (f := (·.1)) (List.getElem_mem hql))) (Nat.le_succ _)
        · cases h
      · cases h
    · cases h

theorem open_u16s2 {t : TypeId} {v : Value} {d : DataW H} {p : List MemPlace} {r : Reach} {b0 : Nat} (f : Nat) (hk : flatK P f t = some [.i .u16, .i .u16]) (hv : Value.okWide P w r b0 t v) (h : DataW.Trod enc P w base sp hd t v d p) (ha : (∃ n e, P.underlying t = some (.array n e)) ∨ ∃ fs, P.underlying t = some (.struct fs)) :
    ∃ a b : Int, v = .agg #[.int .u16 a, .int .u16 b] ∧ (0 ≤ a ∧ a ≤ 65535) ∧ (0 ≤ b ∧ b ≤ 65535) := by
  obtain ⟨cs, rfl, hm⟩ := open_flat f hk hv h ha
  obtain ⟨a, ha, wa⟩ := hm.u16 (i := 0) rfl
  obtain ⟨b, hb, wb⟩ := hm.u16 (i := 1) rfl
  have hl : cs.toList.length = 2 := hm.1
  refine ⟨a, b, ?_, wa, wb⟩
  congr 1
  apply Array.ext'
  match h : cs.toList, hl with
  | [x, y], _ =>
    rw [h] at ha hb
    simp at ha hb
    rw [ha, hb]
/-- A text, an int and a byte. -/
theorem open_sib {t : TypeId} {v : Value} {d : DataW H} {p : List MemPlace} {r : Reach} {b0 : Nat} (f : Nat) (hk : flatK P f t = some [.s, .i .i64, .i .u8]) (hv : Value.okWide P w r b0 t v) (h : DataW.Trod enc P w base sp hd t v d p) (ha : (∃ n e, P.underlying t = some (.array n e)) ∨ ∃ fs, P.underlying t = some (.struct fs)) :
    ∃ (s : ByteArray) (a b : Int), v = .agg #[.string s, .int .i64 a, .int .u8 b] ∧ s.size ≤ Rows.uptoBulk d ∧ (-9223372036854775808 ≤ a ∧ a ≤ 9223372036854775807) ∧ (0 ≤ b ∧ b ≤ 255) := by
  obtain ⟨cs, rfl, hm⟩ := open_flat f hk hv h ha
  obtain ⟨s, hs, _⟩ := hm.str (i := 0) rfl
  obtain ⟨a, ha, wa⟩ := hm.i64 (i := 1) rfl
  obtain ⟨b, hb, wb⟩ := hm.u8 (i := 2) rfl
  have hl : cs.toList.length = 3 := hm.1
  obtain ⟨fuel, hf⟩ := h
  have hbk := bulk_flat f t _ fuel _ _ hk hf 0 s hs
  refine ⟨s, a, b, ?_, hbk, wa, wb⟩
  congr 1
  apply Array.ext'
  match h : cs.toList, hl with
  | [x, y, z], _ =>
    rw [h] at hs ha hb
    simp at hs ha hb
    rw [hs, ha, hb]
end
end Go.Proofs.YtkhodajdionaaaaDoor
