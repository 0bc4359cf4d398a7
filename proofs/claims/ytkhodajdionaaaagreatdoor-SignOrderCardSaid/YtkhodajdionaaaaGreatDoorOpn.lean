/- Values of plain types (numbers, texts, truth values, arrays and structs of them), opened cell by cell. -/
import Derived.Test.YtkhodajdionaaaaGreatDoorLaidR
namespace Go.Proofs.YtkhodajdionaaaaGreatDoor
open Go.ChangeShapes Go.WideShapes Go.ChangeAt Go.RowKit Go.Deep Go.Joins
set_option maxRecDepth 100000

/-- What a cell holds. -/
inductive Kd where
  | i (k : IntKind)
  | s
  | b
/-- The cell holds it. -/
def Kd.ok : Kd → Value → Prop
  | .i k, v => ∃ n : Int, v = .int k n ∧ (Lit.int k n).wf = true
  | .s, v => ∃ s : ByteArray, v = .string s ∧ s.size ≤ maxLen
  | .b, v => ∃ b : Bool, v = .bool b

/-- The cells of fields, one behind the other. -/
def flatF (P : Program) (fl : TypeId → Option (List Kd)) : Nat → List Field → Option (List Kd)
  | _, [] => some []
  | off, f :: r => match fl f.type with
    | some l => if f.offset = off ∧ l.length = P.cellsOf f.type then (flatF P fl (off + l.length) r).map (l ++ ·) else none
    | none => none
/-- The cells of a type. -/
def flatK (P : Program) : Nat → TypeId → Option (List Kd)
  | 0, _ => none
  | f + 1, t => match P.underlying t with
    | some (.int k) => some [.i k]
    | some .string => some [.s]
    | some .bool => some [.b]
    | some (.array n e) => match flatK P f e with
      | some l => if l.length = P.cellsOf e ∧ n * l.length = P.cellsOf t ∧ 0 < l.length then some (List.replicate n l).flatten else none
      | none => none
    | some (.struct fs) => match flatF P (flatK P f) 0 fs.toList with
      | some l => if l.length = P.cellsOf t then some l else none
      | none => none
    | _ => none

/-- The cells are of these kinds. -/
def Mt (ks : List Kd) (cs : List Value) : Prop := cs.length = ks.length ∧ ∀ (i : Nat) k, ks[i]? = some k → ∃ v, cs[i]? = some v ∧ k.ok v

theorem Mt.one {k : Kd} {v : Value} (h : k.ok v) : Mt [k] [v] := by
  refine ⟨rfl, fun i k' hi => ?_⟩
  cases i with
  | zero => simp at hi; subst hi; exact ⟨v, rfl, h⟩
  | succ i => simp at hi

theorem flatten_get {α : Type} (l : List α) (m : Nat) (hm : l.length = m) (h0 : 0 < m) : ∀ (n i : Nat) (a : α), (List.replicate n l).flatten[i]? = some a → i / m < n ∧ l[i % m]? = some a
  | 0, i, a, h => by simp at h
  | n + 1, i, a, h => by
    rw [List.replicate_succ, List.flatten_cons] at h
    by_cases hi : i < m
    · rw [List.getElem?_append_left (by omega)] at h
      rw [Nat.div_eq_of_lt hi, Nat.mod_eq_of_lt hi]
      exact ⟨by omega, h⟩
    · rw [List.getElem?_append_right (by omega), hm] at h
      have ih := flatten_get l m hm h0 n (i - m) a h
      have e1 : i / m = (i - m) / m + 1 := by rw [Nat.div_eq_sub_div h0 (by omega)]
      have e2 : i % m = (i - m) % m := by rw [Nat.mod_eq_sub_mod (by omega)]
      rw [e1, e2]
      exact ⟨by omega, ih.2⟩

theorem chunk_get {cs : List Value} {off sz j : Nat} {v : Value} (h : ((cs.drop off).take sz)[j]? = some v) : cs[off + j]? = some v := by
  rw [List.getElem?_take] at h
  split at h
  · rw [List.getElem?_drop] at h; exact h
  · cases h

section
variable {H : Type} {enc : TypeId × Value → H} {P : Program} {w : World} {base : Nat} {sp : Nat → Bool} {hd : Bool}

theorem flatF_ok {fl : TypeId → Option (List Kd)} {cs : List Value} : ∀ (fs : List Field) (off : Nat) (ks : List Kd), flatF P fl off fs = some ks →
    (∀ f ∈ fs, ∀ l, fl f.type = some l → Mt l ((cs.drop f.offset).take (P.cellsOf f.type))) → ∀ (i : Nat) k, ks[i]? = some k → ∃ v, cs[off + i]? = some v ∧ k.ok v
  | [], off, ks, h, _, i, k, hi => by
    simp only [flatF, Option.some.injEq] at h
    subst h
    simp at hi
  | f :: r, off, ks, h, hf, i, k, hi => by
    simp only [flatF] at h
    split at h
    · rename_i l hl
      split at h
      · rename_i hc
        obtain ⟨ks', hk', rfl⟩ := Option.map_eq_some_iff.1 h
        by_cases hil : i < l.length
        · rw [List.getElem?_append_left hil] at hi
          obtain ⟨v, hv, hok⟩ := (hf f (by simp) l hl).2 i k hi
          have := chunk_get hv
          rw [hc.1] at this
          exact ⟨v, this, hok⟩
        · rw [List.getElem?_append_right (by omega)] at hi
          obtain ⟨v, hv, hok⟩ := flatF_ok r (off + l.length) ks' hk' (fun f' hf' => hf f' (by simp [hf'])) (i - l.length) k hi
          rw [show off + l.length + (i - l.length) = off + i by omega] at hv
          exact ⟨v, hv, hok⟩
      · cases h
    · cases h

theorem flatK_ok : ∀ (f : Nat) (t : TypeId) (ks : List Kd) (fuel : Nat) (cs : List Value) (x : DataW H × List MemPlace), flatK P f t = some ks → DataW.trod enc P w base sp hd fuel t cs = some x → Mt ks cs
  | 0, t, ks, fuel, cs, x, h, _ => by simp [flatK] at h
  | f + 1, t, ks, fuel, cs, x, h, hx => by
    simp only [flatK] at h
    split at h
    · rename_i k hu
      obtain ⟨n, rfl, _, hw⟩ := DataW.trod_int hu hx
      simp only [Option.some.injEq] at h
      subst h
      exact Mt.one ⟨n, rfl, hw⟩
    · rename_i hu
      obtain ⟨s, rfl, _, hs⟩ := DataW.trod_string hu hx
      simp only [Option.some.injEq] at h
      subst h
      exact Mt.one ⟨s, rfl, hs⟩
    · rename_i hu
      obtain ⟨b, rfl, _⟩ := DataW.trod_bool hu hx
      simp only [Option.some.injEq] at h
      subst h
      exact Mt.one ⟨b, rfl⟩
    · rename_i n e hu
      split at h
      · rename_i l hl
        split at h
        · rename_i hc
          simp only [Option.some.injEq] at h
          subst h
          obtain ⟨xs, m, _, _, hlen, hxl, hi⟩ := DataW.trod_array hu hx
          refine ⟨by rw [hlen, ← hc.2.1]; simp, fun i k hk => ?_⟩
          obtain ⟨hq, hr⟩ := flatten_get l (P.cellsOf e) hc.1 (by omega) n i k hk
          have h1 := hi (i / P.cellsOf e) hq
          have e0 : xs[i / P.cellsOf e]? = some (xs[i / P.cellsOf e]'(by omega)) := List.getElem?_eq_getElem (by omega)
          rw [e0] at h1
          obtain ⟨v, hv, hok⟩ := (flatK_ok f e l m _ _ hl h1).2 (i % P.cellsOf e) k hr
          have := chunk_get hv
          rw [Nat.mul_comm, Nat.div_add_mod] at this
          exact ⟨v, this, hok⟩
        · cases h
      · cases h
    · rename_i fs hu
      split at h
      · rename_i l hl
        split at h
        · rename_i hc
          simp only [Option.some.injEq] at h
          subst h
          obtain ⟨xs, m, _, _, hlen, hxl, hi⟩ := DataW.trod_struct hu hx
          refine ⟨by rw [hlen, hc], fun i k hk => ?_⟩
          have := flatF_ok fs.toList 0 l hl (fun fd hfd lf hlf => by
            obtain ⟨j, hj⟩ := List.getElem?_of_mem hfd
            have h1 := hi j fd (by simpa using hj)
            have hjl : j < xs.length := by
              have := (List.getElem?_eq_some_iff.1 hj).1
              simp at this
              omega
            have e0 : xs[j]? = some (xs[j]'hjl) := List.getElem?_eq_getElem hjl
            rw [e0] at h1
            exact flatK_ok f fd.type lf m _ _ hlf h1) i k hk
          rw [Nat.zero_add] at this
          exact this
        · cases h
      · cases h
    · cases h

/-- A value of an array or a struct of plain cells. -/
theorem open_flat {t : TypeId} {v : Value} {d : DataW H} {p : List MemPlace} {ks : List Kd} {r : Reach} {b0 : Nat} (f : Nat) (hk : flatK P f t = some ks) (hv : Value.okWide P w r b0 t v) (h : DataW.Trod enc P w base sp hd t v d p) (ha : (∃ n e, P.underlying t = some (.array n e)) ∨ ∃ fs, P.underlying t = some (.struct fs)) :
    ∃ cs : Array Value, v = .agg cs ∧ Mt ks cs.toList := by
  obtain ⟨fuel, hf⟩ := h
  have hm := flatK_ok f t ks fuel _ _ hk hf
  rcases ha with ⟨n, e, hu⟩ | ⟨fs, hu⟩
  · simp only [Value.okWide, hu] at hv
    obtain ⟨cs, rfl, _⟩ := hv
    exact ⟨cs, rfl, hm⟩
  · simp only [Value.okWide, hu] at hv
    obtain ⟨cs, rfl, _⟩ := hv
    exact ⟨cs, rfl, hm⟩

theorem Mt.get {ks : List Kd} {cs : List Value} (h : Mt ks cs) {i : Nat} {k : Kd} (hk : ks[i]? = some k) : ∃ v, cs[i]? = some v ∧ k.ok v := h.2 i k hk
theorem Mt.i64 {ks : List Kd} {cs : List Value} (h : Mt ks cs) {i : Nat} (hk : ks[i]? = some (.i .i64)) : ∃ n : Int, cs[i]? = some (.int .i64 n) ∧ -9223372036854775808 ≤ n ∧ n ≤ 9223372036854775807 := by
  obtain ⟨v, hv, n, rfl, hw⟩ := h.2 i _ hk
  exact ⟨n, hv, bounds_i64 hw⟩
theorem Mt.str {ks : List Kd} {cs : List Value} (h : Mt ks cs) {i : Nat} (hk : ks[i]? = some .s) : ∃ s : ByteArray, cs[i]? = some (.string s) ∧ s.size ≤ 9223372036854775807 := by
  obtain ⟨v, hv, n, rfl, hw⟩ := h.2 i _ hk
  exact ⟨n, hv, hw⟩
theorem Mt.bool {ks : List Kd} {cs : List Value} (h : Mt ks cs) {i : Nat} (hk : ks[i]? = some .b) : ∃ b : Bool, cs[i]? = some (.bool b) := by
  obtain ⟨v, hv, n, rfl⟩ := h.2 i _ hk
  exact ⟨n, hv⟩
theorem Mt.u8 {ks : List Kd} {cs : List Value} (h : Mt ks cs) {i : Nat} (hk : ks[i]? = some (.i .u8)) : ∃ n : Int, cs[i]? = some (.int .u8 n) ∧ 0 ≤ n ∧ n ≤ 255 := by
  obtain ⟨v, hv, n, rfl, hw⟩ := h.2 i _ hk
  exact ⟨n, hv, bounds_u8 hw⟩
theorem Mt.u16 {ks : List Kd} {cs : List Value} (h : Mt ks cs) {i : Nat} (hk : ks[i]? = some (.i .u16)) : ∃ n : Int, cs[i]? = some (.int .u16 n) ∧ 0 ≤ n ∧ n ≤ 65535 := by
  obtain ⟨v, hv, n, rfl, hw⟩ := h.2 i _ hk
  exact ⟨n, hv, bounds_u16 hw⟩

theorem open_ints2 {t : TypeId} {v : Value} {d : DataW H} {p : List MemPlace} {r : Reach} {b0 : Nat} (f : Nat) (hk : flatK P f t = some [.i .i64, .i .i64]) (hv : Value.okWide P w r b0 t v) (h : DataW.Trod enc P w base sp hd t v d p) (ha : (∃ n e, P.underlying t = some (.array n e)) ∨ ∃ fs, P.underlying t = some (.struct fs)) :
    ∃ a b : Int, v = .agg #[.int .i64 a, .int .i64 b] ∧ (-9223372036854775808 ≤ a ∧ a ≤ 9223372036854775807) ∧ (-9223372036854775808 ≤ b ∧ b ≤ 9223372036854775807) := by
  obtain ⟨cs, rfl, hm⟩ := open_flat f hk hv h ha
  obtain ⟨a, ha, wa⟩ := hm.i64 (i := 0) rfl
  obtain ⟨b, hb, wb⟩ := hm.i64 (i := 1) rfl
  have hl : cs.toList.length = 2 := hm.1
  refine ⟨a, b, ?_, wa, wb⟩
  congr 1
  apply Array.ext'
  match h : cs.toList, hl with
  | [x, y], _ =>
    rw [h] at ha hb
    simp at ha hb
    rw [ha, hb]
theorem open_ints4 {t : TypeId} {v : Value} {d : DataW H} {p : List MemPlace} {r : Reach} {b0 : Nat} (f : Nat) (hk : flatK P f t = some [.i .i64, .i .i64, .i .i64, .i .i64]) (hv : Value.okWide P w r b0 t v) (h : DataW.Trod enc P w base sp hd t v d p) (ha : (∃ n e, P.underlying t = some (.array n e)) ∨ ∃ fs, P.underlying t = some (.struct fs)) :
    ∃ a b c e : Int, v = .agg #[.int .i64 a, .int .i64 b, .int .i64 c, .int .i64 e] ∧ (-9223372036854775808 ≤ a ∧ a ≤ 9223372036854775807) ∧ (-9223372036854775808 ≤ b ∧ b ≤ 9223372036854775807) ∧ (-9223372036854775808 ≤ c ∧ c ≤ 9223372036854775807) ∧ (-9223372036854775808 ≤ e ∧ e ≤ 9223372036854775807) := by
  obtain ⟨cs, rfl, hm⟩ := open_flat f hk hv h ha
  obtain ⟨a, ha, wa⟩ := hm.i64 (i := 0) rfl
  obtain ⟨b, hb, wb⟩ := hm.i64 (i := 1) rfl
  obtain ⟨c, hc, wc⟩ := hm.i64 (i := 2) rfl
  obtain ⟨e, he, we⟩ := hm.i64 (i := 3) rfl
  have hl : cs.toList.length = 4 := hm.1
  refine ⟨a, b, c, e, ?_, wa, wb, wc, we⟩
  congr 1
  apply Array.ext'
  match h : cs.toList, hl with
  | [x, y, z, u], _ =>
    rw [h] at ha hb hc he
    simp at ha hb hc he
    rw [ha, hb, hc, he]
end
end Go.Proofs.YtkhodajdionaaaaGreatDoor
