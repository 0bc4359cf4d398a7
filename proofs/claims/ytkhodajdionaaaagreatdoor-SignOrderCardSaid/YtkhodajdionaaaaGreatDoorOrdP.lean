/- Weights of votes, plainly: neither the order of votes, nor how often one occurs, plays a part. -/
import Derived.Test.YtkhodajdionaaaaGreatDoorSPlain
namespace Go.Proofs.YtkhodajdionaaaaGreatDoor

/-- A member. -/
structure Mem where
  id : Int
  weight : Int
  pub : Int
/-- A vote. -/
structure Vt where
  who : Int
  text : List UInt8
  r : Int
  s : Int

/-- The first member with the number. -/
def look (l : List Mem) (i : Int) : Option Mem := l.find? (·.id == i)
/-- The weight is in range. -/
def wOk (m : Mem) : Bool := decide (1 ≤ m.weight) && decide (m.weight ≤ 20)
/-- The vote is one for the text, by this member. -/
def goodB (t : List UInt8) (m : Mem) (v : Vt) : Bool := v.who == m.id && (v.text == t && verB m.pub t v.r v.s)
/-- One vote is looked at. -/
def stepW (l : List Mem) (t : List UInt8) (st : List Int × Int) (v : Vt) : List Int × Int :=
  match look l v.who with
  | none => st
  | some m => if st.1.contains m.id || !wOk m then st else if v.text == t && verB m.pub t v.r v.s then (m.id :: st.1, st.2 + m.weight) else st
/-- The weight of the votes. -/
def weightL (l : List Mem) (vs : List Vt) (t : List UInt8) : Int := (vs.foldl (stepW l t) ([], 0)).2

/-- Members, each number once. -/
def firsts : List Mem → List Mem
  | [] => []
  | m :: r => m :: (firsts r).filter (fun x => !(x.id == m.id))

theorem firsts_mem : ∀ {l : List Mem} {m : Mem}, m ∈ firsts l → m ∈ l
  | [], m, h => by simp [firsts] at h
  | a :: r, m, h => by
    rw [firsts, List.mem_cons, List.mem_filter] at h
    rcases h with rfl | ⟨h, _⟩
    · exact List.mem_cons_self
    · exact List.mem_cons_of_mem _ (firsts_mem h)
theorem firsts_nodup : ∀ l : List Mem, (firsts l).Pairwise (fun a b => a.id ≠ b.id)
  | [] => List.Pairwise.nil
  | a :: r => by
    rw [firsts, List.pairwise_cons]
    refine ⟨fun b hb => ?_, (firsts_nodup r).filter _⟩
    have h2 := (List.mem_filter.1 hb).2
    intro h
    rw [h] at h2
    simp at h2
theorem look_firsts : ∀ (l : List Mem) (i : Int) (m : Mem), look l i = some m ↔ m ∈ firsts l ∧ m.id = i
  | [], i, m => by simp [look, firsts]
  | a :: r, i, m => by
    have ih := look_firsts r i m
    unfold look at ih ⊢
    rw [List.find?_cons, firsts, List.mem_cons, List.mem_filter]
    by_cases h : a.id = i
    · simp only [h, beq_self_eq_true]
      constructor
      · intro e
        cases e
        exact ⟨.inl rfl, h⟩
      · rintro ⟨rfl | ⟨_, h2⟩, h3⟩
        · rfl
        · rw [h3] at h2
          simp at h2
    · have h' : (a.id == i) = false := by simpa using h
      simp only [h']
      rw [ih]
      constructor
      · rintro ⟨h1, h2⟩
        refine ⟨.inr ⟨h1, ?_⟩, h2⟩
        rw [h2]
        simp only [Bool.not_eq_true', beq_eq_false_iff_ne]
        exact fun e => h e.symm
      · rintro ⟨rfl | ⟨h1, _⟩, h2⟩
        · exact absurd h2 h
        · exact ⟨h1, h2⟩
theorem firsts_length : ∀ l : List Mem, (firsts l).length ≤ l.length
  | [] => Nat.le_refl _
  | a :: r => by
    rw [firsts, List.length_cons, List.length_cons]
    have h1 := List.length_filter_le (fun x => !(x.id == a.id)) (firsts r)
    have h2 := firsts_length r
    omega

/-- Has the member voted? -/
def hasB (t : List UInt8) (vs : List Vt) (m : Mem) : Bool := wOk m && vs.any (goodB t m)
/-- What a member weighs. -/
def wgt (t : List UInt8) (vs : List Vt) (m : Mem) : Int := if hasB t vs m then m.weight else 0
/-- The sum. -/
def sumW : List Mem → (Mem → Int) → Int
  | [], _ => 0
  | m :: r, f => f m + sumW r f
theorem sumW_congr {f g : Mem → Int} : ∀ {L : List Mem}, (∀ m ∈ L, f m = g m) → sumW L f = sumW L g
  | [], _ => rfl
  | a :: r, h => by rw [sumW, sumW, h a List.mem_cons_self, sumW_congr fun m hm => h m (List.mem_cons_of_mem _ hm)]
theorem sumW_one {f g : Mem → Int} {m0 : Mem} : ∀ {L : List Mem}, L.Pairwise (fun a b => a.id ≠ b.id) → m0 ∈ L → (∀ m ∈ L, m.id ≠ m0.id → f m = g m) → sumW L g = sumW L f + (g m0 - f m0)
  | [], _, h, _ => absurd h (by simp)
  | a :: r, hp, hm, hc => by
    rw [List.pairwise_cons] at hp
    rw [sumW, sumW]
    rcases List.mem_cons.1 hm with rfl | hm'
    · have : sumW r f = sumW r g := sumW_congr fun m h => hc m (List.mem_cons_of_mem _ h) (fun e => hp.1 m h e.symm)
      omega
    · have h1 := sumW_one hp.2 hm' fun m h n => hc m (List.mem_cons_of_mem _ h) n
      have h2 := hc a List.mem_cons_self (hp.1 m0 hm')
      omega
theorem sumW_le {f g : Mem → Int} : ∀ {L : List Mem}, (∀ m ∈ L, f m ≤ g m) → sumW L f ≤ sumW L g
  | [], _ => Int.le_refl _
  | a :: r, h => by
    have h1 := h a List.mem_cons_self
    have h2 := sumW_le fun m hm => h m (List.mem_cons_of_mem _ hm)
    rw [sumW, sumW]
    omega
theorem sumW_const (c : Int) : ∀ L : List Mem, sumW L (fun _ => c) = c * L.length
  | [] => by simp [sumW]
  | a :: r => by
    rw [sumW, sumW_const c r, List.length_cons, Int.natCast_add, Int.mul_add]
    omega
theorem sumW_add (f g : Mem → Int) : ∀ L : List Mem, sumW L (fun m => f m + g m) = sumW L f + sumW L g
  | [] => rfl
  | a :: r => by
    rw [sumW, sumW, sumW, sumW_add f g r]
    omega

theorem hasB_snoc (t : List UInt8) (vs : List Vt) (v : Vt) (m : Mem) : hasB t (vs ++ [v]) m = (hasB t vs m || (wOk m && goodB t m v)) := by
  unfold hasB
  rw [List.any_append]
  cases wOk m <;> simp

theorem snoc_induct {P : List Vt → Prop} (h0 : P []) (h1 : ∀ vs v, P vs → P (vs ++ [v])) (l : List Vt) : P l := by
  have h : ∀ r : List Vt, P r.reverse := by
    intro r
    induction r with
    | nil => exact h0
    | cons a r ih => rw [List.reverse_cons]; exact h1 _ _ ih
  have := h l.reverse
  rwa [List.reverse_reverse] at this
theorem goodB_who {t : List UInt8} {m : Mem} {v : Vt} (h : v.who ≠ m.id) : goodB t m v = false := by
  unfold goodB
  rw [beq_eq_false_iff_ne.2 h, Bool.false_and]

/-- What the rounds have made of it. -/
theorem fold_is (l : List Mem) (t : List UInt8) (vs : List Vt) : (∀ m ∈ firsts l, (vs.foldl (stepW l t) ([], 0)).1.contains m.id = hasB t vs m) ∧ (vs.foldl (stepW l t) ([], 0)).2 = sumW (firsts l) (wgt t vs) := by
  induction vs using snoc_induct with
  | h0 =>
    refine ⟨fun m _ => by simp [hasB], ?_⟩
    have := sumW_const 0 (firsts l)
    rw [Int.zero_mul] at this
    rw [← this]
    exact sumW_congr fun m _ => by simp [wgt, hasB]
  | h1 vs v ih =>
    rw [List.foldl_append, List.foldl_cons, List.foldl_nil]
    obtain ⟨st, hst⟩ : ∃ st, vs.foldl (stepW l t) ([], 0) = st := ⟨_, rfl⟩
    rw [hst] at ih ⊢
    obtain ⟨i1, i2⟩ := ih
    have keep : (∀ m ∈ firsts l, (wOk m && goodB t m v) = true → hasB t vs m = true) → (∀ m ∈ firsts l, st.1.contains m.id = hasB t (vs ++ [v]) m) ∧ st.2 = sumW (firsts l) (wgt t (vs ++ [v])) := by
      intro hk
      have e : ∀ m ∈ firsts l, hasB t (vs ++ [v]) m = hasB t vs m := by
        intro m hm
        rw [hasB_snoc]
        cases h : (wOk m && goodB t m v) with
        | false => rw [Bool.or_false]
        | true => rw [hk m hm h]; rfl
      refine ⟨fun m hm => by rw [e m hm]; exact i1 m hm, ?_⟩
      rw [i2]
      exact sumW_congr fun m hm => by unfold wgt; rw [e m hm]
    unfold stepW
    cases hl : look l v.who with
    | none =>
      refine keep fun m hm h => ?_
      have hw : v.who ≠ m.id := by
        intro e
        rw [e, (look_firsts l m.id m).2 ⟨hm, rfl⟩] at hl
        cases hl
      rw [goodB_who hw, Bool.and_false] at h
      cases h
    | some m0 =>
      obtain ⟨hm0, hid⟩ := (look_firsts l v.who m0).1 hl
      have uniq : ∀ m ∈ firsts l, v.who = m.id → m = m0 := by
        intro m hm e
        have := (look_firsts l v.who m).2 ⟨hm, e.symm⟩
        rw [hl] at this
        exact (Option.some.inj this).symm
      show (∀ m ∈ firsts l, (if (st.1.contains m0.id || !wOk m0) = true then st else if (v.text == t && verB m0.pub t v.r v.s) = true then (m0.id :: st.1, st.2 + m0.weight) else st).1.contains m.id = _) ∧ (if (st.1.contains m0.id || !wOk m0) = true then st else if (v.text == t && verB m0.pub t v.r v.s) = true then (m0.id :: st.1, st.2 + m0.weight) else st).2 = _
      by_cases hc : (st.1.contains m0.id || !wOk m0) = true
      · rw [if_pos hc]
        refine keep fun m hm h => ?_
        rw [Bool.and_eq_true] at h
        by_cases hw : v.who = m.id
        · have := uniq m hm hw
          subst this
          rw [h.1, Bool.not_true, Bool.or_false, i1 m hm] at hc
          exact hc
        · rw [goodB_who hw] at h
          exact absurd h.2 (by simp)
      · rw [if_neg hc]
        simp only [Bool.or_eq_true, not_or, Bool.not_eq_true, Bool.not_eq_false'] at hc
        by_cases hg : (v.text == t && verB m0.pub t v.r v.s) = true
        · rw [if_pos hg]
          have hgm : goodB t m0 v = true := by
            unfold goodB
            rw [hg, hid, beq_self_eq_true]
            rfl
          have hb0 : hasB t vs m0 = false := by rw [← i1 m0 hm0]; exact hc.1
          have hb1 : hasB t (vs ++ [v]) m0 = true := by rw [hasB_snoc, hgm, hc.2, hb0]; rfl
          have ho : ∀ m ∈ firsts l, m.id ≠ m0.id → hasB t (vs ++ [v]) m = hasB t vs m := by
            intro m hm hne
            rw [hasB_snoc, goodB_who (by rw [← hid]; exact fun e => hne e.symm), Bool.and_false, Bool.or_false]
          refine ⟨fun m hm => ?_, ?_⟩
          · show (m0.id :: st.1).contains m.id = _
            rw [List.contains_cons]
            by_cases hne : m.id = m0.id
            · have := uniq m hm (by rw [hne, hid])
              subst this
              rw [hb1, beq_self_eq_true]
              rfl
            · rw [ho m hm hne, beq_eq_false_iff_ne.2 hne, Bool.false_or]
              exact i1 m hm
          · show st.2 + m0.weight = _
            rw [sumW_one (f := wgt t vs) (m0 := m0) (firsts_nodup l) hm0 (fun m hm hne => by unfold wgt; rw [ho m hm hne]), i2]
            have e0 : wgt t vs m0 = 0 := by unfold wgt; rw [hb0]; rfl
            have e1 : wgt t (vs ++ [v]) m0 = m0.weight := by unfold wgt; rw [hb1]; rfl
            rw [e0, e1]
            omega
        · rw [if_neg hg]
          refine keep fun m hm h => ?_
          rw [Bool.and_eq_true] at h
          by_cases hw : v.who = m.id
          · have := uniq m hm hw
            subst this
            unfold goodB at h
            rw [Bool.and_eq_true] at h
            exact absurd h.2.2 hg
          · rw [goodB_who hw] at h
            exact absurd h.2 (by simp)

theorem weight_is (l : List Mem) (vs : List Vt) (t : List UInt8) : weightL l vs t = sumW (firsts l) (wgt t vs) := (fold_is l t vs).2

/-- Votes that say the same weigh the same. -/
theorem weight_same {l : List Mem} {vs us : List Vt} {t : List UInt8} (h : ∀ m ∈ firsts l, ∀ v, goodB t m v = true → (v ∈ vs ↔ v ∈ us)) : weightL l vs t = weightL l us t := by
  rw [weight_is, weight_is]
  refine sumW_congr fun m hm => ?_
  have : vs.any (goodB t m) = us.any (goodB t m) := by
    rw [Bool.eq_iff_iff, List.any_eq_true, List.any_eq_true]
    exact ⟨fun ⟨v, hv, hg⟩ => ⟨v, (h m hm v hg).1 hv, hg⟩, fun ⟨v, hv, hg⟩ => ⟨v, (h m hm v hg).2 hv, hg⟩⟩
  unfold wgt hasB
  rw [this]

theorem wgt_bounds (t : List UInt8) (vs : List Vt) (m : Mem) : 0 ≤ wgt t vs m ∧ wgt t vs m ≤ 20 := by
  unfold wgt hasB
  by_cases h : wOk m = true
  · unfold wOk at h
    simp only [Bool.and_eq_true, decide_eq_true_eq] at h
    split <;> omega
  · rw [Bool.not_eq_true] at h
    rw [h, Bool.false_and]
    rw [if_neg (by simp)]
    exact ⟨Int.le_refl _, by omega⟩

theorem weight_pos (l : List Mem) (vs : List Vt) (t : List UInt8) : 0 ≤ weightL l vs t := by
  rw [weight_is]
  have := sumW_le (L := firsts l) (f := fun _ => 0) (g := wgt t vs) fun m _ => (wgt_bounds t vs m).1
  rw [sumW_const, Int.zero_mul] at this
  exact this
theorem weight_le (l : List Mem) (vs : List Vt) (t : List UInt8) : weightL l vs t ≤ 20 * (l.length : Int) := by
  rw [weight_is]
  have h1 := sumW_le (L := firsts l) (f := wgt t vs) (g := fun _ => 20) fun m _ => (wgt_bounds t vs m).2
  rw [sumW_const] at h1
  have := firsts_length l
  omega

/-- How many votes of the member. -/
def ofM (vs : List Vt) (m : Mem) : Int := ((vs.filter (fun v => v.who == m.id)).length : Int)
theorem sum_ofM {L : List Mem} (hp : L.Pairwise (fun a b => a.id ≠ b.id)) : ∀ vs : List Vt, sumW L (ofM vs) ≤ (vs.length : Int)
  | [] => by
    have := sumW_const 0 L
    rw [Int.zero_mul] at this
    rw [sumW_congr (g := fun _ => 0) (fun m _ => by simp [ofM]), this]
    exact Int.le_refl _
  | v :: vs => by
    have ih := sum_ofM hp vs
    by_cases h : ∃ m ∈ L, m.id = v.who
    · obtain ⟨m0, hm0, h0⟩ := h
      rw [sumW_one (f := ofM vs) (m0 := m0) hp hm0 (fun m hm hne => by unfold ofM; rw [List.filter_cons, beq_eq_false_iff_ne.2 (fun e => hne (by rw [← e, h0]))]; rfl)]
      have : ofM (v :: vs) m0 = ofM vs m0 + 1 := by
        unfold ofM
        rw [List.filter_cons, h0, beq_self_eq_true, if_pos rfl, List.length_cons]
        omega
      rw [this, List.length_cons]
      omega
    · rw [sumW_congr (g := ofM vs) (fun m hm => by unfold ofM; rw [List.filter_cons, beq_eq_false_iff_ne.2 (fun e => h ⟨m, hm, e.symm⟩)]; rfl), List.length_cons]
      omega

theorem any_two {t u : List UInt8} (htu : t ≠ u) (m : Mem) : ∀ vs : List Vt, (if vs.any (goodB t m) then (1 : Int) else 0) + (if vs.any (goodB u m) then 1 else 0) ≤ ofM vs m
  | [] => by simp [ofM]
  | v :: vs => by
    have ih := any_two htu m vs
    rw [List.any_cons, List.any_cons]
    by_cases hw : v.who = m.id
    · have e : ofM (v :: vs) m = ofM vs m + 1 := by
        unfold ofM
        rw [List.filter_cons, hw, beq_self_eq_true, if_pos rfl, List.length_cons]
        omega
      rw [e]
      have one : ¬ (goodB t m v = true ∧ goodB u m v = true) := by
        unfold goodB
        rintro ⟨h1, h2⟩
        simp only [Bool.and_eq_true, beq_iff_eq] at h1 h2
        exact htu (h1.2.1.symm.trans h2.2.1)
      cases h1 : goodB t m v <;> cases h2 : goodB u m v <;> cases h3 : vs.any (goodB t m) <;> cases h4 : vs.any (goodB u m) <;> simp_all <;> omega
    · have e : ofM (v :: vs) m = ofM vs m := by
        unfold ofM
        rw [List.filter_cons, beq_eq_false_iff_ne.2 hw]
        rfl
      rw [e, goodB_who hw, goodB_who hw, Bool.false_or, Bool.false_or]
      exact ih

theorem wgt_any (t : List UInt8) (vs : List Vt) (m : Mem) : wgt t vs m ≤ 20 * (if vs.any (goodB t m) then (1 : Int) else 0) := by
  have := wgt_bounds t vs m
  by_cases h : vs.any (goodB t m) = true
  · rw [if_pos h]; omega
  · rw [if_neg h]
    rw [Bool.not_eq_true] at h
    unfold wgt hasB
    rw [h, Bool.and_false]
    exact Int.le_refl _

/-- Two texts share the votes. -/
theorem weight_two (l : List Mem) (vs : List Vt) {t u : List UInt8} (htu : t ≠ u) : weightL l vs t + weightL l vs u ≤ 20 * (vs.length : Int) := by
  rw [weight_is, weight_is, ← sumW_add]
  have h1 : sumW (firsts l) (fun m => wgt t vs m + wgt u vs m) ≤ sumW (firsts l) (fun m => 20 * ofM vs m) := sumW_le fun m _ => by
    have a := wgt_any t vs m
    have b := wgt_any u vs m
    have c := any_two htu m vs
    have : wgt t vs m + wgt u vs m ≤ 20 * ofM vs m := by omega
    exact this
  have h2 := sum_ofM (firsts_nodup l) vs
  have h3 : ∀ L : List Mem, sumW L (fun m => 20 * ofM vs m) = 20 * sumW L (ofM vs) := by
    intro L
    induction L with
    | nil => rfl
    | cons a r ih => rw [sumW, sumW, ih, Int.mul_add]
  rw [h3] at h1
  omega
end Go.Proofs.YtkhodajdionaaaaGreatDoor
