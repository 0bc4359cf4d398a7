/- The plain law of the journal: frames, what contents carry, what an Append, a power failure and a crash leave. No program in sight. -/
import Derived.Test.YtbpbmigdfjnneaaJNum
namespace Go.Proofs.Ytbpbmigdfjnneaa
open Go.RowKit

/-- The records of some frames, and whether all of them are whole. -/
def recsF : Nat → List UInt8 → List (List UInt8) × Bool
  | 0, _ => ([], true)
  | f + 1, c =>
    if c.length = 0 then ([], true)
    else if c.length < 8 then ([], false)
    else if valueL (c.take 8) < 0 ∨ (c.length : Int) - 8 < valueL (c.take 8) then ([], false)
    else ((c.drop 8).take (valueL (c.take 8)).toNat :: (recsF f (c.drop (8 + (valueL (c.take 8)).toNat))).1, (recsF f (c.drop (8 + (valueL (c.take 8)).toNat))).2)
def recsL (c : List UInt8) : List (List UInt8) × Bool := recsF (c.length + 1) c

theorem recsF_enough (f : Nat) : ∀ (g : Nat) (c : List UInt8), c.length < f → c.length < g → recsF f c = recsF g c := by
  induction f with
  | zero => intro g c h; omega
  | succ f ih =>
    intro g c hf hg
    cases g with
    | zero => omega
    | succ g =>
      simp only [recsF]
      by_cases h0 : c.length = 0
      · rw [if_pos h0, if_pos h0]
      · rw [if_neg h0, if_neg h0]
        by_cases h8 : c.length < 8
        · rw [if_pos h8, if_pos h8]
        · rw [if_neg h8, if_neg h8]
          rw [ih g (c.drop (8 + (valueL (c.take 8)).toNat)) (by simp; omega) (by simp; omega)]
theorem recsL_nil (c : List UInt8) (h : c.length = 0) : recsL c = ([], true) := by simp only [recsL, recsF]; rw [if_pos h]
theorem recsL_short (c : List UInt8) (h : c.length ≠ 0) (h8 : c.length < 8) : recsL c = ([], false) := by simp only [recsL, recsF]; rw [if_neg h, if_pos h8]
theorem recsL_bad (c : List UInt8) (h8 : ¬ c.length < 8) (hb : valueL (c.take 8) < 0 ∨ (c.length : Int) - 8 < valueL (c.take 8)) : recsL c = ([], false) := by
  simp only [recsL, recsF]; rw [if_neg (by omega), if_neg h8, if_pos hb]
theorem recsL_step (c : List UInt8) (h8 : ¬ c.length < 8) (n : Nat) (hn : valueL (c.take 8) = (n : Int)) (hb : n ≤ c.length - 8) :
    recsL c = ((c.drop 8).take n :: (recsL (c.drop (8 + n))).1, (recsL (c.drop (8 + n))).2) := by
  have hb' : ¬ (valueL (c.take 8) < 0 ∨ (c.length : Int) - 8 < valueL (c.take 8)) := by rw [hn]; omega
  conv => lhs; simp only [recsL, recsF]
  rw [if_neg (by omega), if_neg h8, if_neg hb', hn]
  simp only [Int.toNat_natCast]
  rw [recsF_enough c.length ((c.drop (8 + n)).length + 1) (c.drop (8 + n)) (by simp; omega) (by omega)]
  rfl

/-- One of four ways. -/
theorem recsL_cases (c : List UInt8) : (c.length = 0 ∧ recsL c = ([], true)) ∨ recsL c = ([], false) ∨
    ∃ n : Nat, 8 ≤ c.length ∧ valueL (c.take 8) = (n : Int) ∧ n ≤ c.length - 8 ∧ recsL c = ((c.drop 8).take n :: (recsL (c.drop (8 + n))).1, (recsL (c.drop (8 + n))).2) := by
  by_cases h0 : c.length = 0
  · exact .inl ⟨h0, recsL_nil c h0⟩
  · by_cases h8 : c.length < 8
    · exact .inr (.inl (recsL_short c h0 h8))
    · by_cases hb : valueL (c.take 8) < 0 ∨ (c.length : Int) - 8 < valueL (c.take 8)
      · exact .inr (.inl (recsL_bad c h8 hb))
      · obtain ⟨n, hn⟩ := Int.eq_ofNat_of_zero_le (show 0 ≤ valueL (c.take 8) by omega)
        exact .inr (.inr ⟨n, by omega, hn, by omega, recsL_step c h8 n hn (by omega)⟩)

theorem valueL_bd (l : List UInt8) : -9223372036854775808 ≤ valueL l ∧ valueL l ≤ 9223372036854775807 := by
  rcases List.eq_nil_or_concat l with rfl | ⟨a, b, rfl⟩
  · decide
  · rw [List.concat_eq_append, valueL_snoc]
    have := UInt8.toNat_lt b
    simp only [wrap64]
    omega

def frameL (r : List UInt8) : List UInt8 := numL r.length ++ r
theorem frameL_length (r : List UInt8) : (frameL r).length = 8 + r.length := by simp [frameL, numL_length]
def sizeL (rs : List (List UInt8)) : Nat := (rs.map (fun r => r.length + 8)).sum
def spaceL (rs : List (List UInt8)) : Nat := (rs.map (fun r => r.length + 16)).sum
theorem sizeL_cons (r : List UInt8) (rs : List (List UInt8)) : sizeL (r :: rs) = r.length + 8 + sizeL rs := by simp [sizeL]
theorem spaceL_snoc (rs : List (List UInt8)) (r : List UInt8) : spaceL (rs ++ [r]) = spaceL rs + r.length + 16 := by simp [spaceL]; omega
theorem spaceL_size (rs : List (List UInt8)) : spaceL rs = sizeL rs + 8 * rs.length := by
  induction rs with
  | nil => rfl
  | cons r rs ih => simp only [spaceL, sizeL, List.map_cons, List.sum_cons, List.length_cons] at ih ⊢; omega
theorem sizeL_append (a b : List (List UInt8)) : sizeL (a ++ b) = sizeL a + sizeL b := by simp [sizeL]
theorem sizeL_len (a : List (List UInt8)) : 8 * a.length ≤ sizeL a := by
  induction a with
  | nil => simp
  | cons r rs ih => rw [sizeL_cons]; simp only [List.length_cons]; omega

theorem recs_size (n : Nat) : ∀ F : List UInt8, F.length ≤ n → sizeL (recsL F).1 ≤ F.length ∧ ((recsL F).2 = true → F.length = sizeL (recsL F).1) := by
  induction n with
  | zero => intro F h; rw [recsL_nil F (by omega)]; exact ⟨Nat.zero_le _, fun _ => by show F.length = 0; omega⟩
  | succ n ih =>
    intro F h
    rcases recsL_cases F with ⟨h0, e⟩ | e | ⟨m, h8, hv, hm, e⟩
    · rw [e]; exact ⟨Nat.zero_le _, fun _ => h0⟩
    · rw [e]; exact ⟨Nat.zero_le _, (fun hh => by cases hh)⟩
    · rw [e]
      obtain ⟨i1, i2⟩ := ih (F.drop (8 + m)) (by simp; omega)
      have hl : ((F.drop 8).take m).length = m := by simp; omega
      simp only [sizeL_cons, hl]
      rw [List.length_drop] at i1 i2
      refine ⟨by omega, fun ht => ?_⟩
      have := i2 ht
      omega

theorem recs_frame (r : List UInt8) (hr : r.length ≤ 1099511627776) : recsL (frameL r) = ([r], true) := by
  have e8 : (frameL r).take 8 = numL r.length := by rw [frameL, List.take_append_of_le_length (by rw [numL_length]; omega), List.take_of_length_le (by rw [numL_length]; omega)]
  have ed : (frameL r).drop 8 = r := by rw [frameL, List.drop_append_of_le_length (by rw [numL_length]; omega), List.drop_of_length_le (by rw [numL_length]; omega)]; rfl
  rw [recsL_step _ (by rw [frameL_length]; omega) r.length (by rw [e8]; exact value_number _ hr) (by rw [frameL_length]; omega), ed, recsL_nil _ (by rw [List.length_drop, frameL_length]; omega)]
  simp

theorem recs_snoc (r : List UInt8) (hr : r.length ≤ 1099511627776) (n : Nat) : ∀ (F : List UInt8) (rs : List (List UInt8)), F.length ≤ n → recsL F = (rs, true) → recsL (F ++ frameL r) = (rs ++ [r], true) := by
  induction n with
  | zero =>
    intro F rs h e
    have hF : F = [] := List.eq_nil_of_length_eq_zero (by omega)
    subst hF
    rw [recsL_nil [] rfl] at e
    cases e
    exact recs_frame r hr
  | succ n ih =>
    intro F rs h e
    rcases recsL_cases F with ⟨h0, e'⟩ | e' | ⟨m, h8, hv, hm, e'⟩
    · have hF : F = [] := List.eq_nil_of_length_eq_zero h0
      subst hF
      rw [e'] at e
      cases e
      exact recs_frame r hr
    · rw [e'] at e; cases e
    · rw [e'] at e
      obtain ⟨rs', hrs⟩ : ∃ rs', recsL (F.drop (8 + m)) = (rs', true) := ⟨(recsL (F.drop (8 + m))).1, Prod.ext rfl (Prod.mk.inj e).2⟩
      have ih' := ih (F.drop (8 + m)) rs' (by simp; omega) hrs
      have e8 : (F ++ frameL r).take 8 = F.take 8 := List.take_append_of_le_length h8
      have ed : (F ++ frameL r).drop (8 + m) = F.drop (8 + m) ++ frameL r := List.drop_append_of_le_length (by omega)
      have ec : ((F ++ frameL r).drop 8).take m = (F.drop 8).take m := by rw [List.drop_append_of_le_length h8, List.take_append_of_le_length (by simp; omega)]
      rw [recsL_step _ (by simp; omega) m (by rw [e8]; exact hv) (by simp; omega), ed, ih', ec]
      have := (Prod.mk.inj e).1
      rw [hrs] at this
      rw [← this]
      rfl

/-- The contents c carry the frames F. -/
structure CarF (c F : List UInt8) : Prop where
  len : c = [] ∨ 16 + F.length ≤ c.length
  head : valueL ((List.range 8).map (fun i => c.getD i 0)) = (F.length : Int)
  body : ∀ i, i < F.length → c.getD (16 + i) 0 = F.getD i 0

theorem CarF.nil : CarF [] [] := ⟨.inl rfl, by decide +kernel, (fun i h => by simp at h)⟩
theorem CarF.of_nil {F : List UInt8} (h : CarF [] F) : F = [] := by
  have := h.head
  have e : valueL ((List.range 8).map (fun i => ([] : List UInt8).getD i 0)) = 0 := by decide +kernel
  rw [e] at this
  exact List.eq_nil_of_length_eq_zero (by omega)
theorem CarF.same {c c' F : List UInt8} (h : CarF c F) (hl : c' = [] ∨ 16 + F.length ≤ c'.length) (hs : ∀ i, i < 16 + F.length → c'.getD i 0 = c.getD i 0) : CarF c' F := by
  refine ⟨hl, ?_, fun i hi => (hs _ (by omega)).trans (h.body i hi)⟩
  rw [← h.head]
  congr 1
  apply List.map_congr_left
  intro i hi
  exact hs i (by simp at hi; omega)

theorem take8 (c : List UInt8) (h : 8 ≤ c.length) : c.take 8 = (List.range 8).map (fun i => c.getD i 0) := by
  refine ext_getD _ _ (by simp; omega) (fun i => ?_)
  by_cases hi : i < 8
  · rw [getD_take _ _ _ hi]
    simp [List.getD, List.getElem?_map, List.getElem?_range hi]
  · rw [getD_ge _ _ (by simp; omega), getD_ge _ _ (by simp; omega)]

/-- What Open finds in contents. -/
def openR (c : List UInt8) : Option (List UInt8 × List (List UInt8)) :=
  if c.length = 0 then some ([], [])
  else if c.length < 16 ∨ ((readL c 16 (valueL (readL c 0 8))).length : Int) ≠ valueL (readL c 0 8) then none
  else if (recsL (readL c 16 (valueL (readL c 0 8)))).2 = true then some (readL c 16 (valueL (readL c 0 8)), (recsL (readL c 16 (valueL (readL c 0 8)))).1)
  else none

theorem readL_08 (c : List UInt8) (h : 16 ≤ c.length) : readL c 0 8 = (List.range 8).map (fun i => c.getD i 0) := by
  rw [← take8 c (by omega)]
  unfold readL
  rw [if_neg (by omega)]
  rfl
theorem readL_len (c : List UInt8) (off n : Int) : (readL c off n).length ≤ c.length := by
  unfold readL; split
  · simp
  · simp; omega

theorem open_car {c F : List UInt8} {rs : List (List UInt8)} (h : CarF c F) (hr : recsL F = (rs, true)) : openR c = some (F, rs) := by
  rcases h.len with h0 | hl
  · subst h0
    have := h.of_nil
    subst this
    rw [recsL_nil [] rfl] at hr
    cases hr
    rfl
  · have hv : valueL (readL c 0 8) = (F.length : Int) := by rw [readL_08 c (by omega)]; exact h.head
    have hF : readL c 16 (F.length : Int) = F := by
      unfold readL
      by_cases h0 : F.length = 0
      · rw [if_pos (by omega)]; exact (List.eq_nil_of_length_eq_zero h0).symm
      · rw [if_neg (by omega)]
        refine ext_getD _ _ (by simp; omega) (fun i => ?_)
        by_cases hi : i < F.length
        · rw [getD_take _ _ _ (by omega), getD_drop]; exact h.body i hi
        · rw [getD_ge _ _ (by simp; omega), getD_ge _ _ (by omega)]
    unfold openR
    rw [if_neg (by omega), hv, hF, if_neg (by omega), hr, if_pos rfl]

theorem car_open {c F : List UInt8} {rs : List (List UInt8)} (h : openR c = some (F, rs)) : CarF c F ∧ recsL F = (rs, true) := by
  unfold openR at h
  split at h
  · rename_i h0
    cases h
    have := List.eq_nil_of_length_eq_zero h0
    subst this
    exact ⟨CarF.nil, recsL_nil [] rfl⟩
  · split at h
    · cases h
    · rename_i h0 h1
      split at h
      · rename_i h2
        have h16 : 16 ≤ c.length := by omega
        have hlen : ((readL c 16 (valueL (readL c 0 8))).length : Int) = valueL (readL c 0 8) := by
          rcases Classical.em (((readL c 16 (valueL (readL c 0 8))).length : Int) = valueL (readL c 0 8)) with h | h
          · exact h
          · exact absurd (.inr h) h1
        obtain ⟨e1, e2⟩ := Prod.mk.inj (Option.some.inj h)
        rw [e1] at hlen e2 h2
        rw [readL_08 c h16] at hlen e1
        refine ⟨⟨.inr ?_, hlen.symm, ?_⟩, Prod.ext e2 h2⟩
        · rw [← hlen] at e1
          unfold readL at e1
          split at e1
          · rw [← e1]; simp; omega
          · have := congrArg List.length e1; simp at this; omega
        · intro i hi
          rw [← hlen] at e1
          unfold readL at e1
          split at e1
          · rw [← e1] at hi; simp at hi
          · conv => rhs; rw [← e1]
            rw [getD_take _ _ _ (by omega), getD_drop]
            rfl
      · cases h

/-! ### the disk under a journal -/
def DInv (D : DiskM) : Prop := putL (putParts D.synced D.parts) D.now.length [] = D.now
/-- Nothing waits for a Sync, and the contents carry F. -/
structure JClean (D : DiskM) (F : List UInt8) : Prop where
  parts : D.parts = []
  synced : D.synced = D.now
  car : CarF D.now F
  ok : D.ok
/-- The contents, and those after any crash, carry F or G. -/
structure JMay (D : DiskM) (F G : List UInt8) : Prop where
  ok : D.ok
  inv : DInv D
  now : CarF D.now F ∨ CarF D.now G
  crash : ∀ sv, CarF (D.crash sv).now F ∨ CarF (D.crash sv).now G

theorem JClean.inv {D : DiskM} {F : List UInt8} (h : JClean D F) : DInv D := by
  unfold DInv; rw [h.parts, h.synced, pad_iff]; exact ⟨Nat.le_refl _, fun _ => rfl⟩
theorem JClean.may {D : DiskM} {F : List UInt8} (h : JClean D F) (G : List UInt8) : JMay D F G :=
  ⟨h.ok, h.inv, .inl h.car, fun sv => .inl (by show CarF (crashF sv 0 D.parts D.synced) F; rw [h.parts, h.synced]; exact h.car)⟩
theorem JClean.fail {D : DiskM} {F : List UInt8} (h : JClean D F) (n : Int) (hn : n ≤ 9223372036854775807) : JClean (D.fail n) F := ⟨h.parts, h.synced, h.car, h.ok.fail n hn⟩
theorem JMay.fail {D : DiskM} {F G : List UInt8} (h : JMay D F G) (n : Int) (hn : n ≤ 9223372036854775807) : JMay (D.fail n) F G := ⟨h.ok.fail n hn, h.inv, h.now, h.crash⟩
theorem JMay.sync {D : DiskM} {F G : List UInt8} (h : JMay D F G) (hc : D.calls < 65536) : JClean D.synced1.count F ∨ JClean D.synced1.count G := by
  have hs : D.synced1.count.synced = D.now := h.inv
  rcases h.now with hn | hn
  · exact .inl ⟨rfl, hs, hn, h.ok.sync hc⟩
  · exact .inr ⟨rfl, hs, hn, h.ok.sync hc⟩
theorem JClean.sync {D : DiskM} {F : List UInt8} (h : JClean D F) (hc : D.calls < 65536) : JClean D.synced1.count F := ⟨rfl, h.inv, h.car, h.ok.sync hc⟩
theorem JMay.crashed {D : DiskM} {F G : List UInt8} (h : JMay D F G) (sv : List Int) : JClean (D.crash sv) F ∨ JClean (D.crash sv) G := by
  rcases h.crash sv with hn | hn
  · exact .inl ⟨rfl, rfl, hn, h.ok.crash sv⟩
  · exact .inr ⟨rfl, rfl, hn, h.ok.crash sv⟩
theorem JClean.crashed {D : DiskM} {F : List UInt8} (h : JClean D F) (sv : List Int) : JClean (D.crash sv) F := by
  rcases (h.may F).crashed sv with k | k <;> exact k
theorem JClean.empty : JClean .empty [] := ⟨rfl, rfl, CarF.nil, DiskM.ok_empty⟩

/-- A write of the journal: a Write and a Sync. -/
def jwrite (D : DiskM) (off : Nat) (s : List UInt8) : DiskM × Bool :=
  if D.off then (D, false) else if (D.wrote off s).count.off then ((D.wrote off s).count, false) else ((D.wrote off s).count.synced1.count, true)
/-- What an Append does to the disk. -/
def appendD (D : DiskM) (F r : List UInt8) : DiskM × Bool :=
  if (jwrite D (16 + F.length) (frameL r)).2 then jwrite (jwrite D (16 + F.length) (frameL r)).1 0 (numL (F.length + (8 + r.length))) else jwrite D (16 + F.length) (frameL r)

theorem jwrite_calls (D : DiskM) (off : Nat) (s : List UInt8) : (jwrite D off s).1.calls ≤ D.calls + 2 ∧ (jwrite D off s).1.failing = D.failing ∧ (D.failing = false → (jwrite D off s).2 = true) := by
  unfold jwrite
  by_cases h1 : D.off = true
  · rw [if_pos h1]; exact ⟨by show D.calls ≤ _; omega, rfl, fun h => by simp [DiskM.off, h] at h1⟩
  · rw [if_neg h1]
    by_cases h2 : (D.wrote off s).count.off = true
    · rw [if_pos h2]; exact ⟨by show D.calls + 1 ≤ _; omega, rfl, fun h => by simp [DiskM.off, DiskM.count, DiskM.wrote, h] at h2⟩
    · rw [if_neg h2]; exact ⟨by show D.calls + 1 + 1 ≤ _; omega, rfl, fun _ => rfl⟩
theorem jwrite_ok {D : DiskM} (h : D.ok) (hc : D.calls + 2 ≤ 65536) (off : Nat) (s : List UInt8) (hs : off + s.length ≤ 16777216) : (jwrite D off s).1.ok := by
  unfold jwrite
  have h1 := h.write off s hs (by omega)
  split
  · exact h
  · split
    · exact h1
    · exact h1.sync (by show D.calls + 1 < _; omega)
theorem appendD_calls (D : DiskM) (F r : List UInt8) : (appendD D F r).1.calls ≤ D.calls + 4 ∧ (appendD D F r).1.failing = D.failing ∧ (D.failing = false → (appendD D F r).2 = true) := by
  unfold appendD
  obtain ⟨a1, a2, a3⟩ := jwrite_calls D (16 + F.length) (frameL r)
  split
  · rename_i h
    obtain ⟨b1, b2, b3⟩ := jwrite_calls (jwrite D (16 + F.length) (frameL r)).1 0 (numL (F.length + (8 + r.length)))
    exact ⟨by omega, b2.trans a2, fun hf => b3 (a2.trans hf)⟩
  · exact ⟨by omega, a2, a3⟩

theorem wrote_inv {D : DiskM} (h : DInv D) (off : Nat) (s : List UInt8) : DInv (D.wrote off s).count := by
  show putL (putParts D.synced (D.parts ++ partsL off s)) (putL D.now off s).length [] = putL D.now off s
  have hi := (pad_iff _ _).1 h
  rw [pad_iff, putParts_append]
  obtain ⟨p1, p2⟩ := putParts_partsL s.length off s (putParts D.synced D.parts) (Nat.le_refl _)
  refine ⟨?_, fun i => ?_⟩
  · rw [p2, putL_length]; have := hi.1; split <;> omega
  · rw [p1, putL_getD, hi.2 i]

theorem jparts_ge (n : Nat) : ∀ (off : Nat) (s : List UInt8), s.length ≤ n → ∀ p, p ∈ partsL off s → off ≤ p.1 := by
  induction n with
  | zero => intro off s h; have : s = [] := List.eq_nil_of_length_eq_zero (by omega); subst this; simp [partsL_nil]
  | succ n ih =>
    intro off s h p hp
    by_cases h0 : s = []
    · subst h0; simp [partsL_nil] at hp
    · have hl : 0 < s.length := List.length_pos_iff.2 h0
      have hmm : off % 64 < 64 := Nat.mod_lt _ (by omega)
      rw [partsL_step off s h0] at hp
      rcases List.mem_cons.1 hp with rfl | hp
      · exact Nat.le_refl _
      · exact Nat.le_trans (by omega) (ih _ _ (by simp; omega) p hp)

/-- Parts behind m leave what lies before it; the contents stay as they are or reach m. -/
theorem crashF_before (sv : List Int) (m : Nat) : ∀ (ps : List (Nat × List UInt8)) (k : Nat) (c : List UInt8), (∀ p, p ∈ ps → m ≤ p.1) →
    (crashF sv k ps c = c ∨ m ≤ (crashF sv k ps c).length) ∧ ∀ i, i < m → (crashF sv k ps c).getD i 0 = c.getD i 0
  | [], _, c, _ => ⟨.inl rfl, fun _ _ => rfl⟩
  | p :: ps, k, c, hp => by
    simp only [crashF]
    have hm := hp p (by simp)
    obtain ⟨g1, g2⟩ := crashF_before sv m ps (k + 1) (if survives sv k then putL c p.1 p.2 else c) (fun q hq => hp q (by simp [hq]))
    by_cases hs : survives sv k = true
    · rw [if_pos hs] at g1 g2 ⊢
      refine ⟨.inr ?_, fun i hi => ?_⟩
      · rcases g1 with g | g
        · rw [g, putL_length]; omega
        · exact g
      · rw [g2 i hi, putL_getD, if_neg (by omega)]
    · rw [if_neg hs] at g1 g2 ⊢
      exact ⟨g1, g2⟩

theorem CarF.wrote {c F : List UInt8} (h : CarF c F) (s : List UInt8) : CarF (putL c (16 + F.length) s) F :=
  h.same (.inr (by rw [putL_length]; omega)) (fun i hi => by rw [putL_getD, if_neg (by omega)])

theorem parts_num (n : Nat) : partsL 0 (numL n) = [(0, numL n)] := by
  have hl := numL_length n
  have hne : numL n ≠ [] := fun e => by rw [e] at hl; simp at hl
  have hm : min (numL n).length (64 - 0 % 64) = 8 := by rw [hl]; decide
  rw [partsL_step 0 _ hne, hm, List.take_of_length_le (by omega), List.drop_of_length_le (by omega), partsL_nil]

/-- The header is written. -/
theorem CarF.header {c F G : List UInt8} (_h : CarF c F) (hl : 16 + G.length ≤ c.length) (hb : ∀ i, i < G.length → c.getD (16 + i) 0 = G.getD i 0) (hG : G.length ≤ 1099511627776) : CarF (putL c 0 (numL G.length)) G := by
  have hn := numL_length G.length
  refine ⟨.inr (by rw [putL_length]; omega), ?_, fun i hi => by rw [putL_getD, if_neg (by omega)]; exact hb i hi⟩
  rw [← take8 _ (by rw [putL_length]; omega)]
  have : (putL c 0 (numL G.length)).take 8 = numL G.length := by
    refine ext_getD _ _ (by rw [List.length_take, putL_length]; omega) (fun i => ?_)
    by_cases hi : i < 8
    · rw [getD_take _ _ _ hi, putL_getD, if_pos (by omega)]; rfl
    · rw [getD_ge _ _ (by simp; omega), getD_ge _ _ (by omega)]
  rw [this]
  exact value_number _ hG

/-- THE LAW OF AN APPEND. -/
theorem append_law {D : DiskM} {F : List UInt8} (h : JClean D F) (r : List UInt8) (hb : 16 + F.length + (8 + r.length) ≤ 16777216) (hc : D.calls + 4 ≤ 65536) :
    ((appendD D F r).2 = true → JClean (appendD D F r).1 (F ++ frameL r)) ∧ ((appendD D F r).2 = false → JMay (appendD D F r).1 F (F ++ frameL r)) := by
  have hfl := frameL_length r
  unfold appendD
  by_cases ho : D.off = true
  · have e : jwrite D (16 + F.length) (frameL r) = (D, false) := by unfold jwrite; rw [if_pos ho]
    rw [e, if_neg (by simp)]
    exact ⟨(fun hh => by cases hh), fun _ => h.may _⟩
  · -- the frame is written
    obtain ⟨D1, hD1⟩ : ∃ D1, D1 = (D.wrote (16 + F.length) (frameL r)).count := ⟨_, rfl⟩
    have ok1 : D1.ok := by rw [hD1]; exact h.ok.write _ _ (by rw [hfl]; omega) (by omega)
    have inv1 : DInv D1 := by rw [hD1]; exact wrote_inv h.inv _ _
    have n1 : D1.now = putL D.now (16 + F.length) (frameL r) := by rw [hD1]; rfl
    have car1 : CarF D1.now F := by rw [n1]; exact h.car.wrote _
    have c1 : D1.calls = D.calls + 1 := by rw [hD1]; rfl
    have cr1 : ∀ sv, CarF (D1.crash sv).now F := fun sv => by
      have e : (D1.crash sv).now = crashF sv 0 (partsL (16 + F.length) (frameL r)) D.now := by
        rw [hD1]; show crashF sv 0 (D.parts ++ partsL _ _) D.synced = _; rw [h.parts, h.synced]; rfl
      rw [e]
      obtain ⟨g1, g2⟩ := crashF_before sv (16 + F.length) (partsL (16 + F.length) (frameL r)) 0 D.now (jparts_ge _ _ _ (Nat.le_refl _))
      refine h.car.same ?_ g2
      rcases g1 with g | g
      · rw [g]; exact h.car.len
      · exact .inr g
    by_cases ho1 : D1.off = true
    · have e : jwrite D (16 + F.length) (frameL r) = (D1, false) := by unfold jwrite; rw [if_neg ho, ← hD1, if_pos ho1]
      rw [e, if_neg (by simp)]
      exact ⟨(fun hh => by cases hh), fun _ => ⟨ok1, inv1, .inl car1, fun sv => .inl (cr1 sv)⟩⟩
    · -- and synced
      have e : jwrite D (16 + F.length) (frameL r) = (D1.synced1.count, true) := by unfold jwrite; rw [if_neg ho, ← hD1, if_neg ho1]
      rw [e, if_pos rfl]
      obtain ⟨D2, hD2⟩ : ∃ D2, D2 = D1.synced1.count := ⟨_, rfl⟩
      rw [← hD2]
      have cl2 : JClean D2 F := by rw [hD2]; exact ⟨rfl, inv1, car1, ok1.sync (by omega)⟩
      have n2 : D2.now = putL D.now (16 + F.length) (frameL r) := by rw [hD2]; exact n1
      have c2 : D2.calls = D.calls + 2 := by rw [hD2]; show D1.calls + 1 = _; omega
      obtain ⟨G, hG⟩ : ∃ G, G = F ++ frameL r := ⟨_, rfl⟩
      have hGl : G.length = F.length + (8 + r.length) := by rw [hG, List.length_append, hfl]
      rw [← hG, ← hGl]
      have l2 : 16 + G.length ≤ D2.now.length := by rw [n2, putL_length]; omega
      have b2 : ∀ i, i < G.length → D2.now.getD (16 + i) 0 = G.getD i 0 := fun i hi => by
        rw [n2, putL_getD, hG]
        by_cases hiF : i < F.length
        · rw [if_neg (by omega), getD_append_l _ _ _ hiF]; exact h.car.body i hiF
        · rw [if_pos (by omega), getD_append_r _ _ _ (by omega)]; congr 1; omega
      clear hD2 hD1 e n2
      by_cases ho2 : D2.off = true
      · have e : jwrite D2 0 (numL G.length) = (D2, false) := by unfold jwrite; rw [if_pos ho2]
        rw [e]
        exact ⟨(fun hh => by cases hh), fun _ => cl2.may _⟩
      · obtain ⟨D3, hD3⟩ : ∃ D3, D3 = (D2.wrote 0 (numL G.length)).count := ⟨_, rfl⟩
        have ok3 : D3.ok := by rw [hD3]; exact cl2.ok.write _ _ (by rw [numL_length]; omega) (by omega)
        have inv3 : DInv D3 := by rw [hD3]; exact wrote_inv cl2.inv _ _
        have n3 : D3.now = putL D2.now 0 (numL G.length) := by rw [hD3]; rfl
        have car3 : CarF D3.now G := by rw [n3]; exact cl2.car.header l2 b2 (by omega)
        have cr3 : ∀ sv, CarF (D3.crash sv).now F ∨ CarF (D3.crash sv).now G := fun sv => by
          have e : (D3.crash sv).now = crashF sv 0 [(0, numL G.length)] D2.now := by
            rw [hD3]; show crashF sv 0 (D2.parts ++ partsL _ _) D2.synced = _; rw [cl2.parts, cl2.synced, parts_num]; rfl
          rw [e]
          simp only [crashF]
          split
          · exact .inr (cl2.car.header l2 b2 (by omega))
          · exact .inl cl2.car
        by_cases ho3 : D3.off = true
        · have e : jwrite D2 0 (numL G.length) = (D3, false) := by unfold jwrite; rw [if_neg ho2, ← hD3, if_pos ho3]
          rw [e]
          exact ⟨(fun hh => by cases hh), fun _ => ⟨ok3, inv3, .inr car3, cr3⟩⟩
        · have e : jwrite D2 0 (numL G.length) = (D3.synced1.count, true) := by unfold jwrite; rw [if_neg ho2, ← hD3, if_neg ho3]
          rw [e]
          exact ⟨fun _ => ⟨rfl, inv3, car3, ok3.sync (by rw [hD3]; show D2.calls + 1 < _; omega)⟩, (fun hh => by cases hh)⟩
end Go.Proofs.Ytbpbmigdfjnneaa
