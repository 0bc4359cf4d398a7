/- The plain law: the disk and its reference model stay alike. No program in sight. -/
import Derived.Test.YtbpbmigdfjnneaaRefD
namespace Go.Proofs.Ytbpbmigdfjnneaa

theorem ext_getD (a b : List UInt8) (hl : a.length = b.length) (h : ∀ i, a.getD i 0 = b.getD i 0) : a = b := by
  apply List.ext_getElem hl
  intro i h1 h2
  have := h i
  simpa [List.getD, h1, h2] using this

theorem getD_ge (a : List UInt8) (i : Nat) (h : a.length ≤ i) : a.getD i 0 = 0 := by simp [List.getD, List.getElem?_eq_none h]
theorem getD_append_l (a b : List UInt8) (i : Nat) (h : i < a.length) : (a ++ b).getD i 0 = a.getD i 0 := by simp [List.getD, List.getElem?_append_left h]
theorem getD_append_r (a b : List UInt8) (i : Nat) (h : a.length ≤ i) : (a ++ b).getD i 0 = b.getD (i - a.length) 0 := by simp [List.getD, List.getElem?_append_right h]
theorem getD_replicate (k i : Nat) : (List.replicate k (0 : UInt8)).getD i 0 = 0 := by
  simp only [List.getD, List.getElem?_replicate]; split <;> rfl
theorem getD_pad (a : List UInt8) (k i : Nat) : (a ++ List.replicate k 0).getD i 0 = a.getD i 0 := by
  by_cases h : i < a.length
  · exact getD_append_l _ _ _ h
  · rw [getD_append_r _ _ _ (by omega), getD_replicate, getD_ge _ _ (by omega)]
theorem getD_take (a : List UInt8) (k i : Nat) (h : i < k) : (a.take k).getD i 0 = a.getD i 0 := by simp [List.getD, h]
theorem getD_drop (a : List UInt8) (k i : Nat) : (a.drop k).getD i 0 = a.getD (k + i) 0 := by simp [List.getD, List.getElem?_drop]

theorem putL_getD (c : List UInt8) (off : Nat) (s : List UInt8) (i : Nat) : (putL c off s).getD i 0 = if off ≤ i ∧ i < off + s.length then s.getD (i - off) 0 else c.getD i 0 := by
  unfold putL
  generalize hk : off + s.length - c.length = k
  have hp : ∀ j, (c ++ List.replicate k 0).getD j 0 = c.getD j 0 := fun j => getD_pad c k j
  have hlen : (c ++ List.replicate k (0 : UInt8)).length = c.length + k := by simp
  generalize c ++ List.replicate k (0 : UInt8) = c' at *
  have h1 : (c'.take off).length = off := by rw [List.length_take]; omega
  rw [List.append_assoc]
  by_cases ha : i < off
  · rw [getD_append_l _ _ _ (by omega), getD_take _ _ _ ha, hp, if_neg (by omega)]
  · rw [getD_append_r _ _ _ (by omega), h1]
    by_cases hb : i < off + s.length
    · rw [getD_append_l _ _ _ (by omega), if_pos (by omega)]
    · rw [getD_append_r _ _ _ (by omega), getD_drop, if_neg (by omega), hp]
      congr 1; omega

theorem pad_iff (A n : List UInt8) : putL A n.length [] = n ↔ A.length ≤ n.length ∧ ∀ i, A.getD i 0 = n.getD i 0 := by
  constructor
  · intro h
    refine ⟨?_, fun i => ?_⟩
    · have := congrArg List.length h; rw [putL_length] at this; simp at this; omega
    · have := congrArg (fun l => List.getD l i 0) h
      simp only [putL_getD] at this
      rw [if_neg (by simp)] at this
      exact this
  · rintro ⟨h1, h2⟩
    refine ext_getD _ _ (by rw [putL_length]; simp; omega) (fun i => ?_)
    rw [putL_getD, if_neg (by simp)]
    exact h2 i

theorem putParts_cons (c : List UInt8) (p : Nat × List UInt8) (ps : List (Nat × List UInt8)) : putParts c (p :: ps) = putParts (putL c p.1 p.2) ps := rfl
theorem putParts_append (c : List UInt8) (ps qs : List (Nat × List UInt8)) : putParts c (ps ++ qs) = putParts (putParts c ps) qs := by simp [putParts]

theorem putParts_partsL (n : Nat) : ∀ (off : Nat) (s c : List UInt8), s.length ≤ n → (∀ i, (putParts c (partsL off s)).getD i 0 = if off ≤ i ∧ i < off + s.length then s.getD (i - off) 0 else c.getD i 0) ∧
    (putParts c (partsL off s)).length = if s = [] then c.length else max c.length (off + s.length) := by
  induction n with
  | zero =>
    intro off s c h
    have : s = [] := List.eq_nil_of_length_eq_zero (by omega)
    subst this
    rw [partsL_nil]
    exact ⟨fun i => by rw [if_neg (by simp)]; rfl, by simp [putParts]⟩
  | succ n ih =>
    intro off s c h
    by_cases h0 : s = []
    · subst h0
      rw [partsL_nil]
      exact ⟨fun i => by rw [if_neg (by simp)]; rfl, by simp [putParts]⟩
    · have hl : 0 < s.length := List.length_pos_iff.2 h0
      have hm : off % 64 < 64 := Nat.mod_lt _ (by omega)
      rw [partsL_step off s h0, putParts_cons]
      generalize hmm : min s.length (64 - off % 64) = m
      have hm1 : 1 ≤ m := by omega
      have hm2 : m ≤ s.length := by omega
      obtain ⟨ih1, ih2⟩ := ih (off + m) (s.drop m) (putL c off (s.take m)) (by simp; omega)
      have ht : (s.take m).length = m := by simp; omega
      have hd : (s.drop m).length = s.length - m := by simp
      refine ⟨fun i => ?_, ?_⟩
      · rw [ih1 i, putL_getD, ht, hd]
        by_cases a1 : off + m ≤ i ∧ i < off + m + (s.length - m)
        · rw [if_pos a1, if_pos (by omega), getD_drop]; congr 1; omega
        · rw [if_neg a1]
          by_cases a2 : off ≤ i ∧ i < off + m
          · rw [if_pos a2, if_pos (by omega), getD_take _ _ _ (by omega)]
          · rw [if_neg a2, if_neg (by omega)]
      · rw [ih2, putL_length, ht, hd, if_neg h0]
        split
        · have : s.length - m = 0 := by rw [← hd]; rename_i e; rw [e]; rfl
          omega
        · omega

structure Rel (D : DiskM) (M : RefM) : Prop where
  now : M.now = D.now
  synced : M.synced = D.synced
  parts : M.parts = D.parts
  n : M.n = (D.calls : Int)
  limit : M.limit = D.failing
  left : D.failing = true → M.left = (D.left : Int)
  low : -1 - (D.calls : Int) ≤ M.left
  high : M.left ≤ 9223372036854775807
  inv : putL (putParts D.synced D.parts) D.now.length [] = D.now
  ok : D.ok

theorem Rel.empty : Rel .empty .empty := ⟨rfl, rfl, rfl, rfl, rfl, (fun h => by cases h), by decide, by decide, by simp [DiskM.empty, putParts, putL], DiskM.ok_empty⟩

theorem Rel.off {D : DiskM} {M : RefM} (h : Rel D M) : M.off = D.off := by
  unfold RefM.off DiskM.off
  rw [h.limit]
  cases hf : D.failing with
  | false => rfl
  | true => rw [h.left hf, Bool.eq_iff_iff]; simp

theorem Rel.left_pos {D : DiskM} (ho : D.off = false) (hf : D.failing = true) : 0 < D.left := by
  rcases Nat.eq_zero_or_pos D.left with e | e
  · simp [DiskM.off, hf, e] at ho
  · exact e

theorem Rel.write {D : DiskM} {M : RefM} (h : Rel D M) (ho : D.off = false) (hc : D.calls < 65536) (off : Nat) (s : List UInt8) (hs : off + s.length ≤ 16777216) :
    Rel (D.wrote off s).count { M.count with now := putL M.now off s, parts := M.parts ++ partsL off s } := by
  refine ⟨by rw [h.now]; rfl, h.synced, by rw [h.parts]; rfl, ?_, h.limit, fun hf => ?_, ?_, ?_, ?_, h.ok.write off s hs hc⟩
  · show M.n + 1 = ((D.calls + 1 : Nat) : Int); rw [h.n]; omega
  · have hf' : D.failing = true := hf
    have := Rel.left_pos ho hf'
    show M.left - 1 = ((cond D.failing (D.left - 1) D.left : Nat) : Int)
    rw [hf', h.left hf', cond_true]; omega
  · show -1 - ((D.calls + 1 : Nat) : Int) ≤ M.left - 1; have := h.low; omega
  · show M.left - 1 ≤ _; have := h.high; omega
  · show putL (putParts D.synced (D.parts ++ partsL off s)) (putL D.now off s).length [] = putL D.now off s
    have hi := (pad_iff _ _).1 h.inv
    rw [pad_iff, putParts_append]
    obtain ⟨p1, p2⟩ := putParts_partsL s.length off s (putParts D.synced D.parts) (Nat.le_refl _)
    refine ⟨?_, fun i => ?_⟩
    · rw [p2, putL_length]; have := hi.1; split <;> omega
    · rw [p1, putL_getD, hi.2 i]

theorem Rel.sync {D : DiskM} {M : RefM} (h : Rel D M) (ho : D.off = false) (hc : D.calls < 65536) : Rel D.synced1.count { M.count with synced := M.now, parts := [] } := by
  refine ⟨h.now, ?_, rfl, ?_, h.limit, fun hf => ?_, ?_, ?_, ?_, h.ok.sync hc⟩
  · show M.now = putL (putParts D.synced D.parts) D.now.length []; rw [h.inv, h.now]
  · show M.n + 1 = ((D.calls + 1 : Nat) : Int); rw [h.n]; omega
  · have hf' : D.failing = true := hf
    have := Rel.left_pos ho hf'
    show M.left - 1 = ((cond D.failing (D.left - 1) D.left : Nat) : Int)
    rw [hf', h.left hf', cond_true]; omega
  · show -1 - ((D.calls + 1 : Nat) : Int) ≤ M.left - 1; have := h.low; omega
  · show M.left - 1 ≤ _; have := h.high; omega
  · show putL (putParts (putL (putParts D.synced D.parts) D.now.length []) []) D.now.length [] = D.now
    rw [h.inv]
    rw [pad_iff]
    exact ⟨Nat.le_refl _, fun _ => rfl⟩

theorem Rel.crash {D : DiskM} {M : RefM} (h : Rel D M) (sv : List Int) : Rel (D.crash sv) (M.crash sv) := by
  refine ⟨?_, ?_, rfl, rfl, rfl, (fun hf => by cases hf), by show (-1 : Int) - 0 ≤ 0; decide, by show (0 : Int) ≤ _; decide, ?_, h.ok.crash sv⟩
  · show crashF sv 0 M.parts M.synced = crashF sv 0 D.parts D.synced; rw [h.parts, h.synced]
  · show crashF sv 0 M.parts M.synced = crashF sv 0 D.parts D.synced; rw [h.parts, h.synced]
  · show putL (putParts (crashF sv 0 D.parts D.synced) []) (crashF sv 0 D.parts D.synced).length [] = crashF sv 0 D.parts D.synced
    rw [pad_iff]
    exact ⟨Nat.le_refl _, fun _ => rfl⟩

theorem Rel.fail {D : DiskM} {M : RefM} (h : Rel D M) (n : Int) (h1 : -1 ≤ n) (h2 : n ≤ 9223372036854775807) : Rel (D.fail n) { M with limit := decide (0 ≤ n), left := n } := by
  refine ⟨h.now, h.synced, h.parts, h.n, rfl, fun hf => ?_, ?_, h2, h.inv, h.ok.fail n h2⟩
  · show n = ((n.toNat : Nat) : Int)
    have : 0 ≤ n := of_decide_eq_true hf
    omega
  · show -1 - (D.calls : Int) ≤ n; omega
end Go.Proofs.Ytbpbmigdfjnneaa
