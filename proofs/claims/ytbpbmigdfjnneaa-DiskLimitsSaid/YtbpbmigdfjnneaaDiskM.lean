/- The plain model of a disk: no program in sight. -/
import Derived.Test.YtbpbmigdfjnneaaBytes
namespace Go.Proofs.Ytbpbmigdfjnneaa

structure DiskM where
  now : List UInt8
  synced : List UInt8
  parts : List (Nat × List UInt8)
  calls : Nat
  failing : Bool
  left : Nat

def DiskM.empty : DiskM := ⟨[], [], [], 0, false, 0⟩

/-- The parts of a Write, with fuel. -/
def partsF : Nat → Nat → List UInt8 → List (Nat × List UInt8)
  | 0, _, _ => []
  | f + 1, off, s => if s = [] then [] else (off, s.take (min s.length (64 - off % 64))) :: partsF f (off + min s.length (64 - off % 64)) (s.drop (min s.length (64 - off % 64)))
def partsL (off : Nat) (s : List UInt8) : List (Nat × List UInt8) := partsF s.length off s

theorem partsF_nil (f off : Nat) : partsF f off [] = [] := by cases f <;> simp [partsF]
theorem partsF_enough (f : Nat) : ∀ (g off : Nat) (s : List UInt8), s.length ≤ f → s.length ≤ g → partsF f off s = partsF g off s := by
  induction f with
  | zero => intro g off s h _; have : s = [] := List.eq_nil_of_length_eq_zero (by omega); subst this; simp [partsF_nil]
  | succ f ih =>
    intro g off s hf hg
    cases g with
    | zero => have : s = [] := List.eq_nil_of_length_eq_zero (by omega); subst this; simp [partsF_nil]
    | succ g =>
      by_cases h0 : s = []
      · subst h0; simp [partsF_nil]
      · have hl : 0 < s.length := List.length_pos_iff.2 h0
        have hm : off % 64 < 64 := Nat.mod_lt _ (by omega)
        simp only [partsF, if_neg h0]
        rw [ih g _ _ (by simp; omega) (by simp; omega)]
theorem partsL_nil (off : Nat) : partsL off [] = [] := partsF_nil _ _
theorem partsL_step (off : Nat) (s : List UInt8) (h : s ≠ []) :
    partsL off s = (off, s.take (min s.length (64 - off % 64))) :: partsL (off + min s.length (64 - off % 64)) (s.drop (min s.length (64 - off % 64))) := by
  have hl : 0 < s.length := List.length_pos_iff.2 h
  have hm : off % 64 < 64 := Nat.mod_lt _ (by omega)
  unfold partsL
  obtain ⟨n, hn⟩ : ∃ n, s.length = n + 1 := ⟨s.length - 1, by omega⟩
  conv => lhs; rw [hn]; simp only [partsF]
  rw [if_neg h]
  congr 1
  exact partsF_enough _ _ _ _ (by simp; omega) (by simp)
theorem partsL_length (n : Nat) : ∀ (off : Nat) (s : List UInt8), s.length ≤ n → (partsL off s).length ≤ s.length := by
  induction n with
  | zero => intro off s h; have : s = [] := List.eq_nil_of_length_eq_zero (by omega); subst this; simp [partsL_nil]
  | succ n ih =>
    intro off s h
    by_cases h0 : s = []
    · subst h0; simp [partsL_nil]
    · have hl : 0 < s.length := List.length_pos_iff.2 h0
      have hm : off % 64 < 64 := Nat.mod_lt _ (by omega)
      rw [partsL_step off s h0]
      have := ih (off + min s.length (64 - off % 64)) (s.drop (min s.length (64 - off % 64))) (by simp; omega)
      simp at this ⊢; omega

def DiskM.off (D : DiskM) : Bool := D.failing && D.left == 0
def DiskM.count (D : DiskM) : DiskM := { D with calls := D.calls + 1, left := cond D.failing (D.left - 1) D.left }
def DiskM.wrote (D : DiskM) (off : Nat) (s : List UInt8) : DiskM := { D with now := putL D.now off s, parts := D.parts ++ partsL off s }
def putParts (c : List UInt8) (ps : List (Nat × List UInt8)) : List UInt8 := ps.foldl (fun c p => putL c p.1 p.2) c
def DiskM.synced1 (D : DiskM) : DiskM := { D with synced := putL (putParts D.synced D.parts) D.now.length [], parts := [] }
def DiskM.fail (D : DiskM) (n : Int) : DiskM := { D with failing := decide (0 ≤ n), left := n.toNat }

def survives (sv : List Int) (k : Nat) : Bool := decide (0 < sv.length) && ((sv.getD (k % sv.length) 0).tmod 2 != 0)
def crashF (sv : List Int) : Nat → List (Nat × List UInt8) → List UInt8 → List UInt8
  | _, [], c => c
  | k, p :: ps, c => crashF sv (k + 1) ps (if survives sv k then putL c p.1 p.2 else c)
def DiskM.crash (D : DiskM) (sv : List Int) : DiskM := ⟨crashF sv 0 D.parts D.synced, crashF sv 0 D.parts D.synced, [], 0, false, 0⟩

/-- What the contracts ask of a disk's numbers. -/
structure DiskM.ok (D : DiskM) : Prop where
  now : D.now.length ≤ 16777216
  synced : D.synced.length ≤ 16777216
  parts : ∀ p, p ∈ D.parts → p.1 + p.2.length ≤ 16777216
  many : D.parts.length ≤ D.calls * 16777216
  calls : D.calls ≤ 65536
  left : D.left ≤ 9223372036854775807

theorem crashF_append (sv : List Int) (p : Nat × List UInt8) : ∀ (ps : List (Nat × List UInt8)) (k : Nat) (c : List UInt8),
    crashF sv k (ps ++ [p]) c = if survives sv (k + ps.length) then putL (crashF sv k ps c) p.1 p.2 else crashF sv k ps c
  | [], k, c => by simp [crashF]
  | q :: ps, k, c => by
    simp only [List.cons_append, crashF]
    rw [crashF_append sv p ps]
    simp only [List.length_cons]
    rw [show k + 1 + ps.length = k + (ps.length + 1) by omega]
theorem crashF_le (sv : List Int) (m : Nat) : ∀ (ps : List (Nat × List UInt8)) (k : Nat) (c : List UInt8), c.length ≤ m → (∀ p, p ∈ ps → p.1 + p.2.length ≤ m) → (crashF sv k ps c).length ≤ m
  | [], k, c, h, _ => by simpa [crashF] using h
  | q :: ps, k, c, h, hp => by
    simp only [crashF]
    refine crashF_le sv m ps _ _ ?_ (fun p hm => hp p (by simp [hm]))
    split
    · rw [putL_length]; have := hp q (by simp); omega
    · exact h
theorem putParts_le (m : Nat) : ∀ (ps : List (Nat × List UInt8)) (c : List UInt8), c.length ≤ m → (∀ p, p ∈ ps → p.1 + p.2.length ≤ m) → (putParts c ps).length ≤ m
  | [], c, h, _ => by simpa [putParts] using h
  | q :: ps, c, h, hp => by
    simp only [putParts, List.foldl_cons]
    refine putParts_le m ps _ ?_ (fun p hm => hp p (by simp [hm]))
    rw [putL_length]; have := hp q (by simp); omega
theorem putParts_snoc (c : List UInt8) (ps : List (Nat × List UInt8)) (p : Nat × List UInt8) : putParts c (ps ++ [p]) = putL (putParts c ps) p.1 p.2 := by simp [putParts]
theorem partsL_in (m n : Nat) : ∀ (off : Nat) (s : List UInt8), s.length ≤ n → off + s.length ≤ m → ∀ p, p ∈ partsL off s → p.1 + p.2.length ≤ m := by
  induction n with
  | zero => intro off s h _; have : s = [] := List.eq_nil_of_length_eq_zero (by omega); subst this; simp [partsL_nil]
  | succ n ih =>
    intro off s h hm p hp
    by_cases h0 : s = []
    · subst h0; simp [partsL_nil] at hp
    · have hl : 0 < s.length := List.length_pos_iff.2 h0
      have hmm : off % 64 < 64 := Nat.mod_lt _ (by omega)
      rw [partsL_step off s h0] at hp
      rcases List.mem_cons.1 hp with rfl | hp
      · simp; omega
      · exact ih _ _ (by simp; omega) (by simp; omega) p hp

theorem DiskM.ok_empty : DiskM.empty.ok := ⟨by simp [DiskM.empty], by simp [DiskM.empty], by simp [DiskM.empty], by simp [DiskM.empty], by simp [DiskM.empty], by simp [DiskM.empty]⟩
theorem DiskM.ok.write {D : DiskM} (h : D.ok) (off : Nat) (s : List UInt8) (hs : off + s.length ≤ 16777216) (hc : D.calls < 65536) : (D.wrote off s).count.ok := by
  refine ⟨?_, h.synced, ?_, ?_, ?_, ?_⟩
  · simp only [DiskM.count, DiskM.wrote, putL_length]; have := h.now; omega
  · intro p hp
    simp only [DiskM.count, DiskM.wrote, List.mem_append] at hp
    rcases hp with hp | hp
    · exact h.parts p hp
    · exact partsL_in _ s.length off s (Nat.le_refl _) hs p hp
  · simp only [DiskM.count, DiskM.wrote, List.length_append]
    have := partsL_length s.length off s (Nat.le_refl _)
    have := h.many
    omega
  · simp only [DiskM.count, DiskM.wrote]; omega
  · show cond D.failing (D.left - 1) D.left ≤ _; have := h.left; cases D.failing <;> simp only [cond_true, cond_false] <;> omega
theorem DiskM.ok.sync {D : DiskM} (h : D.ok) (hc : D.calls < 65536) : (D.synced1).count.ok := by
  refine ⟨h.now, ?_, ?_, ?_, ?_, ?_⟩
  · simp only [DiskM.count, DiskM.synced1, putL_length, List.length_nil]
    have := putParts_le 16777216 D.parts D.synced h.synced h.parts
    have := h.now
    omega
  · simp [DiskM.count, DiskM.synced1]
  · simp [DiskM.count, DiskM.synced1]
  · simp only [DiskM.count, DiskM.synced1]; omega
  · show cond D.failing (D.left - 1) D.left ≤ _; have := h.left; cases D.failing <;> simp only [cond_true, cond_false] <;> omega
theorem DiskM.ok.crash {D : DiskM} (h : D.ok) (sv : List Int) : (D.crash sv).ok := by
  have := crashF_le sv 16777216 D.parts 0 D.synced h.synced h.parts
  exact ⟨this, this, by simp [DiskM.crash], by simp [DiskM.crash], by simp [DiskM.crash], by simp [DiskM.crash]⟩
theorem DiskM.ok.fail {D : DiskM} (h : D.ok) (n : Int) (hn : n ≤ 9223372036854775807) : (D.fail n).ok :=
  ⟨h.now, h.synced, h.parts, h.many, h.calls, by simp only [DiskM.fail]; omega⟩
end Go.Proofs.Ytbpbmigdfjnneaa
