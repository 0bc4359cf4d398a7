/- Entrants and seals as texts, plainly. -/
import Derived.Test.YtmnmhhbldbdpfaaGreatDoorGE
namespace Go.Proofs.YtmnmhhbldbdpfaaGreatDoor
set_option maxRecDepth 100000
open Go Go.RowKit

/-- From 0 to 1000000000. -/
def smallB (n : Int) : Bool := decide (0 ≤ n) && decide (n ≤ 1000000000)
theorem smallB_iff {n : Int} : smallB n = true ↔ 0 ≤ n ∧ n ≤ 1000000000 := by simp [smallB]
/-- Numbers with a blank ahead of each. -/
def numsT : List Int → List UInt8
  | [] => []
  | n :: r => 32 :: (Lib.itoa n ++ numsT r)
theorem numsT_app : ∀ a b : List Int, numsT (a ++ b) = numsT a ++ numsT b
  | [], b => rfl
  | x :: r, b => by
    rw [List.cons_append, numsT, numsT, numsT_app r b]
    simp
/-- "entrant" -/
def wEn : List UInt8 := [101, 110, 116, 114, 97, 110, 116]
def entOk (a b c : Int) (l : List Int) : Bool := smallB a && (smallB b && (smallB c && (l.all smallB && decide (l.length ≤ 60))))
/-- The text of an entrant without wishes and groups. -/
def entL (a b c : Int) (l : List Int) : List UInt8 := if entOk a b c l then wEn ++ (numsT [a, b, c, (l.length : Int)] ++ (numsT l ++ [32, 48, 32, 48])) else []
/-- "seal/" -/
def wSe : List UInt8 := [115, 101, 97, 108, 47]
/-- What is hashed for a seal. -/
def sealL (s t : List UInt8) : List UInt8 := wSe ++ (Lib.itoa (s.length : Int) ++ 47 :: (s ++ 47 :: t))
theorem itoa_no47 (n : Int) : (47 : UInt8) ∉ Lib.itoa n := dec_no 47 (by decide) (by decide) n
theorem sealL_inj {s t s' t' : List UInt8} (hs : s.length ≤ 9223372036854775807) (hs' : s'.length ≤ 9223372036854775807) (h : sealL s t = sealL s' t') : s = s' ∧ t = t' := by
  unfold sealL at h
  have h0 := List.append_cancel_left h
  obtain ⟨e1, h1⟩ := split32 (itoa_no47 _) (itoa_no47 _) h0
  have e := itoa_inj (by unfold i64in; omega) (by unfold i64in; omega) e1
  have e2 := List.append_inj h1 (by omega)
  have e3 := e2.2
  simp only [List.cons.injEq, true_and] at e3
  exact ⟨e2.1, e3⟩
theorem numsT_len : ∀ l : List Int, (∀ x ∈ l, i64in x) → (numsT l).length ≤ 21 * l.length
  | [], _ => by simp [numsT]
  | x :: r, h => by
    have ih := numsT_len r (fun y hy => h y (by simp [hy]))
    have hx := itoa_len x (h x (by simp))
    rw [numsT, List.length_cons, List.length_append, List.length_cons]
    omega
end Go.Proofs.YtmnmhhbldbdpfaaGreatDoor
