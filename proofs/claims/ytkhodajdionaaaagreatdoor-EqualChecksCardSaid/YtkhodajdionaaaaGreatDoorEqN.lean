/- The example of chapter 6, computed: a proof for 3, 4 and 16 is not accepted for 256. -/
import Derived.Test.YtkhodajdionaaaaGreatDoorEqP
namespace Go.Proofs.YtkhodajdionaaaaGreatDoor
set_option maxRecDepth 100000

/-- Digits with fuel. -/
def decF : Nat → Nat → List UInt8
  | 0, _ => []
  | k + 1, u => if u < 10 then [UInt8.ofNat (48 + u)] else decF k (u / 10) ++ [UInt8.ofNat (48 + u % 10)]
theorem decF_eq : ∀ (k u : Nat), u < 10 ^ k → 0 < k → decF k u = Lib.decDigits u
  | 0, _, _, h => by omega
  | 1, u, h, _ => by
    have h' : u < 10 := by simpa using h
    rw [Lib.decDigits, dif_pos h', decF, if_pos h']
  | k + 2, u, h, _ => by
    rw [Lib.decDigits, decF]
    split
    · rfl
    · rw [decF_eq (k + 1) (u / 10) (by rw [Nat.pow_succ] at h; omega) (by omega)]
theorem itoa_fuel (n : Nat) (h : n < 10 ^ 20) : Lib.itoa (n : Int) = decF 20 n := by
  rw [decF_eq 20 n h (by omega)]
  unfold Lib.itoa
  rw [if_neg (by omega), Int.toNat_natCast]
theorem text3 (w : List UInt8) (a b c : Nat) (ha : a < 10 ^ 20) (hb : b < 10 ^ 20) (hc : c < 10 ^ 20) : eqText w [(a : Int), (b : Int), (c : Int)] = w ++ [47] ++ (decF 20 a ++ [47] ++ decF 20 b ++ [47] ++ decF 20 c) := by
  simp [eqText, Lib.join, List.intercalate_cons_cons, itoa_fuel a ha, itoa_fuel b hb, itoa_fuel c hc]
theorem text6 (w : List UInt8) (a b c d e f : Nat) (ha : a < 10 ^ 20) (hb : b < 10 ^ 20) (hc : c < 10 ^ 20) (hd : d < 10 ^ 20) (he : e < 10 ^ 20) (hf : f < 10 ^ 20) :
    eqText w [(a : Int), (b : Int), (c : Int), (d : Int), (e : Int), (f : Int)] = w ++ [47] ++ (decF 20 a ++ [47] ++ decF 20 b ++ [47] ++ decF 20 c ++ [47] ++ decF 20 d ++ [47] ++ decF 20 e ++ [47] ++ decF 20 f) := by
  simp [eqText, Lib.join, List.intercalate_cons_cons, itoa_fuel a ha, itoa_fuel b hb, itoa_fuel c hc, itoa_fuel d hd, itoa_fuel e he, itoa_fuel f hf]

theorem n_k : nonceE 3 4 16 = 334738722642548386 := by
  rw [nonceE, eqScal, text3 _ 3 4 16 (by decide) (by decide) (by decide)]
  decide +kernel
theorem n_pow (a n r : Nat) (hn : n < 2 ^ 64) (h : pmF Pn 64 a n = r) : pP a n = r := by rw [pP, ← pmF_eq Pn 64 a n hn]; exact h
theorem pP_pm (a n : Nat) (hn : n < 2 ^ 64) : pP a n = pmF Pn 64 a n := by rw [pP, pmF_eq Pn 64 a n hn]
theorem n_a : pP 4 3 = 64 := by decide
theorem n_b : pP 16 3 = 4096 := by decide
theorem n_r : pP 4 334738722642548386 = 1107481360607456119 := n_pow _ _ _ (by decide) (by decide +kernel)
theorem n_s : pP 16 334738722642548386 = 412069305609881112 := n_pow _ _ _ (by decide) (by decide +kernel)
theorem n_c : chalE 4 64 16 4096 1107481360607456119 412069305609881112 = 435937659163829742 := by
  rw [chalE, eqScal, text6 _ 4 64 16 4096 1107481360607456119 412069305609881112 (by decide) (by decide) (by decide) (by decide) (by decide) (by decide)]
  decide +kernel
theorem ex_c : cWith 3 4 16 (nonceE 3 4 16) = 435937659163829742 := by rw [n_k, cWith, n_a, n_b, n_r, n_s, n_c]
theorem ex_z : zWith 3 4 16 (nonceE 3 4 16) = 489630195527191823 := by rw [zWith, ex_c, n_k]; decide +kernel
theorem n_side1 : sideE 4 64 435937659163829742 489630195527191823 = 1107481360607456119 := by
  have h1 : pP 4 489630195527191823 = pmF Pn 64 4 489630195527191823 := pP_pm 4 _ (by decide)
  have h2 : pP 64 (Qn - 435937659163829742) = pmF Pn 64 64 (Qn - 435937659163829742) := pP_pm 64 _ (by decide +kernel)
  rw [sideE, h1, h2]
  decide +kernel
theorem n_side2 : sideE 16 256 435937659163829742 489630195527191823 = 1874012426199476279 := by
  have h1 : pP 16 489630195527191823 = pmF Pn 64 16 489630195527191823 := pP_pm 16 _ (by decide)
  have h2 : pP 256 (Qn - 435937659163829742) = pmF Pn 64 256 (Qn - 435937659163829742) := pP_pm 256 _ (by decide +kernel)
  rw [sideE, h1, h2]
  decide +kernel
theorem n_c2 : chalE 4 64 16 256 1107481360607456119 1874012426199476279 = 428074203899748599 := by
  rw [chalE, eqScal, text6 _ 4 64 16 256 1107481360607456119 1874012426199476279 (by decide) (by decide) (by decide) (by decide) (by decide) (by decide)]
  decide +kernel
theorem ex_no : verE 4 64 16 256 435937659163829742 489630195527191823 = false := by
  cases h : verE 4 64 16 256 435937659163829742 489630195527191823 with
  | false => rfl
  | true =>
    have h' := (verE_cast 4 64 16 256 435937659163829742 489630195527191823).1 h
    have e := h'.2.2.2.2.2.2
    rw [n_side1, n_side2, n_c2] at e
    exact absurd e (by decide)
theorem mem_of_pow (a n : Nat) (hn : n < 2 ^ 64) (h1 : 1 ≤ a) (h2 : a < Pn) (h : pmF Pn 64 a Qn = 1) : memN a := by
  have _ := hn
  exact ⟨h1, h2, by rw [← pmF_eq Pn 64 a Qn (by decide)]; exact h⟩
theorem mem4 : memN 4 := ⟨by decide, by decide, g_member⟩
theorem mem16 : memN 16 := mem_of_pow 16 0 (by decide) (by decide) (by decide) (by decide +kernel)
theorem ex_yes : verE 4 64 16 4096 435937659163829742 489630195527191823 = true := by
  have h := verE_with mem4 mem16 3 (nonceE 3 4 16)
  rw [ex_c, ex_z, n_a, n_b] at h
  exact h
end Go.Proofs.YtkhodajdionaaaaGreatDoor
