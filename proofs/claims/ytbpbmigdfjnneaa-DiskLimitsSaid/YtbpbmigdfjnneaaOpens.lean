/- The arguments of the laws, opened. -/
import Derived.Test.YtbpbmigdfjnneaaLawA
import Derived.ProofKit
import Derived.OpenShut
import Derived.ShutString
import Derived.ChangeOld
import Derived.Lib.SmallJoins
import Derived.Deep.Slices
namespace Go.Proofs.Ytbpbmigdfjnneaa
open Go.ChangeShapes Go.WideShapes Go.ChangeAt Go.RowKit Go.Deep Go.Joins

theorem own_knob : ownKnob Try.prog.godebug = none := by kernel_rfl
theorem laid_out : laidOutB Try.prog = true := by kernel_rfl

theorem add_plain (b off j : Nat) : (⟨b, off, none⟩ : Addr).add j = ⟨b, off + j, none⟩ := by unfold Addr.add; split <;> simp_all
/-- A cell that is there lies at a plain address. -/
theorem cell_spot {w : World} {a : Addr} {v : Value} (h : w.cell? (a.add 0) = some v) : a.spot = none := by
  have e : a.add 0 = a := by simp [Addr.add]
  rw [e] at h
  unfold World.cell? at h
  cases hs : a.spot with
  | none => rfl
  | some s =>
    rw [hs] at h
    split at h <;> simp at h

set_option maxRecDepth 100000
section
variable {H : Type} {enc : TypeId × Value → H} {w : World}

theorem open_ints_at {v : Value} {d : DataW H} {p : List MemPlace} {r : Reach} {b0 : Nat} (hv : Value.okWide Try.prog w r b0 23 v) (h : DataW.Trod enc Try.prog w 0 (fun _ => true) true 23 v d p) : ∃ zs, IntsAt w v zs ∧ ∀ z ∈ zs, -9223372036854775808 ≤ z ∧ z ≤ 9223372036854775807 := by
  obtain ⟨a, len, cap, rfl⟩ := okWide_slice Try.underlying23 hv
  obtain ⟨fuel, hf⟩ := h
  rcases open_ints Try.underlying23 Try.underlying3 (by kernel_rfl) hf with ⟨hcs, _⟩ | ⟨x, l, c, zs, hcs, _, hl, hm, hz, _, hcell, hwz⟩
  · simp [Value.cells] at hcs
    obtain ⟨rfl, rfl, rfl⟩ := hcs
    exact ⟨[], ⟨0, .inl ⟨rfl, _, rfl⟩⟩, by simp⟩
  · simp [Value.cells] at hcs
    obtain ⟨rfl, rfl, rfl⟩ := hcs
    have hz' : zs.length = cap := by simpa using hz
    refine ⟨zs.take len, ⟨cap, ?_⟩, fun z hz => bounds_i64 (hwz z (List.mem_of_mem_take hz))⟩
    by_cases h0 : len = 0
    · left; subst h0; exact ⟨by simp, _, rfl⟩
    · right
      have hc0 := hcell 0 (by omega)
      have hs := cell_spot hc0
      obtain ⟨b, off, s⟩ := x
      simp only at hs
      subst hs
      refine ⟨b, off, ?_, ?_⟩
      · simp; omega
      · intro j z hj
        rw [List.getElem?_take] at hj
        split at hj
        · rename_i hjl
          have := hcell j (by omega)
          rw [add_plain] at this
          rw [this]
          simp [List.getD, hj]
        · cases hj

theorem act_cells {n : Nat} {cs : List Value} {x : DataW H × List MemPlace} (h : DataW.trod enc Try.prog w 0 (fun _ => true) true n 33 cs = some x) : ∃ a : ActM, a.ok ∧ cs = [.int .i64 a.kind, .int .i64 a.off, .int .i64 a.n, .string a.text] := by
  obtain ⟨y0, y1, y2, y3, m, _, hl, h0, h1, h2, h3⟩ := trod_struct4 Try.underlying33 h
  have hl4 : cs.length = 4 := by rw [hl]; kernel_rfl
  have c3 : Try.prog.cellsOf 3 = 1 := by kernel_rfl
  have c9 : Try.prog.cellsOf 9 = 1 := by kernel_rfl
  match cs, hl4 with
  | [v0, v1, v2, v3], _ =>
    simp only [c3, c9, List.drop_zero, List.drop_succ_cons, List.take_succ_cons, List.take_zero] at h0 h1 h2 h3
    obtain ⟨k, e0, _, w0⟩ := DataW.trod_int Try.underlying3 h0
    obtain ⟨o, e1, _, w1⟩ := DataW.trod_int Try.underlying3 h1
    obtain ⟨q, e2, _, w2⟩ := DataW.trod_int Try.underlying3 h2
    obtain ⟨s, e3, _, w3⟩ := DataW.trod_string Try.underlying9 h3
    simp only [List.cons.injEq, and_true] at e0 e1 e2 e3
    subst e0 e1 e2 e3
    exact ⟨⟨k, o, q, s⟩, ⟨(bounds_i64 w0).1, (bounds_i64 w0).2, (bounds_i64 w1).1, (bounds_i64 w1).2, (bounds_i64 w2).1, (bounds_i64 w2).2, w3⟩, rfl⟩

theorem open_acts {v : Value} {d : DataW H} {p : List MemPlace} {r : Reach} {b0 : Nat} (hv : Value.okWide Try.prog w r b0 22 v) (h : DataW.Trod enc Try.prog w 0 (fun _ => true) true 22 v d p) : ∃ l, ActsAt w v l := by
  obtain ⟨a, len, cap, rfl⟩ := okWide_slice Try.underlying22 hv
  obtain ⟨fuel, hf⟩ := h
  have c4 : Try.prog.cellsOf 33 = 4 := by kernel_rfl
  rcases open_slice Try.underlying22 hf with ⟨hcs, _⟩ | ⟨x, l, c, m, n, D, Pl, hcs, _, hl, hm, hmm, _, hi⟩
  · simp [Value.cells] at hcs
    obtain ⟨rfl, rfl, rfl⟩ := hcs
    exact ⟨[], 0, by simp, by simp, by simp, .inl ⟨rfl, _, rfl⟩⟩
  · simp [Value.cells] at hcs
    obtain ⟨rfl, rfl, rfl⟩ := hcs
    simp only [if_true] at hmm
    rw [hmm] at hi
    have hA : ∀ i, i < len → ∃ act : ActM, act.ok ∧ (∃ v0, w.cell? (x.add (i * 4)) = some v0) ∧ w.cell? (x.add (i * 4)) = some (.int .i64 act.kind) ∧ w.cell? (x.add (i * 4 + 1)) = some (.int .i64 act.off) ∧ w.cell? (x.add (i * 4 + 2)) = some (.int .i64 act.n) ∧ w.cell? (x.add (i * 4 + 3)) = some (.string act.text) := by
      intro i hil
      obtain ⟨cs', hc, ht⟩ := hi i (by omega)
      rw [c4] at hc
      obtain ⟨act, hok, rfl⟩ := act_cells ht
      obtain ⟨_, _, hat⟩ := World.cells?_some hc
      have g0 := hat 0 (by omega)
      have g1 := hat 1 (by omega)
      have g2 := hat 2 (by omega)
      have g3 := hat 3 (by omega)
      rw [add_add] at g0 g1 g2 g3
      exact ⟨act, hok, ⟨_, g0⟩, g0, g1, g2, g3⟩
    have hdef : Nonempty ActM := ⟨⟨0, 0, 0, ByteArray.empty⟩⟩
    haveI : Inhabited ActM := ⟨⟨0, 0, 0, ByteArray.empty⟩⟩
    obtain ⟨f, hfA⟩ := choose_lt hA
    refine ⟨(List.range len).map f, cap, hm, by simp; exact hl, ?_, ?_⟩
    · intro act hact
      simp only [List.mem_map, List.mem_range] at hact
      obtain ⟨i, hil, rfl⟩ := hact
      exact (hfA i hil).1
    · by_cases h0 : len = 0
      · left; subst h0; exact ⟨by simp, _, rfl⟩
      · right
        obtain ⟨v0, hv0⟩ := (hfA 0 (by omega)).2.1
        rw [Nat.zero_mul] at hv0
        have hs := cell_spot hv0
        obtain ⟨b, off, s⟩ := x
        simp only at hs
        subst hs
        refine ⟨b, off, by simp [List.length_map, List.length_range], ?_⟩
        intro j act hj
        have hjl : j < len := by
          have := (List.getElem?_eq_some_iff.1 hj).1
          simpa using this
        simp only [List.getElem?_map, List.getElem?_range hjl, Option.map_some, Option.some.injEq] at hj
        subst hj
        obtain ⟨_, _, g0, g1, g2, g3⟩ := hfA j hjl
        simp only [add_plain] at g0 g1 g2 g3
        exact ⟨g0, g1, g2, g3⟩
end
end Go.Proofs.Ytbpbmigdfjnneaa
