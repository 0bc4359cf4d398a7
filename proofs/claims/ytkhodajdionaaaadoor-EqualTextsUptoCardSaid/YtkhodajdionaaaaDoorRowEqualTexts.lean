/- For every input sorteslaw06.EqualTexts returns true, and each argument reads afterwards as it read before; the listed package variables are tied to the program's text. Conditions: none beyond the card's own. -/
import Derived.Test.YtkhodajdionaaaaDoorOpnU
import Derived.Test.YtkhodajdionaaaaDoorLaidR
import Derived.Test.YtkhodajdionaaaaDoorLawE5m
namespace Go.Proofs.YtkhodajdionaaaaDoor
open Go.ChangeShapes Go.WideShapes Go.ChangeAt Go.RowKit
open Go.ChangeMaps (open_string shut_string)
set_option maxRecDepth 100000

theorem contract_EqualTexts (H : Type) (enc : TypeId × Value → H) (W : World) (base : Nat) (args : Array Value) (ds gs : List (DataW H)) (before : List MemPlace)
    (hval : ∀ (j : Nat) t v, Tryd.f5.params[j]? = some t → args[j]? = some v → Value.okWide Tryd.prog W .any base t v)
    (hW : DataW.Whole enc Tryd.prog Tryd.f5.params.toList Rows.equalTextsSpec.vars false W args.toList ds gs before)
    (_hwt : (DataW.weightsEach Tryd.prog (Tryd.f5.params.toList ++ (Rows.OpenSpec.upto Rows.equalTextsSpec).bare.plain.varTypes Tryd.prog) (ds ++ gs)).all (· ≤ reachBytes) = true)
    (hk : Rows.uptoSmall H (ds ++ gs) = true)
    (hL : laidMetH Tryd.prog laidL W) (hsh : W.ShapedOpen Tryd.prog) :
    Calls Tryd.prog 5 args W fun e W' => ∃ v, e = .returned v ∧ Rows.equalTextsSpec.post enc Tryd.prog Tryd.f5 false true false false W args v W' := by
  have htab := tabs_of_laid hL hsh
  have hW' := hW
  obtain ⟨p, q, hA0, hV, rfl, hfz, hnd⟩ := hW
  have hA : DataW.TrodAll enc Tryd.prog W 0 (fun _ => true) true Tryd.f5.params.toList args.toList ds p := hA0
  rw [Tryd.params5] at hA hval
  obtain ⟨v0, vs0, d0, ds0, p0, q0, hargs, rfl, rfl, h0, r0⟩ := trodAll_cons hA
  obtain ⟨v1, vs1, d1, ds1, p1, q1, rfl, rfl, rfl, h1, r1⟩ := trodAll_cons r0
  obtain ⟨v2, vs2, d2, ds2, p2, q2, rfl, rfl, rfl, h2, r2⟩ := trodAll_cons r1
  obtain ⟨rfl, rfl, rfl⟩ := trodAll_nil r2
  obtain rfl : args = #[v0, v1, v2] := by cases args; simp_all
  obtain ⟨rfl, rfl⟩ := trodVars_none hV
  have k0 := h0
  have lt0 : ∀ x ∈ p0, x.block < W.heap.size := by obtain ⟨m, hm⟩ := k0; exact DataW.trod_lt m _ _ _ hm
  obtain ⟨a0_0, a0_1, rfl, w0_0, w0_1⟩ := open_ints2 8 (by kernel_rfl) (hval 0 27 v0 rfl rfl) h0 (.inr ⟨_, Tryd.underlying27⟩)
  have k1 := h1
  have lt1 : ∀ x ∈ p1, x.block < W.heap.size := by obtain ⟨m, hm⟩ := k1; exact DataW.trod_lt m _ _ _ hm
  obtain ⟨a1, rfl, rfl, rfl, w1⟩ := open_string Tryd.underlying9 (hval 1 9 v1 rfl rfl) h1
  have hz1 : a1.size ≤ 1048576 := bulk_str hk (by simp)
  have k2 := h2
  have lt2 : ∀ x ∈ p2, x.block < W.heap.size := by obtain ⟨m, hm⟩ := k2; exact DataW.trod_lt m _ _ _ hm
  obtain ⟨a2_0, a2_1, rfl, w2_0, w2_1⟩ := open_u16s2 8 (by kernel_rfl) (hval 2 33 v2 rfl rfl) h2 (.inl ⟨_, _, Tryd.underlying33⟩)
  clear hA0
  refine (equalTexts_walk a0_0 a0_1 a1 a2_0 a2_1 W w0_0 w0_1 hz1 w2_0 w2_1 htab).mono fun e W' ⟨he, hu⟩ => ?_
  have bel := below_of_upd hu
  subst he
  exact ⟨_, rfl, _, _, _, [], _, [], hW', trodAll_mk1 (shut_bool Tryd.underlying4 _), (trodAll_cons_mk (Below.trod laid_out (by kernel_rfl) (of_decide_eq_true (by kernel_rfl)) k0 bel lt0) (trodAll_cons_mk (Below.trod laid_out (by kernel_rfl) (of_decide_eq_true (by kernel_rfl)) k1 bel lt1) (trodAll_cons_mk (Below.trod laid_out (by kernel_rfl) (of_decide_eq_true (by kernel_rfl)) k2 bel lt2) trodAll_mk0))), rfl, bel.frame _, fun h => by cases h⟩

theorem met_EqualTexts (os : Os) : laidMet Tryd.prog Rows.equalTextsUptoRow.laid ((World.doorLaid Tryd.prog 72 os).forCall (fun _ _ => 0) ⟨#[], #[.agg #[.int .i64 0, .int .i64 0], .string ByteArray.empty, .agg #[.int .u16 0, .int .u16 0]], []⟩).memory :=
  laidMet_of_run' 8 (by kernel_rfl) (by kernel_rfl)
theorem reads_EqualTexts (os : Os) {H : Type} (enc : TypeId × Value → H) : ∃ places, DataW.whole enc Tryd.prog ((World.doorLaid Tryd.prog 72 os).forCall (fun _ _ => 0) ⟨#[], #[.agg #[.int .i64 0, .int .i64 0], .string ByteArray.empty, .agg #[.int .u16 0, .int .u16 0]], []⟩).memory Tryd.f5.params.toList Rows.equalTextsSpec.vars false (#[.agg #[.int .i64 0, .int .i64 0], .string ByteArray.empty, .agg #[.int .u16 0, .int .u16 0]] : Array Value).toList 8 = some ([.agg [.lit (.int .i64 0), .lit (.int .i64 0)], .lit (.string []), .agg [.lit (.int .u16 0), .lit (.int .u16 0)]], [], places) :=
  ⟨[], by kernel_rfl⟩

theorem lifted_EqualTexts (os : Os) (started : os.Started) (H : Type) (enc : TypeId × Value → H) (F : Stop.Interp) :
    ReturnsInHanded {} Tryd.checked os 5 .any ((Rows.OpenSpec.upto Rows.equalTextsSpec).preRow enc Tryd.prog Tryd.f5 Rows.equalTextsUptoRow.domain false Rows.equalTextsUptoRow.laid) (((Rows.OpenSpec.upto Rows.equalTextsSpec).at F).post enc Tryd.prog Tryd.f5 false true false false) := by
  obtain ⟨places, hx⟩ := reads_EqualTexts os enc
  refine returnsInHanded_of_row (C := Tryd.checked) (s := Rows.OpenSpec.upto Rows.equalTextsSpec) own_knob started (by kernel_rfl) Tryd.func5
    (witness_row_atRef (enc := enc) (C := Tryd.checked) false (World.doorLaid Tryd.prog 72 os) #[.agg #[.int .i64 0, .int .i64 0], .string ByteArray.empty, .agg #[.int .u16 0, .int .u16 0]] rfl (by kernel_rfl) (by kernel_rfl) (by kernel_rfl)
      (OpenSpec.preRow_of_cond 8 hx (by kernel_rfl) (fun k hk => by cases hk; kernel_rfl) (by kernel_rfl) (met_EqualTexts os))) ?_
  intro W base args ds gs before hval hW _ hcond hwt hL hsh _
  exact contract_EqualTexts H enc W base args ds gs before hval hW hwt (hcond _ rfl) hL hsh

theorem said_EqualTexts : Rows.EqualTextsUptoSaid :=
  OpenClaim.holds_of_cond 5 Tryd.f5 rfl rfl rfl rfl rfl rfl rfl ⟨rfl, rfl, rfl, rfl, rfl⟩ rfl rfl rfl rfl rfl (by kernel_rfl) Tryd.func5 (by kernel_rfl)
    (of_decide_eq_true (by kernel_rfl)) (by unfold Func.isWrapper; first | (rw [if_pos (by decide +kernel)]; kernel_rfl) | (rw [if_neg (by decide +kernel)]; exact ⟨rfl, rfl⟩))
    (fun os started H enc _ F => by rw [OpenClaim.pre_eq_preRow]; exact lifted_EqualTexts os started H enc F)

theorem plain_EqualTexts (f : FuncId) (fn : Func) (hf : Tryd.pinned.checked.prog.funcNamed "sortes/sorteslaw06.EqualTexts" = some f) (hfn : Tryd.pinned.checked.prog.funcs[f]? = some fn) :
    Rows.equalTextsUptoCard.stood.looks = Tryd.pinned.checked.prog.looks [] ∧ ∀ (j : Nat) t, fn.params[j]? = some t → Tryd.pinned.checked.prog.wantsStandIn t = false := by
  obtain rfl : f = 5 := Option.some.inj ((show Tryd.prog.funcNamed "sortes/sorteslaw06.EqualTexts" = some 5 by kernel_rfl).symm.trans hf) |>.symm
  obtain rfl : fn = Tryd.f5 := (Option.some.inj (Tryd.func5.symm.trans hfn)).symm
  refine ⟨by kernel_rfl, fun j t ht => ?_⟩
  rw [Tryd.params5] at ht
  have hm := Array.mem_of_getElem? ht
  have hall : ∀ t ∈ [27, 9, 33], Tryd.prog.wantsStandIn t = false := by
    intro t ht
    have : ([27, 9, 33].all fun t => Tryd.prog.wantsStandIn t == false) = true := by kernel_rfl
    have := List.all_eq_true.1 this t ht
    simpa using this
  exact hall t (by simpa using hm)

theorem proved_EqualTexts : Rows.EqualTextsUptoCardSaid :=
  Claim7.holds_tied_plain_at .later [] _ _ _ _ said_EqualTexts (fun _ h => by cases h) (by kernel_rfl) (fun _ h => by cases h) equalTextsUpto_row_tie rfl ⟨rfl, rfl⟩ (by kernel_rfl) rfl plain_EqualTexts (by kernel_rfl)
#print axioms proved_EqualTexts
end Go.Proofs.YtkhodajdionaaaaDoor
