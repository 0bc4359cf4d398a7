/- sortesref25: Opens. -/
import Derived.Test.YtbpbmigdfjnneaaJRaw
import Derived.Deep.DeepCutAuto
namespace Go.Proofs.Ytbpbmigdfjnneaa
open Go.RowKit
set_option maxRecDepth 100000

/-- What Opens answers. -/
def opensB (R : RJ) (l : List (List UInt8)) : Bool := decide (l = R.L) || (R.broken && decide (R.maybe ≠ []) && decide (l = R.L ++ [R.maybe.getLastD []]))
def ROpensPost (rb : Nat) (l : List (List UInt8)) (x : Bool) (S : List Nat) (w : World) (e : Ending) (w' : World) : Prop := ∃ S', e = .returned (.bool x) ∧ RJAt w' rb ⟨l, [], false, spaceL l⟩ S' ∧ Upd S S' w w'

theorem row_at {w : World} {g : Nat} (h : w.heap[g]? = some (.cells #[] 9 (0, 0))) : StrRow w (.slice (some ⟨g, 0, none⟩) 0 0) [] :=
  ⟨rfl, .inr ⟨g, 0, #[], rfl, Nat.zero_le _, h, Nat.le_refl _, by simp, rfl, rfl⟩⟩
theorem one_at {w : World} {g : Nat} {r : ByteArray} (h : w.heap[g]? = some (.cells #[.string r] 9 (0, 0))) : StrsAt w (.slice (some ⟨g, 0, none⟩) 1 1) [bs r] := by
  refine ⟨1, by omega, by simp, .inr ⟨g, 0, rfl, fun j s hj => ?_⟩⟩
  match j, hj with
  | 0, hj => simp at hj; subst hj; rw [cell_of_row w g 0 _ _ _ h]; simp [strV_bs]

/-- append(append([]string{}, l...), r), both literals made first. -/
theorem append_both_at (w X : World) (ge gs : Nat) (vx : Value) (xs : List (List UInt8)) (r : ByteArray) (hx : StrsAt w vx xs) (hl : xs.length ≤ 16777216)
    (hX : Upd [] [] w X) (he : X.heap[ge]? = some (.cells #[] 9 (0, 0))) (hs : X.heap[gs]? = some (.cells #[.string r] 9 (0, 0))) (h1 : w.heap.size ≤ ge) (h3 : gs ≠ ge) :
    ∃ v1 w1 v2 w2, (Builtin.append_ #[61, 61] 61 #[.slice (some ⟨ge, 0, none⟩) 0 0, vx]).run Try.prog X = .ok v1 w1 ∧
      (Builtin.append_ #[61, 61] 61 #[v1, .slice (some ⟨gs, 0, none⟩) 1 1]).run Try.prog w1 = .ok v2 w2 ∧
      StrRow w2 v2 (xs ++ [bs r]) ∧ Upd [] [] w w1 ∧ Upd [] [] w w2 := by
  obtain ⟨v1, w1, r1, o1, u1⟩ := append_strs X _ vx [] xs (row_at he) (hx.same fun b _ _ _ _ hb => hX.block b hb (by simp)) (by simp; omega)
  have hs1 := (u1.block gs (blk_lt hs) (by simp [foot, Value.ownBlock]; exact h3)).trans hs
  obtain ⟨v2, w2, r2, o2, u2⟩ := append_strs w1 v1 _ _ [bs r] o1 (one_at hs1) (by simp; omega)
  have key : ∀ {Y : World} {T' : List Nat}, Upd (foot (.slice (some ⟨ge, 0, none⟩) 0 0)) T' X Y → Upd [] [] w Y := fun hu =>
    ⟨hu.os.trans hX.os, hu.tape.trans hX.tape, hu.output.trans hX.output, Nat.le_trans hX.size hu.size, fun k hk _ => by
      rw [hu.block k (Nat.lt_of_lt_of_le hk hX.size) (by simp [foot, Value.ownBlock]; omega)]; exact hX.block k hk (by simp), fun k hk => by simp at hk⟩
  exact ⟨v1, w1, v2, w2, r1, r2, o2, key u1, key (u1.trans u2)⟩

theorem append_both_a (w : World) (vx : Value) (xs : List (List UInt8)) (r : ByteArray) (hx : StrsAt w vx xs) (hl : xs.length ≤ 16777216) :
    ∃ v1 w1 v2 w2, (Builtin.append_ #[61, 61] 61 #[.slice (some ⟨w.heap.size, 0, none⟩) 0 0, vx]).run Try.prog (w.alloc (.cells #[] 9)) = .ok v1 w1 ∧
      (Builtin.append_ #[61, 61] 61 #[v1, .slice (some ⟨w1.heap.size, 0, none⟩) 1 1]).run Try.prog (w1.alloc (.cells #[.string r] 9)) = .ok v2 w2 ∧
      StrRow w2 v2 (xs ++ [bs r]) ∧ Upd [] [] w w1 ∧ Upd [] [] w w2 := by
  obtain ⟨v1, w1, h1, r1, u1⟩ := append_strs _ _ vx [] xs (StrRow.empty_row w) (hx.alloc _) (by simp; omega)
  obtain ⟨v2, w2, h2, r2, u2⟩ := append_str w1 v1 _ r r1 (by simp; omega)
  have key : ∀ {Y : World} {T' : List Nat}, Upd (foot (.slice (some ⟨w.heap.size, 0, none⟩) 0 0)) T' (w.alloc (.cells #[] 9)) Y → Upd [] [] w Y := fun hu =>
    ⟨hu.os, hu.tape, hu.output, by have := hu.size; simp at this; omega, fun k hk _ => by
      rw [hu.block k (by simp; omega) (by simp [foot, Value.ownBlock]; omega)]; exact Below.heap_alloc _ _ _ hk, fun k hk => by simp at hk⟩
  exact ⟨v1, w1, v2, w2, h1, h2, r2, key u1, key (u1.trans u2)⟩

theorem space_take (l : List (List UInt8)) (h : ∀ s, s ∈ l → s.length ≤ 16777216) : ∀ k, spaceL (l.take k) ≤ 16777232 * k
  | 0 => by simp [spaceL]
  | k + 1 => by
    have ih := space_take l h k
    by_cases hk : k < l.length
    · rw [List.take_add_one, List.getElem?_eq_getElem hk, Option.toList_some, spaceL_snoc]
      have := h _ (List.getElem_mem hk)
      omega
    · rw [List.take_of_length_le (by omega)] at ih ⊢; omega
theorem getLastD_at (l : List (List UInt8)) (m : Nat) (s : List UInt8) (h : l.length = m + 1) (hs : l[m]? = some s) : l.getLastD [] = s := by
  rw [List.getLastD_eq_getLast?, List.getLast?_eq_getElem?, h, Nat.add_sub_cancel, hs]; rfl

set_option maxHeartbeats 1600000 in
theorem Opens_any (rb : Nat) (R : RJ) (S : List Nat) (vx : Value) (l : List (List UInt8)) (w : World) (x : Bool) (h : RJAt w rb R S) (hx : StrsAt w vx l) (hxs : ∀ b off n cap, vx = .slice (some ⟨b, off, none⟩) n cap → b ∉ S) (hl : l.length ≤ 16777216) (hL : R.L.length ≤ 16777216) (hM : R.maybe.length ≤ 16777216)
    (hs : ∀ s, s ∈ l → s.length ≤ 16777216) (ho : opensB R l = x) :
    Calls Try.prog 43 #[.pointer (some ⟨rb, 0, none⟩), vx] w (ROpensPost rb l x S w) := by
  obtain ⟨vl, vm, hi, rfl⟩ := h.is
  obtain ⟨aox, capx, rfl, hcx, hmx⟩ := hx.slice
  have cl : w.cell? ⟨rb, 0, none⟩ = some vl := cell_of_row _ rb 0 _ _ _ hi.1
  have cm : w.cell? ⟨rb, 1, none⟩ = some vm := cell_of_row _ rb 1 _ _ _ hi.1
  have c2 : w.cell? ⟨rb, 2, none⟩ = some (.bool R.broken) := cell_of_row w rb 2 _ _ _ hi.1
  have hSame := Same_any _ _ l R.L w hx hi.2.1.strs
  have HSM := Lib.hid hSame
  obtain ⟨aol, capl, rfl, _, _⟩ := row_slice hi.2.1
  obtain ⟨aom, capm, rfl, _, _⟩ := row_slice hi.2.2.1
  have HXS := Lib.hid hxs
  have HS := Lib.hid hs
  have HO := Lib.hid ho
  have HI := Lib.hid hi
  have HX := Lib.hid hx
  clear hSame h hxs hs ho hi hx
  go_enter Try.func43, Try.ntmps43
  go_wp2_with fail
  refine HSM.out.mono ?_
  rintro e w' ⟨n1, rfl, rfl⟩
  obtain ⟨q, hq⟩ : ∃ q, q = decide (l = R.L) := ⟨_, rfl⟩
  rw [← hq]
  have HQ := Lib.hid hq
  clear hq
  obtain ⟨br, hbr⟩ : ∃ br, br = R.broken := ⟨_, rfl⟩
  rw [← hbr] at c2
  have HBR := Lib.hid hbr
  clear hbr
  obtain ⟨tt, htt⟩ : ∃ tt, tt = (!q && (br && decide (0 < R.maybe.length))) := ⟨_, rfl⟩
  have HTT := Lib.hid htt
  clear htt
  go_upto_region 2 with (fail)
  go_cut [28] (fun s28 wx => s28 = .bool tt ∧ wx = w.drewN n1)
  case first =>
    cases q with
    | true =>
      go_wp2_with fail
      go_meet
      exact ⟨by rw [HTT.out]; rfl, rfl⟩
    | false =>
      cases br with
      | false =>
        go_wp2_with fail
        go_meet
        exact ⟨by rw [HTT.out]; rfl, rfl⟩
      | true =>
        have e1 : decide (0 < R.maybe.length) = tt := by rw [HTT.out]; rfl
        cases tt with
        | true =>
          go_wp2_with fail
          go_meet
          exact ⟨rfl, rfl⟩
        | false =>
          go_wp2_with fail
          go_meet
          exact ⟨rfl, rfl⟩
  case rest =>
    obtain ⟨rfl, rfl⟩ := hcut
    go_upto_if 28 with (fail)
    go_cut [5] (fun s5 wx => s5 = .bool x ∧ Upd [] [] w wx)
    case first =>
      cases tt with
      | false =>
        have hqx : q = x := by
          rw [← HO.out]
          unfold opensB
          rw [← HQ.out, ← HBR.out]
          have h := HTT.out
          cases q with
          | true => rfl
          | false =>
            cases br with
            | false => rfl
            | true =>
              have h2 : R.maybe = [] := by
                have : decide (0 < R.maybe.length) = false := h.symm
                exact List.eq_nil_of_length_eq_zero (by simpa using this)
              rw [h2]; rfl
        subst hqx
        go_wp2_with fail
        go_meet
        exact ⟨rfl, (Upd.refl _ _).drewN n1⟩
      | true =>
        obtain ⟨m, hm⟩ : ∃ m, R.maybe.length = m + 1 := by
          have h := HTT.out
          cases q with
          | true => cases h
          | false =>
            cases br with
            | false => cases h
            | true =>
              have h2 : 0 < R.maybe.length := by simpa using h.symm
              exact ⟨R.maybe.length - 1, by omega⟩
        obtain ⟨s, hs⟩ : ∃ s, R.maybe[m]? = some s := ⟨_, List.getElem?_eq_getElem (by omega)⟩
        have hx2 : x = decide (l = R.L ++ [s]) := by
          rw [← HO.out]
          unfold opensB
          rw [← HQ.out, ← HBR.out, getLastD_at R.maybe m s hm hs]
          have h := HTT.out
          cases q with
          | true => cases h
          | false =>
            cases br with
            | false => cases h
            | true =>
              have h3 : decide (R.maybe ≠ []) = true := decide_eq_true (fun e => by rw [e] at hm; simp at hm)
              rw [h3]; rfl
        obtain ⟨capq, _, _, ⟨h0, _⟩ | ⟨gm, om, hve, hcm⟩⟩ := HI.out.2.2.1.strs
        · rw [h0] at hm; simp at hm
        cases hve
        obtain ⟨y, hy⟩ : ∃ y : ByteArray, y = ⟨s.toArray⟩ := ⟨_, rfl⟩
        have hyb : bs y = s := by rw [hy]; rfl
        have cy : w.cell? ⟨gm, om + m, none⟩ = some (.string y) := by rw [hy]; exact hcm m s hs
        rw [← hyb] at hx2
        rw [hm] at cm HI
        have hml : m < 16777216 := by omega
        obtain ⟨W0, hW0⟩ : ∃ W0, W0 = w.drewN (n1 + 1) := ⟨_, rfl⟩
        have hu0 : Upd [] [] w W0 := by rw [hW0]; exact (Upd.refl _ _).drewN (n1 + 1)
        have hL0 : StrsAt W0 (.slice aol R.L.length capl) R.L := HI.out.2.1.strs.same fun b _ _ _ _ hb => hu0.block b hb (by simp)
        have hl0 : StrsAt W0 (.slice aox l.length capx) l := HX.out.same fun b _ _ _ _ hb => hu0.block b hb (by simp)
        obtain ⟨v1a, w1a, v2a, w2a, ra1, ra2, oa, ua1, ua2⟩ := append_both_a W0 _ R.L y hL0 hL
        obtain ⟨v1b, w1b, v2b, w2b, rb1, rb2, ob, ub1, ub2⟩ := append_both_at W0 ((W0.alloc (.cells #[.string y] 9)).alloc (.cells #[] 9)) (W0.heap.size + 1) W0.heap.size _ R.L y hL0 hL (((Upd.refl _ _).alloc _).alloc _)
          (by have := heap_alloc_new (W0.alloc (.cells #[.string y] 9)) (.cells #[] 9); simpa using this) (by rw [Below.heap_alloc _ _ _ (by simp)]; exact heap_alloc_new _ _) (by omega) (by omega)
        obtain ⟨v1c, w1c, v2c, w2c, rc1, rc2, oc, uc1, uc2⟩ := append_both_at W0 ((W0.alloc (.cells #[] 9)).alloc (.cells #[.string y] 9)) W0.heap.size (W0.heap.size + 1) _ R.L y hL0 hL (((Upd.refl _ _).alloc _).alloc _)
          (by rw [Below.heap_alloc _ _ _ (by simp)]; exact heap_alloc_new _ _) (by have := heap_alloc_new (W0.alloc (.cells #[] 9)) (.cells #[.string y] 9); simpa using this) (by omega) (by omega)
        have same : ∀ wz vz, Upd [] [] W0 wz → StrRow wz vz (R.L ++ [bs y]) → Calls Try.prog 44 #[.slice aox l.length capx, vz] wz (DrawnTo (.bool x) wz) := fun wz vz hz hr => by
          rw [hx2]; exact Same_any _ _ _ _ wz (hl0.same fun b _ _ _ _ hb => hz.block b hb (by simp)) hr.strs
        have sa := same w2a v2a ua2 oa
        have sb := same w2b v2b ub2 ob
        have sc := same w2c v2c uc2 oc
        have cells : ∀ wz, Upd [] [] W0 wz → wz.cell? ⟨rb, 0, none⟩ = some (.slice aol R.L.length capl) ∧ wz.cell? ⟨rb, 1, none⟩ = some (.slice (some ⟨gm, om, none⟩) (m + 1) capm) ∧ wz.cell? ⟨gm, om + m, none⟩ = some (.string y) := fun wz hz => by
          have hz' := hu0.trans hz
          exact ⟨(hz'.cell (p := ⟨rb, 0, none⟩) (World.block_lt_of_cell? _ _ cl) (by simp)).trans cl, (hz'.cell (p := ⟨rb, 1, none⟩) (World.block_lt_of_cell? _ _ cm) (by simp)).trans cm, (hz'.cell (p := ⟨gm, om + m, none⟩) (World.block_lt_of_cell? _ _ cy) (by simp)).trans cy⟩
        have k0 := cells W0 (Upd.refl _ _)
        have k1 := cells w1a ua1
        have k2 := cells w1b ub1
        have k3 := cells w1c uc1
        have k4 := cells w2a ua2
        have k5 := cells w2b ub2
        have k6 := cells w2c uc2
        have k7 := cells _ ((Upd.refl [] W0).alloc (.cells #[] 9))
        have k8 := cells _ ((Upd.refl [] W0).alloc (.cells #[.string y] 9))
        have k9 := cells _ (((Upd.refl [] W0).alloc (.cells #[] 9)).alloc (.cells #[.string y] 9))
        have k10 := cells _ (((Upd.refl [] W0).alloc (.cells #[.string y] 9)).alloc (.cells #[] 9))
        have k11 := cells _ (ua1.alloc (.cells #[.string y] 9))
        have i1 : IntKind.i64.wrap ((m : Int) + 1 - 1) = (m : Int) := by rw [IntWalk.i64_in _ (by omega)]; omega
        have i2 : IntKind.i64.wrap (m : Int) = (m : Int) := IntWalk.i64_in _ (by omega)
        have i3 : IntKind.i64.wrap (((m + 1 : Nat) : Int) - 1) = (m : Int) := by rw [IntWalk.i64_in _ (by omega)]; omega
        have HU := Lib.hid (And.intro (hu0.trans ua2) (And.intro (hu0.trans ub2) (hu0.trans uc2)))
        have KS := Lib.hid (And.intro k0 (And.intro k1 (And.intro k2 (And.intro k3 (And.intro k4 (And.intro k5 (And.intro k6 (And.intro k7 (And.intro k8 (And.intro k9 (And.intro k10 k11)))))))))))
        have HRA1 := Lib.hid ra1
        have HRA2 := Lib.hid ra2
        have HRB1 := Lib.hid rb1
        have HRB2 := Lib.hid rb2
        have HRC1 := Lib.hid rc1
        have HRC2 := Lib.hid rc2
        have HSA := Lib.hid sa
        have HSB := Lib.hid sb
        have HSC := Lib.hid sc
        clear k0 k1 k2 k3 k4 k5 k6 k7 k8 k9 k10 k11 cells same sa sb sc ra1 ra2 rb1 rb2 rc1 rc2 ua1 ua2 ub1 ub2 uc1 uc2 oa ob oc hL0 hl0 hu0 hx2 hs hcm hyb hm HX HI HTT hy
        subst hW0
        simp only [World.heap_drewN] at HRA1 HRB1 HRB2 HRC1 HRC2
        have hm0 : (0 : Int) ≤ (m : Int) := by omega
        have hm1 : (m : Int) < (m : Int) + 1 := by omega
        go_wp2_with fail
        go_region_held3 (fun wp => wp.cell? ⟨rb, 0, none⟩ = some (.slice aol R.L.length capl) ∧ wp.cell? ⟨rb, 1, none⟩ = some (.slice (some ⟨gm, om, none⟩) (m + 1) capm) ∧ wp.cell? ⟨gm, om + m, none⟩ = some (.string y))
          (first | exact KS.out.1 | exact KS.out.2.1 | exact KS.out.2.2.1 | exact KS.out.2.2.2.1 | exact KS.out.2.2.2.2.1 | exact KS.out.2.2.2.2.2.1 | exact KS.out.2.2.2.2.2.2.1 | exact KS.out.2.2.2.2.2.2.2.1 | exact KS.out.2.2.2.2.2.2.2.2.1 | exact KS.out.2.2.2.2.2.2.2.2.2.1 | exact KS.out.2.2.2.2.2.2.2.2.2.2.1 | exact KS.out.2.2.2.2.2.2.2.2.2.2.2 | assumption | go_keep)
          (first
            | ((with_reducible show (if _ then Oper.wp _ _ _ (World.alloc (w.drewN (n1 + 1)) (.cells #[] 9)) _ _ else _)); refine step_append_run _ rfl (.tmp 30) (.tmp 34) 61 61 rfl _ _ _ _ rfl rfl HRA1.out ?_)
            | ((with_reducible show (if _ then Oper.wp _ _ _ (World.alloc (World.alloc (w.drewN (n1 + 1)) (.cells #[.string y] 9)) (.cells #[] 9)) _ _ else _)); refine step_append_run _ rfl (.tmp 30) (.tmp 34) 61 61 rfl _ _ _ _ rfl rfl HRB1.out ?_)
            | ((with_reducible show (if _ then Oper.wp _ _ _ (World.alloc (World.alloc (w.drewN (n1 + 1)) (.cells #[] 9)) (.cells #[.string y] 9)) _ _ else _)); refine step_append_run _ rfl (.tmp 30) (.tmp 34) 61 61 rfl _ _ _ _ rfl rfl HRC1.out ?_)
            | ((with_reducible show (if _ then Oper.wp _ _ _ (World.alloc w1a (.cells #[.string y] 9)) _ _ else _)); refine step_append_run _ rfl (.tmp 35) (.tmp 48) 61 61 rfl _ _ _ _ rfl rfl HRA2.out ?_)
            | ((with_reducible show (if _ then Oper.wp _ _ _ w1b _ _ else _)); refine step_append_run _ rfl (.tmp 35) (.tmp 48) 61 61 rfl _ _ _ _ rfl rfl HRB2.out ?_)
            | ((with_reducible show (if _ then Oper.wp _ _ _ w1c _ _ else _)); refine step_append_run _ rfl (.tmp 35) (.tmp 48) 61 61 rfl _ _ _ _ rfl rfl HRC2.out ?_)
            | (go_at_call 44; ((with_reducible refine HSA.out.mono ?_); rintro e wq ⟨nq, rfl, rfl⟩))
            | (go_at_call 44; ((with_reducible refine HSB.out.mono ?_); rintro e wq ⟨nq, rfl, rfl⟩))
            | (go_at_call 44; ((with_reducible refine HSC.out.mono ?_); rintro e wq ⟨nq, rfl, rfl⟩)))
        all_goals
          go_wp2_with fail
          go_meet
          first
            | exact ⟨rfl, HU.out.1.drewN _⟩
            | exact ⟨rfl, HU.out.2.1.drewN _⟩
            | exact ⟨rfl, HU.out.2.2.drewN _⟩
    case rest =>
      obtain ⟨rfl, hu1⟩ := hcut
      have hi1 : RJIs wc rb R _ _ := HI.out.same (fun k hk => hu1.block k (HI.out.lt k hk) (by simp))
      have hx1 : StrsAt wc (.slice aox l.length capx) l := HX.out.same fun b _ _ _ _ hb => hu1.block b hb (by simp)
      obtain ⟨v1, w1, r1, o1, u1⟩ := append_strs _ _ _ [] l (StrRow.empty_row wc) (hx1.alloc _) (by simp; omega)
      have u1' : Upd [] (foot v1) wc w1 := ⟨u1.os, u1.tape, u1.output, by have := u1.size; simp at this; omega, fun k hk _ => by
        rw [u1.block k (by simp; omega) (by simp [foot, Value.ownBlock]; omega)]; exact Below.heap_alloc _ _ _ hk, fun k hk => by
        rcases u1.new k hk with g | g
        · right; simp [foot, Value.ownBlock] at g; omega
        · right; simp at g; omega⟩
      obtain ⟨hi2, hu2⟩ := hi1.setL (by simpa using o1) (u1'.mono (T := foot (.slice aol R.L.length capl)) (fun k hk => by simp at hk) (fun k hk => .inl hk))
      have hi3 := hi2.field { R with L := l, broken := false } 2 (.bool false) rfl rfl rfl
      have hu3 := hu2.setCell (p := ⟨rb, 2, none⟩) (by simp) (.bool false)
      obtain ⟨hi4, hu4⟩ := hi3.setM (vm' := .slice none 0 0) (L' := []) (strRow_nil _) ((Upd.refl _ _).mono (T := foot (.slice aom R.maybe.length capm)) (fun _ h => h) (fun k hk => by simp [foot, Value.ownBlock] at hk))
      have hi5 := hi4.field ⟨l, [], false, 0⟩ 3 (.int .i64 0) rfl rfl rfl
      have hu5 := ((hu3.trans hu4).setCell (p := ⟨rb, 3, none⟩) (by simp) (.int .i64 0))
      have hb1 : w1.heap[rb]? = _ := (u1'.block rb (blk_lt hi1.1) (by simp)).trans hi1.1
      have q0 := cell_of_row w1 rb 0 _ _ _ hb1
      have q0' := frozen_of_row w1 rb 0 _ _ hb1
      have q2 := cell_of_row _ rb 2 _ _ _ hi2.1
      have q2' := frozen_of_row _ rb 2 _ _ hi2.1
      have q1 := cell_of_row _ rb 1 _ _ _ hi3.1
      have q1' := frozen_of_row _ rb 1 _ _ hi3.1
      have q3 := cell_of_row _ rb 3 _ _ _ hi4.1
      have q3' := frozen_of_row _ rb 3 _ _ hi4.1
      obtain ⟨ao1, cap1, hv1, _, _⟩ := row_slice o1
      simp only [List.nil_append] at hv1
      subst hv1
      have huT := (hu1.mono (T := rb :: (foot (.slice aol R.L.length capl) ++ foot (.slice aom R.maybe.length capm))) (fun k hk => by simp at hk) (fun k hk => .inr hk)).trans hu5
      have HR1 := Lib.hid r1
      have HI5 := Lib.hid hi5
      have HUT := Lib.hid huT
      clear hi1 hi2 hi3 hi4 hi5 hu1 hu2 hu3 hu4 hu5 huT r1 o1 u1 u1' hb1 hx1 HSM HTT HQ HBR cl cm c2
      go_wp2_with (at_builtin; refine wpList_append_run _ rfl _ _ _ _ rfl _ _ _ _ rfl rfl HR1.out ?_)
      generalize (((w1.setCell ⟨rb, 0, none⟩ (.slice ao1 l.length cap1)).setCell ⟨rb, 2, none⟩ (.bool false)).setCell ⟨rb, 1, none⟩ (.slice none 0 0)).setCell ⟨rb, 3, none⟩ (.int .i64 0) = w5 at *
      clear q0 q0' q1 q1' q2 q2' q3 q3' HR1
      go_loopw [6] (fun i wr => ∃ k : Nat, i = .int .i64 (k : Int) ∧ k ≤ l.length ∧ RJIs wr rb ⟨l, [], false, spaceL (l.take k)⟩ (.slice ao1 l.length cap1) (.slice none 0 0) ∧
        Upd (rb :: (foot (.slice aol R.L.length capl) ++ foot (.slice aom R.maybe.length capm))) (rb :: (foot (.slice ao1 l.length cap1) ++ foot (.slice none 0 0))) w wr) (fun i _ => l.length - (intOf i).toNat)
      case atStart => exact ⟨0, rfl, Nat.zero_le _, HI5.out, HUT.out⟩
      case round =>
        obtain ⟨k, rfl, hk, hik, huk⟩ := hrel
        have hspk : spaceL (l.take k) ≤ 16777232 * k := space_take l HS.out k
        by_cases hlt : k < l.length
        · obtain ⟨s, hs⟩ : ∃ s, l[k]? = some s := ⟨_, List.getElem?_eq_getElem hlt⟩
          obtain ⟨cq, _, _, ⟨h0, _⟩ | ⟨bq, oq, hve, hcq⟩⟩ := HX.out
          · rw [h0] at hlt; simp at hlt
          have hb1 := HXS.out bq oq _ cq hve
          cases hve
          have hcs := hcq k s hs
          have hcs2 := (huk.cell (p := ⟨bq, oq + k, none⟩) (World.block_lt_of_cell? _ _ hcs) hb1).trans hcs
          obtain ⟨y, hy⟩ : ∃ y : ByteArray, y = ⟨s.toArray⟩ := ⟨_, rfl⟩
          have cy : wr.cell? ⟨bq, oq + k, none⟩ = some (.string y) := by rw [hy]; exact hcs2
          have hyl : y.size ≤ 16777216 := by rw [hy]; exact HS.out s (List.mem_of_getElem? hs)
          have c3 : wr.cell? ⟨rb, 3, none⟩ = some (.int .i64 (spaceL (l.take k) : Int)) := cell_of_row _ rb 3 _ _ _ hik.1
          have f3 : wr.frozen? ⟨rb, 3, none⟩ = false := frozen_of_row _ rb 3 _ _ hik.1
          have hsum : spaceL (l.take (k + 1)) = spaceL (l.take k) + y.size + 16 := by
            rw [List.take_add_one, hs, Option.toList_some, spaceL_snoc, hy]; rfl
          have hik2 := hik.field ⟨l, [], false, spaceL (l.take (k + 1))⟩ 3 (.int .i64 ((spaceL (l.take k) : Int) + (y.size : Int) + 16)) (by rw [hsum]; simp) rfl rfl
          have huk2 := huk.setCell (p := ⟨rb, 3, none⟩) (by simp) (.int .i64 ((spaceL (l.take k) : Int) + (y.size : Int) + 16))
          have HIK := Lib.hid hik2
          have HUK := Lib.hid huk2
          have hk0 : (0 : Int) ≤ (k : Int) := by omega
          have hk1 : (k : Int) < (l.length : Int) := by omega
          have hne : rb ≠ bq := fun e => hb1 (by rw [e]; simp)
          have j1 : IntKind.i64.wrap ((spaceL (l.take k) : Int) + (y.size : Int)) = (spaceL (l.take k) : Int) + (y.size : Int) := IntWalk.i64_in _ (by omega)
          have j2 : IntKind.i64.wrap ((spaceL (l.take k) : Int) + (y.size : Int) + 16) = (spaceL (l.take k) : Int) + (y.size : Int) + 16 := IntWalk.i64_in _ (by omega)
          clear hik huk hs hcq hcs hcs2 hb1 hy hsum hik2 huk2
          generalize spaceL (l.take k) = sp at *
          go_wp2_with fail
          go_region
          all_goals
            clear j1 j2
            go_wp2_with fail
            go_roundw
            case rel => exact ⟨k + 1, by go_num, by omega, RJIs.same HIK.out (fun _ _ => rfl), HUK.out.drew⟩
            case measure => simp [intOf]; omega
        · obtain rfl : k = l.length := by omega
          rw [List.take_length] at hik
          go_wp2_with fail
          go_ret
          exact ⟨_, rfl, hik.at, huk⟩
end Go.Proofs.Ytbpbmigdfjnneaa
