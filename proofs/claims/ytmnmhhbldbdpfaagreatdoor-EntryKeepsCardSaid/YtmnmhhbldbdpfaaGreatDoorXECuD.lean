/- sortesref22.Read. -/
import Derived.Test.YtmnmhhbldbdpfaaGreatDoorXECuC
import Derived.Test.YtmnmhhbldbdpfaaGreatDoorGG
namespace Go.Proofs.YtmnmhhbldbdpfaaGreatDoor
open Go.RowKit
set_option maxRecDepth 100000

theorem readV_true {l : List UInt8} {a b : Int} (h : readV l = (a, b, true)) : l = pairL a b := by
  unfold readV at h
  cases e : readL l with
  | none => rw [e] at h; simp at h
  | some p =>
    obtain ⟨x, y⟩ := p
    rw [e] at h
    simp at h
    obtain ⟨rfl, rfl⟩ := h
    exact (readL_some e).2.2
theorem readV_pairs {a b : Int} (ha : i64in a) (hb : i64in b) : readV (pairL a b) = (a, b, true) := by rw [readV, readL_pair ha hb]
theorem cuRel_hit {c : UInt8} {s l : ByteArray} {a a' : Nat} {bad b : Bool} (h : cuRel c s a bad l a' b) {A R : List UInt8} (hA : c ∉ A) (e : (bs s).drop a = A ++ c :: R) : bs l = A ∧ (bs s).drop a' = R ∧ b = bad := by
  rcases h with ⟨h1, _⟩ | ⟨h1, h2, h3⟩
  · exact (not_mem_drop h1 e).elim
  · obtain ⟨q1, q2⟩ := split32 h2 hA (h1.symm.trans e)
    exact ⟨q1, q2, h3⟩
theorem cuRel_good {c : UInt8} {s l : ByteArray} {a a' : Nat} {bad b : Bool} (h : cuRel c s a bad l a' b) (hb : b = false) : bad = false ∧ (bs s).drop a = bs l ++ c :: (bs s).drop a' := by
  rcases h with ⟨_, _, _, h4⟩ | ⟨h1, _, h3⟩
  · rw [h4] at hb; cases hb
  · exact ⟨h3.symm.trans hb, h1⟩
/-- The first two words. -/
theorem chainA {s l1 l2 : ByteArray} {a1 a2 : Nat} {b1 b2 ok1 : Bool} {ra rb : Int} (H1 : cuRel 32 s 0 false l1 a1 b1) (HV : readV (bs l1) = (ra, rb, ok1)) (H2 : cuRel 32 s a1 b1 l2 a2 b2) {y : Rc} (hy : y.ok) (e : bs s = textL y) :
    ok1 = true ∧ bs l2 = wRc ∧ b2 = false ∧ ra = y.r ∧ rb = y.s ∧ wRc ++ 32 :: (bs s).drop a2 = bodyL y := by
  obtain ⟨q1, q2, q3⟩ := cuRel_hit H1 (A := pairL y.r y.s) (R := bodyL y) (pairL_no32 _ _) (by rw [List.drop_zero]; exact e)
  rw [q1, readV_pairs hy.2.2.2.2.2.2.1 hy.2.2.2.2.2.2.2] at HV
  simp only [Prod.mk.injEq] at HV
  obtain ⟨v1, v2, v3⟩ := HV
  have q2' := q2
  unfold bodyL at q2'
  obtain ⟨p1, p2, p3⟩ := cuRel_hit H2 (by decide) q2'
  exact ⟨v3.symm, p1, p3.trans q3, v1.symm, v2.symm, by rw [p2]; rfl⟩
/-- The other words. -/
theorem chainB {s : ByteArray} {a2 a3 a4 a5 a6 a7 a8 : Nat} {b2 b3 b4 b5 b6 b7 b8 : Bool} {k m z : Int} {h1 h2 h3 : List UInt8} (H3 : cuNum 32 s a2 b2 k a3 b3) (H4 : cuNum 32 s a3 b3 m a4 b4) (H5 : cuNum 32 s a4 b4 z a5 b5) (H6 : cuHsh s a5 b5 h1 a6 b6) (H7 : cuHsh s a6 b6 h2 a7 b7) (H8 : cuHsh s a7 b7 h3 a8 b8)
    {y : Rc} (hy : y.ok) (e : wRc ++ 32 :: (bs s).drop a2 = bodyL y) (hb : b2 = false) : b8 = false := by
  obtain ⟨y1, y2, y3, y4, y5, y6, _, _⟩ := hy
  unfold bodyL at e
  have e2 := (split32 (by decide) (by decide) e).2
  obtain ⟨_, e3, p3⟩ := H3.2 _ _ y1 (itoa_no32 _) e2
  obtain ⟨_, e4, p4⟩ := H4.2 _ _ y2 (itoa_no32 _) e3
  obtain ⟨_, e5, p5⟩ := H5.2 _ _ y3 (itoa_no32 _) e4
  obtain ⟨_, e6, p6⟩ := H6.2 _ _ y4 e5
  obtain ⟨_, e7, p7⟩ := H7.2 _ _ y5 e6
  obtain ⟨_, e8, p8⟩ := H8.2 _ _ y6 e7
  rw [p8, p7, p6, p5, p4, p3, hb]
/-- What was read is the text. -/
theorem chainC {s l1 l2 d : ByteArray} {a1 a2 a3 a4 a5 a6 a7 a8 : Nat} {b1 b2 b3 b4 b5 b6 b7 b8 : Bool} {ra rb k m z : Int} {h1 h2 h3 : List UInt8} (H1 : cuRel 32 s 0 false l1 a1 b1) (HV : readV (bs l1) = (ra, rb, true)) (H2 : cuRel 32 s a1 b1 l2 a2 b2) (hl : bs l2 = wRc)
    (H3 : cuNum 32 s a2 b2 k a3 b3) (H4 : cuNum 32 s a3 b3 m a4 b4) (H5 : cuNum 32 s a4 b4 z a5 b5) (H6 : cuHsh s a5 b5 h1 a6 b6) (H7 : cuHsh s a6 b6 h2 a7 b7) (H8 : cuHsh s a7 b7 h3 a8 b8) (hb : b8 = false) (hd : bs d = (bs s).drop a8) :
    bs s = textL ⟨k, m, z, d, h1, h2, h3, ra, rb⟩ := by
  obtain ⟨p7, e7⟩ := H8.1 hb
  obtain ⟨p6, e6⟩ := H7.1 p7
  obtain ⟨p5, e5⟩ := H6.1 p6
  obtain ⟨p4, e4⟩ := H5.1 p5
  obtain ⟨p3, e3⟩ := H4.1 p4
  obtain ⟨p2, e2⟩ := H3.1 p3
  obtain ⟨p1, e1⟩ := cuRel_good H2 p2
  obtain ⟨_, e0⟩ := cuRel_good H1 p1
  rw [List.drop_zero] at e0
  rw [e0, e1, e2, e3, e4, e5, e6, e7, hl, readV_true HV, ← hd]
  rfl
theorem built_sig (a b : Int) : Tryz.prog.built 33 [(7, .agg #[.int .i64 a, .int .i64 b])] = some (rcV { Rc.zero with r := a, s := b }).toArray := by
  rw [built_rc]
  have e : ∀ a b : Int, rcV { Rc.zero with r := a, s := b } = ([.int .i64 0, .int .i64 0, .string ByteArray.empty, .int .i64 0] ++ byteVals zero32 ++ byteVals zero32 ++ byteVals zero32) ++ ([.int .i64 a, .int .i64 b] ++ []) := fun a b => by rw [List.append_nil, List.append_assoc, List.append_assoc, List.append_assoc]; rfl
  rw [show rcV Rc.zero = ([.int .i64 0, .int .i64 0, .string ByteArray.empty, .int .i64 0] ++ byteVals zero32 ++ byteVals zero32 ++ byteVals zero32) ++ ([.int .i64 0, .int .i64 0] ++ []) from e 0 0, e a b]
  rw [fill_mid (off := 100) (n := 2) (V := [Value.int .i64 a, Value.int .i64 b]) rfl rfl rfl (by simp [byteVals_length, zero32]) rfl, Instr.fill]
/-- The three blocks of the reference's Read. -/
structure CuSt (w wi : World) (s : ByteArray) (a : Nat) (bad : Bool) (B : Nat) (x : Rc) : Prop where
  rz : RcAt wi w.heap.size Rc.zero
  cu : CuAt wi (w.heap.size + 1) s a bad
  rc : RcAt wi B x
  hB : w.heap.size + 1 < B
  up : Upd [] [] w wi
  ok : x.ok
theorem CuSt.step {w wi wj : World} {s : ByteArray} {a a' : Nat} {q q' : Bool} {B : Nat} {x : Rc} (h : CuSt w wi s a q B x) (u : Upd [w.heap.size + 1] [] wi wj) (d : CuAt wj (w.heap.size + 1) s a' q') : CuSt w wj s a' q' B x :=
  ⟨row_updG h.rz u (by omega), d, row_updG h.rc u (by have := h.hB; omega), h.hB, h.up.own2 u (by omega), h.ok⟩
theorem CuSt.cell {w wi : World} {s : ByteArray} {a : Nat} {q : Bool} {B : Nat} {x y : Rc} (h : CuSt w wi s a q B x) (j : Nat) (v : Value) (hy : RcAt (wi.setCell ⟨B, j, none⟩ v) B y) (ho : y.ok) : CuSt w (wi.setCell ⟨B, j, none⟩ v) s a q B y :=
  ⟨row_otherE h.rz (by have := h.hB; omega) v, row_otherE h.cu (by have := h.hB; omega) v, hy, h.hB, h.up.setNew (p := ⟨B, j, none⟩) (by have := h.hB; show w.heap.size ≤ B; omega) v, ho⟩
theorem CuSt.cells {w wi : World} {s : ByteArray} {a : Nat} {q : Bool} {B : Nat} {x y : Rc} (h : CuSt w wi s a q B x) (j : Nat) (V : List Value) (hy : RcAt (wi.setCells B j V) B y) (ho : y.ok) : CuSt w (wi.setCells B j V) s a q B y :=
  ⟨row_setCellsO (by have := h.hB; omega) V j _ h.rz, row_setCellsO (by have := h.hB; omega) V j _ h.cu, hy, h.hB, Upd.setCellsNew (by have := h.hB; omega) V j _ h.up, ho⟩
end Go.Proofs.YtmnmhhbldbdpfaaGreatDoor
