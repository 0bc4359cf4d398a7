/- sorteslaw22.sanity. A receipt by fields: its blocks. What a row's listed variables give the walks; a world for the witnesses. Small things that the rows share. Values of plain types (numbers, texts, truth values, arrays and structs of them), opened cell by cell. A receipt by fields, opened. -/
import Derived.Test.YtmnmhhbldbdpfaaGreatDoorGH
import Derived.Test.YtmnmhhbldbdpfaaGreatDoorGJ
import Derived.Test.YtmnmhhbldbdpfaaGreatDoorCards
import Derived.Test.YtmnmhhbldbdpfaaGreatDoorTie
import Derived.Test.YtmnmhhbldbdpfaaGreatDoorGC
import Derived.ProofKit
import Derived.OpenShut
import Derived.ShutString
import Derived.ChangeOld
import Derived.Lib.SmallJoins
import Derived.Deep.Slices
import Derived.Deep.DeepHandedRow
import Derived.Deep.DeepWitnessRowRef
import Derived.Lib.LaidTab
import Derived.Stop.LaidErr
import Derived.LaidMore
import Derived.HandedShaped
namespace Go.Proofs.YtmnmhhbldbdpfaaGreatDoor
open Go.RowKit
set_option maxRecDepth 100000

/-- A receipt in a new block. -/
theorem rc_new (wB : World) (X : Rc) (hX : X.ok) : ∃ (C : Array Value) (wC : World), Hid (C = (rcV X).toArray) ∧ Hid ((wB.alloc (.cells Tryz.zeroCells33 33)).heap[wB.heap.size]? = some (.cells Tryz.zeroCells33 33 (0, 0))) ∧
    Hid ((Tryz.prog.info? 33).map (·.size) = some C.size) ∧ Hid ((Tryz.zeroCells33).size = C.size) ∧ Hid (C.all (·.oneCell') = true) ∧ Hid ((wB.alloc (.cells Tryz.zeroCells33 33)).setRow wB.heap.size C = wC) ∧
    Hid (RcAt wC wB.heap.size X) ∧ Upd [] [] wB wC := by
  have hz5 : (wB.alloc (.cells Tryz.zeroCells33 33)).heap[wB.heap.size]? = some (.cells Tryz.zeroCells33 33 (0, 0)) := heap_alloc_new _ _
  refine ⟨(rcV X).toArray, _, rfl, hz5, rcSz hX, ?_, rcOne _, rfl, setRow_heap _ _ _ _ _ _ hz5, ((Upd.refl _ _).alloc _).setRowNew (Nat.le_refl _) _⟩
  show _ = _
  simp [rcV_len hX]

theorem itoa_one (n : Nat) (h : n < 10) : Lib.itoa (n : Int) = [UInt8.ofNat (48 + n)] := by
  rw [itoa_of_nat, Lib.decDigits_one h]
theorem no03 (n : Int) : Lib.itoa n ≠ [48, 51] := by
  intro h
  unfold Lib.itoa at h
  split at h
  · simp at h
  · have hv := valD_dec n.toNat
    rw [h] at hv
    have h3 : n.toNat = 3 := by rw [← hv]; rfl
    rw [h3, Lib.decDigits_one (by omega)] at h
    simp at h
def may : ByteArray := ⟨#[77, 97, 121]⟩
def rc0 : Rc := ⟨3, 1, 7, may, zero32, zero32, zero32, 0, 0⟩
theorem rc0_text : textL rc0 = [48, 46, 48, 32, 114, 101, 99, 101, 105, 112, 116, 32, 51, 32, 49, 32, 55, 32] ++ hexL zero32 ++ [32] ++ hexL zero32 ++ [32] ++ hexL zero32 ++ [32, 77, 97, 121] := by
  have e3 := itoa_one 3 (by omega)
  have e1 := itoa_one 1 (by omega)
  have e7 := itoa_one 7 (by omega)
  have e0 := itoa_one 0 (by omega)
  unfold textL bodyL pairL rc0
  rw [show Lib.itoa 0 = [48] from e0, show Lib.itoa 3 = [51] from e3, show Lib.itoa 1 = [49] from e1, show Lib.itoa 7 = [55] from e7]
  generalize hexL zero32 = z
  simp [wRc, bs, may]
theorem bad_text (y : Rc) (R : List UInt8) : [48, 46, 48, 32, 114, 101, 99, 101, 105, 112, 116, 32, 48, 51, 32] ++ R ≠ textL y := by
  intro h
  have h1 : [48, 46, 48] ++ 32 :: (wRc ++ 32 :: ([48, 51] ++ 32 :: R)) = pairL y.r y.s ++ 32 :: bodyL y := h
  have h2 := (split32 (by decide) (pairL_no32 _ _) h1).2
  unfold bodyL at h2
  have h3 := (split32 (by decide) (by decide) h2).2
  have h4 := (split32 (by decide) (itoa_no32 _) h3).1
  exact no03 _ h4.symm
theorem batch_30 : batchL 3 [] = [98, 97, 116, 99, 104, 32, 51, 32, 48] := by
  have e3 := itoa_one 3 (by omega)
  have e0 := itoa_one 0 (by omega)
  unfold batchL
  rw [show Lib.itoa 3 = [51] from e3, show Lib.itoa (([] : List Rc).length : Int) = [48] from e0]
  rfl
theorem bad_batch (k : Int) (l : List Rc) : [98, 97, 116, 99, 104, 32, 51, 32, 49] ≠ batchL k l := by
  intro h
  have h1 : wBa ++ 32 :: ([51] ++ 32 :: [49]) = wBa ++ 32 :: (Lib.itoa k ++ 32 :: (Lib.itoa (l.length : Int) ++ recsT l)) := h
  have h2 := (split32 (by decide) (by decide) h1).2
  have h3 := (split32 (by decide) (itoa_no32 _) h2).2
  have hl := congrArg List.length h3
  have hm := recsT_many l
  simp only [List.length_cons, List.length_nil, List.length_append] at hl
  have e1 : [49] = Lib.itoa ((1 : Nat) : Int) ++ [] := by rw [itoa_one 1 (by omega)]; rfl
  rw [e1] at h3
  have h4 := num_tail (by unfold i64in; omega) (by unfold i64in; omega) h3 (.inl rfl) (recsT_head l)
  have h5 := congrArg List.length h4.2
  simp at h5
  have h6 := h4.1
  have h7 : recsT l = [] := List.eq_nil_of_length_eq_zero (by omega)
  rw [h7] at hm
  simp at hm
  rw [hm] at h6
  simp at h6
theorem bt_false {s : List UInt8} {k : Int} {l : List Rc} {ok : Bool} (h : btOk s k l ok) (hb : ∀ k' l', s ≠ batchL k' l') : ok = false := by
  cases ok with
  | false => rfl
  | true => exact absurd (h.2.2.1 rfl) (hb _ _)
theorem rc_false {s : List UInt8} {x : Rc} {ok : Bool} (h : rcOk s x ok) (hb : ∀ y, s ≠ textL y) : ok = false := by
  cases ok with
  | false => rfl
  | true => exact absurd (h.2.1 rfl) (hb _)
theorem printR_ok {k s n x : Int} {d : ByteArray} {a b c : List UInt8} (hk : i64in k) (hs : i64in s) (hn : i64in n) (ha : a.length = 32) (hb : b.length = 32) (hc : c.length = 32) : (printR k s n d a b c x).ok := by
  have h1 := gP_lt (nonceN (expN x) (bodyL ⟨k, s, n, d, a, b, c, 0, 0⟩))
  have h2 := sWith_lt (expN x) (nonceN (expN x) (bodyL ⟨k, s, n, d, a, b, c, 0, 0⟩)) (bodyL ⟨k, s, n, d, a, b, c, 0, 0⟩)
  have e1 : Pn = 2305843009213691579 := rfl
  have e2 : Qn = 1152921504606845789 := rfl
  refine ⟨hk, hs, hn, ha, hb, hc, ?_, ?_⟩ <;> unfold printR i64in <;> dsimp only <;> omega
theorem beq_of_bs {a b : ByteArray} (h : bs a = bs b) : (a.toList == b.toList) = true := eq_beq.2 h

set_option maxHeartbeats 4000000 in
theorem sanity22_any (w : World) (htab : Tabs w) : Calls Tryz.prog 11 #[] w (TrueMk w) := by
  go_enter Tryz.func11, Tryz.ntmps11
  go_wp2_with fail
  have z32 : zero32.length = 32 := rfl
  refine (rhexText_any zero32 z32 w).mono ?_
  rintro e w1 ⟨z, HZ, hz, rfl, u1⟩
  have hzs : z.size = 64 := by rw [← bs_length, HZ.out, hexL_len, z32]
  clear hz
  go_wp2_with fail
  refine (print22_any 3 77 1 7 ⟨#[77, 97, 121]⟩ zero32 zero32 zero32 (by unfold i64in; omega) (by unfold i64in; omega) (by unfold i64in; omega) (by unfold i64in; omega) (by decide) z32 z32 z32 w1 (htab.upd u1)).mono ?_
  rintro e w2 ⟨rfl, hq⟩
  have u2 := u1.trans hq
  clear hq
  have hRo : (printR 3 1 7 ⟨#[77, 97, 121]⟩ zero32 zero32 zero32 77).ok := printR_ok (by unfold i64in; omega) (by unfold i64in; omega) (by unfold i64in; omega) z32 z32 z32
  obtain ⟨R, hR⟩ : ∃ R, R = printR 3 1 7 ⟨#[77, 97, 121]⟩ zero32 zero32 zero32 77 := ⟨_, rfl⟩
  rw [← hR] at hRo ⊢
  have hR1 : R.kiosk = 3 ∧ R.seen = 7 := by rw [hR]; exact ⟨rfl, rfl⟩
  have HR1 := Lib.hid hR1
  have HRO := Lib.hid hRo
  clear hR hR1
  obtain ⟨C, w3, HC, HZ3, HCI, HCZ, HCO, HW3, R3, hq⟩ := rc_new w2 R hRo
  rw [← HC.out]
  have u3 := u2.trans hq
  clear hq hRo
  go_wp2_with (first | (refine wpList_store_rowAs rfl 33 _ _ rfl w2.heap.size C rfl rfl _ _ HZ3.out HCI.out HCZ.out HCO.out w3 HW3.out ?_))
  obtain ⟨L, hL⟩ : ∃ L : ByteArray, L = ({ data := #[48, 46, 48, 32, 114, 101, 99, 101, 105, 112, 116, 32, 48, 51, 32, 49, 32, 55, 32] } ++ z ++ { data := #[32] } ++ z ++ { data := #[32] } ++ z ++ { data := #[32, 77, 97, 121] }) := ⟨_, rfl⟩
  have hLs : L.size = 217 := by
    rw [hL]
    simp only [ByteArray.size_append, hzs]
    rfl
  have hLb : ∀ y, bs L ≠ textL y := by
    intro y h
    rw [hL, bs_append, bs_append, bs_append, bs_append, bs_append, bs_append] at h
    refine bad_text y ([49, 32, 55, 32] ++ bs z ++ [32] ++ bs z ++ [32] ++ bs z ++ [32, 77, 97, 121]) (Eq.trans ?_ h)
    generalize bs z = Z
    simp [bs]
  have HLB := Lib.hid hLb
  rw [← hL]
  clear hL hLb
  refine (read22_any L w3 (by omega) (htab.upd u3)).mono ?_
  rintro e w4 ⟨X, ok, HX, rfl, hq⟩
  have u4 := u3.trans hq
  have R4 := R3.out.upd hq
  obtain rfl := rc_false HX.out HLB.out
  obtain ⟨C', w5, HC', HZ5, HCI', HCZ', HCO', HW5, _, hq'⟩ := rc_new w4 X HX.out.1
  rw [← HC'.out]
  have R5 := Lib.hid (R4.upd hq')
  have u5 := u4.trans hq'
  clear hq hq' R4
  go_wp2_with (first | (refine wpList_store_rowAs rfl 33 _ _ rfl w4.heap.size C' rfl rfl _ _ HZ5.out HCI'.out HCZ'.out HCO'.out w5 HW5.out ?_))
  refine (readBatch22_any ⟨#[98, 97, 116, 99, 104, 32, 51, 32, 49]⟩ w5 (by decide) (htab.upd u5)).mono ?_
  rintro e w6 ⟨k, l, v, ok, HB, hl, HO, hfo, rfl, hq⟩
  have u6 := u5.trans hq
  have R6 := R5.out.upd hq
  obtain rfl := bt_false HB.out bad_batch
  obtain ⟨ao, cap, rfl, _, _⟩ := row_slice HO.out
  clear hq R5
  have w7 : Upd [] [] w6 ((w6.alloc (.cells #[.int .i64 0, .slice none 0 0] 46))) := (Upd.refl _ _).alloc _
  go_wp2_with fail
  have hE : (((Tryz.zeroCells33.setIfInBounds 0 (Value.int IntKind.i64 3)).setIfInBounds 1 (Value.int IntKind.i64 1)).setIfInBounds 2 (Value.string { data := #[77, 97, 121] })).setIfInBounds 3 (Value.int IntKind.i64 7) = (rcV rc0).toArray := by kernel_rfl
  rw [hE]
  obtain ⟨F, hF⟩ : ∃ F, F = (rcV rc0).toArray := ⟨_, rfl⟩
  have hr0 : rc0.ok := ⟨by unfold i64in rc0; dsimp only; omega, by unfold i64in rc0; dsimp only; omega, by unfold i64in rc0; dsimp only; omega, z32, z32, z32, by unfold i64in rc0; dsimp only; omega, by unfold i64in rc0; dsimp only; omega⟩
  have hct := fun W hW => text22_any rc0 hr0 (by decide) W hW
  rw [← hF] at hct ⊢
  have u7 := u6.trans ((Upd.refl [] _).alloc (.cells #[.int .i64 k, .slice ao l.length cap] 46))
  have R7 := Lib.hid (R6.upd ((Upd.refl [] _).alloc (.cells #[.int .i64 k, .slice ao l.length cap] 46)))
  clear hE hF w7 R6
  refine (hct _ (htab.upd u7)).mono ?_
  rintro e w8 ⟨y, HY, hy, rfl, hq⟩
  have u8 := u7.trans hq
  have R8 := Lib.hid (R7.out.upd hq)
  obtain ⟨W2, hW2⟩ : ∃ W2 : ByteArray, W2 = ({ data := #[48, 46, 48, 32, 114, 101, 99, 101, 105, 112, 116, 32, 51, 32, 49, 32, 55, 32] } ++ z ++ { data := #[32] } ++ z ++ { data := #[32] } ++ z ++ { data := #[32, 77, 97, 121] }) := ⟨_, rfl⟩
  have hb1 : (y.toList == W2.toList) = true := by
    refine beq_of_bs ?_
    rw [HY.out, rc0_text, hW2, bs_append, bs_append, bs_append, bs_append, bs_append, bs_append, HZ.out]
    rfl
  rw [← hW2]
  clear hq R7 hct hy hr0 hW2
  go_wp2_with fail
  refine (batchText_any 3 [] none 0 w8 (by unfold i64in; omega) (by simp) (by simp) (fun k x h => by simp at h) (htab.upd u8)).mono ?_
  rintro e w9 ⟨y2, HY2, hy2, rfl, hq⟩
  have u9 := u8.trans hq
  have R9 := R8.out.upd hq
  obtain rfl : y2 = ByteArray.mk #[98, 97, 116, 99, 104, 32, 51, 32, 48] := bs_injE (by rw [HY2.out, batch_30]; rfl)
  obtain ⟨k0, k1, k2, k3⟩ := R9.head
  rw [HR1.out.1] at k0
  rw [HR1.out.2] at k3
  clear hq R8 hy2 R9
  go_wp2_with fail
  go_ret
  exact ⟨rfl, u9⟩
end Go.Proofs.YtmnmhhbldbdpfaaGreatDoor

namespace Go.Proofs.YtmnmhhbldbdpfaaGreatDoor
open Go.RowKit
set_option maxRecDepth 100000

/-- A receipt by fields. -/
structure Fm where
  k : Int
  x : Int
  s : Int
  n : Int
  d : ByteArray
  a : List UInt8
  b : List UInt8
  c : List UInt8
def Fm.ok (f : Fm) : Prop := i64in f.k ∧ i64in f.x ∧ i64in f.s ∧ i64in f.n ∧ f.a.length = 32 ∧ f.b.length = 32 ∧ f.c.length = 32 ∧ f.d.size ≤ 9223372036854775807
def hs3 (f : Fm) : List Value := byteVals f.a ++ (byteVals f.b ++ byteVals f.c)
def fmV (f : Fm) : List Value := [.int .i64 f.k, .int .i64 f.x, .int .i64 f.s, .int .i64 f.n, .string f.d] ++ (hs3 f ++ [])
theorem hs3_len {f : Fm} (h : f.ok) : (hs3 f).length = 96 := by
  obtain ⟨_, _, _, _, h1, h2, h3, _⟩ := h
  simp [hs3, byteVals_length, h1, h2, h3]
theorem fmV_len {f : Fm} (h : f.ok) : (fmV f).length = 101 := by
  simp [fmV, hs3_len h]
theorem hs3_one (f : Fm) : (hs3 f).toArray.all (·.oneCell') = true := by
  rw [Array.all_eq_true_iff_forall_mem]
  intro v hv
  simp only [hs3, List.mem_toArray, List.mem_append] at hv
  rcases hv with hv | hv | hv <;> exact byteVals_one _ v hv
theorem fmV_one (f : Fm) : (fmV f).toArray.all (·.oneCell') = true := by
  rw [Array.all_eq_true_iff_forall_mem]
  intro v hv
  simp only [fmV, hs3, List.mem_toArray, List.mem_append, List.mem_cons, List.not_mem_nil, or_false] at hv
  rcases hv with (rfl | rfl | rfl | rfl | rfl) | hv | hv | hv
  · rfl
  · rfl
  · rfl
  · rfl
  · rfl
  · exact byteVals_one _ v hv
  · exact byteVals_one _ v hv
  · exact byteVals_one _ v hv
def FmAt (w : World) (g : Nat) (f : Fm) : Prop := w.heap[g]? = some (.cells (fmV f).toArray 27 (0, 0))
theorem FmAt.upd {w w' : World} {g : Nat} {f : Fm} (h : FmAt w g f) (u : Upd [] [] w w') : FmAt w' g f := row_updH h u
theorem FmAt.cell {w : World} {g : Nat} {f : Fm} (h : FmAt w g f) (j : Nat) : w.cell? ⟨g, j, none⟩ = (fmV f)[j]? := by
  rw [cell_of_row w g j _ _ _ h, List.getElem?_toArray]
theorem FmAt.head {w : World} {g : Nat} {f : Fm} (h : FmAt w g f) : w.cell? ⟨g, 0, none⟩ = some (.int .i64 f.k) ∧ w.cell? ⟨g, 1, none⟩ = some (.int .i64 f.x) ∧ w.cell? ⟨g, 2, none⟩ = some (.int .i64 f.s) ∧ w.cell? ⟨g, 3, none⟩ = some (.int .i64 f.n) ∧ w.cell? ⟨g, 4, none⟩ = some (.string f.d) :=
  ⟨h.cell 0, h.cell 1, h.cell 2, h.cell 3, h.cell 4⟩
theorem FmAt.hashes {w : World} {g : Nat} {f : Fm} (h : FmAt w g f) : w.rangeAt g 5 (hs3 f) := by
  intro j v hv
  rw [h.cell]
  exact mid_get (A := [.int .i64 f.k, .int .i64 f.x, .int .i64 f.s, .int .i64 f.n, .string f.d]) rfl hv
theorem fmInfo {f : Fm} (h : f.ok) : (Tryz.prog.info? 27).map (·.size) = some (fmV f).toArray.size := by
  rw [show (fmV f).toArray.size = 101 by simp [fmV_len h]]
  kernel_rfl
theorem h3Info {f : Fm} (h : f.ok) : (Tryz.prog.info? 25).map (·.size) = some (hs3 f).length := by
  rw [hs3_len h]
  kernel_rfl
/-- Three hashes in a block. -/
def H3At (w : World) (g : Nat) (f : Fm) : Prop := w.heap[g]? = some (.cells (hs3 f).toArray 25 (0, 0))
theorem H3At.upd {w w' : World} {g : Nat} {f : Fm} (h : H3At w g f) (u : Upd [] [] w w') : H3At w' g f := row_updH h u
theorem H3At.ranges {w : World} {g : Nat} {f : Fm} (h : H3At w g f) (hf : f.ok) : w.rangeAt g 0 (byteVals f.a) ∧ w.rangeAt g 32 (byteVals f.b) ∧ w.rangeAt g 64 (byteVals f.c) := by
  obtain ⟨_, _, _, _, h1, h2, h3, _⟩ := hf
  have c : ∀ j, w.cell? ⟨g, j, none⟩ = (hs3 f)[j]? := fun j => by rw [cell_of_row w g j _ _ _ h, List.getElem?_toArray]
  refine ⟨fun j v hv => ?_, fun j v hv => ?_, fun j v hv => ?_⟩ <;> rw [c]
  · exact mid_get (A := []) rfl hv
  · exact mid_get (A := byteVals f.a) (by rw [byteVals_length, h1]) hv
  · have e : hs3 f = (byteVals f.a ++ byteVals f.b) ++ (byteVals f.c ++ []) := by simp [hs3]
    rw [e]
    exact mid_get (by simp [byteVals_length, h1, h2]) hv
/-- The receipt of a form. -/
def fmR (f : Fm) : Rc := printR f.k f.s f.n (f.d.extract 0 (min (f.d.size : Int) 100).toNat) f.a f.b f.c f.x
theorem fmR_ok {f : Fm} (h : f.ok) : (fmR f).ok := printR_ok h.1 h.2.2.1 h.2.2.2.1 h.2.2.2.2.1 h.2.2.2.2.2.1 h.2.2.2.2.2.2.1
theorem fmR_draw (f : Fm) : (fmR f).draw.size ≤ 100 := by
  show (f.d.extract 0 (min (f.d.size : Int) 100).toNat).size ≤ 100
  rw [ByteArray.size_extract]
  omega

/-- In a region that draws: a load whose run is known in every world that meets S. -/
theorem yieldsIf_loadW {P : Program} {ops : Array Oper} {S : World → Prop} {op : Oper} {a : Act} (hw : Region.wanted op (yielded ops a.tmps) = true) (ty : TypeId) (x : Operand) (ho : op.op = .load ty x) (v : Value) (hx : a.eval x = v) (C : Array Value)
    (hS : ∀ w, S w → (Instr.loadAt ty v).run P w = .ok (.agg C) w) : YieldsIf P ops S op (.agg C) a :=
  .inl ⟨hw, fun w hw' => by
    unfold execOp
    simp only [ho, hx, Sem.run_bind, Sem.run_pure, Result.andThen_ok, hS w hw']⟩
theorem results_two_rows {P : Program} {fn : Func} {p q : Tmp} {ty : TypeId} (h : fn.results = #[.cell p ty, .cell q ty]) (tmps : Array Value) (w : World) (g k : Nat) (t : TypeId) (cs ds : Array Value) (fs : Array Field)
    (hp : tmps.getD p undef = .pointer (some ⟨g, 0, none⟩)) (hg : w.heap[g]? = some (.cells cs t (0, 0))) (hq : tmps.getD q undef = .pointer (some ⟨k, 0, none⟩)) (hk : w.heap[k]? = some (.cells ds t (0, 0)))
    (hu : P.underlying ty = some (.struct fs)) (hi : (P.info? ty).map (·.size) = some cs.size) (hj : (P.info? ty).map (·.size) = some ds.size) :
    (results fn tmps).run P w = .ok (.tuple #[.agg cs, .agg ds]) w := by
  have h1 := run_loadVar_row (P := P) w g t ty cs (0, 0) _ hg hu rfl hi
  have h2 := run_loadVar_row (P := P) w k t ty ds (0, 0) _ hk hu rfl hj
  have hp' : tmps[p]?.getD undef = .pointer (some ⟨g, 0, none⟩) := by simpa using hp
  have hq' : tmps[q]?.getD undef = .pointer (some ⟨k, 0, none⟩) := by simpa using hq
  simp [results, h, hp', hq', asAddr, h1, h2]
/-- A row in a new block. -/
theorem blk_new (wB : World) (T : TypeId) (Z C : Array Value) : ∃ wC : World, Hid ((wB.alloc (.cells Z T)).heap[wB.heap.size]? = some (.cells Z T (0, 0))) ∧ Hid ((wB.alloc (.cells Z T)).setRow wB.heap.size C = wC) ∧ Hid (wC.heap[wB.heap.size]? = some (.cells C T (0, 0))) ∧ Upd [] [] wB wC := by
  have h := heap_alloc_new wB (.cells Z T)
  exact ⟨_, h, rfl, setRow_heap _ _ _ _ _ _ h, ((Upd.refl _ _).alloc _).setRowNew (Nat.le_refl _) _⟩
set_option maxHeartbeats 400000 in
theorem receipt_any (f : Fm) (hf : f.ok) (w : World) (htab : Tabs w) : Calls Tryz.prog 12 #[.agg (fmV f).toArray] w (fun e w' => e = .returned (.tuple #[.agg (rcV (fmR f)).toArray, .agg (rcV (fmR f)).toArray]) ∧ Upd [] [] w w') := by
  have fm0 : FmAt (((w.alloc (.cells (fmV f).toArray 27)).alloc (.cells Tryz.zeroCells33 33)).alloc (.cells Tryz.zeroCells33 33)) w.heap.size f := row_updH (heap_alloc_new w _) (((Upd.refl [] _).alloc _).alloc _)
  have ra0 := row_updH (heap_alloc_new (w.alloc (.cells (fmV f).toArray 27)) (.cells Tryz.zeroCells33 33)) ((Upd.refl [] _).alloc (.cells Tryz.zeroCells33 33))
  have rb0 := heap_alloc_new ((w.alloc (.cells (fmV f).toArray 27)).alloc (.cells Tryz.zeroCells33 33)) (.cells Tryz.zeroCells33 33)
  rw [World.size_alloc] at ra0
  rw [World.size_alloc, World.size_alloc] at rb0
  have u0 : Upd [] [] w (((w.alloc (.cells (fmV f).toArray 27)).alloc (.cells Tryz.zeroCells33 33)).alloc (.cells Tryz.zeroCells33 33)) := (((Upd.refl _ _).alloc _).alloc _).alloc _
  have hs0 : (((w.alloc (.cells (fmV f).toArray 27)).alloc (.cells Tryz.zeroCells33 33)).alloc (.cells Tryz.zeroCells33 33)).heap.size = w.heap.size + 1 + 1 + 1 := by rw [World.size_alloc, World.size_alloc, World.size_alloc]
  obtain ⟨V, hV⟩ : ∃ V, V = (fmV f).toArray := ⟨_, rfl⟩
  rw [← hV] at fm0 ra0 rb0 u0 hs0 ⊢
  obtain ⟨w3, hw3⟩ : ∃ w3, (((w.alloc (.cells V 27)).alloc (.cells Tryz.zeroCells33 33)).alloc (.cells Tryz.zeroCells33 33)) = w3 := ⟨_, rfl⟩
  rw [hw3] at fm0 ra0 rb0 u0 hs0
  have HW3 := Lib.hid hw3
  have HS0 := Lib.hid hs0
  have RA0 := Lib.hid ra0
  have RB0 := Lib.hid rb0
  have FM0 := Lib.hid fm0
  clear hw3 hs0 ra0 rb0 fm0 hV
  go_enter Tryz.func12, Tryz.ntmps12
  go_upto_region 1 with (fail)
  rw [HW3.out]
  obtain ⟨k0, k1, k2, k3, k4⟩ := FM0.out.head
  have HLD := Lib.hid (run_loadAt_mid (P := Tryz.prog) w3 w.heap.size 5 25 (hs3 f) _ FM0.out.hashes Tryz.underlying25 rfl (h3Info hf))
  have hd8 := hf.2.2.2.2.2.2.2
  obtain ⟨w4, HZ4, HW4, H34, hq4⟩ := blk_new w3 25 Tryz.zeroCells25 (hs3 f).toArray
  have h3z : (Tryz.zeroCells25).size = (hs3 f).toArray.size := by simp [hs3_len hf]
  have H3Z := Lib.hid h3z
  have H3I : Hid ((Tryz.prog.info? 25).map (·.size) = some (hs3 f).toArray.size) := by show _ = _; rw [h3Info hf]; simp
  have H3O := Lib.hid (hs3_one f)
  have FM4 := Lib.hid (FM0.out.upd hq4)
  have RA4 := Lib.hid (row_updH RA0.out hq4)
  have RB4 := Lib.hid (row_updH RB0.out hq4)
  have u4 := u0.trans hq4
  obtain ⟨L, hL⟩ : ∃ L, L = (hs3 f).toArray := ⟨_, rfl⟩
  rw [← hL] at HLD HW4 H3Z H3I H3O
  have H34' : Hid (H3At w4 (w.heap.size + 1 + 1 + 1) f) := by
    show _ = _
    rw [← HS0.out]
    exact H34.out
  clear hL H34 h3z hq4
  go_upto_region 3 with (first | (refine wpList_load_atW (by rfl) 25 _ rfl w.heap.size 5 rfl L HLD.out ?_) | (refine wpList_store_rowAs rfl 25 _ _ rfl w3.heap.size L rfl rfl _ _ HZ4.out H3I.out H3Z.out H3O.out w4 HW4.out ?_))
  rw [HS0.out]
  obtain ⟨D, hD⟩ : ∃ D, D = f.d.extract 0 (min (f.d.size : Int) 100).toNat := ⟨_, rfl⟩
  have hDs : D.size ≤ 100 := by rw [hD, ByteArray.size_extract]; omega
  have HD := Lib.hid hD
  rw [← hD]
  clear hD HLD HW4 HZ4 H3Z H3I H3O RA0 RB0 FM0 HW3 k0 k1 k2 k3 k4
  obtain ⟨k0, k1, k2, k3, k4⟩ := FM4.out.head
  obtain ⟨r0, r1, r2⟩ := H34'.out.ranges hf
  obtain ⟨i0, i1, i2, i3, l0, l1, l2, _⟩ := id hf
  have q0 := Lib.hid (run_loadAt_mid (P := Tryz.prog) w4 (w.heap.size + 1 + 1 + 1) 0 24 _ _ r0 Tryz.underlying24 rfl (hashLen l0))
  have q1 := Lib.hid (run_loadAt_mid (P := Tryz.prog) w4 (w.heap.size + 1 + 1 + 1) 32 24 _ _ r1 Tryz.underlying24 rfl (hashLen l1))
  have q2 := Lib.hid (run_loadAt_mid (P := Tryz.prog) w4 (w.heap.size + 1 + 1 + 1) 64 24 _ _ r2 Tryz.underlying24 rfl (hashLen l2))
  have HP := Lib.hid (fun W hW => print22_any f.k f.x f.s f.n D f.a f.b f.c i0 i1 i2 i3 (by omega) l0 l1 l2 W hW)
  have HRP := Lib.hid (fun W => rprint22_any f.k f.x f.s f.n D f.a f.b f.c i0 i1 i2 i3 (by omega) l0 l1 l2 W)
  obtain ⟨A, hA⟩ : ∃ A, A = (byteVals f.a).toArray := ⟨_, rfl⟩
  obtain ⟨B, hB⟩ : ∃ B, B = (byteVals f.b).toArray := ⟨_, rfl⟩
  obtain ⟨C, hC⟩ : ∃ C, C = (byteVals f.c).toArray := ⟨_, rfl⟩
  obtain ⟨R, hR⟩ : ∃ R, R = (rcV (printR f.k f.s f.n D f.a f.b f.c f.x)).toArray := ⟨_, rfl⟩
  rw [← hA] at q0 HP HRP
  rw [← hB] at q1 HP HRP
  rw [← hC] at q2 HP HRP
  rw [← hR] at HP HRP
  have HRE := Lib.hid hR
  have HAE := Lib.hid hA
  have HBE := Lib.hid hB
  have HCE := Lib.hid hC
  clear r0 r1 r2 hA hB hC hR
  go_wp2_with (first | (refine wpList_load_atW (by rfl) 24 _ rfl (w.heap.size + 1 + 1 + 1) 0 rfl A q0.out ?_) | (refine wpList_load_atW (by rfl) 24 _ rfl (w.heap.size + 1 + 1 + 1) 32 rfl B q1.out ?_) | (refine wpList_load_atW (by rfl) 24 _ rfl (w.heap.size + 1 + 1 + 1) 64 rfl C q2.out ?_))
  refine (HP.out _ (htab.upd u4)).mono ?_
  rintro e w5 ⟨rfl, hq⟩
  have u5 := u4.trans hq
  have hRo : (printR f.k f.s f.n D f.a f.b f.c f.x).ok := printR_ok i0 i2 i3 l0 l1 l2
  have FM5 := Lib.hid (FM4.out.upd hq)
  have RA5 := Lib.hid (row_updH RA4.out hq)
  have RB5 := Lib.hid (row_updH RB4.out hq)
  have H35 := Lib.hid (H34'.out.upd hq)
  have HRI : Hid ((Tryz.prog.info? 33).map (·.size) = some R.size) := by show _ = _; rw [HRE.out]; exact rcSz hRo
  have HRO : Hid (R.all (·.oneCell') = true) := by show _ = _; rw [HRE.out]; exact rcOne _
  have HRZ : Hid ((Tryz.zeroCells33).size = R.size) := by show _ = _; rw [HRE.out]; simp [rcV_len hRo]
  have RA6 := Lib.hid (setRow_heap _ _ _ R _ _ RA5.out)
  have RB6 := Lib.hid (row_setRowO RB5.out (show w.heap.size + 1 + 1 ≠ w.heap.size + 1 by omega) R)
  have FM6 := Lib.hid (row_setRowO FM5.out (show w.heap.size ≠ w.heap.size + 1 by omega) R)
  have H36 := Lib.hid (row_setRowO H35.out (show w.heap.size + 1 + 1 + 1 ≠ w.heap.size + 1 by omega) R)
  have u6 := u5.setRowNew (show w.heap.size ≤ w.heap.size + 1 by omega) R
  clear k0 k1 k2 k3 k4 hq
  obtain ⟨w6, hw6⟩ : ∃ w6, w5.setRow (w.heap.size + 1) R = w6 := ⟨_, rfl⟩
  rw [hw6] at RA6 RB6 FM6 H36 u6
  have HW6 := Lib.hid hw6
  clear hw6
  go_upto_region 4 with (first | (refine wpList_store_rowAs rfl 33 _ _ rfl (w.heap.size + 1) R rfl rfl _ _ RA5.out HRI.out HRZ.out HRO.out w6 HW6.out ?_))
  have HK : Hid (∀ W : World, FmAt W w.heap.size f → W.heap[w.heap.size + 1]? = some (.cells R 33 (0, 0)) → H3At W (w.heap.size + 1 + 1 + 1) f →
      W.cell? ⟨w.heap.size, 0, none⟩ = some (.int .i64 f.k) ∧ W.cell? ⟨w.heap.size, 1, none⟩ = some (.int .i64 f.x) ∧ W.cell? ⟨w.heap.size, 2, none⟩ = some (.int .i64 f.s) ∧ W.cell? ⟨w.heap.size, 3, none⟩ = some (.int .i64 f.n) ∧
      (Instr.loadAt 24 (.pointer (some ⟨w.heap.size + 1 + 1 + 1, 0, none⟩))).run Tryz.prog W = .ok (.agg A) W ∧ (Instr.loadAt 24 (.pointer (some ⟨w.heap.size + 1 + 1 + 1, 32, none⟩))).run Tryz.prog W = .ok (.agg B) W ∧ (Instr.loadAt 24 (.pointer (some ⟨w.heap.size + 1 + 1 + 1, 64, none⟩))).run Tryz.prog W = .ok (.agg C) W ∧
      (Instr.loadAt 33 (.pointer (some ⟨w.heap.size + 1, 0, none⟩))).run Tryz.prog W = .ok (.agg R) W) := by
    intro W h1 h2 h3
    obtain ⟨r0, r1, r2⟩ := h3.ranges hf
    rw [HAE.out, HBE.out, HCE.out]
    refine ⟨h1.head.1, h1.head.2.1, h1.head.2.2.1, h1.head.2.2.2.1, run_loadAt_mid W _ 0 _ _ _ r0 Tryz.underlying24 rfl (hashLen l0), run_loadAt_mid W _ 32 _ _ _ r1 Tryz.underlying24 rfl (hashLen l1), run_loadAt_mid W _ 64 _ _ _ r2 Tryz.underlying24 rfl (hashLen l2), ?_⟩
    rw [HRE.out] at h2 ⊢
    exact run_loadAt_mid W _ 0 _ _ _ (RcAt.all h2) Tryz.underlying33 rfl (rcInfo hRo)
  have hr6 := HK.out w6 FM6.out RA6.out H36.out
  refine wp_region_noPanic ?_
  refine wp_region_held_drew (S := fun wp => wp.cell? ⟨w.heap.size, 0, none⟩ = some (.int .i64 f.k) ∧ wp.cell? ⟨w.heap.size, 1, none⟩ = some (.int .i64 f.x) ∧ wp.cell? ⟨w.heap.size, 2, none⟩ = some (.int .i64 f.s) ∧ wp.cell? ⟨w.heap.size, 3, none⟩ = some (.int .i64 f.n) ∧ (Instr.loadAt 24 (.pointer (some ⟨w.heap.size + 1 + 1 + 1, 0, none⟩))).run Tryz.prog wp = .ok (.agg A) wp ∧ (Instr.loadAt 24 (.pointer (some ⟨w.heap.size + 1 + 1 + 1, 32, none⟩))).run Tryz.prog wp = .ok (.agg B) wp ∧ (Instr.loadAt 24 (.pointer (some ⟨w.heap.size + 1 + 1 + 1, 64, none⟩))).run Tryz.prog wp = .ok (.agg C) wp ∧ (Instr.loadAt 33 (.pointer (some ⟨w.heap.size + 1, 0, none⟩))).run Tryz.prog wp = .ok (.agg R) wp) (by kernel_rfl) ?_ (fun hHeld => ?_)
  · exact HK.out _ FM6.out RA6.out H36.out
  refine wpAnyH_take (i := 0) (v := .agg R) (by simp only [List.getElem?_toArray, List.getElem?_cons_zero] <;> rfl) (by kernel_rfl) (by kernel_rfl) (by kernel_rfl) (fun _ _ _ h => h) (yieldsIf_loadW (by rfl) _ _ rfl _ rfl R (fun w hSw => hSw.2.2.2.2.2.2.2)) hHeld ?_
  try simp only [Act.put, List.setIfInBounds_toArray, List.set_cons_zero, List.set_cons_succ]
  refine wpAnyH_take (i := 1) (v := ?v1) (by simp only [List.getElem?_toArray, List.getElem?_cons_succ, List.getElem?_cons_zero] <;> rfl) (by kernel_rfl) (by kernel_rfl) (by kernel_rfl) (fun _ _ _ h => h) (Or.inl ⟨by rfl, ?y1⟩) hHeld ?r1
  case y1 => (intro w hSw; (try dsimp only at hSw); go_simp; first | done | with_reducible rfl | rfl)
  try simp only [Act.put, List.setIfInBounds_toArray, List.set_cons_zero, List.set_cons_succ]
  refine wpAnyH_take (i := 2) (v := ?v2) (by simp only [List.getElem?_toArray, List.getElem?_cons_succ, List.getElem?_cons_zero] <;> rfl) (by kernel_rfl) (by kernel_rfl) (by kernel_rfl) (fun _ _ _ h => h) (Or.inl ⟨by rfl, ?y2⟩) hHeld ?r2
  case y2 => (intro w hSw; (try dsimp only at hSw); go_simp; first | done | with_reducible rfl | rfl)
  try simp only [Act.put, List.setIfInBounds_toArray, List.set_cons_zero, List.set_cons_succ]
  refine wpAnyH_take (i := 3) (v := ?v3) (by simp only [List.getElem?_toArray, List.getElem?_cons_succ, List.getElem?_cons_zero] <;> rfl) (by kernel_rfl) (by kernel_rfl) (by kernel_rfl) (fun _ _ _ h => h) (Or.inl ⟨by rfl, ?y3⟩) hHeld ?r3
  case y3 => (intro w hSw; (try dsimp only at hSw); go_simp; first | done | with_reducible rfl | rfl)
  try simp only [Act.put, List.setIfInBounds_toArray, List.set_cons_zero, List.set_cons_succ]
  refine wpAnyH_take (i := 4) (v := ?v4) (by simp only [List.getElem?_toArray, List.getElem?_cons_succ, List.getElem?_cons_zero] <;> rfl) (by kernel_rfl) (by kernel_rfl) (by kernel_rfl) (fun _ _ _ h => h) (Or.inl ⟨by rfl, ?y4⟩) hHeld ?r4
  case y4 => (intro w hSw; (try dsimp only at hSw); go_simp; first | done | with_reducible rfl | rfl)
  try simp only [Act.put, List.setIfInBounds_toArray, List.set_cons_zero, List.set_cons_succ]
  refine wpAnyH_take (i := 5) (v := ?v5) (by simp only [List.getElem?_toArray, List.getElem?_cons_succ, List.getElem?_cons_zero] <;> rfl) (by kernel_rfl) (by kernel_rfl) (by kernel_rfl) (fun _ _ _ h => h) (Or.inl ⟨by rfl, ?y5⟩) hHeld ?r5
  case y5 => (intro w hSw; (try dsimp only at hSw); go_simp; first | done | with_reducible rfl | rfl)
  try simp only [Act.put, List.setIfInBounds_toArray, List.set_cons_zero, List.set_cons_succ]
  refine wpAnyH_take (i := 6) (v := ?v6) (by simp only [List.getElem?_toArray, List.getElem?_cons_succ, List.getElem?_cons_zero] <;> rfl) (by kernel_rfl) (by kernel_rfl) (by kernel_rfl) (fun _ _ _ h => h) (Or.inl ⟨by rfl, ?y6⟩) hHeld ?r6
  case y6 => (intro w hSw; (try dsimp only at hSw); go_simp; first | done | with_reducible rfl | rfl)
  try simp only [Act.put, List.setIfInBounds_toArray, List.set_cons_zero, List.set_cons_succ]
  refine wpAnyH_take (i := 7) (v := ?v7) (by simp only [List.getElem?_toArray, List.getElem?_cons_succ, List.getElem?_cons_zero] <;> rfl) (by kernel_rfl) (by kernel_rfl) (by kernel_rfl) (fun _ _ _ h => h) (Or.inl ⟨by rfl, ?y7⟩) hHeld ?r7
  case y7 => (intro w hSw; (try dsimp only at hSw); go_simp; first | done | with_reducible rfl | rfl)
  try simp only [Act.put, List.setIfInBounds_toArray, List.set_cons_zero, List.set_cons_succ]
  refine wpAnyH_take (i := 8) (v := ?v8) (by simp only [List.getElem?_toArray, List.getElem?_cons_succ, List.getElem?_cons_zero] <;> rfl) (by kernel_rfl) (by kernel_rfl) (by kernel_rfl) (fun _ _ _ h => h) (Or.inl ⟨by rfl, ?y8⟩) hHeld ?r8
  case y8 => (intro w hSw; (try dsimp only at hSw); go_simp; first | done | with_reducible rfl | rfl)
  try simp only [Act.put, List.setIfInBounds_toArray, List.set_cons_zero, List.set_cons_succ]
  refine wpAnyH_take (i := 9) (v := ?v9) (by simp only [List.getElem?_toArray, List.getElem?_cons_succ, List.getElem?_cons_zero] <;> rfl) (by kernel_rfl) (by kernel_rfl) (by kernel_rfl) (fun _ _ _ h => h) (Or.inl ⟨by rfl, ?y9⟩) hHeld ?r9
  case y9 => (intro w hSw; (try dsimp only at hSw); go_simp; first | done | with_reducible rfl | rfl)
  try simp only [Act.put, List.setIfInBounds_toArray, List.set_cons_zero, List.set_cons_succ]
  refine wpAnyH_take (i := 10) (v := ?v10) (by simp only [List.getElem?_toArray, List.getElem?_cons_succ, List.getElem?_cons_zero] <;> rfl) (by kernel_rfl) (by kernel_rfl) (by kernel_rfl) (fun _ _ _ h => h) (Or.inl ⟨by rfl, ?y10⟩) hHeld ?r10
  case y10 => (intro w hSw; (try dsimp only at hSw); go_simp; first | done | with_reducible rfl | rfl)
  try simp only [Act.put, List.setIfInBounds_toArray, List.set_cons_zero, List.set_cons_succ]
  refine wpAnyH_take (i := 11) (v := ?v11) (by simp only [List.getElem?_toArray, List.getElem?_cons_succ, List.getElem?_cons_zero] <;> rfl) (by kernel_rfl) (by kernel_rfl) (by kernel_rfl) (fun _ _ _ h => h) (Or.inl ⟨by rfl, ?y11⟩) hHeld ?r11
  case y11 => (intro w hSw; (try dsimp only at hSw); go_simp; first | done | with_reducible rfl | rfl)
  try simp only [Act.put, List.setIfInBounds_toArray, List.set_cons_zero, List.set_cons_succ]
  refine wpAnyH_take (i := 12) (v := ?v12) (by simp only [List.getElem?_toArray, List.getElem?_cons_succ, List.getElem?_cons_zero] <;> rfl) (by kernel_rfl) (by kernel_rfl) (by kernel_rfl) (fun _ _ _ h => h) (Or.inl ⟨by rfl, ?y12⟩) hHeld ?r12
  case y12 => (intro w hSw; (try dsimp only at hSw); go_simp; first | done | with_reducible rfl | rfl)
  try simp only [Act.put, List.setIfInBounds_toArray, List.set_cons_zero, List.set_cons_succ]
  refine wpAnyH_take (i := 13) (v := ?v13) (by simp only [List.getElem?_toArray, List.getElem?_cons_succ, List.getElem?_cons_zero] <;> rfl) (by kernel_rfl) (by kernel_rfl) (by kernel_rfl) (fun _ _ _ h => h) (Or.inl ⟨by rfl, ?y13⟩) hHeld ?r13
  case y13 => (intro w hSw; (try dsimp only at hSw); go_simp; first | done | with_reducible rfl | rfl)
  try simp only [Act.put, List.setIfInBounds_toArray, List.set_cons_zero, List.set_cons_succ]
  refine wpAnyH_take (i := 14) (v := ?v14) (by simp only [List.getElem?_toArray, List.getElem?_cons_succ, List.getElem?_cons_zero] <;> rfl) (by kernel_rfl) (by kernel_rfl) (by kernel_rfl) (fun _ _ _ h => h) (Or.inl ⟨by rfl, ?y14⟩) hHeld ?r14
  case y14 => (intro w hSw; (try dsimp only at hSw); go_simp; first | done | with_reducible rfl | rfl)
  try simp only [Act.put, List.setIfInBounds_toArray, List.set_cons_zero, List.set_cons_succ]
  refine wpAnyH_take (i := 15) (v := .agg A) (by simp only [List.getElem?_toArray, List.getElem?_cons_succ, List.getElem?_cons_zero] <;> rfl) (by kernel_rfl) (by kernel_rfl) (by kernel_rfl) (fun _ _ _ h => h) (yieldsIf_loadW (by rfl) _ _ rfl _ rfl A (fun w hSw => hSw.2.2.2.2.1)) hHeld ?_
  try simp only [Act.put, List.setIfInBounds_toArray, List.set_cons_zero, List.set_cons_succ]
  refine wpAnyH_take (i := 16) (v := ?v15) (by simp only [List.getElem?_toArray, List.getElem?_cons_succ, List.getElem?_cons_zero] <;> rfl) (by kernel_rfl) (by kernel_rfl) (by kernel_rfl) (fun _ _ _ h => h) (Or.inl ⟨by rfl, ?y15⟩) hHeld ?r15
  case y15 => (intro w hSw; (try dsimp only at hSw); go_simp; first | done | with_reducible rfl | rfl)
  try simp only [Act.put, List.setIfInBounds_toArray, List.set_cons_zero, List.set_cons_succ]
  refine wpAnyH_take (i := 17) (v := .agg B) (by simp only [List.getElem?_toArray, List.getElem?_cons_succ, List.getElem?_cons_zero] <;> rfl) (by kernel_rfl) (by kernel_rfl) (by kernel_rfl) (fun _ _ _ h => h) (yieldsIf_loadW (by rfl) _ _ rfl _ rfl B (fun w hSw => hSw.2.2.2.2.2.1)) hHeld ?_
  try simp only [Act.put, List.setIfInBounds_toArray, List.set_cons_zero, List.set_cons_succ]
  refine wpAnyH_take (i := 18) (v := ?v16) (by simp only [List.getElem?_toArray, List.getElem?_cons_succ, List.getElem?_cons_zero] <;> rfl) (by kernel_rfl) (by kernel_rfl) (by kernel_rfl) (fun _ _ _ h => h) (Or.inl ⟨by rfl, ?y16⟩) hHeld ?r16
  case y16 => (intro w hSw; (try dsimp only at hSw); go_simp; first | done | with_reducible rfl | rfl)
  try simp only [Act.put, List.setIfInBounds_toArray, List.set_cons_zero, List.set_cons_succ]
  refine wpAnyH_take (i := 19) (v := .agg C) (by simp only [List.getElem?_toArray, List.getElem?_cons_succ, List.getElem?_cons_zero] <;> rfl) (by kernel_rfl) (by kernel_rfl) (by kernel_rfl) (fun _ _ _ h => h) (yieldsIf_loadW (by rfl) _ _ rfl _ rfl C (fun w hSw => hSw.2.2.2.2.2.2.1)) hHeld ?_
  try simp only [Act.put, List.setIfInBounds_toArray, List.set_cons_zero, List.set_cons_succ]
  refine wpAnyH_ready (rs := [20]) (by kernel_rfl) (by simp) ?_
  refine AllReadyH.cons (by simp only [List.getElem?_toArray, List.getElem?_cons_succ, List.getElem?_cons_zero] <;> rfl) (fun K hK => ?_) ?_
  · go_simp; refine (HRP.out _).mono ?_; rintro e w7 ⟨rfl, hq⟩; have u7 := u6.drew.trans hq; have FM7 := Lib.hid (FmAt.upd FM6.out ((Upd.refl [] w6).drew.trans hq)); have RA7 := Lib.hid (row_updH RA6.out ((Upd.refl [] w6).drew.trans hq)); have RB7 := Lib.hid (row_updH RB6.out ((Upd.refl [] w6).drew.trans hq)); have H37 := Lib.hid (H3At.upd H36.out ((Upd.refl [] w6).drew.trans hq)); clear hq; go_wp2_with fail
    refine hK.out _ _ ?_ (fun hHeld => ?_)
    · exact HK.out _ FM7.out RA7.out H37.out
    clear hK K
    try simp only [Act.put, List.setIfInBounds_toArray, List.set_cons_zero, List.set_cons_succ]
    refine wpAnyH_ready (rs := [21]) (by kernel_rfl) (by simp) ?_
    refine AllReadyH.cons (by simp only [List.getElem?_toArray, List.getElem?_cons_succ, List.getElem?_cons_zero] <;> rfl) (fun K hK => ?_) ?_
    · rw [if_pos (by rfl)]; refine wp_store_row 33 _ _ rfl (w.heap.size + 1) R rfl rfl _ _ RA7.out HRI.out rfl HRO.out ?_; rw [setRow_self _ _ _ _ _ RA7.out]
      refine hK.out _ _ ?_ (fun hHeld => ?_)
      · exact HK.out _ FM7.out RA7.out H37.out
      clear hK K
      try simp only [Act.put]
      refine wpAnyH_ready (rs := [22]) (by kernel_rfl) (by simp) ?_
      refine AllReadyH.cons (by simp only [List.getElem?_toArray, List.getElem?_cons_succ, List.getElem?_cons_zero] <;> rfl) (fun K hK => ?_) ?_
      · rw [if_pos (by rfl)]; refine wp_store_row 33 _ _ rfl (w.heap.size + 1 + 1) R rfl rfl _ _ RB7.out HRI.out HRZ.out HRO.out ?_
        refine hK.out _ _ ?_ (fun hHeld => ?_)
        · exact HK.out _ (row_setRowO FM7.out (by omega) R) (row_setRowO RA7.out (by omega) R) (row_setRowO H37.out (by omega) R)
        clear hK K
        try simp only [Act.put]
        refine wpAnyH_done (by kernel_rfl) ?_ _
        refine NoPanic.normal ?_
        go_wp2_with fail
        refine bodyPost_ret (results_two_rows rfl _ _ (w.heap.size + 1) (w.heap.size + 1 + 1) _ R R _ rfl (row_setRowO RA7.out (by omega) R) rfl (setRow_heap _ _ _ R _ _ RB7.out) Tryz.underlying33 HRI.out HRI.out) rfl ⟨?_, u7.setRowNew (by omega) _⟩
        rw [HRE.out, HD.out]
        rfl
      exact AllReadyH.nil
    exact AllReadyH.nil
  exact AllReadyH.nil
end Go.Proofs.YtmnmhhbldbdpfaaGreatDoor

namespace Go.Proofs.YtmnmhhbldbdpfaaGreatDoor
open Go.ChangeShapes Go.WideShapes Go.ChangeAt Go.RowKit
set_option maxRecDepth 100000

theorem own_knob : ownKnob Tryz.prog.godebug = none := by kernel_rfl
theorem laid_out : laidOutB Tryz.prog = true := by kernel_rfl

/-- The list that every row of this seat bears. -/
def laidL : List (String × DataW Unit) := Rows.entryTextsRow.laid

theorem gP10 : Tryz.prog.globalNamed "internal/strconv.uint64pow10" = some 4 := by kernel_rfl
theorem gER : Tryz.prog.globalNamed "strconv.ErrRange" = some 3 := by kernel_rfl
theorem gES : Tryz.prog.globalNamed "strconv.ErrSyntax" = some 2 := by kernel_rfl
theorem starE : ("*" ++ "errors.errorString" : String) = "*errors.errorString" := by decide
theorem rowE (u : TypeId) (h : Tryz.prog.typeName? 3 u = some "*errors.errorString") : u = 198 :=
  typeName_ptr_named (nm := "errors.errorString") (by rw [starE]; kernel_rfl) (by kernel_rfl) (by decide) u (by rw [starE]; exact h)

theorem tabs_of_laid {W : World} (h : laidMetH Tryz.prog laidL W) (hsh : W.ShapedOpen Tryz.prog) : Tabs W := by
  have h0 : laidMet Tryz.prog laidL W := h
  have h3 := h0.tail.tail
  have h4 := h3.tail
  have h5 := h4.tail
  have h6 := h5.tail
  have h7 := h6.tail
  obtain ⟨a1, s1, hv1, _⟩ := laid_sentinel h4 gER (by kernel_rfl) Tryz.underlying101 rowE Tryz.underlying198 Tryz.underlying200 rfl rfl Tryz.underlying9 (by kernel_rfl) (by kernel_rfl)
  obtain ⟨a2, s2, hv2, _⟩ := laid_sentinel h5 gES (by kernel_rfl) Tryz.underlying101 rowE Tryz.underlying198 Tryz.underlying200 rfl rfl Tryz.underlying9 (by kernel_rfl) (by kernel_rfl)
  refine ⟨?_, ?_, ?_, ⟨_, _, hv1⟩, ⟨_, _, hv2⟩, ?_⟩
  · exact Lib.tabIs_of_head (rest := _) gK (by kernel_rfl) Tryz.underlying155 Tryz.underlying127 (by kernel_rfl) (by kernel_rfl) h7
  · exact Lib.tabIs_of_head (rest := _) gF (by kernel_rfl) Tryz.underlying128 Tryz.underlying127 (by kernel_rfl) (by kernel_rfl) h6
  · exact Lib.tabIs_of_head (rest := _) gP10 (by kernel_rfl) Tryz.underlying194 Tryz.underlying132 (by kernel_rfl) (by kernel_rfl) h3
  · exact Go.Proofs.cell_of_shapedOpen_int (zero := #[.int .i64 0]) (t := 3) hsh (of_decide_eq_true (by kernel_rfl)) (by kernel_rfl) rfl (by kernel_rfl) (by kernel_rfl) Tryz.underlying3
end Go.Proofs.YtmnmhhbldbdpfaaGreatDoor

namespace Go.Proofs.YtmnmhhbldbdpfaaGreatDoor
open Go.RowKit
theorem below_of_upd {w w' : World} (h : Upd [] [] w w') : Below w.heap.size w w' := ⟨h.os, h.tape, h.output, h.size, fun k hk => h.block k hk (by simp)⟩
end Go.Proofs.YtmnmhhbldbdpfaaGreatDoor

namespace Go.Proofs.YtmnmhhbldbdpfaaGreatDoor
open Go.ChangeShapes Go.WideShapes Go.ChangeAt Go.RowKit Go.Deep Go.Joins
set_option maxRecDepth 100000

/-- What a cell holds. -/
inductive Kd where
  | i (k : IntKind)
  | s
  | b
/-- The cell holds it. -/
def Kd.ok : Kd → Value → Prop
  | .i k, v => ∃ n : Int, v = .int k n ∧ (Lit.int k n).wf = true
  | .s, v => ∃ s : ByteArray, v = .string s ∧ s.size ≤ maxLen
  | .b, v => ∃ b : Bool, v = .bool b

/-- The cells of fields, one behind the other. -/
def flatF (P : Program) (fl : TypeId → Option (List Kd)) : Nat → List Field → Option (List Kd)
  | _, [] => some []
  | off, f :: r => match fl f.type with
    | some l => if f.offset = off ∧ l.length = P.cellsOf f.type then (flatF P fl (off + l.length) r).map (l ++ ·) else none
    | none => none
/-- The cells of a type. -/
def flatK (P : Program) : Nat → TypeId → Option (List Kd)
  | 0, _ => none
  | f + 1, t => match P.underlying t with
    | some (.int k) => some [.i k]
    | some .string => some [.s]
    | some .bool => some [.b]
    | some (.array n e) => match flatK P f e with
      | some l => if l.length = P.cellsOf e ∧ n * l.length = P.cellsOf t ∧ 0 < l.length then some (List.replicate n l).flatten else none
      | none => none
    | some (.struct fs) => match flatF P (flatK P f) 0 fs.toList with
      | some l => if l.length = P.cellsOf t then some l else none
      | none => none
    | _ => none

/-- The cells are of these kinds. -/
def Mt (ks : List Kd) (cs : List Value) : Prop := cs.length = ks.length ∧ ∀ (i : Nat) k, ks[i]? = some k → ∃ v, cs[i]? = some v ∧ k.ok v

theorem Mt.one {k : Kd} {v : Value} (h : k.ok v) : Mt [k] [v] := by
  refine ⟨rfl, fun i k' hi => ?_⟩
  cases i with
  | zero => simp at hi; subst hi; exact ⟨v, rfl, h⟩
  | succ i => simp at hi

theorem flatten_get {α : Type} (l : List α) (m : Nat) (hm : l.length = m) (h0 : 0 < m) : ∀ (n i : Nat) (a : α), (List.replicate n l).flatten[i]? = some a → i / m < n ∧ l[i % m]? = some a
  | 0, i, a, h => by simp at h
  | n + 1, i, a, h => by
    rw [List.replicate_succ, List.flatten_cons] at h
    by_cases hi : i < m
    · rw [List.getElem?_append_left (by omega)] at h
      rw [Nat.div_eq_of_lt hi, Nat.mod_eq_of_lt hi]
      exact ⟨by omega, h⟩
    · rw [List.getElem?_append_right (by omega), hm] at h
      have ih := flatten_get l m hm h0 n (i - m) a h
      have e1 : i / m = (i - m) / m + 1 := by rw [Nat.div_eq_sub_div h0 (by omega)]
      have e2 : i % m = (i - m) % m := by rw [Nat.mod_eq_sub_mod (by omega)]
      rw [e1, e2]
      exact ⟨by omega, ih.2⟩

theorem chunk_get {cs : List Value} {off sz j : Nat} {v : Value} (h : ((cs.drop off).take sz)[j]? = some v) : cs[off + j]? = some v := by
  rw [List.getElem?_take] at h
  split at h
  · rw [List.getElem?_drop] at h; exact h
  · cases h

section
variable {H : Type} {enc : TypeId × Value → H} {P : Program} {w : World} {base : Nat} {sp : Nat → Bool} {hd : Bool}

theorem flatF_ok {fl : TypeId → Option (List Kd)} {cs : List Value} : ∀ (fs : List Field) (off : Nat) (ks : List Kd), flatF P fl off fs = some ks →
    (∀ f ∈ fs, ∀ l, fl f.type = some l → Mt l ((cs.drop f.offset).take (P.cellsOf f.type))) → ∀ (i : Nat) k, ks[i]? = some k → ∃ v, cs[off + i]? = some v ∧ k.ok v
  | [], off, ks, h, _, i, k, hi => by
    simp only [flatF, Option.some.injEq] at h
    subst h
    simp at hi
  | f :: r, off, ks, h, hf, i, k, hi => by
    simp only [flatF] at h
    split at h
    · rename_i l hl
      split at h
      · rename_i hc
        obtain ⟨ks', hk', rfl⟩ := Option.map_eq_some_iff.1 h
        by_cases hil : i < l.length
        · rw [List.getElem?_append_left hil] at hi
          obtain ⟨v, hv, hok⟩ := (hf f (by simp) l hl).2 i k hi
          have := chunk_get hv
          rw [hc.1] at this
          exact ⟨v, this, hok⟩
        · rw [List.getElem?_append_right (by omega)] at hi
          obtain ⟨v, hv, hok⟩ := flatF_ok r (off + l.length) ks' hk' (fun f' hf' => hf f' (by simp [hf'])) (i - l.length) k hi
          rw [show off + l.length + (i - l.length) = off + i by omega] at hv
          exact ⟨v, hv, hok⟩
      · cases h
    · cases h

theorem flatK_ok : ∀ (f : Nat) (t : TypeId) (ks : List Kd) (fuel : Nat) (cs : List Value) (x : DataW H × List MemPlace), flatK P f t = some ks → DataW.trod enc P w base sp hd fuel t cs = some x → Mt ks cs
  | 0, t, ks, fuel, cs, x, h, _ => by simp [flatK] at h
  | f + 1, t, ks, fuel, cs, x, h, hx => by
    simp only [flatK] at h
    split at h
    · rename_i k hu
      obtain ⟨n, rfl, _, hw⟩ := DataW.trod_int hu hx
      simp only [Option.some.injEq] at h
      subst h
      exact Mt.one ⟨n, rfl, hw⟩
    · rename_i hu
      obtain ⟨s, rfl, _, hs⟩ := DataW.trod_string hu hx
      simp only [Option.some.injEq] at h
      subst h
      exact Mt.one ⟨s, rfl, hs⟩
    · rename_i hu
      obtain ⟨b, rfl, _⟩ := DataW.trod_bool hu hx
      simp only [Option.some.injEq] at h
      subst h
      exact Mt.one ⟨b, rfl⟩
    · rename_i n e hu
      split at h
      · rename_i l hl
        split at h
        · rename_i hc
          simp only [Option.some.injEq] at h
          subst h
          obtain ⟨xs, m, _, _, hlen, hxl, hi⟩ := DataW.trod_array hu hx
          refine ⟨by rw [hlen, ← hc.2.1]; simp, fun i k hk => ?_⟩
          obtain ⟨hq, hr⟩ := flatten_get l (P.cellsOf e) hc.1 (by omega) n i k hk
          have h1 := hi (i / P.cellsOf e) hq
          have e0 : xs[i / P.cellsOf e]? = some (xs[i / P.cellsOf e]'(by omega)) := List.getElem?_eq_getElem (by omega)
          rw [e0] at h1
          obtain ⟨v, hv, hok⟩ := (flatK_ok f e l m _ _ hl h1).2 (i % P.cellsOf e) k hr
          have := chunk_get hv
          rw [Nat.mul_comm, Nat.div_add_mod] at this
          exact ⟨v, this, hok⟩
        · cases h
      · cases h
    · rename_i fs hu
      split at h
      · rename_i l hl
        split at h
        · rename_i hc
          simp only [Option.some.injEq] at h
          subst h
          obtain ⟨xs, m, _, _, hlen, hxl, hi⟩ := DataW.trod_struct hu hx
          refine ⟨by rw [hlen, hc], fun i k hk => ?_⟩
          have := flatF_ok fs.toList 0 l hl (fun fd hfd lf hlf => by
            obtain ⟨j, hj⟩ := List.getElem?_of_mem hfd
            have h1 := hi j fd (by simpa using hj)
            have hjl : j < xs.length := by
              have := (List.getElem?_eq_some_iff.1 hj).1
              simp at this
              omega
            have e0 : xs[j]? = some (xs[j]'hjl) := List.getElem?_eq_getElem hjl
            rw [e0] at h1
            exact flatK_ok f fd.type lf m _ _ hlf h1) i k hk
          rw [Nat.zero_add] at this
          exact this
        · cases h
      · cases h
    · cases h

/-- A value of an array or a struct of plain cells. -/
theorem open_flat {t : TypeId} {v : Value} {d : DataW H} {p : List MemPlace} {ks : List Kd} {r : Reach} {b0 : Nat} (f : Nat) (hk : flatK P f t = some ks) (hv : Value.okWide P w r b0 t v) (h : DataW.Trod enc P w base sp hd t v d p) (ha : (∃ n e, P.underlying t = some (.array n e)) ∨ ∃ fs, P.underlying t = some (.struct fs)) :
    ∃ cs : Array Value, v = .agg cs ∧ Mt ks cs.toList := by
  obtain ⟨fuel, hf⟩ := h
  have hm := flatK_ok f t ks fuel _ _ hk hf
  rcases ha with ⟨n, e, hu⟩ | ⟨fs, hu⟩
  · simp only [Value.okWide, hu] at hv
    obtain ⟨cs, rfl, _⟩ := hv
    exact ⟨cs, rfl, hm⟩
  · simp only [Value.okWide, hu] at hv
    obtain ⟨cs, rfl, _⟩ := hv
    exact ⟨cs, rfl, hm⟩

theorem Mt.get {ks : List Kd} {cs : List Value} (h : Mt ks cs) {i : Nat} {k : Kd} (hk : ks[i]? = some k) : ∃ v, cs[i]? = some v ∧ k.ok v := h.2 i k hk
theorem Mt.i64 {ks : List Kd} {cs : List Value} (h : Mt ks cs) {i : Nat} (hk : ks[i]? = some (.i .i64)) : ∃ n : Int, cs[i]? = some (.int .i64 n) ∧ -9223372036854775808 ≤ n ∧ n ≤ 9223372036854775807 := by
  obtain ⟨v, hv, n, rfl, hw⟩ := h.2 i _ hk
  exact ⟨n, hv, bounds_i64 hw⟩
theorem Mt.str {ks : List Kd} {cs : List Value} (h : Mt ks cs) {i : Nat} (hk : ks[i]? = some .s) : ∃ s : ByteArray, cs[i]? = some (.string s) ∧ s.size ≤ 9223372036854775807 := by
  obtain ⟨v, hv, n, rfl, hw⟩ := h.2 i _ hk
  exact ⟨n, hv, hw⟩
theorem Mt.bool {ks : List Kd} {cs : List Value} (h : Mt ks cs) {i : Nat} (hk : ks[i]? = some .b) : ∃ b : Bool, cs[i]? = some (.bool b) := by
  obtain ⟨v, hv, n, rfl⟩ := h.2 i _ hk
  exact ⟨n, hv⟩
theorem Mt.u8 {ks : List Kd} {cs : List Value} (h : Mt ks cs) {i : Nat} (hk : ks[i]? = some (.i .u8)) : ∃ n : Int, cs[i]? = some (.int .u8 n) ∧ 0 ≤ n ∧ n ≤ 255 := by
  obtain ⟨v, hv, n, rfl, hw⟩ := h.2 i _ hk
  exact ⟨n, hv, bounds_u8 hw⟩
theorem Mt.u16 {ks : List Kd} {cs : List Value} (h : Mt ks cs) {i : Nat} (hk : ks[i]? = some (.i .u16)) : ∃ n : Int, cs[i]? = some (.int .u16 n) ∧ 0 ≤ n ∧ n ≤ 65535 := by
  obtain ⟨v, hv, n, rfl, hw⟩ := h.2 i _ hk
  exact ⟨n, hv, bounds_u16 hw⟩

theorem open_ints2 {t : TypeId} {v : Value} {d : DataW H} {p : List MemPlace} {r : Reach} {b0 : Nat} (f : Nat) (hk : flatK P f t = some [.i .i64, .i .i64]) (hv : Value.okWide P w r b0 t v) (h : DataW.Trod enc P w base sp hd t v d p) (ha : (∃ n e, P.underlying t = some (.array n e)) ∨ ∃ fs, P.underlying t = some (.struct fs)) :
    ∃ a b : Int, v = .agg #[.int .i64 a, .int .i64 b] ∧ (-9223372036854775808 ≤ a ∧ a ≤ 9223372036854775807) ∧ (-9223372036854775808 ≤ b ∧ b ≤ 9223372036854775807) := by
  obtain ⟨cs, rfl, hm⟩ := open_flat f hk hv h ha
  obtain ⟨a, ha, wa⟩ := hm.i64 (i := 0) rfl
  obtain ⟨b, hb, wb⟩ := hm.i64 (i := 1) rfl
  have hl : cs.toList.length = 2 := hm.1
  refine ⟨a, b, ?_, wa, wb⟩
  congr 1
  apply Array.ext'
  match h : cs.toList, hl with
  | [x, y], _ =>
    rw [h] at ha hb
    simp at ha hb
    rw [ha, hb]
theorem open_ints4 {t : TypeId} {v : Value} {d : DataW H} {p : List MemPlace} {r : Reach} {b0 : Nat} (f : Nat) (hk : flatK P f t = some [.i .i64, .i .i64, .i .i64, .i .i64]) (hv : Value.okWide P w r b0 t v) (h : DataW.Trod enc P w base sp hd t v d p) (ha : (∃ n e, P.underlying t = some (.array n e)) ∨ ∃ fs, P.underlying t = some (.struct fs)) :
    ∃ a b c e : Int, v = .agg #[.int .i64 a, .int .i64 b, .int .i64 c, .int .i64 e] ∧ (-9223372036854775808 ≤ a ∧ a ≤ 9223372036854775807) ∧ (-9223372036854775808 ≤ b ∧ b ≤ 9223372036854775807) ∧ (-9223372036854775808 ≤ c ∧ c ≤ 9223372036854775807) ∧ (-9223372036854775808 ≤ e ∧ e ≤ 9223372036854775807) := by
  obtain ⟨cs, rfl, hm⟩ := open_flat f hk hv h ha
  obtain ⟨a, ha, wa⟩ := hm.i64 (i := 0) rfl
  obtain ⟨b, hb, wb⟩ := hm.i64 (i := 1) rfl
  obtain ⟨c, hc, wc⟩ := hm.i64 (i := 2) rfl
  obtain ⟨e, he, we⟩ := hm.i64 (i := 3) rfl
  have hl : cs.toList.length = 4 := hm.1
  refine ⟨a, b, c, e, ?_, wa, wb, wc, we⟩
  congr 1
  apply Array.ext'
  match h : cs.toList, hl with
  | [x, y, z, u], _ =>
    rw [h] at ha hb hc he
    simp at ha hb hc he
    rw [ha, hb, hc, he]
end
end Go.Proofs.YtmnmhhbldbdpfaaGreatDoor

namespace Go.Proofs.YtmnmhhbldbdpfaaGreatDoor
open Go.ChangeShapes Go.WideShapes Go.ChangeAt Go.RowKit Go.Deep Go.Joins
set_option maxRecDepth 100000

/-- Cells that hold bytes. -/
theorem Mt.bytes {ks : List Kd} {cs : List Value} (h : Mt ks cs) (o n : Nat) (hk : ∀ i, i < n → ks[o + i]? = some (.i .u8)) : ∃ l : List UInt8, l.length = n ∧ (cs.drop o).take n = byteVals l := by
  have hA : ∀ i, i < n → ∃ b : UInt8, cs[o + i]? = some (byteV b) := by
    intro i hi
    obtain ⟨z, hz, h1, h2⟩ := h.u8 (hk i hi)
    refine ⟨UInt8.ofNat z.toNat, ?_⟩
    rw [hz]
    unfold byteV
    have : ((UInt8.ofNat z.toNat).toNat : Int) = z := by
      rw [UInt8.toNat_ofNat']
      omega
    rw [this]
  obtain ⟨f, hf⟩ := choose_lt hA
  refine ⟨(List.range n).map f, by simp, ?_⟩
  apply List.ext_getElem?
  intro i
  unfold byteVals
  rw [List.getElem?_take, List.getElem?_map, List.getElem?_map]
  by_cases hi : i < n
  · rw [if_pos hi, List.getElem?_drop, hf i hi, List.getElem?_range hi]
    rfl
  · rw [if_neg hi, List.getElem?_eq_none (by simp; omega)]
    rfl
theorem take_cut (l : List Value) (a b : Nat) : l.drop a = (l.drop a).take b ++ l.drop (a + b) := by
  rw [← List.drop_drop, List.take_append_drop]
/-- The form of zeros, as a value and as data. -/
def fmZv : Value := .agg (([Value.int .i64 0, Value.int .i64 0, Value.int .i64 0, Value.int .i64 0, Value.string ByteArray.empty] : List Value) ++ List.replicate 96 (Value.int .u8 0)).toArray
def fmZd {H : Type} : DataW H := .agg [.agg (List.replicate 4 (.lit (Lit.int .i64 0))), .lit (Lit.string []), .agg (List.replicate 3 (.agg (List.replicate 32 (.lit (Lit.int .u8 0)))))]
/-- The cells of a form. -/
def fmK : List Kd := [.i .i64, .i .i64, .i .i64, .i .i64, .s] ++ List.replicate 96 (.i .u8)
theorem fmK_u8 (i : Nat) (h : i < 96) : fmK[5 + i]? = some (.i .u8) := by
  unfold fmK
  rw [List.getElem?_append_right (by simp), List.getElem?_replicate]
  simp [h]
theorem fm_of_cells {cs : List Value} (hm : Mt fmK cs) : ∃ f : Fm, cs = fmV f ∧ f.ok := by
  obtain ⟨k, e0, i0⟩ := hm.i64 (i := 0) rfl
  obtain ⟨x, e1, i1⟩ := hm.i64 (i := 1) rfl
  obtain ⟨s, e2, i2⟩ := hm.i64 (i := 2) rfl
  obtain ⟨n, e3, i3⟩ := hm.i64 (i := 3) rfl
  obtain ⟨d, e4, i4⟩ := hm.str (i := 4) rfl
  obtain ⟨a, la, ea⟩ := hm.bytes 5 32 (fun i hi => fmK_u8 i (by omega))
  obtain ⟨b, lb, eb⟩ := hm.bytes 37 32 (fun i hi => by rw [show 37 + i = 5 + (32 + i) by omega]; exact fmK_u8 _ (by omega))
  obtain ⟨c, lc, ec⟩ := hm.bytes 69 32 (fun i hi => by rw [show 69 + i = 5 + (64 + i) by omega]; exact fmK_u8 _ (by omega))
  have hl : cs.length = 101 := hm.1
  refine ⟨⟨k, x, s, n, d, a, b, c⟩, ?_, i0, i1, i2, i3, la, lb, lc, i4⟩
  have h5 : cs = cs.take 5 ++ cs.drop 5 := (List.take_append_drop 5 cs).symm
  have h6 := take_cut cs 5 32
  have h7 := take_cut cs 37 32
  have h8 := take_cut cs 69 32
  have h9 : cs.drop (69 + 32) = [] := List.drop_eq_nil_of_le (by omega)
  have ht : cs.take 5 = [.int .i64 k, .int .i64 x, .int .i64 s, .int .i64 n, .string d] := by
    match cs, e0, e1, e2, e3, e4 with
    | y0 :: y1 :: y2 :: y3 :: y4 :: r, e0, e1, e2, e3, e4 =>
      simp at e0 e1 e2 e3 e4
      subst e0 e1 e2 e3 e4
      rfl
  rw [h5, ht, h6, h7, h8, ea, eb, ec, h9]
  simp [fmV, hs3]
section
variable {H : Type} {enc : TypeId × Value → H} {w : World} {base : Nat} {sp : Nat → Bool} {hd : Bool}
theorem open_form {v : Value} {d : DataW H} {p : List MemPlace} {r : Reach} {b0 : Nat} (hv : Value.okWide Tryz.prog w r b0 27 v) (h : DataW.Trod enc Tryz.prog w base sp hd 27 v d p) : ∃ f : Fm, v = .agg (fmV f).toArray ∧ f.ok := by
  have hk : flatK Tryz.prog 8 27 = some fmK := by kernel_rfl
  obtain ⟨cs, rfl, hm⟩ := open_flat 8 hk hv h (.inr ⟨_, Tryz.underlying27⟩)
  obtain ⟨f, hf, ho⟩ := fm_of_cells hm
  exact ⟨f, by rw [← hf], ho⟩
end
end Go.Proofs.YtmnmhhbldbdpfaaGreatDoor
