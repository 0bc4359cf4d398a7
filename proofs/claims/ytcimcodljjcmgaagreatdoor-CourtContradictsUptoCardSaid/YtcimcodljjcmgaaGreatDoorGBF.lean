/- court.ballot at any text. -/
import Derived.Test.YtcimcodljjcmgaaGreatDoorGAM
import Derived.Test.YtcimcodljjcmgaaGreatDoorGAJ
import Derived.Test.YtcimcodljjcmgaaGreatDoorGAP
namespace Go.Proofs.YtcimcodljjcmgaaGreatDoor
open Go.RowKit
set_option maxRecDepth 100000

def BalR (l : List UInt8) (y : ByteArray) (ok : Bool) : Prop := (ok = true ∧ ∃ b, IsBal l b ∧ bs y = b.key) ∨ (ok = false ∧ ∀ b, ¬ IsBal l b)
def MkBal (l : List UInt8) (w : World) (e : Ending) (w' : World) : Prop := ∃ (y : ByteArray) (ok : Bool), Hid (BalR l y ok) ∧ e = .returned (.tuple #[.string y, .bool ok]) ∧ Upd [] [] w w'
def MkSpl (s : ByteArray) (W : World) (e : Ending) (w' : World) : Prop :=
  ∃ P : List ByteArray, Hid (IsWords (bs s) (P.map bs) ∧ (∀ p ∈ P, p.size ≤ s.size) ∧ P.length ≤ 4294967296) ∧ e = .returned (.slice (some ⟨W.heap.size, 0, none⟩) P.length P.length) ∧ w' = W.alloc (.cells (P.map Value.string).toArray 9)
theorem splitAll (s : ByteArray) (hs : s.size ≤ 4000000000) (W : World) (htab : Tabs W) : Calls Tryz.prog 42 #[.string s, .string ⟨#[32]⟩] W (MkSpl s W) := by
  obtain ⟨m, hm⟩ := htab.m
  refine (Tryz.strings_Split s ⟨#[32]⟩ m W (by omega) hm (by decide)).mono ?_
  rintro e w' ⟨rfl, rfl⟩
  have hl := Lib.splitB_all ⟨#[32]⟩ (by decide) 0 (Lib.countB s ⟨#[32]⟩) s rfl
  have hc : Lib.countB s ⟨#[32]⟩ ≤ s.size := by
    have e : Lib.countB s ⟨#[32]⟩ = (bs s).count 32 := Lib.count_one 32 (bs s)
    rw [e, ← bs_length]
    exact List.count_le_length
  refine ⟨Lib.splitB ⟨#[32]⟩ 0 (Lib.countB s ⟨#[32]⟩) s, ⟨splitB_words s, fun p hp => splitB_size _ _ _ _ hp, by omega⟩, by rw [hl], rfl⟩
theorem four_of {P : List ByteArray} (h : P.length = 4) : ∃ a b c d, P = [a, b, c, d] := by
  match P, h with
  | [a, b, c, d], _ => exact ⟨a, b, c, d, rfl⟩
def kinds3 : List ByteArray := [⟨#[112, 114, 111, 112, 111, 115, 101]⟩, ⟨#[112, 114, 101, 112, 97, 114, 101]⟩, ⟨#[99, 111, 109, 109, 105, 116]⟩]
theorem kinds_mem (x : ByteArray) : x ∈ kinds3 ↔ (bs x = kPro ∨ bs x = kPre ∨ bs x = kCom) := by
  simp only [kinds3, List.mem_cons, List.not_mem_nil, or_false]
  constructor
  · rintro (rfl | rfl | rfl)
    · exact .inl rfl
    · exact .inr (.inl rfl)
    · exact .inr (.inr rfl)
  · rintro (h | h | h)
    · exact .inl (bs_inj h)
    · exact .inr (.inl (bs_inj h))
    · exact .inr (.inr (bs_inj h))
theorem kindsHas (w : World) (g : Nat) (x : ByteArray) (h : w.heap[g]? = some (.cells #[.string ⟨#[112, 114, 111, 112, 111, 115, 101]⟩, .string ⟨#[112, 114, 101, 112, 97, 114, 101]⟩, .string ⟨#[99, 111, 109, 109, 105, 116]⟩] 9 (0, 0))) :
    Calls Tryz.prog 43 #[.slice (some ⟨g, 0, none⟩) 3 3, .string x] w (fun e w' => e = .returned (.bool (Lib.containsS kinds3 x)) ∧ w' = w) := by
  refine (Tryz.slices_Contains_string g 0 3 3 kinds3 x w (by decide) (by decide) ?_).mono ?_
  · intro j hj
    rw [Nat.zero_add, cell_of_row _ _ _ _ _ _ h]
    match j, hj with
    | 0, _ => rfl
    | 1, _ => rfl
    | 2, _ => rfl
  · rintro e w' ⟨rfl, rfl⟩
    exact ⟨rfl, rfl⟩
set_option maxHeartbeats 4000000 in
theorem ballotG (s : ByteArray) (hs : s.size ≤ 1000000000) (w : World) (htab : Tabs w) : Calls Tryz.prog 23 #[.string s] w (MkBal (bs s) w) := by
  have HSp := Lib.hid (splitAll s (by omega) w htab)
  go_enter Tryz.func23, Tryz.ntmps23
  go_wp2_with fail
  refine HSp.out.mono ?_
  rintro e w1 ⟨P, HP, rfl, hw1⟩
  clear HSp
  obtain ⟨gP, hgP⟩ : ∃ g, w.heap.size = g := ⟨_, rfl⟩
  rw [hgP]
  have R1 : Hid (w1.heap[gP]? = some (.cells (P.map Value.string).toArray 9 (0, 0))) := by rw [← hgP, hw1]; exact heap_alloc_new _ _
  have U1 : Hid (Upd [] [] w w1) := by rw [hw1]; exact (Upd.refl _ _).alloc _
  have HGP := Lib.hid hgP
  have HB : Hid (∀ b, IsBal (bs s) b → P.map bs = b.words) := fun b h => h.words HP.out.1
  have hpl : P.length ≤ 4294967296 := HP.out.2.2
  clear hw1 hgP
  by_cases h4 : P.length = 4
  case neg =>
    have h4i : ¬ (P.length : Int) = 4 := by omega
    have HNO : Hid (∀ b, ¬ IsBal (bs s) b) := by
      intro b h
      have e := congrArg List.length (HB.out b h)
      rw [List.length_map] at e
      exact h4 e
    clear HB HP
    go_wp2_with fail
    go_ret2
    exact ⟨_, false, .inr ⟨rfl, HNO.out⟩, rfl, U1.out⟩
  obtain ⟨p0, p1, p2, p3, hP⟩ := four_of h4
  have HC : Hid (∀ b, IsBal (bs s) b → bs p0 = b.k ∧ bs p1 = Lib.itoa b.h ∧ bs p2 = Lib.itoa b.v ∧ bs p3 = b.x) := by
    intro b h
    have e := HB.out b h
    rw [hP] at e
    simp only [List.map_cons, List.map_nil, Bal.words, List.cons.injEq, and_true] at e
    exact e
  have HW : Hid (bs s = Lib.join [bs p0, bs p1, bs p2, bs p3] [32]) := by
    have e := HP.out.1.2.2
    rw [hP] at e
    exact e.symm
  have HSZ : Hid (p0.size ≤ s.size ∧ p1.size ≤ s.size ∧ p2.size ≤ s.size ∧ p3.size ≤ s.size) := by
    have h := HP.out.2.1
    rw [hP] at h
    exact ⟨h _ (by simp), h _ (by simp), h _ (by simp), h _ (by simp)⟩
  have RP : Hid (w1.heap[gP]? = some (.cells #[.string p0, .string p1, .string p2, .string p3] 9 (0, 0))) := by
    have h := R1.out
    rw [hP] at h
    exact h
  have h4i : (P.length : Int) = 4 := by omega
  subst hP
  clear R1 HP HB h4 hpl
  obtain ⟨gK, hgK⟩ : ∃ g, w1.heap.size = g := ⟨_, rfl⟩
  obtain ⟨w2, hw2⟩ : ∃ W, w1.alloc (.cells #[.string ⟨#[112, 114, 111, 112, 111, 115, 101]⟩, .string ⟨#[112, 114, 101, 112, 97, 114, 101]⟩, .string ⟨#[99, 111, 109, 109, 105, 116]⟩] 9) = W := ⟨_, rfl⟩
  have RK := Lib.hid (show w2.heap[gK]? = some (.cells #[.string ⟨#[112, 114, 111, 112, 111, 115, 101]⟩, .string ⟨#[112, 114, 101, 112, 97, 114, 101]⟩, .string ⟨#[99, 111, 109, 109, 105, 116]⟩] 9 (0, 0)) by rw [← hgK, ← hw2]; exact heap_alloc_new _ _)
  have u2 : Upd [] [] w1 w2 := by rw [← hw2]; exact (Upd.refl _ _).alloc _
  have R2 := Lib.hid (row_updH RP.out u2)
  have U2 := Lib.hid (U1.out.trans u2)
  have c0 := (cell_of_row _ gP 0 _ _ _ R2.out).trans (show _ = some (Value.string p0) from rfl)
  clear u2 RP U1
  go_wp2_with fail
  refine (kindsHas w2 gK p0 RK.out).mono ?_
  rintro e w' ⟨rfl, rfl⟩
  clear RK c0
  obtain ⟨b0, hb0⟩ : ∃ b, Lib.containsS kinds3 p0 = b := ⟨_, rfl⟩
  have HB0 : Hid ((bs p0 = kPro ∨ bs p0 = kPre ∨ bs p0 = kCom) ↔ b0 = true) := by
    show _ ↔ _
    rw [← hb0, Lib.containsS_iff, kinds_mem]
  rw [hb0]
  clear hb0
  cases b0
  · have HNO : Hid (∀ b, ¬ IsBal (bs s) b) := fun b h => by
      have e := HB0.out.1 (by rw [(HC.out b h).1]; exact h.1.1)
      cases e
    go_wp2_with fail
    go_ret2
    exact ⟨_, false, .inr ⟨rfl, HNO.out⟩, rfl, U2.out⟩
  have HK : Hid (bs p0 = kPro ∨ bs p0 = kPre ∨ bs p0 = kCom) := HB0.out.2 rfl
  clear HB0
  go_wp2_with fail
  refine wp_loop_rounds 3 ?_
  rw [rounds_succ]
  have cp := (cell_of_row _ gP 1 _ _ _ R2.out).trans (show _ = some (Value.string p1) from rfl)
  go_wp2_with fail
  refine (cNumberG p1 _ (by have := HSZ.out.2.1; omega) (htab.upd U2.out)).mono ?_
  rintro e y0 ⟨m0, ok, HO, hm0, rfl, hq⟩
  have V0 := Lib.hid (U2.out.trans hq)
  have S0 := Lib.hid (row_updH R2.out hq)
  have I0 := Lib.hid hm0
  obtain ⟨hm0a, hm0b⟩ := hm0
  clear hq cp R2 U2
  cases ok
  · have HNO : Hid (∀ b, ¬ IsBal (bs s) b) := fun b h => HO.out.2.2 rfl ⟨b.h, (by have := h.1.2.1; unfold i64in; omega), (HC.out b h).2.1⟩
    clear HO
    go_wp2_with fail
    go_ret2
    exact ⟨_, false, .inr ⟨rfl, HNO.out⟩, rfl, V0.out⟩
  have M0 : Hid (bs p1 = Lib.itoa m0) := HO.out.2.1 rfl
  have N0 : Hid (∀ b, IsBal (bs s) b → 0 ≤ m0 ∧ m0 ≤ 1000000000) := fun b h => by
    have e := itoa_inj I0.out (by have := h.1.2.1; unfold i64in; omega) (M0.out.symm.trans (HC.out b h).2.1)
    rw [e]
    exact h.1.2.1
  clear HO
  by_cases hlt : m0 < 0
  · have HNO : Hid (∀ b, ¬ IsBal (bs s) b) := fun b h => by have := N0.out b h; omega
    go_wp2_with fail
    go_ret2
    exact ⟨_, false, .inr ⟨rfl, HNO.out⟩, rfl, V0.out⟩
  have g0 : ¬ m0 < 0 := hlt
  clear hlt
  by_cases hlt : 1000000000 < m0
  · have HNO : Hid (∀ b, ¬ IsBal (bs s) b) := fun b h => by have := N0.out b h; omega
    go_wp2_with fail
    go_ret2
    exact ⟨_, false, .inr ⟨rfl, HNO.out⟩, rfl, V0.out⟩
  have g1 : ¬ 1000000000 < m0 := hlt
  clear hlt
  have B0 : Hid (0 ≤ m0 ∧ m0 ≤ 1000000000) := (by show _ ∧ _; omega)
  clear N0
  go_wp2_with fail
  clear hm0a hm0b
  rw [rounds_succ]
  have cp := (cell_of_row _ gP 2 _ _ _ S0.out).trans (show _ = some (Value.string p2) from rfl)
  go_wp2_with fail
  refine (cNumberG p2 _ (by have := HSZ.out.2.2.1; omega) (htab.upd V0.out)).mono ?_
  rintro e y1 ⟨m1, ok, HO, hm1, rfl, hq⟩
  have V1 := Lib.hid (V0.out.trans hq)
  have S1 := Lib.hid (row_updH S0.out hq)
  have I1 := Lib.hid hm1
  obtain ⟨hm1a, hm1b⟩ := hm1
  clear hq cp S0 V0
  cases ok
  · have HNO : Hid (∀ b, ¬ IsBal (bs s) b) := fun b h => HO.out.2.2 rfl ⟨b.v, (by have := h.1.2.2.1; unfold i64in; omega), (HC.out b h).2.2.1⟩
    clear HO
    go_wp2_with fail
    go_ret2
    exact ⟨_, false, .inr ⟨rfl, HNO.out⟩, rfl, V1.out⟩
  have M1 : Hid (bs p2 = Lib.itoa m1) := HO.out.2.1 rfl
  have N1 : Hid (∀ b, IsBal (bs s) b → 0 ≤ m1 ∧ m1 ≤ 1000000000) := fun b h => by
    have e := itoa_inj I1.out (by have := h.1.2.2.1; unfold i64in; omega) (M1.out.symm.trans (HC.out b h).2.2.1)
    rw [e]
    exact h.1.2.2.1
  clear HO
  by_cases hlt : m1 < 0
  · have HNO : Hid (∀ b, ¬ IsBal (bs s) b) := fun b h => by have := N1.out b h; omega
    go_wp2_with fail
    go_ret2
    exact ⟨_, false, .inr ⟨rfl, HNO.out⟩, rfl, V1.out⟩
  have g2 : ¬ m1 < 0 := hlt
  clear hlt
  by_cases hlt : 1000000000 < m1
  · have HNO : Hid (∀ b, ¬ IsBal (bs s) b) := fun b h => by have := N1.out b h; omega
    go_wp2_with fail
    go_ret2
    exact ⟨_, false, .inr ⟨rfl, HNO.out⟩, rfl, V1.out⟩
  have g3 : ¬ 1000000000 < m1 := hlt
  clear hlt
  have B1 : Hid (0 ≤ m1 ∧ m1 ≤ 1000000000) := (by show _ ∧ _; omega)
  clear N1
  go_wp2_with fail
  clear hm1a hm1b
  rw [rounds_succ]
  have cp := (cell_of_row _ gP 3 _ _ _ S1.out).trans (show _ = some (Value.string p3) from rfl)
  have hz3 : p3.size ≤ s.size := HSZ.out.2.2.2
  go_upto_region 12 with (fail)
  have HX : Hid (∀ b, IsBal (bs s) b → 2 ≤ p3.size ∧ p3.size ≤ 400 ∧ p3.size % 2 = 0 ∧ ∀ c ∈ bs p3, c ∈ hx16) := fun b h => by
    have e := (HC.out b h).2.2.2
    have l : p3.size = b.x.length := by rw [← e, bs_length]
    rw [l, e]
    exact h.1.2.2.2
  by_cases z2 : p3.size < 2
  · have z2i : (p3.size : Int) < 2 := by omega
    have HNO : Hid (∀ b, ¬ IsBal (bs s) b) := fun b h => by have := HX.out b h; omega
    go_wp2_with fail
    go_ret2
    exact ⟨_, false, .inr ⟨rfl, HNO.out⟩, rfl, V1.out⟩
  have z2i : ¬ (p3.size : Int) < 2 := by omega
  by_cases z4 : 400 < p3.size
  · have z4i : 400 < (p3.size : Int) := by omega
    have HNO : Hid (∀ b, ¬ IsBal (bs s) b) := fun b h => by have := HX.out b h; omega
    go_wp2_with fail
    go_ret2
    exact ⟨_, false, .inr ⟨rfl, HNO.out⟩, rfl, V1.out⟩
  have z4i : ¬ 400 < (p3.size : Int) := by omega
  by_cases zo : p3.size % 2 = 0
  case neg =>
    have HNO : Hid (∀ b, ¬ IsBal (bs s) b) := fun b h => by have := HX.out b h; omega
    have r1 : IntKind.i64.wrap ((p3.size : Int).tmod 2) = 1 := by
      rw [Int.tmod_eq_emod_of_nonneg (by omega)]
      exact (wrap_in (by omega) (by omega)).trans (by omega)
    have r2 : (p3.size : Int).tmod 2 = 1 := by
      rw [Int.tmod_eq_emod_of_nonneg (by omega)]
      omega
    go_wp2_with fail
    go_ret2
    exact ⟨_, false, .inr ⟨rfl, HNO.out⟩, rfl, V1.out⟩
  have r1 : IntKind.i64.wrap ((p3.size : Int).tmod 2) = 0 := by
    rw [Int.tmod_eq_emod_of_nonneg (by omega)]
    exact (wrap_in (by omega) (by omega)).trans (by omega)
  have r2 : (p3.size : Int).tmod 2 = 0 := by
    rw [Int.tmod_eq_emod_of_nonneg (by omega)]
    omega
  go_wp2_with fail
  refine (trimHex p3 (by omega) (by omega) y1).mono ?_
  rintro e y2 ⟨r, HR, rfl, hq⟩
  have V2 := Lib.hid (V1.out.trans hq)
  have S2 := Lib.hid (row_updH S1.out hq)
  clear hq S1 V1 cp
  by_cases hr0 : r.size = 0
  case neg =>
    have hl0 : ¬ r.toList = [] := fun e => hr0 (by rw [ByteArray.toList_eq] at e; rw [← bs_length]; exact congrArg List.length e)
    have hb4 : (r.toList == []) = false := beq_eq_false_iff_ne.2 hl0
    have hb5 : r.toList.isEmpty = false := by simpa using hl0
    have HNO : Hid (∀ b, ¬ IsBal (bs s) b) := fun b h => hr0 (HR.out.2 (HX.out b h).2.2.2)
    go_wp2_with fail
    go_ret2
    exact ⟨_, false, .inr ⟨rfl, HNO.out⟩, rfl, V2.out⟩
  have hr : r = ⟨#[]⟩ := bs_inj (List.length_eq_zero_iff.1 (by rw [bs_length]; exact hr0))
  have HH := HR.out.1 hr0
  have HBAL : Hid (IsBal (bs s) ⟨bs p0, m0, m1, bs p3⟩) := ⟨⟨HK.out, B0.out, B1.out, (by show 2 ≤ (bs p3).length; rw [bs_length]; omega), (by show (bs p3).length ≤ 400; rw [bs_length]; omega), (by show (bs p3).length % 2 = 0; rw [bs_length]; exact zo), HH⟩, by rw [HW.out, M0.out, M1.out]; rfl⟩
  have HJ : Hid (Lib.join ([p0, p1, p2].map (·.data.toList)) [32] = (Bal.mk (bs p0) m0 m1 (bs p3)).key) := by
    show Lib.join [bs p0, bs p1, bs p2] [32] = _
    rw [M0.out, M1.out]
    rfl
  have HKL : Hid ((Bal.mk (bs p0) m0 m1 (bs p3)).key.length ≤ 100) := by
    show _ ≤ _
    have i0 := itoa_len m0 (by unfold i64in; omega)
    have i1 := itoa_len m1 (by unfold i64in; omega)
    have e : (Bal.mk (bs p0) m0 m1 (bs p3)).key = bs p0 ++ 32 :: (Lib.itoa m0 ++ 32 :: Lib.itoa m1) := by
      show Lib.join [bs p0, _, _] [32] = _
      rw [join_two, join_two, Lib.join_one]
      rfl
    have l0 : (bs p0).length ≤ 7 := by rcases HK.out with e | e | e <;> rw [e] <;> decide
    rw [e]
    simp only [List.length_append, List.length_cons]
    omega
  obtain ⟨KY, hKY⟩ : ∃ l, (Bal.mk (bs p0) m0 m1 (bs p3)).key = l := ⟨_, rfl⟩
  rw [hKY] at HJ HKL
  have HKY := Lib.hid hKY
  subst hr
  clear HX HC HH hr0 HR hKY
  go_wp2_with fail
  have hj := Tryz.strings_Join gP 0 4 [p0, p1, p2] ⟨#[32]⟩ y2 (by
    intro j x hx
    rw [Nat.zero_add, cell_of_row _ _ _ _ _ _ S2.out]
    match j, hx with
    | 0, hx => cases hx; rfl
    | 1, hx => cases hx; rfl
    | 2, hx => cases hx; rfl) (blk_lt S2.out) (by simp) (by simp) (by
    show (Lib.join (_) [32]).length ≤ _
    have := HKL.out
    rw [HJ.out]
    omega)
  refine hj.mono ?_
  rintro e y3 ⟨rfl, hb⟩
  have V3 := Lib.hid (V2.out.trans (upd_of_below hb))
  obtain ⟨T, hT⟩ : ∃ T : ByteArray, T = ⟨(Lib.join ([p0, p1, p2].map (·.data.toList)) (⟨#[32]⟩ : ByteArray).data.toList).toArray⟩ := ⟨_, rfl⟩
  rw [← hT]
  have HT : Hid (bs T = KY) := by
    show _ = _
    rw [hT, bs_mk]
    exact HJ.out
  clear hj hb hT
  go_wp2_with fail
  go_ret2
  exact ⟨T, true, .inl ⟨rfl, _, HBAL.out, HT.out.trans HKY.out.symm⟩, rfl, V3.out⟩
end Go.Proofs.YtcimcodljjcmgaaGreatDoor
