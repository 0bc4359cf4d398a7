/- sortesref29: Text and Read of a vote. -/
import Derived.Test.YtcimcodljjcmgaaGreatDoorGBD
import Derived.Test.YtcimcodljjcmgaaGreatDoorGAY
import Derived.Test.YtcimcodljjcmgaaGreatDoorGAL
namespace Go.Proofs.YtcimcodljjcmgaaGreatDoor
open Go.RowKit
set_option maxRecDepth 100000

theorem text29_any (k x : ByteArray) (h v : Int) (hk : k.size ≤ 1000000) (hh : i64in h) (hv : i64in v) (hx : x.size ≤ 1000000) (w : World) : Calls Tryz.prog 5 #[.string k, .int .i64 h, .int .i64 v, .string x] w (MkS (bs k ++ 32 :: (Lib.itoa h ++ 32 :: (Lib.itoa v ++ 32 :: hexL (bs x)))) w) := by
  go_enter Tryz.func5, Tryz.ntmps5
  go_wp2_with fail
  refine (decimal11_any h w hh).mono ?_
  rintro e w1 ⟨y1, HY1, z1, rfl, hq1⟩
  have l1 := itoa_len h hh
  go_wp2_with fail
  refine (decimal11_any v w1 hv).mono ?_
  rintro e w2 ⟨y2, HY2, z2, rfl, hq2⟩
  have l2 := itoa_len v hv
  go_wp2_with fail
  refine (hex11_any x w2 (by omega)).mono ?_
  rintro e w3 ⟨y3, HY3, z3, rfl, hq3⟩
  rw [hexL_len, bs_length] at z3
  have s1 : y1.size ≤ 20 := by omega
  have s2 : y2.size ≤ 20 := by omega
  have s3 : y3.size ≤ 2000000 := by omega
  have U := Lib.hid (hq1.trans (hq2.trans hq3))
  have H : bs (k ++ ByteArray.mk #[32] ++ y1 ++ ByteArray.mk #[32] ++ y2 ++ ByteArray.mk #[32] ++ y3) = bs k ++ 32 :: (Lib.itoa h ++ 32 :: (Lib.itoa v ++ 32 :: hexL (bs x))) := by
    rw [bs_append, bs_append, bs_append, bs_append, bs_append, bs_append, HY1.out, HY2.out, HY3.out, show bs (ByteArray.mk #[32]) = [32] from rfl]
    simp only [List.append_assoc, List.cons_append, List.nil_append]
  have HH := Lib.hid H
  clear z1 z2 z3 l1 l2 hq1 hq2 hq3 H
  go_wp2_with fail
  go_ret
  exact ⟨_, HH.out, Nat.le_of_eq (bs_size HH.out), rfl, U.out⟩
def ballZ : Array Value := #[.string ⟨#[]⟩, .int .i64 0, .int .i64 0, .string ⟨#[]⟩]
def RBR (l : List UInt8) (C : Array Value) (ok : Bool) : Prop := (ok = true ∧ ∃ (b : Bal) (k x : ByteArray), IsBal l b ∧ bs k = b.k ∧ C = #[.string k, .int .i64 b.h, .int .i64 b.v, .string x]) ∨ (ok = false ∧ (∀ b, ¬ IsBal l b) ∧ C = ballZ)
def MkRB (l : List UInt8) (w : World) (e : Ending) (w' : World) : Prop := ∃ (C : Array Value) (ok : Bool), Hid (RBR l C ok) ∧ e = .returned (.tuple #[.agg C, .bool ok]) ∧ Upd [] [] w w'
def AllOk (p0 : List UInt8) (h v : Int) (x : ByteArray) (one two three : Bool) : Prop := (p0 = kPro ∨ p0 = kPre ∨ p0 = kCom) ∧ one = true ∧ two = true ∧ three = true ∧ 0 ≤ h ∧ 0 ≤ v ∧ h ≤ 1000000000 ∧ v ≤ 1000000000 ∧ 1 ≤ x.size ∧ x.size ≤ 200
theorem read_all {l p0 p1 p2 p3 : List UInt8} {h v : Int} {x : ByteArray} {one two three : Bool} (hW : IsWords l [p0, p1, p2, p3]) (ho : numOk p1 h one) (ht : numOk p2 v two) (hx : UnR p3 x three) {b : Bal} (hb : IsBal l b) : AllOk p0 h v x one two three := by
  have e := hb.words hW
  simp only [Bal.words, List.cons.injEq, and_true] at e
  obtain ⟨rfl, rfl, rfl, rfl⟩ := e
  obtain ⟨⟨k1, k2, k3, k4, k5, k6, k7⟩, _⟩ := hb
  have i1 : i64in b.h := by unfold i64in; omega
  have i2 : i64in b.v := by unfold i64in; omega
  have o1 : one = true := by
    cases one with
    | true => rfl
    | false => exact absurd ⟨b.h, i1, rfl⟩ (ho.2.2 rfl)
  have o2 : two = true := by
    cases two with
    | true => rfl
    | false => exact absurd ⟨b.v, i2, rfl⟩ (ht.2.2 rfl)
  have o3 : three = true := hx.1.2 ⟨k6, k7⟩
  have h1 := itoa_inj i1 ho.1 (ho.2.1 o1)
  have h2 := itoa_inj i2 ht.1 (ht.2.1 o2)
  have h3 := hx.2 o3
  exact ⟨k1, o1, o2, o3, by omega, by omega, by omega, by omega, by omega, by omega⟩
theorem read_good {l p0 p1 p2 p3 : List UInt8} {h v : Int} {x : ByteArray} {one two three : Bool} (hW : IsWords l [p0, p1, p2, p3]) (ho : numOk p1 h one) (ht : numOk p2 v two) (hx : UnR p3 x three) (ha : AllOk p0 h v x one two three) : IsBal l ⟨p0, h, v, p3⟩ := by
  obtain ⟨a1, rfl, rfl, rfl, a5, a6, a7, a8, a9, a10⟩ := ha
  have h3 := hx.2 rfl
  have h4 := hx.1.1 rfl
  refine ⟨⟨a1, ⟨a5, a7⟩, ⟨a6, a8⟩, by show 2 ≤ p3.length; omega, by show p3.length ≤ 400; omega, h4.1, h4.2⟩, ?_⟩
  have e := hW.2.2
  rw [ho.2.1 rfl, ht.2.1 rfl] at e
  exact e.symm
theorem four_of' {P : List ByteArray} (h : P.length = 4) : ∃ a b c d, P = [a, b, c, d] := by
  match P, h with
  | [a, b, c, d], _ => exact ⟨a, b, c, d, rfl⟩
theorem ballInfo (k x : ByteArray) (a b : Int) : (Tryz.prog.info? 73).map (·.size) = some (#[.string k, .int .i64 a, .int .i64 b, .string x] : Array Value).size := by
  show _ = some 4
  kernel_rfl
theorem ballBuilt0 : Tryz.prog.built 73 [] = some ballZ := by kernel_rfl
theorem ballBuilt (k x : ByteArray) (a b : Int) : Tryz.prog.built 73 [(0, .string k), (1, .int .i64 a), (2, .int .i64 b), (3, .string x)] = some #[.string k, .int .i64 a, .int .i64 b, .string x] := by kernel_rfl
theorem ballOne (k x : ByteArray) (a b : Int) : (#[.string k, .int .i64 a, .int .i64 b, .string x] : Array Value).all (·.oneCell') = true := by kernel_rfl
theorem ball_row (w : World) (g : Nat) (C : Array Value) (W : World) (hz : w.heap.size ≤ g) (hg : W.heap[g]? = some (.cells ballZ 73 (0, 0))) (u : Upd [] [] w W) :
    ∃ X, Hid (W.setRow g C = X) ∧ Hid (X.heap[g]? = some (.cells C 73 (0, 0))) ∧ Hid (Upd [] [] w X) :=
  ⟨_, rfl, setRow_heap _ _ _ _ _ _ hg, u.setRowNew hz C⟩
set_option maxHeartbeats 8000000 in
theorem read29_any (s : ByteArray) (hs : s.size ≤ 1999990) (w : World) : Calls Tryz.prog 25 #[.string s] w (MkRB (bs s) w) := by
  obtain ⟨g, hg⟩ : ∃ g, w.heap.size = g := ⟨_, rfl⟩
  obtain ⟨w0, hw0⟩ : ∃ W, w.alloc (.cells #[.string ⟨#[]⟩, .int .i64 0, .int .i64 0, .string ⟨#[]⟩] 73) = W := ⟨_, rfl⟩
  have r0 := Lib.hid (show w0.heap[g]? = some (.cells ballZ 73 (0, 0)) by rw [← hg, ← hw0]; exact heap_alloc_new _ _)
  have u0 := Lib.hid (show Upd [] [] w w0 by rw [← hw0]; exact (Upd.refl _ _).alloc _)
  have HG := Lib.hid (show w.heap.size ≤ g by omega)
  obtain ⟨ZB, hZB⟩ : ∃ ZB, ZB = ballZ := ⟨_, rfl⟩
  have HZB := Lib.hid (show Tryz.prog.built 73 [] = some ZB by rw [hZB]; exact ballBuilt0)
  have HZI := Lib.hid (show (Tryz.prog.info? 73).map (·.size) = some ZB.size by rw [hZB]; exact ballInfo _ _ _ _)
  have HZS := Lib.hid (show ballZ.size = ZB.size by rw [hZB])
  have HZO := Lib.hid (show ZB.all (·.oneCell') = true by rw [hZB]; exact ballOne _ _ _ _)
  have HZE := Lib.hid hZB
  clear hZB
  go_enter Tryz.func25, Tryz.ntmps25
  go_wp2_with fail
  refine (words_any s w0 (by omega)).mono ?_
  rintro e w1 ⟨P, v, HP, HV, rfl, hq⟩
  have U1 := Lib.hid (u0.out.trans hq)
  have R1 := Lib.hid (heap_upd r0.out hq)
  obtain ⟨ao, cap, rfl, hc1, hc2, HC⟩ := HV.out
  have hcm : cap ≤ 9223372036854775807 := hc2
  have HCC := Lib.hid HC
  clear hq u0 r0 hw0 hg HV hc2 HC
  by_cases h4 : P.length = 4
  case neg =>
    have h4i : ¬ (P.length : Int) = 4 := by omega
    have h4b : ((P.length : Int) != 4) = true := by rw [bne_iff_ne]; omega
    have HNO : Hid (∀ b, ¬ IsBal (bs s) b) := by
      intro b h
      have e := congrArg List.length (h.words HP.out.1)
      rw [List.length_map] at e
      exact h4 e
    obtain ⟨X, HX, RX, UX⟩ := ball_row w g ZB w1 HG.out R1.out U1.out
    clear h4 HP
    go_wp2_with (first | (refine wpList_buildTo rfl 73 #[] rfl _ rfl ZB (Eq.trans (congrArg (fun z => Tryz.prog.built 73 z) (by kernel_rfl)) HZB.out) ?_) | (refine wpList_store_rowAs rfl 73 _ _ rfl g ZB rfl rfl _ _ R1.out HZI.out HZS.out HZO.out X HX.out ?_))
    refine bodyPost_ret (results_row_tmp rfl _ _ g _ ZB _ _ rfl RX.out Tryz.underlying73 rfl HZI.out) rfl ?_
    exact ⟨ZB, false, .inr ⟨rfl, HNO.out, HZE.out⟩, rfl, UX.out⟩
  obtain ⟨p0, p1, p2, p3, rfl⟩ := four_of' h4
  have HW : Hid (IsWords (bs s) [bs p0, bs p1, bs p2, bs p3]) := HP.out.1
  have hz1 : p1.size ≤ s.size := HP.out.2 p1 (by simp)
  have hz2 : p2.size ≤ s.size := HP.out.2 p2 (by simp)
  have hz3 : p3.size ≤ s.size := HP.out.2 p3 (by simp)
  obtain ⟨gP, rfl, hgP, HCE⟩ : ∃ b, ao = some ⟨b, 0, none⟩ ∧ b < w1.heap.size ∧ ∀ (j : Nat) (p : ByteArray), [p0, p1, p2, p3][j]? = some p → w1.cell? ⟨b, j, none⟩ = some (.string p) := by
    rcases HCC.out with h | h
    · cases h
    · exact h
  have HK : Hid (∀ W, Upd [] [] w1 W → W.cell? ⟨gP, 0, none⟩ = some (.string p0) ∧ W.cell? ⟨gP, 1, none⟩ = some (.string p1) ∧ W.cell? ⟨gP, 2, none⟩ = some (.string p2) ∧ W.cell? ⟨gP, 3, none⟩ = some (.string p3)) := fun W u =>
    ⟨(u.cell hgP (by simp)).trans (HCE 0 p0 rfl), (u.cell hgP (by simp)).trans (HCE 1 p1 rfl), (u.cell hgP (by simp)).trans (HCE 2 p2 rfl), (u.cell hgP (by simp)).trans (HCE 3 p3 rfl)⟩
  have h4i : (([p0, p1, p2, p3].length : Nat) : Int) = 4 := rfl
  rw [show [p0, p1, p2, p3].length = 4 from rfl] at hc1 ⊢
  clear HP HCC HCE h4 h4i
  have c1 := (HK.out w1 (Upd.refl _ _)).2.1
  go_wp2_with fail
  refine (int11_any p1 w1 (by omega)).mono ?_
  rintro e w2 ⟨h, one, HO, hh, rfl, hq2⟩
  have c2 := (HK.out w2 hq2).2.2.1
  have V2 := Lib.hid hq2
  clear c1 hq2
  go_wp2_with fail
  refine (int11_any p2 w2 (by omega)).mono ?_
  rintro e w3 ⟨v, two, HT, hv, rfl, hq3⟩
  have V3 := Lib.hid (V2.out.trans hq3)
  have c3 := (HK.out w3 V3.out).2.2.2
  clear c2 hq3 V2
  go_wp2_with fail
  refine (unhex_any p3 w3 (by omega)).mono ?_
  rintro e w4 ⟨x, three, HX3, hx, rfl, hq4⟩
  have V4 := Lib.hid (V3.out.trans hq4)
  have c0 := (HK.out w4 V4.out).1
  have R4 := Lib.hid (heap_upd R1.out V4.out)
  have U4 := Lib.hid (U1.out.trans V4.out)
  have HALL : Hid (∀ b, IsBal (bs s) b → AllOk (bs p0) h v x one two three) := fun b hb => read_all HW.out HO.out HT.out HX3.out hb
  have HGOOD : Hid (AllOk (bs p0) h v x one two three → IsBal (bs s) ⟨bs p0, h, v, bs p3⟩) := fun ha => read_good HW.out HO.out HT.out HX3.out ha
  obtain ⟨XB, HXB, RXB, UXB⟩ := ball_row w g ZB w4 HG.out R4.out U4.out
  obtain ⟨CG, hCG⟩ : ∃ CG, CG = (#[.string p0, .int .i64 h, .int .i64 v, .string x] : Array Value) := ⟨_, rfl⟩
  have HGB := Lib.hid (show Tryz.prog.built 73 [(0, .string p0), (1, .int .i64 h), (2, .int .i64 v), (3, .string x)] = some CG by rw [hCG]; exact ballBuilt _ _ _ _)
  have HGI := Lib.hid (show (Tryz.prog.info? 73).map (·.size) = some CG.size by rw [hCG]; exact ballInfo _ _ _ _)
  have HGS := Lib.hid (show ballZ.size = CG.size by rw [hCG]; rfl)
  have HGO := Lib.hid (show CG.all (·.oneCell') = true by rw [hCG]; exact ballOne _ _ _ _)
  have HGE := Lib.hid hCG
  obtain ⟨XG, HXG, RXG, UXG⟩ := ball_row w g CG w4 HG.out R4.out U4.out
  clear hCG
  obtain ⟨hh1, hh2⟩ := hh
  obtain ⟨hv1, hv2⟩ := hv
  clear c3 hq4 V3 V4 HO HT HX3 R1 U1 HW U4
  have G0 : ∀ (l : List UInt8), bs p0 = l → (p0.toList == l) = true := fun l h => by
    rw [beq_iff_eq, ByteArray.toList_eq]
    exact h
  have G1 : ∀ (l : List UInt8), bs p0 ≠ l → (p0.toList == l) = false := fun l h => by
    rw [beq_eq_false_iff_ne, ne_eq, ByteArray.toList_eq]
    exact h
  by_cases q0 : bs p0 = kPro
  · have HQ : Hid (bs p0 = kPro ∨ bs p0 = kPre ∨ bs p0 = kCom) := .inl q0
    have e0 := G0 [112, 114, 111, 112, 111, 115, 101] q0
    clear G0 G1 q0
    cases one
    · skip
      have HNO : Hid (∀ b, ¬ IsBal (bs s) b) := fun b hb => by
        obtain ⟨a1, a2, a3, a4, a5, a6, a7, a8, a9, a10⟩ := HALL.out b hb
        cases a2
      clear HALL HGOOD
      go_wp2_with (first | (refine wpList_buildTo rfl 73 #[] rfl _ rfl ZB (Eq.trans (congrArg (fun z => Tryz.prog.built 73 z) (by kernel_rfl)) HZB.out) ?_) | (refine wpList_store_rowAs rfl 73 _ _ rfl g ZB rfl rfl _ _ R4.out HZI.out HZS.out HZO.out XB HXB.out ?_))
      refine bodyPost_ret (results_row_tmp rfl _ _ g _ ZB _ _ rfl RXB.out Tryz.underlying73 rfl HZI.out) rfl ?_
      exact ⟨ZB, false, .inr ⟨rfl, HNO.out, HZE.out⟩, rfl, UXB.out⟩
    cases two
    · skip
      have HNO : Hid (∀ b, ¬ IsBal (bs s) b) := fun b hb => by
        obtain ⟨a1, a2, a3, a4, a5, a6, a7, a8, a9, a10⟩ := HALL.out b hb
        cases a3
      clear HALL HGOOD
      go_wp2_with (first | (refine wpList_buildTo rfl 73 #[] rfl _ rfl ZB (Eq.trans (congrArg (fun z => Tryz.prog.built 73 z) (by kernel_rfl)) HZB.out) ?_) | (refine wpList_store_rowAs rfl 73 _ _ rfl g ZB rfl rfl _ _ R4.out HZI.out HZS.out HZO.out XB HXB.out ?_))
      refine bodyPost_ret (results_row_tmp rfl _ _ g _ ZB _ _ rfl RXB.out Tryz.underlying73 rfl HZI.out) rfl ?_
      exact ⟨ZB, false, .inr ⟨rfl, HNO.out, HZE.out⟩, rfl, UXB.out⟩
    cases three
    · skip
      have HNO : Hid (∀ b, ¬ IsBal (bs s) b) := fun b hb => by
        obtain ⟨a1, a2, a3, a4, a5, a6, a7, a8, a9, a10⟩ := HALL.out b hb
        cases a4
      clear HALL HGOOD
      go_wp2_with (first | (refine wpList_buildTo rfl 73 #[] rfl _ rfl ZB (Eq.trans (congrArg (fun z => Tryz.prog.built 73 z) (by kernel_rfl)) HZB.out) ?_) | (refine wpList_store_rowAs rfl 73 _ _ rfl g ZB rfl rfl _ _ R4.out HZI.out HZS.out HZO.out XB HXB.out ?_))
      refine bodyPost_ret (results_row_tmp rfl _ _ g _ ZB _ _ rfl RXB.out Tryz.underlying73 rfl HZI.out) rfl ?_
      exact ⟨ZB, false, .inr ⟨rfl, HNO.out, HZE.out⟩, rfl, UXB.out⟩
    by_cases cc : h < 0
    · skip
      have HNO : Hid (∀ b, ¬ IsBal (bs s) b) := fun b hb => by
        obtain ⟨a1, a2, a3, a4, a5, a6, a7, a8, a9, a10⟩ := HALL.out b hb
        omega
      clear HALL HGOOD
      go_wp2_with (first | (refine wpList_buildTo rfl 73 #[] rfl _ rfl ZB (Eq.trans (congrArg (fun z => Tryz.prog.built 73 z) (by kernel_rfl)) HZB.out) ?_) | (refine wpList_store_rowAs rfl 73 _ _ rfl g ZB rfl rfl _ _ R4.out HZI.out HZS.out HZO.out XB HXB.out ?_))
      refine bodyPost_ret (results_row_tmp rfl _ _ g _ ZB _ _ rfl RXB.out Tryz.underlying73 rfl HZI.out) rfl ?_
      exact ⟨ZB, false, .inr ⟨rfl, HNO.out, HZE.out⟩, rfl, UXB.out⟩
    have cq : 0 ≤ h := by omega
    clear cc
    by_cases cc : v < 0
    · skip
      have HNO : Hid (∀ b, ¬ IsBal (bs s) b) := fun b hb => by
        obtain ⟨a1, a2, a3, a4, a5, a6, a7, a8, a9, a10⟩ := HALL.out b hb
        omega
      clear HALL HGOOD
      go_wp2_with (first | (refine wpList_buildTo rfl 73 #[] rfl _ rfl ZB (Eq.trans (congrArg (fun z => Tryz.prog.built 73 z) (by kernel_rfl)) HZB.out) ?_) | (refine wpList_store_rowAs rfl 73 _ _ rfl g ZB rfl rfl _ _ R4.out HZI.out HZS.out HZO.out XB HXB.out ?_))
      refine bodyPost_ret (results_row_tmp rfl _ _ g _ ZB _ _ rfl RXB.out Tryz.underlying73 rfl HZI.out) rfl ?_
      exact ⟨ZB, false, .inr ⟨rfl, HNO.out, HZE.out⟩, rfl, UXB.out⟩
    have cq : 0 ≤ v := by omega
    clear cc
    by_cases cc : 1000000000 < h
    · skip
      have HNO : Hid (∀ b, ¬ IsBal (bs s) b) := fun b hb => by
        obtain ⟨a1, a2, a3, a4, a5, a6, a7, a8, a9, a10⟩ := HALL.out b hb
        omega
      clear HALL HGOOD
      go_wp2_with (first | (refine wpList_buildTo rfl 73 #[] rfl _ rfl ZB (Eq.trans (congrArg (fun z => Tryz.prog.built 73 z) (by kernel_rfl)) HZB.out) ?_) | (refine wpList_store_rowAs rfl 73 _ _ rfl g ZB rfl rfl _ _ R4.out HZI.out HZS.out HZO.out XB HXB.out ?_))
      refine bodyPost_ret (results_row_tmp rfl _ _ g _ ZB _ _ rfl RXB.out Tryz.underlying73 rfl HZI.out) rfl ?_
      exact ⟨ZB, false, .inr ⟨rfl, HNO.out, HZE.out⟩, rfl, UXB.out⟩
    have cq : h ≤ 1000000000 := by omega
    clear cc
    by_cases cc : 1000000000 < v
    · skip
      have HNO : Hid (∀ b, ¬ IsBal (bs s) b) := fun b hb => by
        obtain ⟨a1, a2, a3, a4, a5, a6, a7, a8, a9, a10⟩ := HALL.out b hb
        omega
      clear HALL HGOOD
      go_wp2_with (first | (refine wpList_buildTo rfl 73 #[] rfl _ rfl ZB (Eq.trans (congrArg (fun z => Tryz.prog.built 73 z) (by kernel_rfl)) HZB.out) ?_) | (refine wpList_store_rowAs rfl 73 _ _ rfl g ZB rfl rfl _ _ R4.out HZI.out HZS.out HZO.out XB HXB.out ?_))
      refine bodyPost_ret (results_row_tmp rfl _ _ g _ ZB _ _ rfl RXB.out Tryz.underlying73 rfl HZI.out) rfl ?_
      exact ⟨ZB, false, .inr ⟨rfl, HNO.out, HZE.out⟩, rfl, UXB.out⟩
    have cq : v ≤ 1000000000 := by omega
    clear cc
    by_cases cc : (x.size : Int) < 1
    · skip
      have HNO : Hid (∀ b, ¬ IsBal (bs s) b) := fun b hb => by
        obtain ⟨a1, a2, a3, a4, a5, a6, a7, a8, a9, a10⟩ := HALL.out b hb
        omega
      clear HALL HGOOD
      go_wp2_with (first | (refine wpList_buildTo rfl 73 #[] rfl _ rfl ZB (Eq.trans (congrArg (fun z => Tryz.prog.built 73 z) (by kernel_rfl)) HZB.out) ?_) | (refine wpList_store_rowAs rfl 73 _ _ rfl g ZB rfl rfl _ _ R4.out HZI.out HZS.out HZO.out XB HXB.out ?_))
      refine bodyPost_ret (results_row_tmp rfl _ _ g _ ZB _ _ rfl RXB.out Tryz.underlying73 rfl HZI.out) rfl ?_
      exact ⟨ZB, false, .inr ⟨rfl, HNO.out, HZE.out⟩, rfl, UXB.out⟩
    have cq : 1 ≤ (x.size : Int) := by omega
    clear cc
    by_cases cc : 200 < (x.size : Int)
    · skip
      have HNO : Hid (∀ b, ¬ IsBal (bs s) b) := fun b hb => by
        obtain ⟨a1, a2, a3, a4, a5, a6, a7, a8, a9, a10⟩ := HALL.out b hb
        omega
      clear HALL HGOOD
      go_wp2_with (first | (refine wpList_buildTo rfl 73 #[] rfl _ rfl ZB (Eq.trans (congrArg (fun z => Tryz.prog.built 73 z) (by kernel_rfl)) HZB.out) ?_) | (refine wpList_store_rowAs rfl 73 _ _ rfl g ZB rfl rfl _ _ R4.out HZI.out HZS.out HZO.out XB HXB.out ?_))
      refine bodyPost_ret (results_row_tmp rfl _ _ g _ ZB _ _ rfl RXB.out Tryz.underlying73 rfl HZI.out) rfl ?_
      exact ⟨ZB, false, .inr ⟨rfl, HNO.out, HZE.out⟩, rfl, UXB.out⟩
    have cq : (x.size : Int) ≤ 200 := by omega
    clear cc
    have HB := Lib.hid (HGOOD.out ⟨HQ.out, rfl, rfl, rfl, by omega, by omega, by omega, by omega, by omega, by omega⟩)
    clear HALL HGOOD
    go_wp2_with (first | (refine wpList_buildTo rfl 73 _ rfl _ rfl CG (Eq.trans (congrArg (fun z => Tryz.prog.built 73 z) (by kernel_rfl)) HGB.out) ?_) | (refine wpList_store_rowAs rfl 73 _ _ rfl g CG rfl rfl _ _ R4.out HGI.out HGS.out HGO.out XG HXG.out ?_))
    refine bodyPost_ret (results_row_tmp rfl _ _ g _ CG _ _ rfl RXG.out Tryz.underlying73 rfl HGI.out) rfl ?_
    exact ⟨CG, true, .inl ⟨rfl, _, p0, x, HB.out, rfl, HGE.out⟩, rfl, UXG.out⟩
  have e0 := G1 [112, 114, 111, 112, 111, 115, 101] q0
  have Q0 := Lib.hid q0
  clear q0
  by_cases q1 : bs p0 = kPre
  · have HQ : Hid (bs p0 = kPro ∨ bs p0 = kPre ∨ bs p0 = kCom) := .inr (.inl q1)
    have e1 := G0 [112, 114, 101, 112, 97, 114, 101] q1
    clear G0 G1 q1
    cases one
    · skip
      have HNO : Hid (∀ b, ¬ IsBal (bs s) b) := fun b hb => by
        obtain ⟨a1, a2, a3, a4, a5, a6, a7, a8, a9, a10⟩ := HALL.out b hb
        cases a2
      clear HALL HGOOD
      go_wp2_with (first | (refine wpList_buildTo rfl 73 #[] rfl _ rfl ZB (Eq.trans (congrArg (fun z => Tryz.prog.built 73 z) (by kernel_rfl)) HZB.out) ?_) | (refine wpList_store_rowAs rfl 73 _ _ rfl g ZB rfl rfl _ _ R4.out HZI.out HZS.out HZO.out XB HXB.out ?_))
      refine bodyPost_ret (results_row_tmp rfl _ _ g _ ZB _ _ rfl RXB.out Tryz.underlying73 rfl HZI.out) rfl ?_
      exact ⟨ZB, false, .inr ⟨rfl, HNO.out, HZE.out⟩, rfl, UXB.out⟩
    cases two
    · skip
      have HNO : Hid (∀ b, ¬ IsBal (bs s) b) := fun b hb => by
        obtain ⟨a1, a2, a3, a4, a5, a6, a7, a8, a9, a10⟩ := HALL.out b hb
        cases a3
      clear HALL HGOOD
      go_wp2_with (first | (refine wpList_buildTo rfl 73 #[] rfl _ rfl ZB (Eq.trans (congrArg (fun z => Tryz.prog.built 73 z) (by kernel_rfl)) HZB.out) ?_) | (refine wpList_store_rowAs rfl 73 _ _ rfl g ZB rfl rfl _ _ R4.out HZI.out HZS.out HZO.out XB HXB.out ?_))
      refine bodyPost_ret (results_row_tmp rfl _ _ g _ ZB _ _ rfl RXB.out Tryz.underlying73 rfl HZI.out) rfl ?_
      exact ⟨ZB, false, .inr ⟨rfl, HNO.out, HZE.out⟩, rfl, UXB.out⟩
    cases three
    · skip
      have HNO : Hid (∀ b, ¬ IsBal (bs s) b) := fun b hb => by
        obtain ⟨a1, a2, a3, a4, a5, a6, a7, a8, a9, a10⟩ := HALL.out b hb
        cases a4
      clear HALL HGOOD
      go_wp2_with (first | (refine wpList_buildTo rfl 73 #[] rfl _ rfl ZB (Eq.trans (congrArg (fun z => Tryz.prog.built 73 z) (by kernel_rfl)) HZB.out) ?_) | (refine wpList_store_rowAs rfl 73 _ _ rfl g ZB rfl rfl _ _ R4.out HZI.out HZS.out HZO.out XB HXB.out ?_))
      refine bodyPost_ret (results_row_tmp rfl _ _ g _ ZB _ _ rfl RXB.out Tryz.underlying73 rfl HZI.out) rfl ?_
      exact ⟨ZB, false, .inr ⟨rfl, HNO.out, HZE.out⟩, rfl, UXB.out⟩
    by_cases cc : h < 0
    · skip
      have HNO : Hid (∀ b, ¬ IsBal (bs s) b) := fun b hb => by
        obtain ⟨a1, a2, a3, a4, a5, a6, a7, a8, a9, a10⟩ := HALL.out b hb
        omega
      clear HALL HGOOD
      go_wp2_with (first | (refine wpList_buildTo rfl 73 #[] rfl _ rfl ZB (Eq.trans (congrArg (fun z => Tryz.prog.built 73 z) (by kernel_rfl)) HZB.out) ?_) | (refine wpList_store_rowAs rfl 73 _ _ rfl g ZB rfl rfl _ _ R4.out HZI.out HZS.out HZO.out XB HXB.out ?_))
      refine bodyPost_ret (results_row_tmp rfl _ _ g _ ZB _ _ rfl RXB.out Tryz.underlying73 rfl HZI.out) rfl ?_
      exact ⟨ZB, false, .inr ⟨rfl, HNO.out, HZE.out⟩, rfl, UXB.out⟩
    have cq : 0 ≤ h := by omega
    clear cc
    by_cases cc : v < 0
    · skip
      have HNO : Hid (∀ b, ¬ IsBal (bs s) b) := fun b hb => by
        obtain ⟨a1, a2, a3, a4, a5, a6, a7, a8, a9, a10⟩ := HALL.out b hb
        omega
      clear HALL HGOOD
      go_wp2_with (first | (refine wpList_buildTo rfl 73 #[] rfl _ rfl ZB (Eq.trans (congrArg (fun z => Tryz.prog.built 73 z) (by kernel_rfl)) HZB.out) ?_) | (refine wpList_store_rowAs rfl 73 _ _ rfl g ZB rfl rfl _ _ R4.out HZI.out HZS.out HZO.out XB HXB.out ?_))
      refine bodyPost_ret (results_row_tmp rfl _ _ g _ ZB _ _ rfl RXB.out Tryz.underlying73 rfl HZI.out) rfl ?_
      exact ⟨ZB, false, .inr ⟨rfl, HNO.out, HZE.out⟩, rfl, UXB.out⟩
    have cq : 0 ≤ v := by omega
    clear cc
    by_cases cc : 1000000000 < h
    · skip
      have HNO : Hid (∀ b, ¬ IsBal (bs s) b) := fun b hb => by
        obtain ⟨a1, a2, a3, a4, a5, a6, a7, a8, a9, a10⟩ := HALL.out b hb
        omega
      clear HALL HGOOD
      go_wp2_with (first | (refine wpList_buildTo rfl 73 #[] rfl _ rfl ZB (Eq.trans (congrArg (fun z => Tryz.prog.built 73 z) (by kernel_rfl)) HZB.out) ?_) | (refine wpList_store_rowAs rfl 73 _ _ rfl g ZB rfl rfl _ _ R4.out HZI.out HZS.out HZO.out XB HXB.out ?_))
      refine bodyPost_ret (results_row_tmp rfl _ _ g _ ZB _ _ rfl RXB.out Tryz.underlying73 rfl HZI.out) rfl ?_
      exact ⟨ZB, false, .inr ⟨rfl, HNO.out, HZE.out⟩, rfl, UXB.out⟩
    have cq : h ≤ 1000000000 := by omega
    clear cc
    by_cases cc : 1000000000 < v
    · skip
      have HNO : Hid (∀ b, ¬ IsBal (bs s) b) := fun b hb => by
        obtain ⟨a1, a2, a3, a4, a5, a6, a7, a8, a9, a10⟩ := HALL.out b hb
        omega
      clear HALL HGOOD
      go_wp2_with (first | (refine wpList_buildTo rfl 73 #[] rfl _ rfl ZB (Eq.trans (congrArg (fun z => Tryz.prog.built 73 z) (by kernel_rfl)) HZB.out) ?_) | (refine wpList_store_rowAs rfl 73 _ _ rfl g ZB rfl rfl _ _ R4.out HZI.out HZS.out HZO.out XB HXB.out ?_))
      refine bodyPost_ret (results_row_tmp rfl _ _ g _ ZB _ _ rfl RXB.out Tryz.underlying73 rfl HZI.out) rfl ?_
      exact ⟨ZB, false, .inr ⟨rfl, HNO.out, HZE.out⟩, rfl, UXB.out⟩
    have cq : v ≤ 1000000000 := by omega
    clear cc
    by_cases cc : (x.size : Int) < 1
    · skip
      have HNO : Hid (∀ b, ¬ IsBal (bs s) b) := fun b hb => by
        obtain ⟨a1, a2, a3, a4, a5, a6, a7, a8, a9, a10⟩ := HALL.out b hb
        omega
      clear HALL HGOOD
      go_wp2_with (first | (refine wpList_buildTo rfl 73 #[] rfl _ rfl ZB (Eq.trans (congrArg (fun z => Tryz.prog.built 73 z) (by kernel_rfl)) HZB.out) ?_) | (refine wpList_store_rowAs rfl 73 _ _ rfl g ZB rfl rfl _ _ R4.out HZI.out HZS.out HZO.out XB HXB.out ?_))
      refine bodyPost_ret (results_row_tmp rfl _ _ g _ ZB _ _ rfl RXB.out Tryz.underlying73 rfl HZI.out) rfl ?_
      exact ⟨ZB, false, .inr ⟨rfl, HNO.out, HZE.out⟩, rfl, UXB.out⟩
    have cq : 1 ≤ (x.size : Int) := by omega
    clear cc
    by_cases cc : 200 < (x.size : Int)
    · skip
      have HNO : Hid (∀ b, ¬ IsBal (bs s) b) := fun b hb => by
        obtain ⟨a1, a2, a3, a4, a5, a6, a7, a8, a9, a10⟩ := HALL.out b hb
        omega
      clear HALL HGOOD
      go_wp2_with (first | (refine wpList_buildTo rfl 73 #[] rfl _ rfl ZB (Eq.trans (congrArg (fun z => Tryz.prog.built 73 z) (by kernel_rfl)) HZB.out) ?_) | (refine wpList_store_rowAs rfl 73 _ _ rfl g ZB rfl rfl _ _ R4.out HZI.out HZS.out HZO.out XB HXB.out ?_))
      refine bodyPost_ret (results_row_tmp rfl _ _ g _ ZB _ _ rfl RXB.out Tryz.underlying73 rfl HZI.out) rfl ?_
      exact ⟨ZB, false, .inr ⟨rfl, HNO.out, HZE.out⟩, rfl, UXB.out⟩
    have cq : (x.size : Int) ≤ 200 := by omega
    clear cc
    have HB := Lib.hid (HGOOD.out ⟨HQ.out, rfl, rfl, rfl, by omega, by omega, by omega, by omega, by omega, by omega⟩)
    clear HALL HGOOD
    go_wp2_with (first | (refine wpList_buildTo rfl 73 _ rfl _ rfl CG (Eq.trans (congrArg (fun z => Tryz.prog.built 73 z) (by kernel_rfl)) HGB.out) ?_) | (refine wpList_store_rowAs rfl 73 _ _ rfl g CG rfl rfl _ _ R4.out HGI.out HGS.out HGO.out XG HXG.out ?_))
    refine bodyPost_ret (results_row_tmp rfl _ _ g _ CG _ _ rfl RXG.out Tryz.underlying73 rfl HGI.out) rfl ?_
    exact ⟨CG, true, .inl ⟨rfl, _, p0, x, HB.out, rfl, HGE.out⟩, rfl, UXG.out⟩
  have e1 := G1 [112, 114, 101, 112, 97, 114, 101] q1
  have Q1 := Lib.hid q1
  clear q1
  by_cases q2 : bs p0 = kCom
  · have HQ : Hid (bs p0 = kPro ∨ bs p0 = kPre ∨ bs p0 = kCom) := .inr (.inr q2)
    have e2 := G0 [99, 111, 109, 109, 105, 116] q2
    clear G0 G1 q2
    cases one
    · skip
      have HNO : Hid (∀ b, ¬ IsBal (bs s) b) := fun b hb => by
        obtain ⟨a1, a2, a3, a4, a5, a6, a7, a8, a9, a10⟩ := HALL.out b hb
        cases a2
      clear HALL HGOOD
      go_wp2_with (first | (refine wpList_buildTo rfl 73 #[] rfl _ rfl ZB (Eq.trans (congrArg (fun z => Tryz.prog.built 73 z) (by kernel_rfl)) HZB.out) ?_) | (refine wpList_store_rowAs rfl 73 _ _ rfl g ZB rfl rfl _ _ R4.out HZI.out HZS.out HZO.out XB HXB.out ?_))
      refine bodyPost_ret (results_row_tmp rfl _ _ g _ ZB _ _ rfl RXB.out Tryz.underlying73 rfl HZI.out) rfl ?_
      exact ⟨ZB, false, .inr ⟨rfl, HNO.out, HZE.out⟩, rfl, UXB.out⟩
    cases two
    · skip
      have HNO : Hid (∀ b, ¬ IsBal (bs s) b) := fun b hb => by
        obtain ⟨a1, a2, a3, a4, a5, a6, a7, a8, a9, a10⟩ := HALL.out b hb
        cases a3
      clear HALL HGOOD
      go_wp2_with (first | (refine wpList_buildTo rfl 73 #[] rfl _ rfl ZB (Eq.trans (congrArg (fun z => Tryz.prog.built 73 z) (by kernel_rfl)) HZB.out) ?_) | (refine wpList_store_rowAs rfl 73 _ _ rfl g ZB rfl rfl _ _ R4.out HZI.out HZS.out HZO.out XB HXB.out ?_))
      refine bodyPost_ret (results_row_tmp rfl _ _ g _ ZB _ _ rfl RXB.out Tryz.underlying73 rfl HZI.out) rfl ?_
      exact ⟨ZB, false, .inr ⟨rfl, HNO.out, HZE.out⟩, rfl, UXB.out⟩
    cases three
    · skip
      have HNO : Hid (∀ b, ¬ IsBal (bs s) b) := fun b hb => by
        obtain ⟨a1, a2, a3, a4, a5, a6, a7, a8, a9, a10⟩ := HALL.out b hb
        cases a4
      clear HALL HGOOD
      go_wp2_with (first | (refine wpList_buildTo rfl 73 #[] rfl _ rfl ZB (Eq.trans (congrArg (fun z => Tryz.prog.built 73 z) (by kernel_rfl)) HZB.out) ?_) | (refine wpList_store_rowAs rfl 73 _ _ rfl g ZB rfl rfl _ _ R4.out HZI.out HZS.out HZO.out XB HXB.out ?_))
      refine bodyPost_ret (results_row_tmp rfl _ _ g _ ZB _ _ rfl RXB.out Tryz.underlying73 rfl HZI.out) rfl ?_
      exact ⟨ZB, false, .inr ⟨rfl, HNO.out, HZE.out⟩, rfl, UXB.out⟩
    by_cases cc : h < 0
    · skip
      have HNO : Hid (∀ b, ¬ IsBal (bs s) b) := fun b hb => by
        obtain ⟨a1, a2, a3, a4, a5, a6, a7, a8, a9, a10⟩ := HALL.out b hb
        omega
      clear HALL HGOOD
      go_wp2_with (first | (refine wpList_buildTo rfl 73 #[] rfl _ rfl ZB (Eq.trans (congrArg (fun z => Tryz.prog.built 73 z) (by kernel_rfl)) HZB.out) ?_) | (refine wpList_store_rowAs rfl 73 _ _ rfl g ZB rfl rfl _ _ R4.out HZI.out HZS.out HZO.out XB HXB.out ?_))
      refine bodyPost_ret (results_row_tmp rfl _ _ g _ ZB _ _ rfl RXB.out Tryz.underlying73 rfl HZI.out) rfl ?_
      exact ⟨ZB, false, .inr ⟨rfl, HNO.out, HZE.out⟩, rfl, UXB.out⟩
    have cq : 0 ≤ h := by omega
    clear cc
    by_cases cc : v < 0
    · skip
      have HNO : Hid (∀ b, ¬ IsBal (bs s) b) := fun b hb => by
        obtain ⟨a1, a2, a3, a4, a5, a6, a7, a8, a9, a10⟩ := HALL.out b hb
        omega
      clear HALL HGOOD
      go_wp2_with (first | (refine wpList_buildTo rfl 73 #[] rfl _ rfl ZB (Eq.trans (congrArg (fun z => Tryz.prog.built 73 z) (by kernel_rfl)) HZB.out) ?_) | (refine wpList_store_rowAs rfl 73 _ _ rfl g ZB rfl rfl _ _ R4.out HZI.out HZS.out HZO.out XB HXB.out ?_))
      refine bodyPost_ret (results_row_tmp rfl _ _ g _ ZB _ _ rfl RXB.out Tryz.underlying73 rfl HZI.out) rfl ?_
      exact ⟨ZB, false, .inr ⟨rfl, HNO.out, HZE.out⟩, rfl, UXB.out⟩
    have cq : 0 ≤ v := by omega
    clear cc
    by_cases cc : 1000000000 < h
    · skip
      have HNO : Hid (∀ b, ¬ IsBal (bs s) b) := fun b hb => by
        obtain ⟨a1, a2, a3, a4, a5, a6, a7, a8, a9, a10⟩ := HALL.out b hb
        omega
      clear HALL HGOOD
      go_wp2_with (first | (refine wpList_buildTo rfl 73 #[] rfl _ rfl ZB (Eq.trans (congrArg (fun z => Tryz.prog.built 73 z) (by kernel_rfl)) HZB.out) ?_) | (refine wpList_store_rowAs rfl 73 _ _ rfl g ZB rfl rfl _ _ R4.out HZI.out HZS.out HZO.out XB HXB.out ?_))
      refine bodyPost_ret (results_row_tmp rfl _ _ g _ ZB _ _ rfl RXB.out Tryz.underlying73 rfl HZI.out) rfl ?_
      exact ⟨ZB, false, .inr ⟨rfl, HNO.out, HZE.out⟩, rfl, UXB.out⟩
    have cq : h ≤ 1000000000 := by omega
    clear cc
    by_cases cc : 1000000000 < v
    · skip
      have HNO : Hid (∀ b, ¬ IsBal (bs s) b) := fun b hb => by
        obtain ⟨a1, a2, a3, a4, a5, a6, a7, a8, a9, a10⟩ := HALL.out b hb
        omega
      clear HALL HGOOD
      go_wp2_with (first | (refine wpList_buildTo rfl 73 #[] rfl _ rfl ZB (Eq.trans (congrArg (fun z => Tryz.prog.built 73 z) (by kernel_rfl)) HZB.out) ?_) | (refine wpList_store_rowAs rfl 73 _ _ rfl g ZB rfl rfl _ _ R4.out HZI.out HZS.out HZO.out XB HXB.out ?_))
      refine bodyPost_ret (results_row_tmp rfl _ _ g _ ZB _ _ rfl RXB.out Tryz.underlying73 rfl HZI.out) rfl ?_
      exact ⟨ZB, false, .inr ⟨rfl, HNO.out, HZE.out⟩, rfl, UXB.out⟩
    have cq : v ≤ 1000000000 := by omega
    clear cc
    by_cases cc : (x.size : Int) < 1
    · skip
      have HNO : Hid (∀ b, ¬ IsBal (bs s) b) := fun b hb => by
        obtain ⟨a1, a2, a3, a4, a5, a6, a7, a8, a9, a10⟩ := HALL.out b hb
        omega
      clear HALL HGOOD
      go_wp2_with (first | (refine wpList_buildTo rfl 73 #[] rfl _ rfl ZB (Eq.trans (congrArg (fun z => Tryz.prog.built 73 z) (by kernel_rfl)) HZB.out) ?_) | (refine wpList_store_rowAs rfl 73 _ _ rfl g ZB rfl rfl _ _ R4.out HZI.out HZS.out HZO.out XB HXB.out ?_))
      refine bodyPost_ret (results_row_tmp rfl _ _ g _ ZB _ _ rfl RXB.out Tryz.underlying73 rfl HZI.out) rfl ?_
      exact ⟨ZB, false, .inr ⟨rfl, HNO.out, HZE.out⟩, rfl, UXB.out⟩
    have cq : 1 ≤ (x.size : Int) := by omega
    clear cc
    by_cases cc : 200 < (x.size : Int)
    · skip
      have HNO : Hid (∀ b, ¬ IsBal (bs s) b) := fun b hb => by
        obtain ⟨a1, a2, a3, a4, a5, a6, a7, a8, a9, a10⟩ := HALL.out b hb
        omega
      clear HALL HGOOD
      go_wp2_with (first | (refine wpList_buildTo rfl 73 #[] rfl _ rfl ZB (Eq.trans (congrArg (fun z => Tryz.prog.built 73 z) (by kernel_rfl)) HZB.out) ?_) | (refine wpList_store_rowAs rfl 73 _ _ rfl g ZB rfl rfl _ _ R4.out HZI.out HZS.out HZO.out XB HXB.out ?_))
      refine bodyPost_ret (results_row_tmp rfl _ _ g _ ZB _ _ rfl RXB.out Tryz.underlying73 rfl HZI.out) rfl ?_
      exact ⟨ZB, false, .inr ⟨rfl, HNO.out, HZE.out⟩, rfl, UXB.out⟩
    have cq : (x.size : Int) ≤ 200 := by omega
    clear cc
    have HB := Lib.hid (HGOOD.out ⟨HQ.out, rfl, rfl, rfl, by omega, by omega, by omega, by omega, by omega, by omega⟩)
    clear HALL HGOOD
    go_wp2_with (first | (refine wpList_buildTo rfl 73 _ rfl _ rfl CG (Eq.trans (congrArg (fun z => Tryz.prog.built 73 z) (by kernel_rfl)) HGB.out) ?_) | (refine wpList_store_rowAs rfl 73 _ _ rfl g CG rfl rfl _ _ R4.out HGI.out HGS.out HGO.out XG HXG.out ?_))
    refine bodyPost_ret (results_row_tmp rfl _ _ g _ CG _ _ rfl RXG.out Tryz.underlying73 rfl HGI.out) rfl ?_
    exact ⟨CG, true, .inl ⟨rfl, _, p0, x, HB.out, rfl, HGE.out⟩, rfl, UXG.out⟩
  have e2 := G1 [99, 111, 109, 109, 105, 116] q2
  have Q2 := Lib.hid q2
  clear q2
  clear G0 G1
  have HNO : Hid (∀ b, ¬ IsBal (bs s) b) := fun b hb => by
    obtain ⟨a1, a2, a3, a4, a5, a6, a7, a8, a9, a10⟩ := HALL.out b hb
    rcases a1 with a1 | a1 | a1
    · exact Q0.out a1
    · exact Q1.out a1
    · exact Q2.out a1
  clear HALL HGOOD
  go_wp2_with (first | (refine wpList_buildTo rfl 73 #[] rfl _ rfl ZB (Eq.trans (congrArg (fun z => Tryz.prog.built 73 z) (by kernel_rfl)) HZB.out) ?_) | (refine wpList_store_rowAs rfl 73 _ _ rfl g ZB rfl rfl _ _ R4.out HZI.out HZS.out HZO.out XB HXB.out ?_))
  refine bodyPost_ret (results_row_tmp rfl _ _ g _ ZB _ _ rfl RXB.out Tryz.underlying73 rfl HZI.out) rfl ?_
  exact ⟨ZB, false, .inr ⟨rfl, HNO.out, HZE.out⟩, rfl, UXB.out⟩
end Go.Proofs.YtcimcodljjcmgaaGreatDoor
