/- sortesref33: Event and Contradict at any texts. -/
import Derived.Test.YtcimcodljjcmgaaGreatDoorGBC
import Derived.Test.YtcimcodljjcmgaaGreatDoorGBE
import Derived.Test.YtcimcodljjcmgaaGreatDoorGBG
namespace Go.Proofs.YtcimcodljjcmgaaGreatDoor
open Go.RowKit
set_option maxRecDepth 100000

set_option maxHeartbeats 4000000 in
theorem event33_any (T : ByteArray) (hT : T.size ≤ 1999980) (w : World) : Calls Tryz.prog 26 #[.string T] w (MkEvt (preE ++ bs T) w) := by
  obtain ⟨g, hg⟩ : ∃ g, w.heap.size = g := ⟨_, rfl⟩
  obtain ⟨w0, hw0⟩ : ∃ W, w.alloc (.cells #[.int .i64 0, .int .i64 0, .int .i64 0, .int .i64 0, .int .i64 0, .string ⟨#[]⟩, .int .u8 0, .int .u8 0, .int .u8 0, .int .u8 0, .int .u8 0, .int .u8 0, .int .u8 0, .int .u8 0, .int .u8 0, .int .u8 0, .int .u8 0, .int .u8 0, .int .u8 0, .int .u8 0, .int .u8 0, .int .u8 0, .int .u8 0, .int .u8 0, .int .u8 0, .int .u8 0, .int .u8 0, .int .u8 0, .int .u8 0, .int .u8 0, .int .u8 0, .int .u8 0, .int .u8 0, .int .u8 0, .int .u8 0, .int .u8 0, .int .u8 0, .int .u8 0, .int .i64 0, .int .i64 0] 33) = W := ⟨_, rfl⟩
  have r0 := Lib.hid (show w0.heap[g]? = some (.cells evZ.toArray 33 (0, 0)) by rw [← hg, ← hw0, zero_ev]; exact heap_alloc_new _ _)
  have HU0 := Lib.hid (show Upd [] [] w w0 by rw [← hw0]; exact (Upd.refl _ _).alloc _)
  have s1 : ¬ 9223372036854775807 < 4 + T.size := by omega
  obtain ⟨s, hs⟩ : ∃ s : ByteArray, ByteArray.mk #[48, 32, 48, 32] ++ T = s := ⟨_, rfl⟩
  have hb : bs s = preE ++ bs T := by rw [← hs, bs_append]; rfl
  have hsz : s.size ≤ 1999990 := by
    have := congrArg List.length hb
    rw [bs_length, List.length_append, bs_length] at this
    have : preE.length = 4 := rfl
    omega
  have HD := Lib.hid (decode30_any s hsz w0)
  rw [hb] at HD
  have HG : Hid (w.heap.size ≤ g) := Nat.le_of_eq hg
  obtain ⟨l, hl⟩ : ∃ l, preE ++ bs T = l := ⟨_, rfl⟩
  rw [hl] at HD ⊢
  clear hT hb hsz hl
  go_enter Tryz.func26, Tryz.ntmps26
  go_wp2_with fail
  refine HD.out.mono ?_
  intro e w1 hd
  obtain ⟨EV, b, HE, rfl, hq⟩ := hd.out
  clear hd
  have HEVI := Lib.hid HE.out.info.1
  have HEVO := Lib.hid HE.out.info.2.1
  have HEVZ := Lib.hid HE.out.info.2.2
  have r1 := Lib.hid (row_updH r0.out hq)
  have HU1 := Lib.hid (HU0.out.trans hq)
  obtain ⟨w2, Z2, W2, R2, hq2⟩ := blk_new w1 33 evZ.toArray EV
  rw [← zero_ev] at Z2 W2
  obtain ⟨gE, hgE⟩ : ∃ g, w1.heap.size = g := ⟨_, rfl⟩
  have hlt : g < gE := by rw [← hgE]; exact blk_lt r1.out
  rw [hgE] at Z2 W2 R2
  have HZZ : Hid ((#[.int .i64 0, .int .i64 0, .int .i64 0, .int .i64 0, .int .i64 0, .string ⟨#[]⟩, .int .u8 0, .int .u8 0, .int .u8 0, .int .u8 0, .int .u8 0, .int .u8 0, .int .u8 0, .int .u8 0, .int .u8 0, .int .u8 0, .int .u8 0, .int .u8 0, .int .u8 0, .int .u8 0, .int .u8 0, .int .u8 0, .int .u8 0, .int .u8 0, .int .u8 0, .int .u8 0, .int .u8 0, .int .u8 0, .int .u8 0, .int .u8 0, .int .u8 0, .int .u8 0, .int .u8 0, .int .u8 0, .int .u8 0, .int .u8 0, .int .u8 0, .int .u8 0, .int .i64 0, .int .i64 0] : Array Value).size = EV.size) := by show _ = _; rw [zero_ev]; exact HEVZ.out
  have r2 := Lib.hid (row_updH r1.out hq2)
  have HU2 := Lib.hid (HU1.out.trans hq2)
  obtain ⟨w3, hw3⟩ : ∃ W, w2.setRow g EV = W := ⟨_, rfl⟩
  have r3 : (w2.setRow g EV).heap[g]? = some (.cells EV 33 (0, 0)) := setRow_heap _ _ _ _ _ _ r2.out
  have U3 := HU2.out.setRowNew HG.out EV
  rw [hw3] at r3 U3
  have HW3 := Lib.hid hw3
  have R3 := Lib.hid r3
  have HU3 := Lib.hid U3
  clear hq hq2 HD r0 r1 HU0 HU1 hw3 r3 U3 hs s1
  cases b
  · go_wp2_with (first | (refine wpList_store_rowAs rfl 33 _ _ rfl gE EV rfl rfl _ _ Z2.out HEVI.out HZZ.out HEVO.out w2 W2.out ?_) | (refine wpList_load_row rfl 33 _ rfl gE rfl _ EV _ _ R2.out Tryz.underlying33 rfl HEVI.out ?_) | (refine wpList_store_rowAs rfl 33 _ _ rfl g EV rfl rfl _ _ r2.out HEVI.out HEVZ.out HEVO.out w3 HW3.out ?_))
    refine bodyPost_ret (results_row_tmp rfl _ _ g _ EV _ _ rfl R3.out Tryz.underlying33 rfl HEVI.out) rfl ?_
    exact ⟨EV, false, HE, rfl, HU3.out⟩
  · go_wp2_with (first | (refine wpList_store_rowAs rfl 33 _ _ rfl gE EV rfl rfl _ _ Z2.out HEVI.out HZZ.out HEVO.out w2 W2.out ?_) | (refine wpList_load_row rfl 33 _ rfl gE rfl _ EV _ _ R2.out Tryz.underlying33 rfl HEVI.out ?_) | (refine wpList_store_rowAs rfl 33 _ _ rfl g EV rfl rfl _ _ r2.out HEVI.out HEVZ.out HEVO.out w3 HW3.out ?_))
    refine bodyPost_ret (results_row_tmp rfl _ _ g _ EV _ _ rfl R3.out Tryz.underlying33 rfl HEVI.out) rfl ?_
    exact ⟨EV, true, HE, rfl, HU3.out⟩
theorem RBR.info {l : List UInt8} {C : Array Value} {ok : Bool} (h : RBR l C ok) : (Tryz.prog.info? 73).map (·.size) = some C.size ∧ C.all (·.oneCell') = true ∧ (#[.string ⟨#[]⟩, .int .i64 0, .int .i64 0, .string ⟨#[]⟩] : Array Value).size = C.size := by
  rcases h with ⟨_, b, k, x, _, _, rfl⟩ | ⟨_, _, rfl⟩
  · exact ⟨ballInfo _ _ _ _, ballOne _ _ _ _, rfl⟩
  · exact ⟨ballInfo _ _ _ _, ballOne _ _ _ _, rfl⟩
theorem RBR.none {l : List UInt8} {C : Array Value} (h : RBR l C false) : ∀ b, ¬ IsBal l b := by
  rcases h with ⟨h, _⟩ | ⟨_, h, _⟩
  · cases h
  · exact h
theorem RBR.yes {l : List UInt8} {C : Array Value} (h : RBR l C true) : ∃ (b : Bal) (k x : ByteArray), IsBal l b ∧ bs k = b.k ∧ C = #[.string k, .int .i64 b.h, .int .i64 b.v, .string x] := by
  rcases h with ⟨_, h⟩ | ⟨h, _⟩
  · exact h
  · cases h
set_option maxHeartbeats 16000000 in
theorem con33_any (a b : ByteArray) (ha : a.size ≤ 1999980) (hb : b.size ≤ 1999980) (w : World) : Calls Tryz.prog 8 #[.string a, .string b] w (MkCon (bs a) (bs b) w) := by
  by_cases hab : a = b
  · have HR : Hid (ConR (bs a) (bs b) false) := ⟨fun _ => rfl, fun hn => absurd (by rw [hab]) hn⟩
    have g1 : (a.toList == b.toList) = true := by rw [hab]; exact beq_self_eq_true _
    clear hab
    go_enter Tryz.func8, Tryz.ntmps8
    go_wp2_with fail
    go_ret
    exact ⟨false, HR, rfl, Upd.refl _ _⟩
  have HAB : Hid (bs a ≠ bs b) := fun e => hab (bs_inj e)
  have g1 : (a.toList == b.toList) = false := by rw [← Bool.not_eq_true]; exact fun h => hab (bs_inj (eq_beq.1 h))
  have HB1 := Lib.hid (read29_any a (by omega) w)
  have HB2 := Lib.hid (fun W => read29_any b (by omega) W)
  have HE1 := Lib.hid (fun W => event33_any a ha W)
  have HE2 := Lib.hid (fun W => event33_any b hb W)
  have HLA : Hid ((preE ++ bs a).length ≤ 1000000000) := by show _ ≤ _; rw [List.length_append, bs_length]; have : preE.length = 4 := rfl; omega
  have HLB : Hid ((preE ++ bs b).length ≤ 1000000000) := by show _ ≤ _; rw [List.length_append, bs_length]; have : preE.length = 4 := rfl; omega
  obtain ⟨la, hla⟩ : ∃ l, preE ++ bs a = l := ⟨_, rfl⟩
  obtain ⟨lb, hlb⟩ : ∃ l, preE ++ bs b = l := ⟨_, rfl⟩
  rw [hla] at HE1 HLA
  rw [hlb] at HE2 HLB
  have HPA := Lib.hid hla
  have HPB := Lib.hid hlb
  clear hla hlb ha hb hab
  go_enter Tryz.func8, Tryz.ntmps8
  go_wp2_with fail
  refine HB1.out.mono ?_
  rintro e v1 ⟨D1, ok1, Y1, rfl, hq⟩
  have HDI1 := Lib.hid Y1.out.info.1
  have HDO1 := Lib.hid Y1.out.info.2.1
  have HDZ1 := Lib.hid Y1.out.info.2.2
  obtain ⟨v2, ZA, WA, RA, hqa⟩ := blk_new v1 73 #[.string ⟨#[]⟩, .int .i64 0, .int .i64 0, .string ⟨#[]⟩] D1
  obtain ⟨gX, hgX⟩ : ∃ g, v1.heap.size = g := ⟨_, rfl⟩
  rw [hgX] at ZA WA RA
  have V2 := Lib.hid (hq.trans hqa)
  clear hq hqa HB1
  go_wp2_with (first | (refine wpList_store_rowAs rfl 73 _ _ rfl gX D1 rfl rfl _ _ ZA.out HDI1.out HDZ1.out HDO1.out v2 WA.out ?_))
  refine (HB2.out v2).mono ?_
  rintro e v3 ⟨D2, ok2, Y2, rfl, hq⟩
  have HDI2 := Lib.hid Y2.out.info.1
  have HDO2 := Lib.hid Y2.out.info.2.1
  have HDZ2 := Lib.hid Y2.out.info.2.2
  obtain ⟨w2, ZB, WB, RB, hqb⟩ := blk_new v3 73 #[.string ⟨#[]⟩, .int .i64 0, .int .i64 0, .string ⟨#[]⟩] D2
  obtain ⟨gY, hgY⟩ : ∃ g, v3.heap.size = g := ⟨_, rfl⟩
  rw [hgY] at ZB WB RB
  have U2 := Lib.hid ((V2.out.trans hq).trans hqb)
  have RX := Lib.hid (heap_upd (heap_upd RA.out hq) hqb)
  clear hq hqb HB2 V2 ZA WA hgX
  cases ok1
  · cases ok2
    · skip
      have HNB : Hid (¬ ((∃ x, IsBal (bs a) x) ∧ ∃ y, IsBal (bs b) y)) := fun h => by obtain ⟨⟨x, hx⟩, _⟩ := h; exact Y1.out.none x hx
      clear Y1 Y2 RA
      go_wp2_with (first | (refine wpList_store_rowAs rfl 73 _ _ rfl gY D2 rfl rfl _ _ ZB.out HDI2.out HDZ2.out HDO2.out w2 WB.out ?_))
      refine (HE1.out w2).mono ?_
      rintro e w3 ⟨EV, b1, X1, rfl, hq⟩
      have HEVI := Lib.hid X1.out.info.1
      have HEVO := Lib.hid X1.out.info.2.1
      have HEVZ : Hid ((#[.int .i64 0, .int .i64 0, .int .i64 0, .int .i64 0, .int .i64 0, .string ⟨#[]⟩, .int .u8 0, .int .u8 0, .int .u8 0, .int .u8 0, .int .u8 0, .int .u8 0, .int .u8 0, .int .u8 0, .int .u8 0, .int .u8 0, .int .u8 0, .int .u8 0, .int .u8 0, .int .u8 0, .int .u8 0, .int .u8 0, .int .u8 0, .int .u8 0, .int .u8 0, .int .u8 0, .int .u8 0, .int .u8 0, .int .u8 0, .int .u8 0, .int .u8 0, .int .u8 0, .int .u8 0, .int .u8 0, .int .u8 0, .int .u8 0, .int .u8 0, .int .u8 0, .int .i64 0, .int .i64 0] : Array Value).size = EV.size) := by show _ = _; rw [zero_ev]; exact X1.out.info.2.2
      obtain ⟨q1, hi1, cq1, S1, T1⟩ := X1.out.seq HLA.out
      have Q1 := Lib.hid (And.intro S1 T1)
      have C1 := Lib.hid cq1
      have U3 := Lib.hid (U2.out.trans hq)
      clear hq HE1 U2 S1 T1 cq1 hi1
      obtain ⟨w4, Z4, W4, R4, hq4⟩ := blk_new w3 33 #[.int .i64 0, .int .i64 0, .int .i64 0, .int .i64 0, .int .i64 0, .string ⟨#[]⟩, .int .u8 0, .int .u8 0, .int .u8 0, .int .u8 0, .int .u8 0, .int .u8 0, .int .u8 0, .int .u8 0, .int .u8 0, .int .u8 0, .int .u8 0, .int .u8 0, .int .u8 0, .int .u8 0, .int .u8 0, .int .u8 0, .int .u8 0, .int .u8 0, .int .u8 0, .int .u8 0, .int .u8 0, .int .u8 0, .int .u8 0, .int .u8 0, .int .u8 0, .int .u8 0, .int .u8 0, .int .u8 0, .int .u8 0, .int .u8 0, .int .u8 0, .int .u8 0, .int .i64 0, .int .i64 0] EV
      obtain ⟨gA, hgA⟩ : ∃ g, w3.heap.size = g := ⟨_, rfl⟩
      rw [hgA] at Z4 W4 R4
      have U4 := Lib.hid (U3.out.trans hq4)
      have hl4 : gA < w4.heap.size := blk_lt R4.out
      clear hq4 U3
      go_wp2_with (first | (refine wpList_store_rowAs rfl 33 _ _ rfl gA EV rfl rfl _ _ Z4.out HEVI.out HEVZ.out HEVO.out w4 W4.out ?_))
      refine (HE2.out w4).mono ?_
      rintro e w5 ⟨EW, b2, X2, rfl, hq⟩
      have HEWI := Lib.hid X2.out.info.1
      have HEWO := Lib.hid X2.out.info.2.1
      have HEWZ : Hid ((#[.int .i64 0, .int .i64 0, .int .i64 0, .int .i64 0, .int .i64 0, .string ⟨#[]⟩, .int .u8 0, .int .u8 0, .int .u8 0, .int .u8 0, .int .u8 0, .int .u8 0, .int .u8 0, .int .u8 0, .int .u8 0, .int .u8 0, .int .u8 0, .int .u8 0, .int .u8 0, .int .u8 0, .int .u8 0, .int .u8 0, .int .u8 0, .int .u8 0, .int .u8 0, .int .u8 0, .int .u8 0, .int .u8 0, .int .u8 0, .int .u8 0, .int .u8 0, .int .u8 0, .int .u8 0, .int .u8 0, .int .u8 0, .int .u8 0, .int .u8 0, .int .u8 0, .int .i64 0, .int .i64 0] : Array Value).size = EW.size) := by show _ = _; rw [zero_ev]; exact X2.out.info.2.2
      obtain ⟨q2, hi2, cq2, S2, T2⟩ := X2.out.seq HLB.out
      have Q2 := Lib.hid (And.intro S2 T2)
      have C2 := Lib.hid cq2
      have R5 := Lib.hid (row_updH R4.out hq)
      have U5 := Lib.hid (U4.out.trans hq)
      have hl5 : gA < w5.heap.size := Nat.lt_of_lt_of_le hl4 hq.size
      clear hq HE2 U4 R4 Z4 W4 S2 T2 cq2 hi2
      obtain ⟨w6, Z6, W6, R6, hq6⟩ := blk_new w5 33 #[.int .i64 0, .int .i64 0, .int .i64 0, .int .i64 0, .int .i64 0, .string ⟨#[]⟩, .int .u8 0, .int .u8 0, .int .u8 0, .int .u8 0, .int .u8 0, .int .u8 0, .int .u8 0, .int .u8 0, .int .u8 0, .int .u8 0, .int .u8 0, .int .u8 0, .int .u8 0, .int .u8 0, .int .u8 0, .int .u8 0, .int .u8 0, .int .u8 0, .int .u8 0, .int .u8 0, .int .u8 0, .int .u8 0, .int .u8 0, .int .u8 0, .int .u8 0, .int .u8 0, .int .u8 0, .int .u8 0, .int .u8 0, .int .u8 0, .int .u8 0, .int .u8 0, .int .i64 0, .int .i64 0] EW
      obtain ⟨gB, hgB⟩ : ∃ g, w5.heap.size = g := ⟨_, rfl⟩
      rw [hgB] at Z6 W6 R6
      have cA : w6.cell? ⟨gA, 0, none⟩ = some (.int .i64 q1) := (cell_of_row _ gA 0 _ _ _ (row_updH R5.out hq6)).trans C1.out
      have cB : w6.cell? ⟨gB, 0, none⟩ = some (.int .i64 q2) := (cell_of_row _ gB 0 _ _ _ R6.out).trans C2.out
      have U6 := Lib.hid (U5.out.trans hq6)
      have HF : Hid (∀ c : Bool, (∀ e f, IsCode la e → IsCode lb f → (c = true ↔ e.q = f.q)) → (¬ ((∃ e, IsCode la e) ∧ ∃ f, IsCode lb f) → c = false) → ConR (bs a) (bs b) c) := by
        intro c k1 k2
        refine ⟨fun e => absurd e HAB.out, fun _ => ⟨fun x y hx hy => absurd ⟨⟨x, hx⟩, y, hy⟩ HNB.out, fun _ => ?_⟩⟩
        rw [HPA.out, HPB.out]
        exact ⟨k1, k2⟩
      have HV1 : Hid (b1 = false → ∀ e, ¬ IsCode la e) := fun hf e he => by have := (Q1.out.1 e he).1; rw [hf] at this; cases this
      have HV2 : Hid (b2 = false → ∀ e, ¬ IsCode lb e) := fun hf e he => by have := (Q2.out.1 e he).1; rw [hf] at this; cases this
      have HVT : Hid (b1 = true → b2 = true → (∃ e, IsCode la e) ∧ ∃ f, IsCode lb f) := by
        intro h1 h2
        refine ⟨Classical.byContradiction fun hn => ?_, Classical.byContradiction fun hn => ?_⟩
        · have := Q1.out.2 (fun e he => hn ⟨e, he⟩); rw [h1] at this; cases this
        · have := Q2.out.2 (fun e he => hn ⟨e, he⟩); rw [h2] at this; cases this
      have HQE : Hid (∀ e f, IsCode la e → IsCode lb f → q1 = e.q ∧ q2 = f.q) := fun e f he hf => ⟨(Q1.out.1 e he).2, (Q2.out.1 f hf).2⟩
      clear hq6 U5 R5 R6 C1 C2 X1 X2 Q1 Q2
      cases b1
      · have HR : Hid (ConR (bs a) (bs b) false) := HF.out false (fun e f he _ => absurd he (HV1.out rfl e)) (fun _ => rfl)
        clear HF HV1 HV2 HVT HQE
        go_wp2_with (first | (refine wpList_store_rowAs rfl 33 _ _ rfl gB EW rfl rfl _ _ Z6.out HEWI.out HEWZ.out HEWO.out w6 W6.out ?_))
        go_ret
        exact ⟨false, HR, rfl, U6.out⟩
      cases b2
      · have HR : Hid (ConR (bs a) (bs b) false) := HF.out false (fun e f _ hf => absurd hf (HV2.out rfl f)) (fun _ => rfl)
        clear HF HV1 HV2 HVT HQE
        go_wp2_with (first | (refine wpList_store_rowAs rfl 33 _ _ rfl gB EW rfl rfl _ _ Z6.out HEWI.out HEWZ.out HEWO.out w6 W6.out ?_))
        go_ret
        exact ⟨false, HR, rfl, U6.out⟩
      by_cases hqq : q1 = q2
      · have HR : Hid (ConR (bs a) (bs b) true) := HF.out true (fun e f he hf => ⟨fun _ => by have := HQE.out e f he hf; rw [← this.1, ← this.2]; exact hqq, fun _ => rfl⟩) (fun hn => absurd (HVT.out rfl rfl) hn)
        have g2 : (q1 == q2) = true := by rw [beq_iff_eq]; exact hqq
        clear HF HV1 HV2 HVT HQE hqq
        go_wp2_with (first | (refine wpList_store_rowAs rfl 33 _ _ rfl gB EW rfl rfl _ _ Z6.out HEWI.out HEWZ.out HEWO.out w6 W6.out ?_))
        go_ret
        exact ⟨true, HR, rfl, U6.out⟩
      have HR : Hid (ConR (bs a) (bs b) false) := HF.out false (fun e f he hf => ⟨fun h => (by cases h), fun h => by have := HQE.out e f he hf; exact absurd (by rw [this.1, this.2]; exact h) hqq⟩) (fun _ => rfl)
      have g2 : (q1 == q2) = false := by rw [beq_eq_false_iff_ne]; exact hqq
      clear HF HV1 HV2 HVT HQE hqq
      go_wp2_with (first | (refine wpList_store_rowAs rfl 33 _ _ rfl gB EW rfl rfl _ _ Z6.out HEWI.out HEWZ.out HEWO.out w6 W6.out ?_))
      go_ret
      exact ⟨false, HR, rfl, U6.out⟩
    · skip
      have HNB : Hid (¬ ((∃ x, IsBal (bs a) x) ∧ ∃ y, IsBal (bs b) y)) := fun h => by obtain ⟨⟨x, hx⟩, _⟩ := h; exact Y1.out.none x hx
      clear Y1 Y2 RA
      go_wp2_with (first | (refine wpList_store_rowAs rfl 73 _ _ rfl gY D2 rfl rfl _ _ ZB.out HDI2.out HDZ2.out HDO2.out w2 WB.out ?_))
      refine (HE1.out w2).mono ?_
      rintro e w3 ⟨EV, b1, X1, rfl, hq⟩
      have HEVI := Lib.hid X1.out.info.1
      have HEVO := Lib.hid X1.out.info.2.1
      have HEVZ : Hid ((#[.int .i64 0, .int .i64 0, .int .i64 0, .int .i64 0, .int .i64 0, .string ⟨#[]⟩, .int .u8 0, .int .u8 0, .int .u8 0, .int .u8 0, .int .u8 0, .int .u8 0, .int .u8 0, .int .u8 0, .int .u8 0, .int .u8 0, .int .u8 0, .int .u8 0, .int .u8 0, .int .u8 0, .int .u8 0, .int .u8 0, .int .u8 0, .int .u8 0, .int .u8 0, .int .u8 0, .int .u8 0, .int .u8 0, .int .u8 0, .int .u8 0, .int .u8 0, .int .u8 0, .int .u8 0, .int .u8 0, .int .u8 0, .int .u8 0, .int .u8 0, .int .u8 0, .int .i64 0, .int .i64 0] : Array Value).size = EV.size) := by show _ = _; rw [zero_ev]; exact X1.out.info.2.2
      obtain ⟨q1, hi1, cq1, S1, T1⟩ := X1.out.seq HLA.out
      have Q1 := Lib.hid (And.intro S1 T1)
      have C1 := Lib.hid cq1
      have U3 := Lib.hid (U2.out.trans hq)
      clear hq HE1 U2 S1 T1 cq1 hi1
      obtain ⟨w4, Z4, W4, R4, hq4⟩ := blk_new w3 33 #[.int .i64 0, .int .i64 0, .int .i64 0, .int .i64 0, .int .i64 0, .string ⟨#[]⟩, .int .u8 0, .int .u8 0, .int .u8 0, .int .u8 0, .int .u8 0, .int .u8 0, .int .u8 0, .int .u8 0, .int .u8 0, .int .u8 0, .int .u8 0, .int .u8 0, .int .u8 0, .int .u8 0, .int .u8 0, .int .u8 0, .int .u8 0, .int .u8 0, .int .u8 0, .int .u8 0, .int .u8 0, .int .u8 0, .int .u8 0, .int .u8 0, .int .u8 0, .int .u8 0, .int .u8 0, .int .u8 0, .int .u8 0, .int .u8 0, .int .u8 0, .int .u8 0, .int .i64 0, .int .i64 0] EV
      obtain ⟨gA, hgA⟩ : ∃ g, w3.heap.size = g := ⟨_, rfl⟩
      rw [hgA] at Z4 W4 R4
      have U4 := Lib.hid (U3.out.trans hq4)
      have hl4 : gA < w4.heap.size := blk_lt R4.out
      clear hq4 U3
      go_wp2_with (first | (refine wpList_store_rowAs rfl 33 _ _ rfl gA EV rfl rfl _ _ Z4.out HEVI.out HEVZ.out HEVO.out w4 W4.out ?_))
      refine (HE2.out w4).mono ?_
      rintro e w5 ⟨EW, b2, X2, rfl, hq⟩
      have HEWI := Lib.hid X2.out.info.1
      have HEWO := Lib.hid X2.out.info.2.1
      have HEWZ : Hid ((#[.int .i64 0, .int .i64 0, .int .i64 0, .int .i64 0, .int .i64 0, .string ⟨#[]⟩, .int .u8 0, .int .u8 0, .int .u8 0, .int .u8 0, .int .u8 0, .int .u8 0, .int .u8 0, .int .u8 0, .int .u8 0, .int .u8 0, .int .u8 0, .int .u8 0, .int .u8 0, .int .u8 0, .int .u8 0, .int .u8 0, .int .u8 0, .int .u8 0, .int .u8 0, .int .u8 0, .int .u8 0, .int .u8 0, .int .u8 0, .int .u8 0, .int .u8 0, .int .u8 0, .int .u8 0, .int .u8 0, .int .u8 0, .int .u8 0, .int .u8 0, .int .u8 0, .int .i64 0, .int .i64 0] : Array Value).size = EW.size) := by show _ = _; rw [zero_ev]; exact X2.out.info.2.2
      obtain ⟨q2, hi2, cq2, S2, T2⟩ := X2.out.seq HLB.out
      have Q2 := Lib.hid (And.intro S2 T2)
      have C2 := Lib.hid cq2
      have R5 := Lib.hid (row_updH R4.out hq)
      have U5 := Lib.hid (U4.out.trans hq)
      have hl5 : gA < w5.heap.size := Nat.lt_of_lt_of_le hl4 hq.size
      clear hq HE2 U4 R4 Z4 W4 S2 T2 cq2 hi2
      obtain ⟨w6, Z6, W6, R6, hq6⟩ := blk_new w5 33 #[.int .i64 0, .int .i64 0, .int .i64 0, .int .i64 0, .int .i64 0, .string ⟨#[]⟩, .int .u8 0, .int .u8 0, .int .u8 0, .int .u8 0, .int .u8 0, .int .u8 0, .int .u8 0, .int .u8 0, .int .u8 0, .int .u8 0, .int .u8 0, .int .u8 0, .int .u8 0, .int .u8 0, .int .u8 0, .int .u8 0, .int .u8 0, .int .u8 0, .int .u8 0, .int .u8 0, .int .u8 0, .int .u8 0, .int .u8 0, .int .u8 0, .int .u8 0, .int .u8 0, .int .u8 0, .int .u8 0, .int .u8 0, .int .u8 0, .int .u8 0, .int .u8 0, .int .i64 0, .int .i64 0] EW
      obtain ⟨gB, hgB⟩ : ∃ g, w5.heap.size = g := ⟨_, rfl⟩
      rw [hgB] at Z6 W6 R6
      have cA : w6.cell? ⟨gA, 0, none⟩ = some (.int .i64 q1) := (cell_of_row _ gA 0 _ _ _ (row_updH R5.out hq6)).trans C1.out
      have cB : w6.cell? ⟨gB, 0, none⟩ = some (.int .i64 q2) := (cell_of_row _ gB 0 _ _ _ R6.out).trans C2.out
      have U6 := Lib.hid (U5.out.trans hq6)
      have HF : Hid (∀ c : Bool, (∀ e f, IsCode la e → IsCode lb f → (c = true ↔ e.q = f.q)) → (¬ ((∃ e, IsCode la e) ∧ ∃ f, IsCode lb f) → c = false) → ConR (bs a) (bs b) c) := by
        intro c k1 k2
        refine ⟨fun e => absurd e HAB.out, fun _ => ⟨fun x y hx hy => absurd ⟨⟨x, hx⟩, y, hy⟩ HNB.out, fun _ => ?_⟩⟩
        rw [HPA.out, HPB.out]
        exact ⟨k1, k2⟩
      have HV1 : Hid (b1 = false → ∀ e, ¬ IsCode la e) := fun hf e he => by have := (Q1.out.1 e he).1; rw [hf] at this; cases this
      have HV2 : Hid (b2 = false → ∀ e, ¬ IsCode lb e) := fun hf e he => by have := (Q2.out.1 e he).1; rw [hf] at this; cases this
      have HVT : Hid (b1 = true → b2 = true → (∃ e, IsCode la e) ∧ ∃ f, IsCode lb f) := by
        intro h1 h2
        refine ⟨Classical.byContradiction fun hn => ?_, Classical.byContradiction fun hn => ?_⟩
        · have := Q1.out.2 (fun e he => hn ⟨e, he⟩); rw [h1] at this; cases this
        · have := Q2.out.2 (fun e he => hn ⟨e, he⟩); rw [h2] at this; cases this
      have HQE : Hid (∀ e f, IsCode la e → IsCode lb f → q1 = e.q ∧ q2 = f.q) := fun e f he hf => ⟨(Q1.out.1 e he).2, (Q2.out.1 f hf).2⟩
      clear hq6 U5 R5 R6 C1 C2 X1 X2 Q1 Q2
      cases b1
      · have HR : Hid (ConR (bs a) (bs b) false) := HF.out false (fun e f he _ => absurd he (HV1.out rfl e)) (fun _ => rfl)
        clear HF HV1 HV2 HVT HQE
        go_wp2_with (first | (refine wpList_store_rowAs rfl 33 _ _ rfl gB EW rfl rfl _ _ Z6.out HEWI.out HEWZ.out HEWO.out w6 W6.out ?_))
        go_ret
        exact ⟨false, HR, rfl, U6.out⟩
      cases b2
      · have HR : Hid (ConR (bs a) (bs b) false) := HF.out false (fun e f _ hf => absurd hf (HV2.out rfl f)) (fun _ => rfl)
        clear HF HV1 HV2 HVT HQE
        go_wp2_with (first | (refine wpList_store_rowAs rfl 33 _ _ rfl gB EW rfl rfl _ _ Z6.out HEWI.out HEWZ.out HEWO.out w6 W6.out ?_))
        go_ret
        exact ⟨false, HR, rfl, U6.out⟩
      by_cases hqq : q1 = q2
      · have HR : Hid (ConR (bs a) (bs b) true) := HF.out true (fun e f he hf => ⟨fun _ => by have := HQE.out e f he hf; rw [← this.1, ← this.2]; exact hqq, fun _ => rfl⟩) (fun hn => absurd (HVT.out rfl rfl) hn)
        have g2 : (q1 == q2) = true := by rw [beq_iff_eq]; exact hqq
        clear HF HV1 HV2 HVT HQE hqq
        go_wp2_with (first | (refine wpList_store_rowAs rfl 33 _ _ rfl gB EW rfl rfl _ _ Z6.out HEWI.out HEWZ.out HEWO.out w6 W6.out ?_))
        go_ret
        exact ⟨true, HR, rfl, U6.out⟩
      have HR : Hid (ConR (bs a) (bs b) false) := HF.out false (fun e f he hf => ⟨fun h => (by cases h), fun h => by have := HQE.out e f he hf; exact absurd (by rw [this.1, this.2]; exact h) hqq⟩) (fun _ => rfl)
      have g2 : (q1 == q2) = false := by rw [beq_eq_false_iff_ne]; exact hqq
      clear HF HV1 HV2 HVT HQE hqq
      go_wp2_with (first | (refine wpList_store_rowAs rfl 33 _ _ rfl gB EW rfl rfl _ _ Z6.out HEWI.out HEWZ.out HEWO.out w6 W6.out ?_))
      go_ret
      exact ⟨false, HR, rfl, U6.out⟩
  cases ok2
  · skip
    have HNB : Hid (¬ ((∃ x, IsBal (bs a) x) ∧ ∃ y, IsBal (bs b) y)) := fun h => by obtain ⟨_, x, hx⟩ := h; exact Y2.out.none x hx
    clear Y1 Y2 RA
    go_wp2_with (first | (refine wpList_store_rowAs rfl 73 _ _ rfl gY D2 rfl rfl _ _ ZB.out HDI2.out HDZ2.out HDO2.out w2 WB.out ?_))
    refine (HE1.out w2).mono ?_
    rintro e w3 ⟨EV, b1, X1, rfl, hq⟩
    have HEVI := Lib.hid X1.out.info.1
    have HEVO := Lib.hid X1.out.info.2.1
    have HEVZ : Hid ((#[.int .i64 0, .int .i64 0, .int .i64 0, .int .i64 0, .int .i64 0, .string ⟨#[]⟩, .int .u8 0, .int .u8 0, .int .u8 0, .int .u8 0, .int .u8 0, .int .u8 0, .int .u8 0, .int .u8 0, .int .u8 0, .int .u8 0, .int .u8 0, .int .u8 0, .int .u8 0, .int .u8 0, .int .u8 0, .int .u8 0, .int .u8 0, .int .u8 0, .int .u8 0, .int .u8 0, .int .u8 0, .int .u8 0, .int .u8 0, .int .u8 0, .int .u8 0, .int .u8 0, .int .u8 0, .int .u8 0, .int .u8 0, .int .u8 0, .int .u8 0, .int .u8 0, .int .i64 0, .int .i64 0] : Array Value).size = EV.size) := by show _ = _; rw [zero_ev]; exact X1.out.info.2.2
    obtain ⟨q1, hi1, cq1, S1, T1⟩ := X1.out.seq HLA.out
    have Q1 := Lib.hid (And.intro S1 T1)
    have C1 := Lib.hid cq1
    have U3 := Lib.hid (U2.out.trans hq)
    clear hq HE1 U2 S1 T1 cq1 hi1
    obtain ⟨w4, Z4, W4, R4, hq4⟩ := blk_new w3 33 #[.int .i64 0, .int .i64 0, .int .i64 0, .int .i64 0, .int .i64 0, .string ⟨#[]⟩, .int .u8 0, .int .u8 0, .int .u8 0, .int .u8 0, .int .u8 0, .int .u8 0, .int .u8 0, .int .u8 0, .int .u8 0, .int .u8 0, .int .u8 0, .int .u8 0, .int .u8 0, .int .u8 0, .int .u8 0, .int .u8 0, .int .u8 0, .int .u8 0, .int .u8 0, .int .u8 0, .int .u8 0, .int .u8 0, .int .u8 0, .int .u8 0, .int .u8 0, .int .u8 0, .int .u8 0, .int .u8 0, .int .u8 0, .int .u8 0, .int .u8 0, .int .u8 0, .int .i64 0, .int .i64 0] EV
    obtain ⟨gA, hgA⟩ : ∃ g, w3.heap.size = g := ⟨_, rfl⟩
    rw [hgA] at Z4 W4 R4
    have U4 := Lib.hid (U3.out.trans hq4)
    have hl4 : gA < w4.heap.size := blk_lt R4.out
    clear hq4 U3
    go_wp2_with (first | (refine wpList_store_rowAs rfl 33 _ _ rfl gA EV rfl rfl _ _ Z4.out HEVI.out HEVZ.out HEVO.out w4 W4.out ?_))
    refine (HE2.out w4).mono ?_
    rintro e w5 ⟨EW, b2, X2, rfl, hq⟩
    have HEWI := Lib.hid X2.out.info.1
    have HEWO := Lib.hid X2.out.info.2.1
    have HEWZ : Hid ((#[.int .i64 0, .int .i64 0, .int .i64 0, .int .i64 0, .int .i64 0, .string ⟨#[]⟩, .int .u8 0, .int .u8 0, .int .u8 0, .int .u8 0, .int .u8 0, .int .u8 0, .int .u8 0, .int .u8 0, .int .u8 0, .int .u8 0, .int .u8 0, .int .u8 0, .int .u8 0, .int .u8 0, .int .u8 0, .int .u8 0, .int .u8 0, .int .u8 0, .int .u8 0, .int .u8 0, .int .u8 0, .int .u8 0, .int .u8 0, .int .u8 0, .int .u8 0, .int .u8 0, .int .u8 0, .int .u8 0, .int .u8 0, .int .u8 0, .int .u8 0, .int .u8 0, .int .i64 0, .int .i64 0] : Array Value).size = EW.size) := by show _ = _; rw [zero_ev]; exact X2.out.info.2.2
    obtain ⟨q2, hi2, cq2, S2, T2⟩ := X2.out.seq HLB.out
    have Q2 := Lib.hid (And.intro S2 T2)
    have C2 := Lib.hid cq2
    have R5 := Lib.hid (row_updH R4.out hq)
    have U5 := Lib.hid (U4.out.trans hq)
    have hl5 : gA < w5.heap.size := Nat.lt_of_lt_of_le hl4 hq.size
    clear hq HE2 U4 R4 Z4 W4 S2 T2 cq2 hi2
    obtain ⟨w6, Z6, W6, R6, hq6⟩ := blk_new w5 33 #[.int .i64 0, .int .i64 0, .int .i64 0, .int .i64 0, .int .i64 0, .string ⟨#[]⟩, .int .u8 0, .int .u8 0, .int .u8 0, .int .u8 0, .int .u8 0, .int .u8 0, .int .u8 0, .int .u8 0, .int .u8 0, .int .u8 0, .int .u8 0, .int .u8 0, .int .u8 0, .int .u8 0, .int .u8 0, .int .u8 0, .int .u8 0, .int .u8 0, .int .u8 0, .int .u8 0, .int .u8 0, .int .u8 0, .int .u8 0, .int .u8 0, .int .u8 0, .int .u8 0, .int .u8 0, .int .u8 0, .int .u8 0, .int .u8 0, .int .u8 0, .int .u8 0, .int .i64 0, .int .i64 0] EW
    obtain ⟨gB, hgB⟩ : ∃ g, w5.heap.size = g := ⟨_, rfl⟩
    rw [hgB] at Z6 W6 R6
    have cA : w6.cell? ⟨gA, 0, none⟩ = some (.int .i64 q1) := (cell_of_row _ gA 0 _ _ _ (row_updH R5.out hq6)).trans C1.out
    have cB : w6.cell? ⟨gB, 0, none⟩ = some (.int .i64 q2) := (cell_of_row _ gB 0 _ _ _ R6.out).trans C2.out
    have U6 := Lib.hid (U5.out.trans hq6)
    have HF : Hid (∀ c : Bool, (∀ e f, IsCode la e → IsCode lb f → (c = true ↔ e.q = f.q)) → (¬ ((∃ e, IsCode la e) ∧ ∃ f, IsCode lb f) → c = false) → ConR (bs a) (bs b) c) := by
      intro c k1 k2
      refine ⟨fun e => absurd e HAB.out, fun _ => ⟨fun x y hx hy => absurd ⟨⟨x, hx⟩, y, hy⟩ HNB.out, fun _ => ?_⟩⟩
      rw [HPA.out, HPB.out]
      exact ⟨k1, k2⟩
    have HV1 : Hid (b1 = false → ∀ e, ¬ IsCode la e) := fun hf e he => by have := (Q1.out.1 e he).1; rw [hf] at this; cases this
    have HV2 : Hid (b2 = false → ∀ e, ¬ IsCode lb e) := fun hf e he => by have := (Q2.out.1 e he).1; rw [hf] at this; cases this
    have HVT : Hid (b1 = true → b2 = true → (∃ e, IsCode la e) ∧ ∃ f, IsCode lb f) := by
      intro h1 h2
      refine ⟨Classical.byContradiction fun hn => ?_, Classical.byContradiction fun hn => ?_⟩
      · have := Q1.out.2 (fun e he => hn ⟨e, he⟩); rw [h1] at this; cases this
      · have := Q2.out.2 (fun e he => hn ⟨e, he⟩); rw [h2] at this; cases this
    have HQE : Hid (∀ e f, IsCode la e → IsCode lb f → q1 = e.q ∧ q2 = f.q) := fun e f he hf => ⟨(Q1.out.1 e he).2, (Q2.out.1 f hf).2⟩
    clear hq6 U5 R5 R6 C1 C2 X1 X2 Q1 Q2
    cases b1
    · have HR : Hid (ConR (bs a) (bs b) false) := HF.out false (fun e f he _ => absurd he (HV1.out rfl e)) (fun _ => rfl)
      clear HF HV1 HV2 HVT HQE
      go_wp2_with (first | (refine wpList_store_rowAs rfl 33 _ _ rfl gB EW rfl rfl _ _ Z6.out HEWI.out HEWZ.out HEWO.out w6 W6.out ?_))
      go_ret
      exact ⟨false, HR, rfl, U6.out⟩
    cases b2
    · have HR : Hid (ConR (bs a) (bs b) false) := HF.out false (fun e f _ hf => absurd hf (HV2.out rfl f)) (fun _ => rfl)
      clear HF HV1 HV2 HVT HQE
      go_wp2_with (first | (refine wpList_store_rowAs rfl 33 _ _ rfl gB EW rfl rfl _ _ Z6.out HEWI.out HEWZ.out HEWO.out w6 W6.out ?_))
      go_ret
      exact ⟨false, HR, rfl, U6.out⟩
    by_cases hqq : q1 = q2
    · have HR : Hid (ConR (bs a) (bs b) true) := HF.out true (fun e f he hf => ⟨fun _ => by have := HQE.out e f he hf; rw [← this.1, ← this.2]; exact hqq, fun _ => rfl⟩) (fun hn => absurd (HVT.out rfl rfl) hn)
      have g2 : (q1 == q2) = true := by rw [beq_iff_eq]; exact hqq
      clear HF HV1 HV2 HVT HQE hqq
      go_wp2_with (first | (refine wpList_store_rowAs rfl 33 _ _ rfl gB EW rfl rfl _ _ Z6.out HEWI.out HEWZ.out HEWO.out w6 W6.out ?_))
      go_ret
      exact ⟨true, HR, rfl, U6.out⟩
    have HR : Hid (ConR (bs a) (bs b) false) := HF.out false (fun e f he hf => ⟨fun h => (by cases h), fun h => by have := HQE.out e f he hf; exact absurd (by rw [this.1, this.2]; exact h) hqq⟩) (fun _ => rfl)
    have g2 : (q1 == q2) = false := by rw [beq_eq_false_iff_ne]; exact hqq
    clear HF HV1 HV2 HVT HQE hqq
    go_wp2_with (first | (refine wpList_store_rowAs rfl 33 _ _ rfl gB EW rfl rfl _ _ Z6.out HEWI.out HEWZ.out HEWO.out w6 W6.out ?_))
    go_ret
    exact ⟨false, HR, rfl, U6.out⟩
  obtain ⟨x, k1, x1, hx, kx, hD1⟩ := Y1.out.yes
  obtain ⟨y, k2, x2, hy, ky, hD2⟩ := Y2.out.yes
  have HF : Hid (∀ c : Bool, (c = true ↔ (k1 = k2 ∧ x.h = y.h ∧ x.v = y.v)) → ConR (bs a) (bs b) c) := by
    intro c hc
    refine ⟨fun e => absurd e HAB.out, fun _ => ⟨fun x' y' hx' hy' => ?_, fun hn => absurd ⟨⟨x, hx⟩, y, hy⟩ hn⟩⟩
    rw [isBal_inj hx' hx, isBal_inj hy' hy, ← kx, ← ky]
    exact hc.trans ⟨fun h => ⟨by rw [h.1], h.2⟩, fun h => ⟨bs_inj h.1, h.2⟩⟩
  obtain ⟨h1, hh1⟩ : ∃ z, x.h = z := ⟨_, rfl⟩
  obtain ⟨h2, hh2⟩ : ∃ z, y.h = z := ⟨_, rfl⟩
  obtain ⟨i1, hi1⟩ : ∃ z, x.v = z := ⟨_, rfl⟩
  obtain ⟨i2, hi2⟩ : ∃ z, y.v = z := ⟨_, rfl⟩
  rw [hh1, hi1] at hD1
  rw [hh2, hi2] at hD2
  rw [hh1, hi1, hh2, hi2] at HF
  have cX0 : w2.cell? ⟨gX, 0, none⟩ = some (.string k1) := (cell_of_row _ gX 0 _ _ _ RX.out).trans (by rw [hD1]; rfl)
  have cX1 : w2.cell? ⟨gX, 1, none⟩ = some (.int .i64 h1) := (cell_of_row _ gX 1 _ _ _ RX.out).trans (by rw [hD1]; rfl)
  have cX2 : w2.cell? ⟨gX, 2, none⟩ = some (.int .i64 i1) := (cell_of_row _ gX 2 _ _ _ RX.out).trans (by rw [hD1]; rfl)
  have cY0 : w2.cell? ⟨gY, 0, none⟩ = some (.string k2) := (cell_of_row _ gY 0 _ _ _ RB.out).trans (by rw [hD2]; rfl)
  have cY1 : w2.cell? ⟨gY, 1, none⟩ = some (.int .i64 h2) := (cell_of_row _ gY 1 _ _ _ RB.out).trans (by rw [hD2]; rfl)
  have cY2 : w2.cell? ⟨gY, 2, none⟩ = some (.int .i64 i2) := (cell_of_row _ gY 2 _ _ _ RB.out).trans (by rw [hD2]; rfl)
  clear hx hy kx ky Y1 Y2 HE1 HE2 hh1 hh2 hi1 hi2 hD1 hD2
  by_cases hk : k1 = k2
  case neg =>
    have g2 : (k1.toList == k2.toList) = false := by rw [← Bool.not_eq_true]; exact fun h => hk (bs_inj (eq_beq.1 h))
    have HR : Hid (ConR (bs a) (bs b) false) := HF.out false ⟨fun h => (by cases h), fun h => absurd h.1 hk⟩
    clear HF
    go_wp2_with (first | (refine wpList_store_rowAs rfl 73 _ _ rfl gY D2 rfl rfl _ _ ZB.out HDI2.out HDZ2.out HDO2.out w2 WB.out ?_))
    go_ret
    exact ⟨false, HR, rfl, U2.out⟩
  have g2 : (k1.toList == k2.toList) = true := eq_beq.2 (by rw [hk])
  by_cases hh : h1 = h2
  case neg =>
    have g3 : (h1 == h2) = false := by rw [beq_eq_false_iff_ne]; exact hh
    have HR : Hid (ConR (bs a) (bs b) false) := HF.out false ⟨fun h => (by cases h), fun h => absurd h.2.1 hh⟩
    clear HF
    go_wp2_with (first | (refine wpList_store_rowAs rfl 73 _ _ rfl gY D2 rfl rfl _ _ ZB.out HDI2.out HDZ2.out HDO2.out w2 WB.out ?_))
    go_ret
    exact ⟨false, HR, rfl, U2.out⟩
  have g3 : (h1 == h2) = true := by rw [beq_iff_eq]; exact hh
  by_cases hv : i1 = i2
  case neg =>
    have g4 : (i1 == i2) = false := by rw [beq_eq_false_iff_ne]; exact hv
    have HR : Hid (ConR (bs a) (bs b) false) := HF.out false ⟨fun h => (by cases h), fun h => absurd h.2.2 hv⟩
    clear HF
    go_wp2_with (first | (refine wpList_store_rowAs rfl 73 _ _ rfl gY D2 rfl rfl _ _ ZB.out HDI2.out HDZ2.out HDO2.out w2 WB.out ?_))
    go_ret
    exact ⟨false, HR, rfl, U2.out⟩
  have g4 : (i1 == i2) = true := by rw [beq_iff_eq]; exact hv
  have HR : Hid (ConR (bs a) (bs b) true) := HF.out true ⟨fun _ => ⟨hk, hh, hv⟩, fun _ => rfl⟩
  clear HF
  go_wp2_with (first | (refine wpList_store_rowAs rfl 73 _ _ rfl gY D2 rfl rfl _ _ ZB.out HDI2.out HDZ2.out HDO2.out w2 WB.out ?_))
  go_ret
  exact ⟨true, HR, rfl, U2.out⟩
end Go.Proofs.YtcimcodljjcmgaaGreatDoor
