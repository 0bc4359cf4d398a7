/- court.Contradict at any two texts. -/
import Derived.Test.YtcimcodljjcmgaaGreatDoorGBF
import Derived.Test.YtcimcodljjcmgaaGreatDoorGAR
namespace Go.Proofs.YtcimcodljjcmgaaGreatDoor
open Go.RowKit
set_option maxRecDepth 100000

def ConR (a b : List UInt8) (c : Bool) : Prop :=
  (a = b → c = false) ∧ (a ≠ b →
    (∀ x y, IsBal a x → IsBal b y → (c = true ↔ (x.k = y.k ∧ x.h = y.h ∧ x.v = y.v))) ∧
    (¬ ((∃ x, IsBal a x) ∧ ∃ y, IsBal b y) →
      (∀ e f, IsCode (preE ++ a) e → IsCode (preE ++ b) f → (c = true ↔ e.q = f.q)) ∧
      (¬ ((∃ e, IsCode (preE ++ a) e) ∧ ∃ f, IsCode (preE ++ b) f) → c = false)))
theorem bool_same {c d : Bool} {p : Prop} (h : c = true ↔ p) (k : d = true ↔ p) : c = d := by
  cases c <;> cases d <;> simp_all
theorem ConR.same {a b : List UInt8} {c d : Bool} (h : ConR a b c) (k : ConR a b d) : c = d := by
  by_cases hab : a = b
  · rw [h.1 hab, k.1 hab]
  · obtain ⟨h1, h2⟩ := h.2 hab
    obtain ⟨k1, k2⟩ := k.2 hab
    by_cases hb : (∃ x, IsBal a x) ∧ ∃ y, IsBal b y
    · obtain ⟨⟨x, hx⟩, y, hy⟩ := hb
      exact bool_same (h1 x y hx hy) (k1 x y hx hy)
    · by_cases he : (∃ e, IsCode (preE ++ a) e) ∧ ∃ f, IsCode (preE ++ b) f
      · obtain ⟨⟨x, hx⟩, y, hy⟩ := he
        exact bool_same ((h2 hb).1 x y hx hy) ((k2 hb).1 x y hx hy)
      · rw [(h2 hb).2 he, (k2 hb).2 he]
theorem ConR.symm {a b : List UInt8} {c : Bool} (h : ConR a b c) : ConR b a c := by
  refine ⟨fun e => h.1 e.symm, fun hn => ?_⟩
  obtain ⟨h1, h2⟩ := h.2 (fun e => hn e.symm)
  refine ⟨fun x y hx hy => (h1 y x hy hx).trans ⟨fun ⟨p, q, r⟩ => ⟨p.symm, q.symm, r.symm⟩, fun ⟨p, q, r⟩ => ⟨p.symm, q.symm, r.symm⟩⟩, fun hb => ?_⟩
  have h3 := h2 (fun k => hb k.symm)
  exact ⟨fun e f he hf => (h3.1 f e hf he).trans eq_comm, fun hn => h3.2 (fun k => hn k.symm)⟩
def MkCon (a b : List UInt8) (w : World) (e : Ending) (w' : World) : Prop := ∃ c : Bool, Hid (ConR a b c) ∧ e = .returned (.bool c) ∧ Upd [] [] w w'
theorem BalR.none {l : List UInt8} {y : ByteArray} (h : BalR l y false) : ∀ b, ¬ IsBal l b := by
  rcases h with ⟨h, _⟩ | ⟨_, h⟩
  · cases h
  · exact h
theorem BalR.key {l : List UInt8} {y : ByteArray} (h : BalR l y true) : ∃ b, IsBal l b ∧ bs y = b.key := by
  rcases h with ⟨_, h⟩ | ⟨h, _⟩
  · exact h
  · cases h
set_option maxHeartbeats 8000000 in
theorem contraG (a b : ByteArray) (ha : a.size ≤ 900000000) (hb : b.size ≤ 900000000) (w : World) (htab : Tabs w) : Calls Tryz.prog 7 #[.string a, .string b] w (MkCon (bs a) (bs b) w) := by
  by_cases hab : a = b
  · have HR : Hid (ConR (bs a) (bs b) false) := ⟨fun _ => rfl, fun hn => absurd (by rw [hab]) hn⟩
    have g1 : (a.toList == b.toList) = true := by rw [hab]; exact beq_self_eq_true _
    clear hab
    go_enter Tryz.func7, Tryz.ntmps7
    go_wp2_with fail
    go_ret
    exact ⟨false, HR, rfl, Upd.refl _ _⟩
  have HAB : Hid (bs a ≠ bs b) := fun e => hab (bs_inj e)
  have g1 : (a.toList == b.toList) = false := by rw [← Bool.not_eq_true]; exact fun h => hab (bs_inj (eq_beq.1 h))
  have HB1 := Lib.hid (ballotG a (by omega) w htab)
  have HB2 := Lib.hid (fun W (u : Upd [] [] w W) => ballotG b (by omega) W (htab.upd u))
  have HE1 := Lib.hid (fun W (u : Upd [] [] w W) => eventG a ha W (htab.upd u))
  have HE2 := Lib.hid (fun W (u : Upd [] [] w W) => eventG b hb W (htab.upd u))
  have HLA : Hid ((preE ++ bs a).length ≤ 1000000000) := by show _ ≤ _; rw [List.length_append, bs_length]; have : preE.length = 4 := rfl; omega
  have HLB : Hid ((preE ++ bs b).length ≤ 1000000000) := by show _ ≤ _; rw [List.length_append, bs_length]; have : preE.length = 4 := rfl; omega
  obtain ⟨la, hla⟩ : ∃ l, preE ++ bs a = l := ⟨_, rfl⟩
  obtain ⟨lb, hlb⟩ : ∃ l, preE ++ bs b = l := ⟨_, rfl⟩
  rw [hla] at HE1 HLA
  rw [hlb] at HE2 HLB
  have HPA := Lib.hid hla
  have HPB := Lib.hid hlb
  clear hla hlb ha hb hab
  go_enter Tryz.func7, Tryz.ntmps7
  go_wp2_with fail
  refine HB1.out.mono ?_
  rintro e w1 ⟨y1, ok1, Y1, rfl, hq⟩
  have U1 := Lib.hid hq
  clear hq HB1
  go_wp2_with fail
  refine (HB2.out w1 U1.out).mono ?_
  rintro e w2 ⟨y2, ok2, Y2, rfl, hq⟩
  have U2 := Lib.hid (U1.out.trans hq)
  clear hq HB2 U1
  cases ok1
  · cases ok2
    · skip
      have HNB : Hid (¬ ((∃ x, IsBal (bs a) x) ∧ ∃ y, IsBal (bs b) y)) := fun h => by obtain ⟨⟨x, hx⟩, _⟩ := h; exact Y1.out.none x hx
      clear Y1 Y2
      go_wp2_with fail
      refine (HE1.out w2 U2.out).mono ?_
      rintro e w3 ⟨EV, b1, X1, rfl, hq⟩
      have HEVI := Lib.hid X1.out.info.1
      have HEVO := Lib.hid X1.out.info.2.1
      have HEVZ : Hid ((#[.int .i64 0, .int .i64 0, .int .i64 0, .int .i64 0, .int .i64 0, .string ⟨#[]⟩, .int .u8 0, .int .u8 0, .int .u8 0, .int .u8 0, .int .u8 0, .int .u8 0, .int .u8 0, .int .u8 0, .int .u8 0, .int .u8 0, .int .u8 0, .int .u8 0, .int .u8 0, .int .u8 0, .int .u8 0, .int .u8 0, .int .u8 0, .int .u8 0, .int .u8 0, .int .u8 0, .int .u8 0, .int .u8 0, .int .u8 0, .int .u8 0, .int .u8 0, .int .u8 0, .int .u8 0, .int .u8 0, .int .u8 0, .int .u8 0, .int .u8 0, .int .u8 0, .int .i64 0, .int .i64 0] : Array Value).size = EV.size) := by show _ = _; rw [zero_ev]; exact X1.out.info.2.2
      obtain ⟨q1, hi1, cq1, S1, T1⟩ := X1.out.seq HLA.out
      have Q1 := Lib.hid (And.intro S1 T1)
      have C1 := Lib.hid cq1
      have U3 := Lib.hid (U2.out.trans hq)
      clear hq HE1 U2 S1 T1 cq1 hi1
      obtain ⟨w4, Z4, W4, R4, hq4⟩ := blk_new w3 33 #[.int .i64 0, .int .i64 0, .int .i64 0, .int .i64 0, .int .i64 0, .string ⟨#[]⟩, .int .u8 0, .int .u8 0, .int .u8 0, .int .u8 0, .int .u8 0, .int .u8 0, .int .u8 0, .int .u8 0, .int .u8 0, .int .u8 0, .int .u8 0, .int .u8 0, .int .u8 0, .int .u8 0, .int .u8 0, .int .u8 0, .int .u8 0, .int .u8 0, .int .u8 0, .int .u8 0, .int .u8 0, .int .u8 0, .int .u8 0, .int .u8 0, .int .u8 0, .int .u8 0, .int .u8 0, .int .u8 0, .int .u8 0, .int .u8 0, .int .u8 0, .int .u8 0, .int .i64 0, .int .i64 0] EV
      obtain ⟨gA, hgA⟩ : ∃ g, w3.heap.size = g := ⟨_, rfl⟩
      rw [hgA] at Z4 W4 R4
      have U4 := Lib.hid (U3.out.trans hq4)
      have hl4 : gA < w4.heap.size := blk_lt R4.out
      clear hq4 U3
      go_wp2_with (first | (refine wpList_store_rowAs rfl 33 _ _ rfl gA EV rfl rfl _ _ Z4.out HEVI.out HEVZ.out HEVO.out w4 W4.out ?_))
      refine (HE2.out w4 U4.out).mono ?_
      rintro e w5 ⟨EW, b2, X2, rfl, hq⟩
      have HEWI := Lib.hid X2.out.info.1
      have HEWO := Lib.hid X2.out.info.2.1
      have HEWZ : Hid ((#[.int .i64 0, .int .i64 0, .int .i64 0, .int .i64 0, .int .i64 0, .string ⟨#[]⟩, .int .u8 0, .int .u8 0, .int .u8 0, .int .u8 0, .int .u8 0, .int .u8 0, .int .u8 0, .int .u8 0, .int .u8 0, .int .u8 0, .int .u8 0, .int .u8 0, .int .u8 0, .int .u8 0, .int .u8 0, .int .u8 0, .int .u8 0, .int .u8 0, .int .u8 0, .int .u8 0, .int .u8 0, .int .u8 0, .int .u8 0, .int .u8 0, .int .u8 0, .int .u8 0, .int .u8 0, .int .u8 0, .int .u8 0, .int .u8 0, .int .u8 0, .int .u8 0, .int .i64 0, .int .i64 0] : Array Value).size = EW.size) := by show _ = _; rw [zero_ev]; exact X2.out.info.2.2
      obtain ⟨q2, hi2, cq2, S2, T2⟩ := X2.out.seq HLB.out
      have Q2 := Lib.hid (And.intro S2 T2)
      have C2 := Lib.hid cq2
      have R5 := Lib.hid (row_updH R4.out hq)
      have U5 := Lib.hid (U4.out.trans hq)
      have hl5 : gA < w5.heap.size := Nat.lt_of_lt_of_le hl4 hq.size
      clear hq HE2 U4 R4 Z4 W4 S2 T2 cq2 hi2
      obtain ⟨w6, Z6, W6, R6, hq6⟩ := blk_new w5 33 #[.int .i64 0, .int .i64 0, .int .i64 0, .int .i64 0, .int .i64 0, .string ⟨#[]⟩, .int .u8 0, .int .u8 0, .int .u8 0, .int .u8 0, .int .u8 0, .int .u8 0, .int .u8 0, .int .u8 0, .int .u8 0, .int .u8 0, .int .u8 0, .int .u8 0, .int .u8 0, .int .u8 0, .int .u8 0, .int .u8 0, .int .u8 0, .int .u8 0, .int .u8 0, .int .u8 0, .int .u8 0, .int .u8 0, .int .u8 0, .int .u8 0, .int .u8 0, .int .u8 0, .int .u8 0, .int .u8 0, .int .u8 0, .int .u8 0, .int .u8 0, .int .u8 0, .int .i64 0, .int .i64 0] EW
      obtain ⟨gB, hgB⟩ : ∃ g, w5.heap.size = g := ⟨_, rfl⟩
      rw [hgB] at Z6 W6 R6
      have cA : w6.cell? ⟨gA, 0, none⟩ = some (.int .i64 q1) := (cell_of_row _ gA 0 _ _ _ (row_updH R5.out hq6)).trans C1.out
      have cB : w6.cell? ⟨gB, 0, none⟩ = some (.int .i64 q2) := (cell_of_row _ gB 0 _ _ _ R6.out).trans C2.out
      have U6 := Lib.hid (U5.out.trans hq6)
      have HF : Hid (∀ c : Bool, (∀ e f, IsCode la e → IsCode lb f → (c = true ↔ e.q = f.q)) → (¬ ((∃ e, IsCode la e) ∧ ∃ f, IsCode lb f) → c = false) → ConR (bs a) (bs b) c) := by
        intro c k1 k2
        refine ⟨fun e => absurd e HAB.out, fun _ => ⟨fun x y hx hy => absurd ⟨⟨x, hx⟩, y, hy⟩ HNB.out, fun _ => ?_⟩⟩
        rw [HPA.out, HPB.out]
        exact ⟨k1, k2⟩
      have HV1 : Hid (b1 = false → ∀ e, ¬ IsCode la e) := fun hf e he => by have := (Q1.out.1 e he).1; rw [hf] at this; cases this
      have HV2 : Hid (b2 = false → ∀ e, ¬ IsCode lb e) := fun hf e he => by have := (Q2.out.1 e he).1; rw [hf] at this; cases this
      have HVT : Hid (b1 = true → b2 = true → (∃ e, IsCode la e) ∧ ∃ f, IsCode lb f) := by
        intro h1 h2
        refine ⟨Classical.byContradiction fun hn => ?_, Classical.byContradiction fun hn => ?_⟩
        · have := Q1.out.2 (fun e he => hn ⟨e, he⟩); rw [h1] at this; cases this
        · have := Q2.out.2 (fun e he => hn ⟨e, he⟩); rw [h2] at this; cases this
      have HQE : Hid (∀ e f, IsCode la e → IsCode lb f → q1 = e.q ∧ q2 = f.q) := fun e f he hf => ⟨(Q1.out.1 e he).2, (Q2.out.1 f hf).2⟩
      clear hq6 U5 R5 R6 C1 C2 X1 X2 Q1 Q2
      cases b1
      · have HR : Hid (ConR (bs a) (bs b) false) := HF.out false (fun e f he _ => absurd he (HV1.out rfl e)) (fun _ => rfl)
        clear HF HV1 HV2 HVT HQE
        go_wp2_with (first | (refine wpList_store_rowAs rfl 33 _ _ rfl gB EW rfl rfl _ _ Z6.out HEWI.out HEWZ.out HEWO.out w6 W6.out ?_))
        go_ret
        exact ⟨false, HR, rfl, U6.out⟩
      cases b2
      · have HR : Hid (ConR (bs a) (bs b) false) := HF.out false (fun e f _ hf => absurd hf (HV2.out rfl f)) (fun _ => rfl)
        clear HF HV1 HV2 HVT HQE
        go_wp2_with (first | (refine wpList_store_rowAs rfl 33 _ _ rfl gB EW rfl rfl _ _ Z6.out HEWI.out HEWZ.out HEWO.out w6 W6.out ?_))
        go_ret
        exact ⟨false, HR, rfl, U6.out⟩
      by_cases hqq : q1 = q2
      · have HR : Hid (ConR (bs a) (bs b) true) := HF.out true (fun e f he hf => ⟨fun _ => by have := HQE.out e f he hf; rw [← this.1, ← this.2]; exact hqq, fun _ => rfl⟩) (fun hn => absurd (HVT.out rfl rfl) hn)
        have g2 : (q1 == q2) = true := by rw [beq_iff_eq]; exact hqq
        clear HF HV1 HV2 HVT HQE hqq
        go_wp2_with (first | (refine wpList_store_rowAs rfl 33 _ _ rfl gB EW rfl rfl _ _ Z6.out HEWI.out HEWZ.out HEWO.out w6 W6.out ?_))
        go_ret
        exact ⟨true, HR, rfl, U6.out⟩
      have HR : Hid (ConR (bs a) (bs b) false) := HF.out false (fun e f he hf => ⟨fun h => (by cases h), fun h => by have := HQE.out e f he hf; exact absurd (by rw [this.1, this.2]; exact h) hqq⟩) (fun _ => rfl)
      have g2 : (q1 == q2) = false := by rw [beq_eq_false_iff_ne]; exact hqq
      clear HF HV1 HV2 HVT HQE hqq
      go_wp2_with (first | (refine wpList_store_rowAs rfl 33 _ _ rfl gB EW rfl rfl _ _ Z6.out HEWI.out HEWZ.out HEWO.out w6 W6.out ?_))
      go_ret
      exact ⟨false, HR, rfl, U6.out⟩
    · skip
      have HNB : Hid (¬ ((∃ x, IsBal (bs a) x) ∧ ∃ y, IsBal (bs b) y)) := fun h => by obtain ⟨⟨x, hx⟩, _⟩ := h; exact Y1.out.none x hx
      clear Y1 Y2
      go_wp2_with fail
      refine (HE1.out w2 U2.out).mono ?_
      rintro e w3 ⟨EV, b1, X1, rfl, hq⟩
      have HEVI := Lib.hid X1.out.info.1
      have HEVO := Lib.hid X1.out.info.2.1
      have HEVZ : Hid ((#[.int .i64 0, .int .i64 0, .int .i64 0, .int .i64 0, .int .i64 0, .string ⟨#[]⟩, .int .u8 0, .int .u8 0, .int .u8 0, .int .u8 0, .int .u8 0, .int .u8 0, .int .u8 0, .int .u8 0, .int .u8 0, .int .u8 0, .int .u8 0, .int .u8 0, .int .u8 0, .int .u8 0, .int .u8 0, .int .u8 0, .int .u8 0, .int .u8 0, .int .u8 0, .int .u8 0, .int .u8 0, .int .u8 0, .int .u8 0, .int .u8 0, .int .u8 0, .int .u8 0, .int .u8 0, .int .u8 0, .int .u8 0, .int .u8 0, .int .u8 0, .int .u8 0, .int .i64 0, .int .i64 0] : Array Value).size = EV.size) := by show _ = _; rw [zero_ev]; exact X1.out.info.2.2
      obtain ⟨q1, hi1, cq1, S1, T1⟩ := X1.out.seq HLA.out
      have Q1 := Lib.hid (And.intro S1 T1)
      have C1 := Lib.hid cq1
      have U3 := Lib.hid (U2.out.trans hq)
      clear hq HE1 U2 S1 T1 cq1 hi1
      obtain ⟨w4, Z4, W4, R4, hq4⟩ := blk_new w3 33 #[.int .i64 0, .int .i64 0, .int .i64 0, .int .i64 0, .int .i64 0, .string ⟨#[]⟩, .int .u8 0, .int .u8 0, .int .u8 0, .int .u8 0, .int .u8 0, .int .u8 0, .int .u8 0, .int .u8 0, .int .u8 0, .int .u8 0, .int .u8 0, .int .u8 0, .int .u8 0, .int .u8 0, .int .u8 0, .int .u8 0, .int .u8 0, .int .u8 0, .int .u8 0, .int .u8 0, .int .u8 0, .int .u8 0, .int .u8 0, .int .u8 0, .int .u8 0, .int .u8 0, .int .u8 0, .int .u8 0, .int .u8 0, .int .u8 0, .int .u8 0, .int .u8 0, .int .i64 0, .int .i64 0] EV
      obtain ⟨gA, hgA⟩ : ∃ g, w3.heap.size = g := ⟨_, rfl⟩
      rw [hgA] at Z4 W4 R4
      have U4 := Lib.hid (U3.out.trans hq4)
      have hl4 : gA < w4.heap.size := blk_lt R4.out
      clear hq4 U3
      go_wp2_with (first | (refine wpList_store_rowAs rfl 33 _ _ rfl gA EV rfl rfl _ _ Z4.out HEVI.out HEVZ.out HEVO.out w4 W4.out ?_))
      refine (HE2.out w4 U4.out).mono ?_
      rintro e w5 ⟨EW, b2, X2, rfl, hq⟩
      have HEWI := Lib.hid X2.out.info.1
      have HEWO := Lib.hid X2.out.info.2.1
      have HEWZ : Hid ((#[.int .i64 0, .int .i64 0, .int .i64 0, .int .i64 0, .int .i64 0, .string ⟨#[]⟩, .int .u8 0, .int .u8 0, .int .u8 0, .int .u8 0, .int .u8 0, .int .u8 0, .int .u8 0, .int .u8 0, .int .u8 0, .int .u8 0, .int .u8 0, .int .u8 0, .int .u8 0, .int .u8 0, .int .u8 0, .int .u8 0, .int .u8 0, .int .u8 0, .int .u8 0, .int .u8 0, .int .u8 0, .int .u8 0, .int .u8 0, .int .u8 0, .int .u8 0, .int .u8 0, .int .u8 0, .int .u8 0, .int .u8 0, .int .u8 0, .int .u8 0, .int .u8 0, .int .i64 0, .int .i64 0] : Array Value).size = EW.size) := by show _ = _; rw [zero_ev]; exact X2.out.info.2.2
      obtain ⟨q2, hi2, cq2, S2, T2⟩ := X2.out.seq HLB.out
      have Q2 := Lib.hid (And.intro S2 T2)
      have C2 := Lib.hid cq2
      have R5 := Lib.hid (row_updH R4.out hq)
      have U5 := Lib.hid (U4.out.trans hq)
      have hl5 : gA < w5.heap.size := Nat.lt_of_lt_of_le hl4 hq.size
      clear hq HE2 U4 R4 Z4 W4 S2 T2 cq2 hi2
      obtain ⟨w6, Z6, W6, R6, hq6⟩ := blk_new w5 33 #[.int .i64 0, .int .i64 0, .int .i64 0, .int .i64 0, .int .i64 0, .string ⟨#[]⟩, .int .u8 0, .int .u8 0, .int .u8 0, .int .u8 0, .int .u8 0, .int .u8 0, .int .u8 0, .int .u8 0, .int .u8 0, .int .u8 0, .int .u8 0, .int .u8 0, .int .u8 0, .int .u8 0, .int .u8 0, .int .u8 0, .int .u8 0, .int .u8 0, .int .u8 0, .int .u8 0, .int .u8 0, .int .u8 0, .int .u8 0, .int .u8 0, .int .u8 0, .int .u8 0, .int .u8 0, .int .u8 0, .int .u8 0, .int .u8 0, .int .u8 0, .int .u8 0, .int .i64 0, .int .i64 0] EW
      obtain ⟨gB, hgB⟩ : ∃ g, w5.heap.size = g := ⟨_, rfl⟩
      rw [hgB] at Z6 W6 R6
      have cA : w6.cell? ⟨gA, 0, none⟩ = some (.int .i64 q1) := (cell_of_row _ gA 0 _ _ _ (row_updH R5.out hq6)).trans C1.out
      have cB : w6.cell? ⟨gB, 0, none⟩ = some (.int .i64 q2) := (cell_of_row _ gB 0 _ _ _ R6.out).trans C2.out
      have U6 := Lib.hid (U5.out.trans hq6)
      have HF : Hid (∀ c : Bool, (∀ e f, IsCode la e → IsCode lb f → (c = true ↔ e.q = f.q)) → (¬ ((∃ e, IsCode la e) ∧ ∃ f, IsCode lb f) → c = false) → ConR (bs a) (bs b) c) := by
        intro c k1 k2
        refine ⟨fun e => absurd e HAB.out, fun _ => ⟨fun x y hx hy => absurd ⟨⟨x, hx⟩, y, hy⟩ HNB.out, fun _ => ?_⟩⟩
        rw [HPA.out, HPB.out]
        exact ⟨k1, k2⟩
      have HV1 : Hid (b1 = false → ∀ e, ¬ IsCode la e) := fun hf e he => by have := (Q1.out.1 e he).1; rw [hf] at this; cases this
      have HV2 : Hid (b2 = false → ∀ e, ¬ IsCode lb e) := fun hf e he => by have := (Q2.out.1 e he).1; rw [hf] at this; cases this
      have HVT : Hid (b1 = true → b2 = true → (∃ e, IsCode la e) ∧ ∃ f, IsCode lb f) := by
        intro h1 h2
        refine ⟨Classical.byContradiction fun hn => ?_, Classical.byContradiction fun hn => ?_⟩
        · have := Q1.out.2 (fun e he => hn ⟨e, he⟩); rw [h1] at this; cases this
        · have := Q2.out.2 (fun e he => hn ⟨e, he⟩); rw [h2] at this; cases this
      have HQE : Hid (∀ e f, IsCode la e → IsCode lb f → q1 = e.q ∧ q2 = f.q) := fun e f he hf => ⟨(Q1.out.1 e he).2, (Q2.out.1 f hf).2⟩
      clear hq6 U5 R5 R6 C1 C2 X1 X2 Q1 Q2
      cases b1
      · have HR : Hid (ConR (bs a) (bs b) false) := HF.out false (fun e f he _ => absurd he (HV1.out rfl e)) (fun _ => rfl)
        clear HF HV1 HV2 HVT HQE
        go_wp2_with (first | (refine wpList_store_rowAs rfl 33 _ _ rfl gB EW rfl rfl _ _ Z6.out HEWI.out HEWZ.out HEWO.out w6 W6.out ?_))
        go_ret
        exact ⟨false, HR, rfl, U6.out⟩
      cases b2
      · have HR : Hid (ConR (bs a) (bs b) false) := HF.out false (fun e f _ hf => absurd hf (HV2.out rfl f)) (fun _ => rfl)
        clear HF HV1 HV2 HVT HQE
        go_wp2_with (first | (refine wpList_store_rowAs rfl 33 _ _ rfl gB EW rfl rfl _ _ Z6.out HEWI.out HEWZ.out HEWO.out w6 W6.out ?_))
        go_ret
        exact ⟨false, HR, rfl, U6.out⟩
      by_cases hqq : q1 = q2
      · have HR : Hid (ConR (bs a) (bs b) true) := HF.out true (fun e f he hf => ⟨fun _ => by have := HQE.out e f he hf; rw [← this.1, ← this.2]; exact hqq, fun _ => rfl⟩) (fun hn => absurd (HVT.out rfl rfl) hn)
        have g2 : (q1 == q2) = true := by rw [beq_iff_eq]; exact hqq
        clear HF HV1 HV2 HVT HQE hqq
        go_wp2_with (first | (refine wpList_store_rowAs rfl 33 _ _ rfl gB EW rfl rfl _ _ Z6.out HEWI.out HEWZ.out HEWO.out w6 W6.out ?_))
        go_ret
        exact ⟨true, HR, rfl, U6.out⟩
      have HR : Hid (ConR (bs a) (bs b) false) := HF.out false (fun e f he hf => ⟨fun h => (by cases h), fun h => by have := HQE.out e f he hf; exact absurd (by rw [this.1, this.2]; exact h) hqq⟩) (fun _ => rfl)
      have g2 : (q1 == q2) = false := by rw [beq_eq_false_iff_ne]; exact hqq
      clear HF HV1 HV2 HVT HQE hqq
      go_wp2_with (first | (refine wpList_store_rowAs rfl 33 _ _ rfl gB EW rfl rfl _ _ Z6.out HEWI.out HEWZ.out HEWO.out w6 W6.out ?_))
      go_ret
      exact ⟨false, HR, rfl, U6.out⟩
  cases ok2
  · skip
    have HNB : Hid (¬ ((∃ x, IsBal (bs a) x) ∧ ∃ y, IsBal (bs b) y)) := fun h => by obtain ⟨_, x, hx⟩ := h; exact Y2.out.none x hx
    clear Y1 Y2
    go_wp2_with fail
    refine (HE1.out w2 U2.out).mono ?_
    rintro e w3 ⟨EV, b1, X1, rfl, hq⟩
    have HEVI := Lib.hid X1.out.info.1
    have HEVO := Lib.hid X1.out.info.2.1
    have HEVZ : Hid ((#[.int .i64 0, .int .i64 0, .int .i64 0, .int .i64 0, .int .i64 0, .string ⟨#[]⟩, .int .u8 0, .int .u8 0, .int .u8 0, .int .u8 0, .int .u8 0, .int .u8 0, .int .u8 0, .int .u8 0, .int .u8 0, .int .u8 0, .int .u8 0, .int .u8 0, .int .u8 0, .int .u8 0, .int .u8 0, .int .u8 0, .int .u8 0, .int .u8 0, .int .u8 0, .int .u8 0, .int .u8 0, .int .u8 0, .int .u8 0, .int .u8 0, .int .u8 0, .int .u8 0, .int .u8 0, .int .u8 0, .int .u8 0, .int .u8 0, .int .u8 0, .int .u8 0, .int .i64 0, .int .i64 0] : Array Value).size = EV.size) := by show _ = _; rw [zero_ev]; exact X1.out.info.2.2
    obtain ⟨q1, hi1, cq1, S1, T1⟩ := X1.out.seq HLA.out
    have Q1 := Lib.hid (And.intro S1 T1)
    have C1 := Lib.hid cq1
    have U3 := Lib.hid (U2.out.trans hq)
    clear hq HE1 U2 S1 T1 cq1 hi1
    obtain ⟨w4, Z4, W4, R4, hq4⟩ := blk_new w3 33 #[.int .i64 0, .int .i64 0, .int .i64 0, .int .i64 0, .int .i64 0, .string ⟨#[]⟩, .int .u8 0, .int .u8 0, .int .u8 0, .int .u8 0, .int .u8 0, .int .u8 0, .int .u8 0, .int .u8 0, .int .u8 0, .int .u8 0, .int .u8 0, .int .u8 0, .int .u8 0, .int .u8 0, .int .u8 0, .int .u8 0, .int .u8 0, .int .u8 0, .int .u8 0, .int .u8 0, .int .u8 0, .int .u8 0, .int .u8 0, .int .u8 0, .int .u8 0, .int .u8 0, .int .u8 0, .int .u8 0, .int .u8 0, .int .u8 0, .int .u8 0, .int .u8 0, .int .i64 0, .int .i64 0] EV
    obtain ⟨gA, hgA⟩ : ∃ g, w3.heap.size = g := ⟨_, rfl⟩
    rw [hgA] at Z4 W4 R4
    have U4 := Lib.hid (U3.out.trans hq4)
    have hl4 : gA < w4.heap.size := blk_lt R4.out
    clear hq4 U3
    go_wp2_with (first | (refine wpList_store_rowAs rfl 33 _ _ rfl gA EV rfl rfl _ _ Z4.out HEVI.out HEVZ.out HEVO.out w4 W4.out ?_))
    refine (HE2.out w4 U4.out).mono ?_
    rintro e w5 ⟨EW, b2, X2, rfl, hq⟩
    have HEWI := Lib.hid X2.out.info.1
    have HEWO := Lib.hid X2.out.info.2.1
    have HEWZ : Hid ((#[.int .i64 0, .int .i64 0, .int .i64 0, .int .i64 0, .int .i64 0, .string ⟨#[]⟩, .int .u8 0, .int .u8 0, .int .u8 0, .int .u8 0, .int .u8 0, .int .u8 0, .int .u8 0, .int .u8 0, .int .u8 0, .int .u8 0, .int .u8 0, .int .u8 0, .int .u8 0, .int .u8 0, .int .u8 0, .int .u8 0, .int .u8 0, .int .u8 0, .int .u8 0, .int .u8 0, .int .u8 0, .int .u8 0, .int .u8 0, .int .u8 0, .int .u8 0, .int .u8 0, .int .u8 0, .int .u8 0, .int .u8 0, .int .u8 0, .int .u8 0, .int .u8 0, .int .i64 0, .int .i64 0] : Array Value).size = EW.size) := by show _ = _; rw [zero_ev]; exact X2.out.info.2.2
    obtain ⟨q2, hi2, cq2, S2, T2⟩ := X2.out.seq HLB.out
    have Q2 := Lib.hid (And.intro S2 T2)
    have C2 := Lib.hid cq2
    have R5 := Lib.hid (row_updH R4.out hq)
    have U5 := Lib.hid (U4.out.trans hq)
    have hl5 : gA < w5.heap.size := Nat.lt_of_lt_of_le hl4 hq.size
    clear hq HE2 U4 R4 Z4 W4 S2 T2 cq2 hi2
    obtain ⟨w6, Z6, W6, R6, hq6⟩ := blk_new w5 33 #[.int .i64 0, .int .i64 0, .int .i64 0, .int .i64 0, .int .i64 0, .string ⟨#[]⟩, .int .u8 0, .int .u8 0, .int .u8 0, .int .u8 0, .int .u8 0, .int .u8 0, .int .u8 0, .int .u8 0, .int .u8 0, .int .u8 0, .int .u8 0, .int .u8 0, .int .u8 0, .int .u8 0, .int .u8 0, .int .u8 0, .int .u8 0, .int .u8 0, .int .u8 0, .int .u8 0, .int .u8 0, .int .u8 0, .int .u8 0, .int .u8 0, .int .u8 0, .int .u8 0, .int .u8 0, .int .u8 0, .int .u8 0, .int .u8 0, .int .u8 0, .int .u8 0, .int .i64 0, .int .i64 0] EW
    obtain ⟨gB, hgB⟩ : ∃ g, w5.heap.size = g := ⟨_, rfl⟩
    rw [hgB] at Z6 W6 R6
    have cA : w6.cell? ⟨gA, 0, none⟩ = some (.int .i64 q1) := (cell_of_row _ gA 0 _ _ _ (row_updH R5.out hq6)).trans C1.out
    have cB : w6.cell? ⟨gB, 0, none⟩ = some (.int .i64 q2) := (cell_of_row _ gB 0 _ _ _ R6.out).trans C2.out
    have U6 := Lib.hid (U5.out.trans hq6)
    have HF : Hid (∀ c : Bool, (∀ e f, IsCode la e → IsCode lb f → (c = true ↔ e.q = f.q)) → (¬ ((∃ e, IsCode la e) ∧ ∃ f, IsCode lb f) → c = false) → ConR (bs a) (bs b) c) := by
      intro c k1 k2
      refine ⟨fun e => absurd e HAB.out, fun _ => ⟨fun x y hx hy => absurd ⟨⟨x, hx⟩, y, hy⟩ HNB.out, fun _ => ?_⟩⟩
      rw [HPA.out, HPB.out]
      exact ⟨k1, k2⟩
    have HV1 : Hid (b1 = false → ∀ e, ¬ IsCode la e) := fun hf e he => by have := (Q1.out.1 e he).1; rw [hf] at this; cases this
    have HV2 : Hid (b2 = false → ∀ e, ¬ IsCode lb e) := fun hf e he => by have := (Q2.out.1 e he).1; rw [hf] at this; cases this
    have HVT : Hid (b1 = true → b2 = true → (∃ e, IsCode la e) ∧ ∃ f, IsCode lb f) := by
      intro h1 h2
      refine ⟨Classical.byContradiction fun hn => ?_, Classical.byContradiction fun hn => ?_⟩
      · have := Q1.out.2 (fun e he => hn ⟨e, he⟩); rw [h1] at this; cases this
      · have := Q2.out.2 (fun e he => hn ⟨e, he⟩); rw [h2] at this; cases this
    have HQE : Hid (∀ e f, IsCode la e → IsCode lb f → q1 = e.q ∧ q2 = f.q) := fun e f he hf => ⟨(Q1.out.1 e he).2, (Q2.out.1 f hf).2⟩
    clear hq6 U5 R5 R6 C1 C2 X1 X2 Q1 Q2
    cases b1
    · have HR : Hid (ConR (bs a) (bs b) false) := HF.out false (fun e f he _ => absurd he (HV1.out rfl e)) (fun _ => rfl)
      clear HF HV1 HV2 HVT HQE
      go_wp2_with (first | (refine wpList_store_rowAs rfl 33 _ _ rfl gB EW rfl rfl _ _ Z6.out HEWI.out HEWZ.out HEWO.out w6 W6.out ?_))
      go_ret
      exact ⟨false, HR, rfl, U6.out⟩
    cases b2
    · have HR : Hid (ConR (bs a) (bs b) false) := HF.out false (fun e f _ hf => absurd hf (HV2.out rfl f)) (fun _ => rfl)
      clear HF HV1 HV2 HVT HQE
      go_wp2_with (first | (refine wpList_store_rowAs rfl 33 _ _ rfl gB EW rfl rfl _ _ Z6.out HEWI.out HEWZ.out HEWO.out w6 W6.out ?_))
      go_ret
      exact ⟨false, HR, rfl, U6.out⟩
    by_cases hqq : q1 = q2
    · have HR : Hid (ConR (bs a) (bs b) true) := HF.out true (fun e f he hf => ⟨fun _ => by have := HQE.out e f he hf; rw [← this.1, ← this.2]; exact hqq, fun _ => rfl⟩) (fun hn => absurd (HVT.out rfl rfl) hn)
      have g2 : (q1 == q2) = true := by rw [beq_iff_eq]; exact hqq
      clear HF HV1 HV2 HVT HQE hqq
      go_wp2_with (first | (refine wpList_store_rowAs rfl 33 _ _ rfl gB EW rfl rfl _ _ Z6.out HEWI.out HEWZ.out HEWO.out w6 W6.out ?_))
      go_ret
      exact ⟨true, HR, rfl, U6.out⟩
    have HR : Hid (ConR (bs a) (bs b) false) := HF.out false (fun e f he hf => ⟨fun h => (by cases h), fun h => by have := HQE.out e f he hf; exact absurd (by rw [this.1, this.2]; exact h) hqq⟩) (fun _ => rfl)
    have g2 : (q1 == q2) = false := by rw [beq_eq_false_iff_ne]; exact hqq
    clear HF HV1 HV2 HVT HQE hqq
    go_wp2_with (first | (refine wpList_store_rowAs rfl 33 _ _ rfl gB EW rfl rfl _ _ Z6.out HEWI.out HEWZ.out HEWO.out w6 W6.out ?_))
    go_ret
    exact ⟨false, HR, rfl, U6.out⟩
  obtain ⟨x, hx, kx⟩ := Y1.out.key
  obtain ⟨y, hy, ky⟩ := Y2.out.key
  have HKK : Hid (y1 = y2 ↔ (x.k = y.k ∧ x.h = y.h ∧ x.v = y.v)) := by
    show _ ↔ _
    rw [← key_iff hx.1 hy.1, ← kx, ← ky]
    exact ⟨fun e => by rw [e], fun e => bs_inj e⟩
  have HF : Hid (∀ c : Bool, (c = true ↔ y1 = y2) → ConR (bs a) (bs b) c) := by
    intro c hc
    refine ⟨fun e => absurd e HAB.out, fun _ => ⟨fun x' y' hx' hy' => ?_, fun hn => absurd ⟨⟨x, hx⟩, y, hy⟩ hn⟩⟩
    rw [isBal_inj hx' hx, isBal_inj hy' hy]
    exact hc.trans HKK.out
  clear hx hy kx ky HKK Y1 Y2 HE1 HE2
  by_cases hyy : y1 = y2
  · have HR : Hid (ConR (bs a) (bs b) true) := HF.out true ⟨fun _ => hyy, fun _ => rfl⟩
    have g2 : (y1.toList == y2.toList) = true := eq_beq.2 (by rw [hyy])
    clear HF hyy
    go_wp2_with fail
    go_ret
    exact ⟨true, HR, rfl, U2.out⟩
  have HR : Hid (ConR (bs a) (bs b) false) := HF.out false ⟨fun h => (by cases h), fun h => absurd h hyy⟩
  have g2 : (y1.toList == y2.toList) = false := by rw [← Bool.not_eq_true]; exact fun h => hyy (bs_inj (eq_beq.1 h))
  clear HF hyy
  go_wp2_with fail
  go_ret
  exact ⟨false, HR, rfl, U2.out⟩
end Go.Proofs.YtcimcodljjcmgaaGreatDoor
