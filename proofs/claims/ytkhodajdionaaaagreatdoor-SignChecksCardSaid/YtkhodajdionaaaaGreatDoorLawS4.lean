/- The walk of SignChecks. -/
import Derived.Test.YtkhodajdionaaaaGreatDoorRSgnC
import Derived.Test.YtkhodajdionaaaaGreatDoorDecB
namespace Go.Proofs.YtkhodajdionaaaaGreatDoor
open Go.RowKit
set_option maxRecDepth 100000

theorem cut300c (t : ByteArray) : ∃ T : ByteArray, T = t.extract 0 (min (t.size : Int) 300).toNat ∧ T.size ≤ 300 :=
  ⟨_, rfl, by rw [ByteArray.size_extract]; omega⟩
theorem i64pc {n : Nat} (h : n < 2305843009213691579) : i64in (n : Int) := ⟨by omega, by omega⟩
theorem i64qc {n : Nat} (h : n < 1152921504606845789) : i64in (n : Int) := ⟨by omega, by omega⟩
theorem row_updC {w w' : World} {g : Nat} {o : Obj} (h : w.heap[g]? = some o) (u : Upd [] [] w w') : w'.heap[g]? = some o := by
  rw [u.block _ (Array.getElem?_eq_some_iff.1 h).1 (by simp)]; exact h
/-- A change in a new block. -/
structure ChgAt (w wp : World) (a b k : Int) (T : ByteArray) (raw : Bool) : Prop where
  up : Upd [] [] w wp
  row : wp.heap[w.heap.size]? = some (.cells #[.int .i64 a, .int .i64 b, .int .i64 k, .string T, .bool raw] 41 (0, 0))
theorem ChgAt.start (w : World) (a b k : Int) (T : ByteArray) (raw : Bool) : ChgAt w (w.alloc (.cells #[.int .i64 a, .int .i64 b, .int .i64 k, .string T, .bool raw] 41)) a b k T raw := ⟨(Upd.refl _ _).alloc _, heap_alloc_new _ _⟩
theorem ChgAt.upd {w wp wq : World} {a b k : Int} {T : ByteArray} {raw : Bool} (h : ChgAt w wp a b k T raw) (u : Upd [] [] wp wq) : ChgAt w wq a b k T raw := ⟨h.up.trans u, row_updC h.row u⟩
theorem ChgAt.cells {w wp : World} {a b k : Int} {T : ByteArray} {raw : Bool} (h : ChgAt w wp a b k T raw) : wp.cell? ⟨w.heap.size, 0, none⟩ = some (.int .i64 a) ∧ wp.cell? ⟨w.heap.size, 1, none⟩ = some (.int .i64 b) ∧ wp.cell? ⟨w.heap.size, 2, none⟩ = some (.int .i64 k) ∧ wp.cell? ⟨w.heap.size, 3, none⟩ = some (.string T) ∧ wp.cell? ⟨w.heap.size, 4, none⟩ = some (.bool raw) :=
  ⟨by rw [cell_of_row _ _ _ _ _ _ h.row]; rfl, by rw [cell_of_row _ _ _ _ _ _ h.row]; rfl, by rw [cell_of_row _ _ _ _ _ _ h.row]; rfl, by rw [cell_of_row _ _ _ _ _ _ h.row]; rfl, by rw [cell_of_row _ _ _ _ _ _ h.row]; rfl⟩

theorem ChgAt.three {w wp : World} {a b k : Int} {T : ByteArray} {raw : Bool} (h : ChgAt w wp a b k T raw) : wp.cell? ⟨w.heap.size, 0, none⟩ = some (.int .i64 a) ∧ wp.cell? ⟨w.heap.size, 1, none⟩ = some (.int .i64 b) ∧ wp.cell? ⟨w.heap.size, 2, none⟩ = some (.int .i64 k) := ⟨h.cells.1, h.cells.2.1, h.cells.2.2.1⟩
theorem sig_cells {w : World} {g : Nat} {r s : Int} (h : w.heap[g]? = some (.cells #[.int .i64 r, .int .i64 s] 43 (0, 0))) : w.cell? ⟨g, 0, none⟩ = some (.int .i64 r) ∧ w.cell? ⟨g, 1, none⟩ = some (.int .i64 s) :=
  ⟨by rw [cell_of_row _ _ _ _ _ _ h]; rfl, by rw [cell_of_row _ _ _ _ _ _ h]; rfl⟩
set_option maxHeartbeats 4000000 in
theorem signChecks_walk (x : Int) (text : ByteArray) (a b k : Int) (Q : ByteArray) (raw : Bool) (w : World) (hx : -9223372036854775808 ≤ x ∧ x ≤ 9223372036854775807) (h1 : text.size ≤ 9223372036854775807)
    (ha : -9223372036854775808 ≤ a ∧ a ≤ 9223372036854775807) (hb : -9223372036854775808 ≤ b ∧ b ≤ 9223372036854775807) (hk : -9223372036854775808 ≤ k ∧ k ≤ 9223372036854775807) (hQ : Q.size ≤ 9223372036854775807) (htab : Tabs w) :
    Calls Tryz.prog 7 #[.int .i64 x, .string text, .agg #[.int .i64 a, .int .i64 b, .int .i64 k, .string Q, .bool raw]] w (TrueMk w) := by
  have c0 := ChgAt.start w a b k Q raw
  go_enter Tryz.func7, Tryz.ntmps7
  go_wp2_with fail
  refine (sanityS_any _ (htab.upd c0.up)).mono ?_
  rintro e w1 ⟨rfl, hu1⟩
  have c1 := c0.upd hu1
  clear c0
  go_wp2_with fail
  obtain ⟨T, hT, hTs⟩ := cut300c text
  rw [← hT]
  clear hT
  refine (public_any x _ hx).mono ?_
  rintro e w2 ⟨p, HP, hp, rfl, rfl⟩
  go_wp2_with fail
  refine (rsign_any x T _ hx (by omega)).mono ?_
  rintro e w3 ⟨r, s, HR, HS, hr, hs, rfl, hu3⟩
  have c3 := c1.upd hu3
  have s4 := (SigAt.start w3 r s).upd (Upd.refl _ _).drew
  have c4 := c3.upd s4.up
  have k4 := s4.cells
  obtain ⟨v1, hv1⟩ : ∃ v1, verB (p : Int) (bs T) (r : Int) (s : Int) = v1 := ⟨_, rfl⟩
  have HV1 := Lib.hid hv1
  clear hv1 c1
  go_wp2_with fail
  go_region_held3 (fun wp => wp.cell? ⟨w3.heap.size, 0, none⟩ = some (.int .i64 (r : Int)) ∧ wp.cell? ⟨w3.heap.size, 1, none⟩ = some (.int .i64 (s : Int))) (first | exact k4 | assumption)
    (first
      | (go_at_call 23; ((with_reducible refine (verify_is p T r s v1 _ (i64pc hp) (i64pc hr) (i64qc hs) (by omega) (htab.upd c4.up) HV1.out).mono ?_); rintro e wq ⟨rfl, hq⟩; have g1 := s4.upd hq; have c5 := c4.upd hq; have kq := g1.cells; clear hq))
      | (go_at_call 24; ((with_reducible refine (rverify5_is p T r s v1 _ (i64pc hp) (i64pc hr) (i64qc hs) (by omega) HV1.out).mono ?_); rintro e wq ⟨rfl, hq⟩; have g2 := g1.upd hq; have c6 := c5.upd hq; have kq := g2.cells; clear hq)))
  clear c4 s4 k4 kq c5 g1 c3
  obtain ⟨k0, k1⟩ := g2.cells
  obtain ⟨d0, d1, d2, d3, d4⟩ := c6.cells
  have hl1 := (Array.getElem?_eq_some_iff.1 c6.row).1
  have hl2 := (Array.getElem?_eq_some_iff.1 g2.row).1
  obtain ⟨R2, hR2⟩ : ∃ R2, wrap64 ((r : Int) + a) = R2 := ⟨_, rfl⟩
  obtain ⟨S2, hS2⟩ : ∃ S2, wrap64 ((s : Int) + b) = S2 := ⟨_, rfl⟩
  obtain ⟨K2, hK2⟩ : ∃ K2, wrap64 ((p : Int) + k) = K2 := ⟨_, rfl⟩
  have iR2 : i64in R2 := by rw [← hR2]; exact wrap_bounds _
  have iS2 : i64in S2 := by rw [← hS2]; exact wrap_bounds _
  have iK2 : i64in K2 := by rw [← hK2]; exact wrap_bounds _
  have HL : Hid (∀ R S : Int, ∀ W : World, Upd [] [] (wq.alloc (.cells #[.int .i64 R, .int .i64 S] 43)) W → SigAt w3 W r s ∧ ChgAt w W a b k Q raw ∧ W.heap[wq.heap.size]? = some (.cells #[.int .i64 R, .int .i64 S] 43 (0, 0))) := by
    intro R S W u
    have u2 := ((Upd.refl [] wq).alloc (.cells #[.int .i64 R, .int .i64 S] 43)).trans u
    exact ⟨g2.upd u2, c6.upd u2, row_updC (heap_alloc_new wq _) u⟩
  cases raw with
  | false =>
    cases v1
    all_goals
      go_wp2_with fail
      rw [hR2, hS2, hK2]
      obtain ⟨g9, c9, m9⟩ := HL.out R2 S2 _ (Upd.refl _ _)
      have g10 := g9.upd (Upd.refl _ _).drew
      have c10 := c9.upd (Upd.refl _ _).drew
      have m10 := row_updC m9 ((Upd.refl [] _).drew)
      clear hR2 hS2 hK2 HL g9 c9 m9 g2 c6 k0 k1 d0 d1 d2 d3 d4 HV1
      generalize hGG : wq.heap.size = GG at *
      clear hGG
      obtain ⟨U, hU, hUs⟩ := cut300c Q
      rw [← hU]
      clear hU
      obtain ⟨O, hO⟩ : ∃ O, O = T ++ U := ⟨_, rfl⟩
      have hOs : O.size ≤ 600 := by rw [hO, ByteArray.size_append]; omega
      rw [← hO]
      clear hO
      obtain ⟨va, hva⟩ : ∃ va, verB K2 (bs O) R2 S2 = va := ⟨_, rfl⟩
      obtain ⟨vb, hvb⟩ : ∃ vb, verB K2 (bs T) (r : Int) (s : Int) = vb := ⟨_, rfl⟩
      obtain ⟨vc, hvc⟩ : ∃ vc, verB (p : Int) (bs O) (r : Int) (s : Int) = vc := ⟨_, rfl⟩
      obtain ⟨vd, hvd⟩ : ∃ vd, verB (p : Int) (bs T) R2 S2 = vd := ⟨_, rfl⟩
      have VA := Lib.hid hva
      have VB := Lib.hid hvb
      have VC := Lib.hid hvc
      have VD := Lib.hid hvd
      clear hva hvb hvc hvd
      have k10 := And.intro g10.cells (sig_cells m10)
      go_region_held3 (fun wp => (wp.cell? ⟨w3.heap.size, 0, none⟩ = some (.int .i64 (r : Int)) ∧ wp.cell? ⟨w3.heap.size, 1, none⟩ = some (.int .i64 (s : Int))) ∧ wp.cell? ⟨GG, 0, none⟩ = some (.int .i64 R2) ∧ wp.cell? ⟨GG, 1, none⟩ = some (.int .i64 S2)) (first | exact k10 | assumption)
        (first
        | (go_at_call 23; ((with_reducible refine (verify_is K2 O R2 S2 va _ iK2 iR2 iS2 (by omega) (htab.upd c10.up) VA.out).mono ?_); rintro e wq ⟨rfl, hq⟩; have g11 := g10.upd hq; have c11 := c10.upd hq; have m11 := row_updC m10 hq; have kq := And.intro g11.cells (sig_cells m11); clear hq))
        | (go_at_call 24; ((with_reducible refine (rverify5_is K2 O R2 S2 va _ iK2 iR2 iS2 (by omega) VA.out).mono ?_); rintro e wq ⟨rfl, hq⟩; have g12 := g11.upd hq; have c12 := c11.upd hq; have m12 := row_updC m11 hq; have kq := And.intro g12.cells (sig_cells m12); clear hq))
        | (go_at_call 23; ((with_reducible refine (verify_is K2 T r s vb _ iK2 (i64pc hr) (i64qc hs) (by omega) (htab.upd c12.up) VB.out).mono ?_); rintro e wq ⟨rfl, hq⟩; have g13 := g12.upd hq; have c13 := c12.upd hq; have m13 := row_updC m12 hq; have kq := And.intro g13.cells (sig_cells m13); clear hq))
        | (go_at_call 24; ((with_reducible refine (rverify5_is K2 T r s vb _ iK2 (i64pc hr) (i64qc hs) (by omega) VB.out).mono ?_); rintro e wq ⟨rfl, hq⟩; have g14 := g13.upd hq; have c14 := c13.upd hq; have m14 := row_updC m13 hq; have kq := And.intro g14.cells (sig_cells m14); clear hq))
        | (go_at_call 23; ((with_reducible refine (verify_is p O r s vc _ (i64pc hp) (i64pc hr) (i64qc hs) (by omega) (htab.upd c14.up) VC.out).mono ?_); rintro e wq ⟨rfl, hq⟩; have g15 := g14.upd hq; have c15 := c14.upd hq; have m15 := row_updC m14 hq; have kq := And.intro g15.cells (sig_cells m15); clear hq))
        | (go_at_call 24; ((with_reducible refine (rverify5_is p O r s vc _ (i64pc hp) (i64pc hr) (i64qc hs) (by omega) VC.out).mono ?_); rintro e wq ⟨rfl, hq⟩; have g16 := g15.upd hq; have c16 := c15.upd hq; have m16 := row_updC m15 hq; have kq := And.intro g16.cells (sig_cells m16); clear hq))
        | (go_at_call 23; ((with_reducible refine (verify_is p T R2 S2 vd _ (i64pc hp) iR2 iS2 (by omega) (htab.upd c16.up) VD.out).mono ?_); rintro e wq ⟨rfl, hq⟩; have g17 := g16.upd hq; have c17 := c16.upd hq; have m17 := row_updC m16 hq; have kq := And.intro g17.cells (sig_cells m17); clear hq))
        | (go_at_call 24; ((with_reducible refine (rverify5_is p T R2 S2 vd _ (i64pc hp) iR2 iS2 (by omega) VD.out).mono ?_); rintro e wq ⟨rfl, hq⟩; have g18 := g17.upd hq; have c18 := c17.upd hq; have m18 := row_updC m17 hq; have kq := And.intro g18.cells (sig_cells m18); clear hq)))
      go_wp2_with fail
      go_ret
      exact ⟨rfl, c18.up⟩

  | true =>
    cases v1
    all_goals
      go_wp2_with fail
      rw [hR2, hS2, hK2]
      have t9 := (HL.out R2 S2 _ (Upd.refl _ _).drew).2.1.three
      have TN : ∀ W : World, Upd [] [] (wq.alloc (.cells #[.int .i64 a, .int .i64 b] 43)) W → W.cell? ⟨w.heap.size, 0, none⟩ = some (.int .i64 a) ∧ W.cell? ⟨w.heap.size, 1, none⟩ = some (.int .i64 b) ∧ W.cell? ⟨w.heap.size, 2, none⟩ = some (.int .i64 k) := fun W u => (HL.out a b W u).2.1.three
      have HTN := Lib.hid TN
      have z9 := frozen_of_row _ wq.heap.size 0 _ _ (HL.out R2 S2 _ (Upd.refl _ _)).2.2
      have z8 := frozen_of_row _ wq.heap.size 1 _ _ (HL.out R2 S2 _ (Upd.refl _ _)).2.2
      clear TN
      go_region_held3 (fun wp => wp.cell? ⟨w.heap.size, 0, none⟩ = some (.int .i64 a) ∧ wp.cell? ⟨w.heap.size, 1, none⟩ = some (.int .i64 b) ∧ wp.cell? ⟨w.heap.size, 2, none⟩ = some (.int .i64 k)) (first | exact t9 | exact HTN.out _ (Upd.refl _ _).drew | exact HTN.out _ (Upd.refl _ _) | assumption) (fail)
      obtain ⟨d0, d1, d2, d3, d4⟩ := (HL.out a b _ (Upd.refl _ _).drew).2.1.cells
      go_wp2_with fail
      obtain ⟨g9, c9, m9⟩ := HL.out a b _ (Upd.refl _ _).drew
      have g10 := g9.upd (Upd.refl _ _).drew
      have c10 := c9.upd (Upd.refl _ _).drew
      have m10 := row_updC m9 ((Upd.refl [] _).drew)
      have ha' : i64in a := ha
      have hb' : i64in b := hb
      have hk' : i64in k := hk
      clear hR2 hS2 hK2 HL g9 c9 m9 g2 c6 k0 k1 d0 d1 d2 d3 d4 HV1 z9 z8 HTN t9 ha hb hk
      generalize hGG : wq.heap.size = GG at *
      clear hGG
      obtain ⟨U, hU, hUs⟩ := cut300c Q
      rw [← hU]
      clear hU
      obtain ⟨O, hO⟩ : ∃ O, O = T ++ U := ⟨_, rfl⟩
      have hOs : O.size ≤ 600 := by rw [hO, ByteArray.size_append]; omega
      rw [← hO]
      clear hO
      obtain ⟨va, hva⟩ : ∃ va, verB k (bs O) a b = va := ⟨_, rfl⟩
      obtain ⟨vb, hvb⟩ : ∃ vb, verB k (bs T) (r : Int) (s : Int) = vb := ⟨_, rfl⟩
      obtain ⟨vc, hvc⟩ : ∃ vc, verB (p : Int) (bs O) (r : Int) (s : Int) = vc := ⟨_, rfl⟩
      obtain ⟨vd, hvd⟩ : ∃ vd, verB (p : Int) (bs T) a b = vd := ⟨_, rfl⟩
      have VA := Lib.hid hva
      have VB := Lib.hid hvb
      have VC := Lib.hid hvc
      have VD := Lib.hid hvd
      clear hva hvb hvc hvd
      have k10 := And.intro g10.cells (sig_cells m10)
      go_region_held3 (fun wp => (wp.cell? ⟨w3.heap.size, 0, none⟩ = some (.int .i64 (r : Int)) ∧ wp.cell? ⟨w3.heap.size, 1, none⟩ = some (.int .i64 (s : Int))) ∧ wp.cell? ⟨GG, 0, none⟩ = some (.int .i64 a) ∧ wp.cell? ⟨GG, 1, none⟩ = some (.int .i64 b)) (first | exact k10 | assumption)
        (first
        | (go_at_call 23; ((with_reducible refine (verify_is k O a b va _ hk' ha' hb' (by omega) (htab.upd c10.up) VA.out).mono ?_); rintro e wq ⟨rfl, hq⟩; have g11 := g10.upd hq; have c11 := c10.upd hq; have m11 := row_updC m10 hq; have kq := And.intro g11.cells (sig_cells m11); clear hq))
        | (go_at_call 24; ((with_reducible refine (rverify5_is k O a b va _ hk' ha' hb' (by omega) VA.out).mono ?_); rintro e wq ⟨rfl, hq⟩; have g12 := g11.upd hq; have c12 := c11.upd hq; have m12 := row_updC m11 hq; have kq := And.intro g12.cells (sig_cells m12); clear hq))
        | (go_at_call 23; ((with_reducible refine (verify_is k T r s vb _ hk' (i64pc hr) (i64qc hs) (by omega) (htab.upd c12.up) VB.out).mono ?_); rintro e wq ⟨rfl, hq⟩; have g13 := g12.upd hq; have c13 := c12.upd hq; have m13 := row_updC m12 hq; have kq := And.intro g13.cells (sig_cells m13); clear hq))
        | (go_at_call 24; ((with_reducible refine (rverify5_is k T r s vb _ hk' (i64pc hr) (i64qc hs) (by omega) VB.out).mono ?_); rintro e wq ⟨rfl, hq⟩; have g14 := g13.upd hq; have c14 := c13.upd hq; have m14 := row_updC m13 hq; have kq := And.intro g14.cells (sig_cells m14); clear hq))
        | (go_at_call 23; ((with_reducible refine (verify_is p O r s vc _ (i64pc hp) (i64pc hr) (i64qc hs) (by omega) (htab.upd c14.up) VC.out).mono ?_); rintro e wq ⟨rfl, hq⟩; have g15 := g14.upd hq; have c15 := c14.upd hq; have m15 := row_updC m14 hq; have kq := And.intro g15.cells (sig_cells m15); clear hq))
        | (go_at_call 24; ((with_reducible refine (rverify5_is p O r s vc _ (i64pc hp) (i64pc hr) (i64qc hs) (by omega) VC.out).mono ?_); rintro e wq ⟨rfl, hq⟩; have g16 := g15.upd hq; have c16 := c15.upd hq; have m16 := row_updC m15 hq; have kq := And.intro g16.cells (sig_cells m16); clear hq))
        | (go_at_call 23; ((with_reducible refine (verify_is p T a b vd _ (i64pc hp) ha' hb' (by omega) (htab.upd c16.up) VD.out).mono ?_); rintro e wq ⟨rfl, hq⟩; have g17 := g16.upd hq; have c17 := c16.upd hq; have m17 := row_updC m16 hq; have kq := And.intro g17.cells (sig_cells m17); clear hq))
        | (go_at_call 24; ((with_reducible refine (rverify5_is p T a b vd _ (i64pc hp) ha' hb' (by omega) VD.out).mono ?_); rintro e wq ⟨rfl, hq⟩; have g18 := g17.upd hq; have c18 := c17.upd hq; have m18 := row_updC m17 hq; have kq := And.intro g18.cells (sig_cells m18); clear hq)))
      go_wp2_with fail
      go_ret
      exact ⟨rfl, c18.up⟩

end Go.Proofs.YtkhodajdionaaaaGreatDoor
