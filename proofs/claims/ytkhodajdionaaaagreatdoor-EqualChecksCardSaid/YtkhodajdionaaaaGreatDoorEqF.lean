/- sorteslaw06.sanity. -/
import Derived.Test.YtkhodajdionaaaaGreatDoorEqE
import Derived.Test.YtkhodajdionaaaaGreatDoorEqN
namespace Go.Proofs.YtkhodajdionaaaaGreatDoor
open Go.RowKit
set_option maxRecDepth 100000

theorem prove_ex (w : World) (htab : Tabs w) : Calls Tryz.prog 11 #[.int .i64 3, .int .i64 4, .int .i64 16] w (fun e w' => e = .returned (.agg #[.int .i64 435937659163829742, .int .i64 489630195527191823]) ∧ Upd [] [] w w') := by
  have h := prove_mem 3 4 16 w (by omega) mem4 mem16 htab
  have e3 : expN 3 = 3 := expN_of (n := 3) (by decide)
  rw [e3, ex_c, ex_z] at h
  refine h.mono ?_
  rintro e w' ⟨a, b, HA, HB, _, _, rfl, hu⟩
  exact ⟨by rw [HA.out, HB.out]; rfl, hu⟩
theorem prove_zero (x g h : Int) (w : World) (hg : i64in g) (hh : i64in h) (hm : memB g = false ∨ memB h = false) :
    Calls Tryz.prog 11 #[.int .i64 x, .int .i64 g, .int .i64 h] w (fun e w' => e = .returned (.agg #[.int .i64 0, .int .i64 0]) ∧ Upd [] [] w w') := by
  refine (prove_no x g h w hg hh hm).mono ?_
  rintro e w' ⟨a, b, HA, HB, _, _, rfl, hu⟩
  exact ⟨by rw [HA.out, HB.out]; rfl, hu⟩

set_option maxHeartbeats 1000000 in
theorem sanityE_any (w : World) (htab : Tabs w) : Calls Tryz.prog 9 #[] w (TrueMk w) := by
  go_enter Tryz.func9, Tryz.ntmps9
  go_wp2_with fail
  refine (prove_ex w htab).mono ?_
  rintro e w1 ⟨rfl, hu1⟩
  have a2 := ProofAt.start w1 435937659163829742 489630195527191823
  have u2 := hu1.trans a2.up
  go_wp2_with fail
  refine (eread_is ⟨#[49, 50, 46, 51]⟩ 12 3 true _ (by decide) (htab.upd u2) readV_good).mono ?_
  rintro e w3 ⟨rfl, hu3⟩
  have b2 := a2.upd hu3
  have u3 := u2.trans hu3
  have a4 := ProofAt.start w3 12 3
  have u4 := u3.trans a4.up
  have c2 := b2.upd a4.up
  clear a2 b2
  go_wp2_with fail
  refine (eread_is ⟨#[48, 49, 50, 46, 51]⟩ 0 0 false _ (by decide) (htab.upd u4) readV_bad).mono ?_
  rintro e w5 ⟨rfl, hu5⟩
  have a6 := ProofAt.start w5 0 0
  have u6 := (u4.trans hu5).trans a6.up
  have d2 := c2.upd (hu5.trans a6.up)
  have d4 := a4.upd (hu5.trans a6.up)
  clear c2 a4 a6
  obtain ⟨k0, k1⟩ := d2.cells
  go_wp2_with fail
  refine (everify_is 4 64 16 4096 435937659163829742 489630195527191823 true _ ⟨by omega, by omega⟩ ⟨by omega, by omega⟩ ⟨by omega, by omega⟩ ⟨by omega, by omega⟩ ⟨by omega, by omega⟩ ⟨by omega, by omega⟩ (htab.upd u6) ex_yes).mono ?_
  rintro e w7 ⟨rfl, hu7⟩
  have u7 := u6.trans hu7
  have e2 := d2.upd hu7
  have e4 := d4.upd hu7
  clear d2 d4 k0 k1
  obtain ⟨k0, k1⟩ := e2.cells
  go_wp2_with fail
  refine (everify_is 4 64 16 256 435937659163829742 489630195527191823 false _ ⟨by omega, by omega⟩ ⟨by omega, by omega⟩ ⟨by omega, by omega⟩ ⟨by omega, by omega⟩ ⟨by omega, by omega⟩ ⟨by omega, by omega⟩ (htab.upd u7) ex_no).mono ?_
  rintro e w8 ⟨rfl, hu8⟩
  have u8 := u7.trans hu8
  have f4 := e4.upd hu8
  clear e2 e4 k0 k1
  go_wp2_with fail
  refine (prove_zero 3 0 16 _ ⟨by omega, by omega⟩ ⟨by omega, by omega⟩ (.inl (memB_low (by omega)))).mono ?_
  rintro e w9 ⟨rfl, hu9⟩
  have u9 := u8.trans hu9
  have g4 := f4.upd hu9
  clear f4
  go_wp2_with fail
  refine (etext_is 12 3 ⟨#[49, 50, 46, 51]⟩ _ ⟨by omega, by omega⟩ ⟨by omega, by omega⟩ (htab.upd u9) (by rw [pairL, itoa_12, itoa_3]; rfl)).mono ?_
  rintro e w10 ⟨rfl, hu10⟩
  have u10 := u9.trans hu10
  have h4 := g4.upd hu10
  clear g4
  obtain ⟨k0, k1⟩ := h4.cells
  go_wp2_with fail
  go_ret
  exact ⟨rfl, u10⟩
end Go.Proofs.YtkhodajdionaaaaGreatDoor
