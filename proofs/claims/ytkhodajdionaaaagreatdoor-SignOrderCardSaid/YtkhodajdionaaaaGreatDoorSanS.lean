/- sorteslaw05.sanity. -/
import Derived.Test.YtkhodajdionaaaaGreatDoorSgnC
namespace Go.Proofs.YtkhodajdionaaaaGreatDoor
open Go.RowKit
set_option maxRecDepth 100000

/-- It returns true; only new blocks have come. -/
def TrueMk (w : World) (e : Ending) (w' : World) : Prop := e = .returned (.bool true) ∧ Upd [] [] w w'

theorem verify_is (p : Int) (t : ByteArray) (r s : Int) (b : Bool) (w : World) (hp : i64in p) (hr : i64in r) (hs : i64in s) (ht : t.size ≤ 140737488355000) (htab : Tabs w) (h : verB p (bs t) r s = b) :
    Calls Tryz.prog 23 #[.int .i64 p, .string t, .agg #[.int .i64 r, .int .i64 s]] w (fun e w' => e = .returned (.bool b) ∧ Upd [] [] w w') := by
  refine (verify_any p t r s w hp hr hs ht htab).mono ?_
  rintro e w' ⟨x, HX, rfl, hu⟩
  exact ⟨by rw [HX.out, h], hu⟩

theorem itoa_12 : Lib.itoa 12 = [49, 50] := by
  show Lib.decDigits 12 = _
  rw [Lib.decDigits_two (by omega) (by omega)]
  rfl
theorem itoa_3 : Lib.itoa 3 = [51] := by
  show Lib.decDigits 3 = _
  rw [Lib.decDigits_one (by omega)]
  rfl
theorem itoa_m3 : Lib.itoa (-3) = [45, 51] := by
  show 45 :: Lib.decDigits 3 = _
  rw [Lib.decDigits_one (by omega)]
  rfl
theorem readV_good : readV [49, 50, 46, 51] = (12, 3, true) := by
  have h : pairL 12 3 = [49, 50, 46, 51] := by rw [pairL, itoa_12, itoa_3]; rfl
  rw [← h, readV, readL_pair ⟨by omega, by omega⟩ ⟨by omega, by omega⟩]
theorem readV_bad : readV [48, 49, 50, 46, 51] = (0, 0, false) := by
  have hc : Lib.cut [48, 49, 50, 46, 51] [46] = ([48, 49, 50], [51], true) := cut_hit 46 [48, 49, 50] [51] (by decide)
  have h1 : Lib.atoiAll (Lib.cut [48, 49, 50, 46, 51] [46]).1 = .ok 12 := by rw [hc]; decide
  have h2 : Lib.atoiAll (Lib.cut [48, 49, 50, 46, 51] [46]).2.1 = .ok 3 := by rw [hc]; decide
  rw [readV_ok h1 h2, if_neg]
  rw [pairL, itoa_12, itoa_3]
  decide
theorem read_is (s : ByteArray) (a b : Int) (ok : Bool) (w : World) (hs : s.size ≤ 4000000000) (htab : Tabs w) (h : readV (bs s) = (a, b, ok)) :
    Calls Tryz.prog 49 #[.string s] w (fun e w' => e = .returned (.tuple #[.agg #[.int .i64 a, .int .i64 b], .bool ok]) ∧ Upd [] [] w w') := by
  refine (read_any s w hs htab).mono ?_
  rintro e w' ⟨x, y, z, HX, _, _, rfl, hu⟩
  have := HX.out
  rw [h] at this
  simp only [Prod.mk.injEq] at this
  obtain ⟨rfl, rfl, rfl⟩ := this
  exact ⟨rfl, hu⟩

theorem ver_one_good (t : List UInt8) : verB 1 t 1 0 = true := by
  have h : verB ((1 : Nat) : Int) t ((1 : Nat) : Int) ((0 : Nat) : Int) = true := by
    rw [verB_cast]
    have m1 : memN 1 := by
      refine ⟨Nat.le_refl _, by decide, ?_⟩
      rw [Nat.one_pow]; decide
    refine ⟨m1, m1, by decide, ?_⟩
    rw [Nat.one_pow]
    decide
  exact h
theorem ver_zero (t : List UInt8) (r s : Int) : verB 0 t r s = false := by
  have : memB 0 = false := memB_low (by omega)
  simp [verB, this]
theorem ver_high (p : Int) (t : List UInt8) (r : Int) : verB p t r 1152921504606845789 = false := by
  simp [verB]

theorem textBytes_is (r s : Int) (l : ByteArray) (w : World) (hr : i64in r) (hs : i64in s) (htab : Tabs w) (h : pairL r s = bs l) : Calls Tryz.prog 50 #[.agg #[.int .i64 r, .int .i64 s]] w (fun e w' => e = .returned (.string l) ∧ Upd [] [] w w') := by
  refine (text_any r s w hr hs htab).mono ?_
  rintro e w' ⟨y, HY, _, rfl, hu⟩
  exact ⟨by rw [bs_inj (HY.out.trans h)], hu⟩

set_option maxHeartbeats 1000000 in
theorem sanityS_any (w : World) (htab : Tabs w) : Calls Tryz.prog 20 #[] w (TrueMk w) := by
  go_enter Tryz.func20, Tryz.ntmps20
  go_wp2_with fail
  refine (key_any ⟨#[115]⟩ w (by decide) htab).mono ?_
  rintro e w1 ⟨x, p, HX, HP, hx, hp, rfl, hu1⟩
  go_wp2_with fail
  refine (sign_any x ⟨#[116]⟩ w1 (by omega) (by decide) (htab.upd hu1)).mono ?_
  rintro e w2 ⟨r, s, HR, HS, hr, hs, rfl, hu2⟩
  have u2 := hu1.trans hu2
  have a2 := SigAt.start w2 r s
  have a3 := SigAt.start (w2.alloc (.cells #[.int .i64 r, .int .i64 s] 43)) 1 0
  have a4 := SigAt.start ((w2.alloc (.cells #[.int .i64 r, .int .i64 s] 43)).alloc (.cells #[.int .i64 1, .int .i64 0] 43)) 1 1152921504606845789
  have b2 := a2.upd (a3.up.trans a4.up)
  have b3 := a3.upd a4.up
  have u4 := u2.trans b2.up
  clear a2 a3
  go_wp2_with fail
  generalize (((w2.alloc (.cells #[.int .i64 r, .int .i64 s] 43)).alloc (.cells #[.int .i64 1, .int .i64 0] 43)).alloc (.cells #[.int .i64 1, .int .i64 1152921504606845789] 43)) = w4 at *
  refine (read_is ⟨#[49, 50, 46, 51]⟩ 12 3 true w4 (by decide) (htab.upd u4) readV_good).mono ?_
  rintro e w5 ⟨rfl, hu5⟩
  have a5 := SigAt.start w5 12 3
  have hu6 := hu5.trans a5.up
  go_wp2_with fail
  refine (read_is ⟨#[48, 49, 50, 46, 51]⟩ 0 0 false _ (by decide) (htab.upd (u4.trans hu6)) readV_bad).mono ?_
  rintro e w7 ⟨rfl, hu7⟩
  have hu8 := hu7.trans (SigAt.start w7 0 0).up
  have c2 := b2.upd (hu6.trans hu8)
  have c3 := b3.upd (hu6.trans hu8)
  have c4 := a4.upd (hu6.trans hu8)
  have c5 := a5.upd hu8
  have u8 := u4.trans (hu6.trans hu8)
  clear b2 b3 a4 a5
  obtain ⟨k0, k1⟩ := c2.cells
  go_wp2_with fail
  have hv : verB (p : Int) (bs ⟨#[116]⟩) (r : Int) (s : Int) = true := by
    have hxe : expN (x : Int) = x := expN_of hx
    have h := ver_with x (nonceN x (bs ⟨#[116]⟩)) (bs ⟨#[116]⟩)
    rw [HR.out, HS.out, hxe, HP.out, ← HX.out]
    exact h
  refine (verify_is p ⟨#[116]⟩ r s true _ ⟨by omega, by omega⟩ ⟨by omega, by omega⟩ ⟨by omega, by omega⟩ (by decide) (htab.upd u8) hv).mono ?_
  rintro e w9 ⟨rfl, hu9⟩
  have d3 := c3.upd hu9
  have d4 := c4.upd hu9
  have d5 := c5.upd hu9
  have u9 := u8.trans hu9
  clear c2 c3 c4 c5 k0 k1 hv
  obtain ⟨k0, k1⟩ := d3.cells
  rw [alloc_sizeW] at k0 k1
  go_wp2_with fail
  refine (verify_is 1 ⟨#[116]⟩ 1 0 true _ ⟨by omega, by omega⟩ ⟨by omega, by omega⟩ ⟨by omega, by omega⟩ (by decide) (htab.upd u9) (ver_one_good _)).mono ?_
  rintro e w10 ⟨rfl, hu10⟩
  have e3 := d3.upd hu10
  have e4 := d4.upd hu10
  have e5 := d5.upd hu10
  have u10 := u9.trans hu10
  clear d3 d4 d5 k0 k1
  obtain ⟨k0, k1⟩ := e3.cells
  rw [alloc_sizeW] at k0 k1
  go_wp2_with fail
  refine (verify_is 0 ⟨#[116]⟩ 1 0 false _ ⟨by omega, by omega⟩ ⟨by omega, by omega⟩ ⟨by omega, by omega⟩ (by decide) (htab.upd u10) (ver_zero _ _ _)).mono ?_
  rintro e w11 ⟨rfl, hu11⟩
  have f4 := e4.upd hu11
  have f5 := e5.upd hu11
  have u11 := u10.trans hu11
  clear e3 e4 e5 k0 k1
  obtain ⟨k0, k1⟩ := f4.cells
  rw [alloc_sizeW, alloc_sizeW] at k0 k1
  go_wp2_with fail
  refine (verify_is 1 ⟨#[116]⟩ 1 1152921504606845789 false _ ⟨by omega, by omega⟩ ⟨by omega, by omega⟩ ⟨by omega, by omega⟩ (by decide) (htab.upd u11) (ver_high _ _ _)).mono ?_
  rintro e w12 ⟨rfl, hu12⟩
  have g5 := f5.upd hu12
  have u12 := u11.trans hu12
  clear f4 f5 k0 k1
  go_wp2_with fail
  refine (textBytes_is 12 (-3) ⟨#[49, 50, 46, 45, 51]⟩ _ ⟨by omega, by omega⟩ ⟨by omega, by omega⟩ (htab.upd u12) (by rw [pairL, itoa_12, itoa_m3]; rfl)).mono ?_
  rintro e w13 ⟨rfl, hu13⟩
  have u13 := u12.trans hu13
  have m5 := g5.upd hu13
  obtain ⟨k0, k1⟩ := m5.cells
  go_wp2_with fail
  go_ret
  exact ⟨rfl, u13⟩
end Go.Proofs.YtkhodajdionaaaaGreatDoor
