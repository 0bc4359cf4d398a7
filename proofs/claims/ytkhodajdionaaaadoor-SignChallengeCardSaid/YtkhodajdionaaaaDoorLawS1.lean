/- The walk of SignVerifies. -/
import Derived.Test.YtkhodajdionaaaaDoorSanS
namespace Go.Proofs.YtkhodajdionaaaaDoor
open Go.RowKit
set_option maxRecDepth 100000

/-- The signature of a text verifies. -/
theorem ver_sign (x : Nat) (hx : x < Qn) (t : List UInt8) : verB (gP x : Int) t (gP (nonceN (expN (x : Int)) t) : Int) (sWith (expN (x : Int)) (nonceN (expN (x : Int)) t) t : Int) = true := by
  rw [expN_of hx]
  exact ver_with x _ t

set_option maxHeartbeats 1000000 in
theorem signVerifies_walk (seed text : ByteArray) (w : World) (h1 : seed.size ≤ 140737488355000) (h2 : text.size ≤ 9223372036854775807) (htab : Tabs w) :
    Calls Tryd.prog 9 #[.string seed, .string text] w (TrueMk w) := by
  go_enter Tryd.func9, Tryd.ntmps9
  go_wp2_with fail
  refine (sanityS_any w htab).mono ?_
  rintro e w1 ⟨rfl, hu1⟩
  go_wp2_with fail
  obtain ⟨T, hT⟩ : ∃ T, T = text.extract 0 (min (text.size : Int) 300).toNat := ⟨_, rfl⟩
  have hTs : T.size ≤ 300 := by rw [hT, ByteArray.size_extract]; omega
  rw [← hT]
  clear hT
  refine (key_any seed w1 h1 (htab.upd hu1)).mono ?_
  rintro e w2 ⟨x, p, HX, HP, hx, hp, rfl, hu2⟩
  have u2 := hu1.trans hu2
  go_wp2_with fail
  refine (sign_any x T w2 (by omega) (by omega) (htab.upd u2)).mono ?_
  rintro e w3 ⟨r, s, HR, HS, hr, hs, rfl, hu3⟩
  have u3 := u2.trans hu3
  have hv : verB (p : Int) (bs T) (r : Int) (s : Int) = true := by
    rw [HR.out, HS.out, HP.out, ← HX.out]
    exact ver_sign x hx (bs T)
  have HV := Lib.hid hv
  clear hv
  go_wp2_with fail
  refine (verify_is p T r s true _ ⟨by omega, by omega⟩ ⟨by omega, by omega⟩ ⟨by omega, by omega⟩ (by omega) (htab.upd u3) HV.out).mono ?_
  rintro e w4 ⟨rfl, hu4⟩
  go_wp2_with fail
  go_ret
  exact ⟨rfl, u3.trans hu4⟩
end Go.Proofs.YtkhodajdionaaaaDoor
