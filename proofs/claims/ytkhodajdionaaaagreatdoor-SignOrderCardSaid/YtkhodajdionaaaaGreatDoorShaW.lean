/- Words of 32 bits in the model's spelling; digest.rotate. -/
import Derived.Test.YtkhodajdionaaaaGreatDoorRows
import Derived.Test.YtkhodajdionaaaaGreatDoorCont
import Derived.Test.YtkhodajdionaaaaGreatDoorShaS
namespace Go.Proofs.YtkhodajdionaaaaGreatDoor
open Go.RowKit
set_option maxRecDepth 100000

def wordV (x : W32) : Value := .int .u32 (x.toNat : Int)

theorem ofInt_toNat (x : W32) : BitVec.ofInt 32 (x.toNat : Int) = x := by
  apply BitVec.eq_of_toNat_eq
  rw [BitVec.toNat_ofInt]
  have := x.isLt
  show ((x.toNat : Int) % 4294967296).toNat = _
  omega
theorem wrap_u32 (x : W32) : IntKind.u32.wrap (x.toNat : Int) = (x.toNat : Int) := by
  have := x.isLt
  show (x.toNat : Int) % 4294967296 = _
  omega
theorem xor_w (x y : W32) : bits .xor .u32 (x.toNat : Int) (y.toNat : Int) = ((x ^^^ y).toNat : Int) := by
  show IntKind.u32.wrap ((BitVec.ofInt 32 (x.toNat : Int) ^^^ BitVec.ofInt 32 (y.toNat : Int)).toNat : Int) = _
  rw [ofInt_toNat, ofInt_toNat, wrap_u32]
theorem or_w (x y : W32) : bits .or .u32 (x.toNat : Int) (y.toNat : Int) = ((x ||| y).toNat : Int) := by
  show IntKind.u32.wrap ((BitVec.ofInt 32 (x.toNat : Int) ||| BitVec.ofInt 32 (y.toNat : Int)).toNat : Int) = _
  rw [ofInt_toNat, ofInt_toNat, wrap_u32]
theorem and_w (x y : W32) : bits .and .u32 (x.toNat : Int) (y.toNat : Int) = ((x &&& y).toNat : Int) := by
  show IntKind.u32.wrap ((BitVec.ofInt 32 (x.toNat : Int) &&& BitVec.ofInt 32 (y.toNat : Int)).toNat : Int) = _
  rw [ofInt_toNat, ofInt_toNat, wrap_u32]

theorem shl_w (x : W32) (k : Nat) : (x.toNat : Int) * 2 ^ k % 4294967296 = ((x <<< k).toNat : Int) := by
  rw [BitVec.toNat_shiftLeft, Nat.shiftLeft_eq, show (2 : Nat) ^ 32 = 4294967296 from rfl, Int.natCast_emod, Int.natCast_mul, Int.natCast_pow]
  rfl
theorem shr_w (x : W32) (k : Nat) : (x.toNat : Int) / 2 ^ k = ((x >>> k).toNat : Int) := by
  rw [BitVec.toNat_ushiftRight, Nat.shiftRight_eq_div_pow, Int.natCast_ediv, Int.natCast_pow]
  rfl
theorem add_w (x y : W32) : ((x.toNat : Int) + (y.toNat : Int)) % 4294967296 = ((x + y).toNat : Int) := by
  rw [BitVec.toNat_add, show (2 : Nat) ^ 32 = 4294967296 from rfl, Int.natCast_emod, Int.natCast_add]
  rfl

theorem addW (x y : W32) : IntKind.u32.wrap ((x.toNat : Int) + (y.toNat : Int)) = ((x + y).toNat : Int) := add_w x y
theorem sig0_w (x : W32) : bits .xor .u32 (bits .xor .u32 ((rotR x 7).toNat : Int) ((rotR x 18).toNat : Int)) ((x.toNat : Int) / 8) = ((sig0 x).toNat : Int) := by
  have e := shr_w x 3
  rw [show (2 : Int) ^ 3 = 8 from rfl] at e
  rw [e, xor_w, xor_w, sig0]
theorem sig1_w (x : W32) : bits .xor .u32 (bits .xor .u32 ((rotR x 17).toNat : Int) ((rotR x 19).toNat : Int)) ((x.toNat : Int) / 1024) = ((sig1 x).toNat : Int) := by
  have e := shr_w x 10
  rw [show (2 : Int) ^ 10 = 1024 from rfl] at e
  rw [e, xor_w, xor_w, sig1]

theorem not_w (x : W32) : bits .xor .u32 (if IntKind.u32.signed = true then -1 else IntKind.u32.max) (x.toNat : Int) = ((~~~x).toNat : Int) := by
  have e : (if IntKind.u32.signed = true then -1 else IntKind.u32.max) = (((BitVec.allOnes 32).toNat : Nat) : Int) := rfl
  rw [e, xor_w, BitVec.allOnes_xor]

theorem rot_count : ∀ n : Fin 32, 1 ≤ n.val → bits .and .u64 (IntKind.u64.wrap (-(n.val : Int))) 31 = 32 - (n.val : Int) := by decide +kernel

theorem rotL_any (x : W32) (n : Nat) (w : World) (hn : 1 ≤ n ∧ n ≤ 31) :
    Calls Tryz.prog 141 #[wordV x, .int .i64 (-(n : Int))] w (Ret (wordV (rotR x n)) w) := by
  unfold wordV
  have h := rot_count ⟨n, by omega⟩ hn.1
  have h : bits .and .u64 (IntKind.u64.wrap (-(n : Int))) 31 = 32 - (n : Int) := h
  go_enter Tryz.func141, Tryz.ntmps141
  go_wp2_with fail
  go_ret
  refine ⟨ret_i64 ?_, rfl⟩
  rw [shl_w, shr_w, or_w, show 32 - (32 - n) = n by omega, rotR, BitVec.or_comm]

theorem rotate_any (x : W32) (n : Nat) (w : World) (hn : 1 ≤ n ∧ n ≤ 31) :
    Calls Tryz.prog 135 #[wordV x, .int .i64 (n : Int)] w (Ret (wordV (rotR x n)) w) := by
  go_enter Tryz.func135, Tryz.ntmps135
  go_wp2_with (go_at_call 141; ((with_reducible refine (rotL_any _ _ _ hn).mono ?_); rintro e w' ⟨rfl, rfl⟩))
  go_ret
  exact ⟨rfl, rfl⟩
theorem rotate_i (x : W32) (n : Int) (w : World) (hn : 1 ≤ n ∧ n ≤ 31) :
    Calls Tryz.prog 135 #[.int .u32 (x.toNat : Int), .int .i64 n] w (Ret (.int .u32 ((rotR x n.toNat).toNat : Int)) w) := by
  obtain ⟨m, rfl⟩ : ∃ m : Nat, n = (m : Int) := ⟨n.toNat, by omega⟩
  exact rotate_any x m w (by omega)
end Go.Proofs.YtkhodajdionaaaaGreatDoor
