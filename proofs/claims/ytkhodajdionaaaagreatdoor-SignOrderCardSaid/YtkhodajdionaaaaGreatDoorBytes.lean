/- Bytes in rows: the run equations for strings. Over any program. -/
import Derived.Test.YtkhodajdionaaaaGreatDoorBase
namespace Go.Proofs.YtkhodajdionaaaaGreatDoor
open Go.RowKit

def bs (s : ByteArray) : List UInt8 := s.data.toList
def byteV (b : UInt8) : Value := .int .u8 (b.toNat : Int)
def byteVals (l : List UInt8) : List Value := l.map byteV
def strV (l : List UInt8) : Value := .string ⟨l.toArray⟩

theorem bs_length (s : ByteArray) : (bs s).length = s.size := rfl
theorem strV_bs (s : ByteArray) : strV (bs s) = .string s := rfl
theorem bs_mk (l : List UInt8) : bs ⟨l.toArray⟩ = l := rfl
theorem byteVals_length (l : List UInt8) : (byteVals l).length = l.length := by simp [byteVals]
theorem byteVals_one (l : List UInt8) : ∀ u ∈ byteVals l, u.oneCell' = true := by
  intro u hu; simp only [byteVals, List.mem_map] at hu; obtain ⟨b, _, rfl⟩ := hu; rfl
theorem byteVals_append (a b : List UInt8) : byteVals (a ++ b) = byteVals a ++ byteVals b := by simp [byteVals]
theorem byteVals_take (a : List UInt8) (k : Nat) : byteVals (a.take k) = (byteVals a).take k := by simp [byteVals]
theorem byteVals_drop (a : List UInt8) (k : Nat) : byteVals (a.drop k) = (byteVals a).drop k := by simp [byteVals]
theorem byteVals_replicate (k : Nat) (x : UInt8) : byteVals (List.replicate k x) = List.replicate k (byteV x) := by simp [byteVals]

/-- Writing a string to contents: P24's words. -/
def putL (c : List UInt8) (off : Nat) (s : List UInt8) : List UInt8 :=
  (c ++ List.replicate (off + s.length - c.length) 0).take off ++ s ++ (c ++ List.replicate (off + s.length - c.length) 0).drop (off + s.length)

theorem putL_length (c : List UInt8) (off : Nat) (s : List UInt8) : (putL c off s).length = max c.length (off + s.length) := by
  simp [putL]; omega

section
variable {P : Program} (w : World)

theorem copy_string (t tS ty e : TypeId) (i : TypeInfo) (ht : P.underlying t = some (.slice e)) (hi : P.info? e = some i) (_hsize : i.size = 1)
    (g off n cap : Nat) (cur : Array Value) (hg : w.heap[g]? = some (.cells cur e (0, 0))) (hn : n ≤ cap) (hcs : cur.size = cap)
    (ao : Option Addr) (dCap : Nat) (s : ByteArray) (hfit : off + s.size ≤ n) (ha : 0 < s.size → ao = some ⟨g, off, none⟩) :
    (Builtin.copy_ #[t, tS] ty #[.slice ao (n - off) dCap, .string s]).run P w = .ok (.int .i64 (s.size : Int)) (w.setRow g (cur.toList.take off ++ byteVals (bs s) ++ cur.toList.drop (off + s.size)).toArray) := by
  have hmin : Nat.min s.size (n - off) = s.size := Nat.min_eq_left (by omega)
  have htk : List.take s.size (List.map (fun b : UInt8 => Value.int .u8 (b.toNat : Int)) s.data.toList) = byteVals (bs s) := List.take_of_length_le (by rw [List.length_map]; exact Nat.le_refl _)
  by_cases h0 : 0 < s.size
  · have hao := ha h0
    subst hao
    have hst := run_storeCells_at P g off e (byteVals (bs s)) 0 cur w hg (by rw [byteVals_length, bs_length]; omega) (byteVals_one _)
    simp only [Nat.add_zero, byteVals_length, bs_length] at hst
    simp [Builtin.copy_, run_underlying ht, sizeOf, typeInfo, hi, Builtin.lenOf, hmin, Builtin.firstCells, goInt]
    rw [htk, hst]
    simp
  · have hz : s.size = 0 := by omega
    have hbn : bs s = [] := List.eq_nil_of_length_eq_zero (by rw [bs_length, hz])
    have hself := setRow_self w g cur e (0, 0) hg
    rw [hbn]
    simp only [byteVals, List.map_nil, List.append_nil, hz, Nat.add_zero, List.take_append_drop, Array.toArray_toList, hself]
    cases ao <;> simp [Builtin.copy_, run_underlying ht, sizeOf, typeInfo, hi, Builtin.lenOf, hz, Builtin.firstCells, goInt, storeCells]

theorem conv_bytes (src dst e : TypeId) (hs : P.underlying src = some (.slice e)) (he : P.underlying e = some (.int .u8)) (hd : P.underlying dst = some .string)
    (g : Nat) (cur : Array Value) (fr : Nat × Nat) (t : TypeId) (hg : w.heap[g]? = some (.cells cur t fr)) (c : List UInt8) (htk : cur.toList.take c.length = byteVals c) (o m k : Nat) (h : o + m ≤ c.length) :
    (convert src dst (.slice (some ⟨g, o, none⟩) m k)).run P w = .ok (strV ((c.drop o).take m)) w := by
  have hlen : ((c.drop o).take m).length = m := by simp; omega
  have hr := run_convert_bytes_back (P := P) w src dst e ⟨g, o, none⟩ k ((c.drop o).take m) hs he hd (by
    intro j hj
    have hj' : j < m := by omega
    have hadd : (⟨g, o, none⟩ : Addr).add j = ⟨g, o + j, none⟩ := by unfold Addr.add; split <;> simp_all
    rw [hadd, cell_of_row w g (o + j) cur t fr hg]
    have h1 : (cur.toList.take c.length)[o + j]? = (byteVals c)[o + j]? := by rw [htk]
    rw [List.getElem?_take, if_pos (by omega)] at h1
    rw [← Array.getElem?_toList, h1]
    simp only [byteVals, List.getElem?_map]
    rw [List.getElem?_eq_getElem (by omega)]
    simp [byteV])
  rw [hlen] at hr
  exact hr

theorem conv_row (src dst e : TypeId) (hs : P.underlying src = some (.slice e)) (he : P.underlying e = some (.int .u8)) (hd : P.underlying dst = some .string)
    (v : Value) (c : List UInt8) (h : w.ownsRow 0 e 1 v c.length (byteVals c)) : (convert src dst v).run P w = .ok (strV c) w := by
  rcases h.2 with ⟨rfl, h0⟩ | ⟨g, cap, cur, rfl, _, hg, _, _, _, htk⟩
  · have hc : c = [] := List.eq_nil_of_length_eq_zero h0
    subst hc
    rw [run_convert_bytes_string w src dst e none 0 0 hs he hd]
    rfl
  · rw [Nat.mul_one] at htk
    have := conv_bytes (P := P) w src dst e hs he hd g cur _ e hg c htk 0 c.length cap (by omega)
    simpa using this

end
end Go.Proofs.YtkhodajdionaaaaGreatDoor
