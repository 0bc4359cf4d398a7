/-
 DERIVED: THE SHELF's CONTRACTS AT THIS DUMP, IN PLAIN WORDS (tools/lay-plain.mjs out of 'TryzShelf.lean', which tools/lay-shelf.mjs wrote): THE SAME DECLARATIONS UNDER THE SAME NAMES: 'import', 'namespace', 'open', 'def', 'theorem' AND NOTHING ELSE: no command of the shelf's: FOR A HAND-IN. Each laying: the table of numbers ('.._ren') and one theorem, a field a fact of the dump's own or the kernel's comparison; each contract: ONE APPLICATION.
-/
import Derived.Shelf.Strings.OnBuilder
import Derived.Shelf.Small.Utf8
import Derived.Shelf.Strconv.Itoa3
import Derived.Shelf.Strconv.ErrVarAll
import Derived.Shelf.Strings.Shaped
import Derived.Shelf.Strings.SplitShaped
import Derived.Shelf.Strings.Runes
import Derived.Shelf.Strings.AsciiSet
import Derived.Shelf.Strings.Repeat
import Derived.Shelf.Unicode.DecodeSlow
import Derived.Shelf.Strings.BuilderCap
import Derived.Shelf.Slices.Turned
import Derived.Shelf.Slices.Cells
import Derived.Test.YtkhjolbbpdaplaaGreatDoorProg
namespace Go.Proofs.Tryz
open Go.Shelf
def lays169_ren : Go.Shelf.Ren := ⟨fun | 169 => 129 | n => n, fun | 70 => 170 | 9 => 9 | 0 => 0 | 72 => 172 | 37 => 95 | 127 => 222 | 3 => 3 | 5 => 5 | n => n, fun | n => n⟩
theorem lays169 : Go.Proofs.Lays.n169 prog lays169_ren := by repeat' first | kernel_rfl | (intro _; kernel_rfl) | decide | constructor
theorem Builder_Extra_169 : Builder.Extra prog lays169_ren := by repeat' first | kernel_rfl | (intro _; kernel_rfl) | decide | constructor
def lays156_ren : Go.Shelf.Ren := ⟨fun | 156 => 56 | 165 => 127 | 166 => 128 | 169 => 129 | 240 => 183 | 241 => 184 | 276 => 240 | 277 => 241 | n => n, fun | 31 => 123 | 9 => 9 | 3 => 3 | 4 => 4 | 0 => 0 | 20 => 20 | 72 => 172 | 76 => 151 | 70 => 170 | 37 => 95 | 75 => 150 | 127 => 222 | 164 => 271 | 5 => 5 | 80 => 108 | n => n, fun | n => n⟩
theorem lays156 : Go.Proofs.Lays.n156 prog lays156_ren := by repeat' first | kernel_rfl | (intro _; kernel_rfl) | decide | constructor
theorem Builder_Extra_156 : Builder.Extra prog lays156_ren := by repeat' first | kernel_rfl | (intro _; kernel_rfl) | decide | constructor
open Go.RowKit in
theorem strings_Join (bk o c : Nat) (xs : List ByteArray) (sep : ByteArray) (w : World) (hcells : ∀ (j : Nat) x, xs[j]? = some x → w.cell? ⟨bk, o + j, none⟩ = some (.string x)) (hbk : bk < w.heap.size) (hN : xs.length ≤ 140737488355328) (hcap : xs.length ≤ c) (hlen : (Lib.join (xs.map (·.data.toList)) sep.data.toList).length ≤ 140737488355328) :
 Calls prog 56 #[.slice (some ⟨bk, o, none⟩) xs.length c, .string sep] w fun e w' => e = .returned (.string ⟨(Lib.join (xs.map (·.data.toList)) sep.data.toList).toArray⟩) ∧ Below w.heap.size w w' := Any.strings_Join lays156 Builder_Extra_156 bk o c xs sep w hcells hbk hN hcap hlen
def lays137_ren : Go.Shelf.Ren := ⟨fun | 137 => 176 | 217 => 227 | 266 => 274 | n => n, fun | 9 => 9 | 5 => 5 | 3 => 3 | n => n, fun | n => n⟩
theorem lays137 : Go.Proofs.Lays.n137 prog lays137_ren := by repeat' first | kernel_rfl | (intro _; kernel_rfl) | decide | constructor
open Go.RowKit in
theorem strings_IndexByte (s : ByteArray) (c : Int) (w : World) :
 Calls prog 176 #[.string s, .int .u8 c] w fun e w' => e = .returned (.int .i64 (Lib.indexByte s.data.toList c.toNat.toUInt8)) ∧ w' = w := Any.strings_IndexByte lays137 s c w
open Go.RowKit in
theorem Builder_String_k (B b : Nat) (l : List UInt8) (w : World) (h : Lib.IsBuilderF 172 5 B b (Lib.byteCells l) w) (h0 : l ≠ []) :
 Calls prog 129 #[.pointer (some ⟨b, 0, none⟩)] w fun e w' => e = .returned (.string ⟨l.toArray⟩) ∧ (Lib.IsBuilderF 172 5 B b (Lib.byteCells l) w' ∧ Below B w w' ∧ Lib.OthersKept 5 (some b) w w') := Any.Builder_String_k lays169 Builder_Extra_169 B b l w h h0
def lays129_ren : Go.Shelf.Ren := ⟨fun | 129 => 114 | n => n, fun | 53 => 121 | 3 => 3 | 4 => 4 | 46 => 162 | 5 => 5 | 9 => 9 | n => n, fun | n => n⟩
theorem lays129 : Go.Proofs.Lays.n129 prog lays129_ren := by repeat' first | kernel_rfl | (intro _; kernel_rfl) | decide | constructor
theorem bits_Len64 (x : Int) (w : World) (h0 : 0 ≤ x) (h1 : x ≤ 18446744073709551615) :
 Calls prog 114 #[.int .u64 x] w fun e w' => e = .returned (.int .i64 (Lib.bitLen x.toNat)) ∧ w' = w := Any.bits_Len64 lays129 x w h0 h1
def laysM171_ren : Go.Shelf.Ren := ⟨fun | 171 => 54 | 243 => 122 | 246 => 179 | 283 => 233 | 284 => 234 | 285 => 235 | 286 => 236 | 129 => 114 | 317 => 279 | 318 => 280 | 319 => 281 | 320 => 282 | 337 => 307 | 338 => 308 | n => n, fun | 3 => 3 | 9 => 9 | 2 => 2 | 4 => 4 | 171 => 263 | 0 => 0 | 53 => 121 | 37 => 95 | 5 => 5 | 173 => 265 | 212 => 299 | 51 => 163 | 20 => 20 | 213 => 300 | 46 => 162 | 232 => 59 | 233 => 216 | n => n, fun | 17 => 2 | 18 => 8 | 19 => 9 | n => n⟩
theorem laysM171 : Go.Proofs.LaysM.n171 prog laysM171_ren := by repeat' first | kernel_rfl | (intro _; kernel_rfl) | decide | constructor
open Go.RowKit Go.Sort Go.Lib in
theorem strconv_Itoa (n : Int) (h0 : -9223372036854775808 ≤ n) (h1 : n ≤ 9223372036854775807) (w : World) (htab : Lib.TabIs prog w "internal/strconv.uint64pow10" .u64 Lib.pow10Tab) :
 Calls prog 54 #[.int .i64 n] w fun e w' => e = .returned (.string ⟨(Lib.itoa n).toArray⟩) ∧ ∃ k os, w' = grow (w.drewN k) os := Any.strconv_Itoa laysM171 n h0 h1 w htab
def laysC172_ren : Go.Shelf.Ren := ⟨fun | 172 => 105 | 244 => 174 | 245 => 175 | 247 => 222 | 279 => 223 | 280 => 224 | 281 => 225 | 282 => 226 | 287 => 271 | 316 => 272 | 171 => 54 | 205 => 273 | 321 => 301 | 322 => 302 | 243 => 122 | 246 => 179 | 283 => 233 | 284 => 234 | 285 => 235 | 286 => 236 | 129 => 114 | 317 => 279 | 318 => 280 | 319 => 281 | 320 => 282 | 337 => 307 | 338 => 308 | n => n, fun | 9 => 9 | 3 => 3 | 75 => 150 | 76 => 151 | 4 => 4 | 5 => 5 | 167 => 250 | 37 => 95 | 0 => 0 | 85 => 251 | 2 => 2 | 168 => 253 | 53 => 121 | 175 => 289 | 46 => 162 | 210 => 292 | 127 => 222 | 145 => 318 | 143 => 316 | 21 => 21 | 171 => 263 | 173 => 265 | 212 => 299 | 51 => 163 | 20 => 20 | 213 => 300 | 232 => 59 | 233 => 216 | 80 => 108 | n => n, fun | 15 => 0 | 16 => 1 | 17 => 2 | 18 => 8 | 19 => 9 | n => n⟩
theorem laysC172 : Go.Proofs.LaysC.n172 prog laysC172_ren := by repeat' first | kernel_rfl | (intro _; kernel_rfl) | decide | constructor
open Go.RowKit in
theorem strconv_Atoi_ok (s : ByteArray) (hmax : s.size ≤ 9223372036854775806) (v : Int) (h : Lib.atoiAll s.data.toList = .ok v) (w : World) :
 Calls prog 105 #[.string s] w fun e w' => e = .returned (.tuple #[.int .i64 v, .nilIface]) ∧ (w' = w ∨ ∃ t, w' = Lib.bytesWorld w 5 t) := Any.strconv_Atoi_ok laysC172 s hmax v h w
open Go.RowKit in
theorem strconv_Atoi_syntax_var (s : ByteArray) (hlim : s.size ≤ 281474976710656) (h : Lib.atoiAll s.data.toList = .«syntax») (tp : TypeId) (p : Value) (w : World) (hvar : w.var? prog "strconv.ErrSyntax" = some #[.iface tp p]) :
 Calls prog 105 #[.string s] w fun e w' => ∃ N, e = .returned (.tuple #[.int .i64 0, .iface 253 (.pointer (some ⟨N, 0, none⟩))]) ∧ w.heap.size ≤ N ∧ w'.heap[N]? = some (.cells #[.string ⟨#[65, 116, 111, 105]⟩, .string s, .iface tp p] 292 (0, 0)) ∧ Below w.heap.size w w' := Any.strconv_Atoi_syntax_var laysC172 s hlim h tp p w hvar
open Go.RowKit in
theorem strconv_Atoi_range_var (s : ByteArray) (hlim : s.size ≤ 281474976710656) (h : Lib.atoiAll s.data.toList = .range) (tp : TypeId) (p : Value) (w : World) (hvar : w.var? prog "strconv.ErrRange" = some #[.iface tp p]) :
 Calls prog 105 #[.string s] w fun e w' => ∃ N, e = .returned (.tuple #[.int .i64 (Lib.atoiSat s.data.toList), .iface 253 (.pointer (some ⟨N, 0, none⟩))]) ∧ w.heap.size ≤ N ∧ w'.heap[N]? = some (.cells #[.string ⟨#[65, 116, 111, 105]⟩, .string s, .iface tp p] 292 (0, 0)) ∧ Below w.heap.size w w' := Any.strconv_Atoi_range_var laysC172 s hlim h tp p w hvar
def lays145_ren : Go.Shelf.Ren := ⟨fun | 145 => 173 | 220 => 221 | 219 => 270 | 217 => 227 | 225 => 298 | 224 => 299 | 267 => 300 | 266 => 274 | 314 => 320 | n => n, fun | 9 => 9 | 4 => 4 | 59 => 212 | 3 => 3 | 5 => 5 | 46 => 162 | 146 => 267 | 51 => 163 | n => n, fun | 1 => 3 | n => n⟩
theorem lays145 : Go.Proofs.Lays.n145 prog lays145_ren := by repeat' first | kernel_rfl | (intro _; kernel_rfl) | decide | constructor
open Go.RowKit Go.Lib in
theorem strings_Cut (s sep : ByteArray) (m : Int) (w : World) (hs : s.size < 4294967281) (hm : w.cell? ⟨3, 0, none⟩ = some (.int .i64 m)) :
 Calls prog 173 #[.string s, .string sep] w fun e w' => e = .returned (.tuple #[.string ⟨(Lib.cut s.data.toList sep.data.toList).1.toArray⟩, .string ⟨(Lib.cut s.data.toList sep.data.toList).2.1.toArray⟩, .bool (Lib.cut s.data.toList sep.data.toList).2.2]) ∧ ∃ n, w' = w.drewN n := Any.strings_Cut lays145 s sep m w hs hm
def lays206_ren : Go.Shelf.Ren := ⟨fun | 206 => 239 | n => n, fun | 9 => 9 | 4 => 4 | 3 => 3 | n => n, fun | n => n⟩
theorem lays206 : Go.Proofs.Lays.n206 prog lays206_ren := by repeat' first | kernel_rfl | (intro _; kernel_rfl) | decide | constructor
open Go.RowKit Go.Lib in
theorem stringslite_HasPrefix (s p : ByteArray) (w : World) :
 Calls prog 239 #[.string s, .string p] w fun e w' => e = .returned (.bool (Lib.hasPrefix s.data.toList p.data.toList)) ∧ w' = w := Any.stringslite_HasPrefix lays206 s p w
def lays146_ren : Go.Shelf.Ren := ⟨fun | 146 => 204 | 221 => 246 | 268 => 287 | 138 => 288 | 143 => 289 | 195 => 309 | 197 => 277 | 218 => 310 | 219 => 270 | 260 => 305 | 217 => 227 | 225 => 298 | 224 => 299 | 267 => 300 | 266 => 274 | 314 => 320 | n => n, fun | 9 => 9 | 31 => 123 | 3 => 3 | 4 => 4 | 0 => 0 | 105 => 295 | 21 => 21 | 5 => 5 | 46 => 162 | 119 => 329 | 139 => 332 | 138 => 331 | 146 => 267 | 51 => 163 | n => n, fun | 1 => 3 | 3 => 6 | 4 => 7 | n => n⟩
theorem lays146 : Go.Proofs.Lays.n146 prog lays146_ren := by repeat' first | kernel_rfl | (intro _; kernel_rfl) | decide | constructor
open Go.RowKit Go.Lib in
theorem strings_Split (s sep : ByteArray) (m : Int) (w : World) (hs : s.size < 4294967281) (hm : w.cell? ⟨3, 0, none⟩ = some (.int .i64 m)) (h1 : 1 ≤ sep.size) :
 Calls prog 204 #[.string s, .string sep] w fun e w' =>
 e = .returned (.slice (some ⟨w.heap.size, 0, none⟩) (Lib.countB s sep + 1) (Lib.countB s sep + 1)) ∧ w' = w.alloc (.cells ((Lib.splitB sep 0 (Lib.countB s sep) s).map Value.string).toArray 9) := Any.strings_Split lays146 (by kernel_rfl) s sep m w hs hm h1
def lays147_ren : Go.Shelf.Ren := ⟨fun | 147 => 251 | 221 => 246 | 268 => 287 | 138 => 288 | 143 => 289 | 195 => 309 | 197 => 277 | 218 => 310 | 219 => 270 | 260 => 305 | 217 => 227 | 225 => 298 | 224 => 299 | 267 => 300 | 266 => 274 | 314 => 320 | n => n, fun | 9 => 9 | 3 => 3 | 31 => 123 | 4 => 4 | 0 => 0 | 105 => 295 | 21 => 21 | 5 => 5 | 46 => 162 | 119 => 329 | 139 => 332 | 138 => 331 | 146 => 267 | 51 => 163 | n => n, fun | 1 => 3 | 3 => 6 | 4 => 7 | n => n⟩
theorem lays147 : Go.Proofs.Lays.n147 prog lays147_ren := by repeat' first | kernel_rfl | (intro _; kernel_rfl) | decide | constructor
open Go.RowKit Go.Lib in
theorem strings_SplitN (s sep : ByteArray) (n : Nat) (m : Int) (w : World) (hs : s.size < 4294967281) (hm : w.cell? ⟨3, 0, none⟩ = some (.int .i64 m)) (h1 : 1 ≤ sep.size) (hn : 1 ≤ n) (hn63 : n ≤ 9223372036854775807) :
 Calls prog 251 #[.string s, .string sep, .int .i64 n] w fun e w' =>
 e = .returned (.slice (some ⟨w.heap.size, 0, none⟩) (Lib.splitB sep 0 (min n (s.size + 1) - 1) s).length (min n (s.size + 1))) ∧ w' = w.alloc (.cells (Lib.cellsOf (Lib.splitB sep 0 (min n (s.size + 1) - 1) s) (min n (s.size + 1))) 9) := Any.strings_SplitN lays147 (by kernel_rfl) s sep n m w hs hm h1 hn hn63
def lays227_ren : Go.Shelf.Ren := ⟨fun | 227 => 230 | n => n, fun | 9 => 9 | 116 => 258 | 4 => 4 | 0 => 0 | 3 => 3 | 5 => 5 | n => n, fun | n => n⟩
theorem lays227 : Go.Proofs.Lays.n227 prog lays227_ren := by repeat' first | kernel_rfl | (intro _; kernel_rfl) | decide | constructor
open Go.RowKit Go.Lib in
theorem strings_makeASCIISet (hv116 : ∀ w, (zeroValue 258).run prog w = .ok (.agg (Array.replicate 256 (.bool false))) w) (chars : ByteArray) (w : World) (hs : chars.size < 4294967281) (hascii : ∀ (j : Nat) b, chars.data.toList[j]? = some b → b.toNat < 128) :
 Calls prog 230 #[.string chars] w fun e w' => e = .returned (.tuple #[.agg (Lib.setCells chars.data.toList), .bool true]) ∧ w' = w.alloc (.cells (Lib.setCells chars.data.toList) 258) := Any.strings_makeASCIISet lays227 hv116 (by kernel_rfl) chars w hs hascii
def lays228_ren : Go.Shelf.Ren := ⟨fun | 228 => 276 | n => n, fun | 124 => 262 | 5 => 5 | 4 => 4 | 0 => 0 | 116 => 258 | n => n, fun | n => n⟩
theorem lays228 : Go.Proofs.Lays.n228 prog lays228_ren := by repeat' first | kernel_rfl | (intro _; kernel_rfl) | decide | constructor
open Go.RowKit Go.Lib in
theorem asciiSet_contains (b : Nat) (x : UInt8) (v : Bool) (w : World) (hc : w.cell? ⟨b, x.toNat, none⟩ = some (.bool v)) :
 Calls prog 276 #[.pointer (some ⟨b, 0, none⟩), .int .u8 x.toNat] w fun e w' => e = .returned (.bool v) ∧ w' = w := Any.asciiSet_contains lays228 b x v w hc
def lays105_ren : Go.Shelf.Ren := ⟨fun | 105 => 125 | 212 => 180 | 99 => 181 | 165 => 127 | 166 => 128 | 170 => 182 | 169 => 129 | 263 => 237 | 264 => 238 | 206 => 239 | 240 => 183 | 241 => 184 | 276 => 240 | 277 => 241 | n => n, fun | 9 => 9 | 3 => 3 | 4 => 4 | 20 => 20 | 0 => 0 | 46 => 162 | 109 => 220 | 5 => 5 | 72 => 172 | 76 => 151 | 51 => 163 | 146 => 267 | 53 => 121 | 148 => 269 | 70 => 170 | 37 => 95 | 75 => 150 | 127 => 222 | 164 => 271 | 80 => 108 | n => n, fun | n => n⟩
theorem lays105 : Go.Proofs.Lays.n105 prog lays105_ren := by repeat' first | kernel_rfl | (intro _; kernel_rfl) | decide | constructor
theorem Builder_Extra_105 : Builder.Extra prog lays105_ren := by repeat' first | kernel_rfl | (intro _; kernel_rfl) | decide | constructor
open Go.RowKit Go.Lib in
theorem strings_Repeat (s : ByteArray) (c : Nat) (w : World) (hc : c ≤ 9223372036854775807) (hlen : s.size * c ≤ 140737488355328) :
 Calls prog 125 #[.string s, .int .i64 c] w fun e w' => e = .returned (.string ⟨(Lib.repeatL s.data.toList c).toArray⟩) ∧ Below w.heap.size w w' := Any.strings_Repeat lays105 Builder_Extra_105 s c w hc hlen
def lays107_ren : Go.Shelf.Ren := ⟨fun | 107 => 164 | 108 => 210 | n => n, fun | 28 => 22 | 3 => 3 | 4 => 4 | 0 => 0 | n => n, fun | n => n⟩
theorem lays107 : Go.Proofs.Lays.n107 prog lays107_ren := by repeat' first | kernel_rfl | (intro _; kernel_rfl) | decide | constructor
open Go.Lib in
theorem slices_Contains_int (b off n c : Nat) (zs : List Int) (x : Int) (w : World) (hz : n ≤ zs.length) (hbig : n ≤ 9223372036854775807) (hc : ∀ j, j < zs.length → w.cell? ⟨b, off + j, none⟩ = some (.int .i64 (zs.getD j 0))) :
 Calls prog 164 #[.slice (some ⟨b, off, none⟩) n c, .int .i64 x] w fun e w' => e = .returned (.bool ((zs.take n).contains x)) ∧ w' = w := Any.slices_Contains_int lays107 b off n c zs x w hz hbig hc
def lays110_ren : Go.Shelf.Ren := ⟨fun | 110 => 205 | 109 => 247 | n => n, fun | 31 => 123 | 9 => 9 | 4 => 4 | 3 => 3 | 0 => 0 | n => n, fun | n => n⟩
theorem lays110 : Go.Proofs.Lays.n110 prog lays110_ren := by repeat' first | kernel_rfl | (intro _; kernel_rfl) | decide | constructor
open Go.Lib in
theorem slices_Contains_string (b off n c : Nat) (zs : List ByteArray) (x : ByteArray) (w : World) (hz : n ≤ zs.length) (hbig : n ≤ 9223372036854775807) (hc : ∀ j, j < zs.length → w.cell? ⟨b, off + j, none⟩ = some (.string (zs.getD j ByteArray.empty))) :
 Calls prog 205 #[.slice (some ⟨b, off, none⟩) n c, .string x] w fun e w' => e = .returned (.bool (Lib.containsS (zs.take n) x)) ∧ w' = w := Any.slices_Contains_string lays110 b off n c zs x w hz hbig hc
def laysNm217_ren : Go.Shelf.Ren := ⟨fun | 17 => 126 | n => n, fun | 24 => 123 | 9 => 9 | 3 => 3 | 4 => 4 | 0 => 0 | n => n, fun | n => n⟩
theorem laysNm217 : Go.Proofs.Lays2.n17 prog laysNm217_ren := by repeat' first | kernel_rfl | (intro _; kernel_rfl) | decide | constructor
open Go.RowKit Go.Lib Go.Sort in
theorem slices_Reverse_string (blk off cap : Nat) (zs : List (List UInt8)) (w : World) (hH : Holds encStr w blk off zs.toArray) (hsz : zs.length ≤ 9223372036854775807) :
 Calls prog 126 #[.slice (some ⟨blk, off, none⟩) zs.length cap] w fun e w' => e = .returned (.tuple #[]) ∧ ∃ n, w' = putRow encStr (Sort.ahead w n) blk off zs.reverse.toArray := Any.slices_Reverse_string laysNm217 blk off cap zs w hH hsz
end Go.Proofs.Tryz
