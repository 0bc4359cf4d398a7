/- sortesref27: mod, Hash, Act.Round, Act.Draw, New. The laws' machine: a kiosk with its disk, the power perhaps failing. Acts in a slice. sorteslaw27.machine.again: a kiosk opened on a crash of its disk. sorteslaw27.machine.call: an act carried out on the kiosk. What the laws over crashes share. -/
import Derived.Test.YtabnlklkfgojgaaGreatDoorGM
import Derived.Test.YtabnlklkfgojgaaGreatDoorGN
import Derived.Test.YtabnlklkfgojgaaGreatDoorGZ
namespace Go.Proofs.YtabnlklkfgojgaaGreatDoor
open Go.RowKit
set_option maxRecDepth 100000

theorem mod_add (a m : Int) (hm : 0 < m ∧ m ≤ 4611686018427387904) : ∃ z : Int, a.tmod m = z ∧ IntKind.i64.wrap (z + m) = z + m ∧ (z + m).tmod m = a % m := by
  have e1 := Int.tmod_eq_emod (a := a) (b := m)
  have e3 := Int.emod_nonneg a (show m ≠ 0 by omega)
  have e4 := Int.emod_lt_of_pos a (show 0 < m by omega)
  obtain ⟨z, hz⟩ : ∃ z, z = a.tmod m := ⟨_, rfl⟩
  have hz1 : -m < z ∧ z < m ∧ (z = a % m ∨ z = a % m - m) := by
    rw [hz]
    split at e1
    · rw [e1]; omega
    · rw [e1]; omega
  refine ⟨z, hz.symm, IntWalk.i64_in _ (by omega), ?_⟩
  rw [Int.tmod_eq_emod_of_nonneg (by omega)]
  rcases hz1.2.2 with h | h
  · rw [h, Int.add_emod_right, Int.emod_emod]
  · rw [h, show a % m - m + m = a % m by omega, Int.emod_emod]
theorem mod27_any (a m : Int) (w : World) (hm : 0 < m ∧ m ≤ 4611686018427387904) : Calls Tryz.prog 73 #[.int .i64 a, .int .i64 m] w (Ret (.int .i64 (a % m)) w) := by
  obtain ⟨z, hz, w1, w2⟩ := mod_add a m hm
  obtain ⟨r, hr⟩ : ∃ r, r = a % m := ⟨_, rfl⟩
  rw [← hr] at w2 ⊢
  have hm0 : ¬ m = 0 := by omega
  clear hr
  go_enter Tryz.func73, Tryz.ntmps73
  go_wp2_with fail
  go_ret
  exact ⟨rfl, rfl⟩
structure Act27 where
  what : Int
  n : Int
  wild : Bool
def Act27.ok (a : Act27) : Prop := i64in a.what ∧ i64in a.n
def Act27.cs (a : Act27) : Array Value := #[.int .i64 a.what, .int .i64 a.n, .bool a.wild]
def hashN (n : Int) : List UInt8 := hashB [UInt8.ofNat (n % 251).toNat, UInt8.ofNat ((n.tdiv 251) % 251).toNat, 7]
theorem hashN_len (n : Int) : (hashN n).length = 32 := rfl
theorem byte_mod (n : Int) : ((UInt8.ofNat (n % 251).toNat).toNat : Int) = n % 251 := by
  rw [UInt8.toNat_ofNat']
  omega
theorem hash3_built (x y : UInt8) : Tryz.prog.built 31 [(0, .int .u8 (x.toNat : Int)), (1, .int .u8 (y.toNat : Int)), (2, .int .u8 7)] = some (byteVals (hashB [x, y, 7])).toArray := by kernel_rfl
set_option maxHeartbeats 1000000 in
theorem rHash_any (n : Int) (hn : i64in n) (w : World) : Calls Tryz.prog 43 #[.int .i64 n] w (Mk (.agg (byteVals (hashN n)).toArray) w) := by
  obtain ⟨x, hx⟩ : ∃ x, x = UInt8.ofNat (n % 251).toNat := ⟨_, rfl⟩
  obtain ⟨y, hy⟩ : ∃ y, y = UInt8.ofNat ((n.tdiv 251) % 251).toNat := ⟨_, rfl⟩
  have ex : n % 251 = (x.toNat : Int) := by rw [hx, byte_mod]
  have ey : (n.tdiv 251) % 251 = (y.toNat : Int) := by rw [hy, byte_mod]
  have hH0 : (byteVals (hashN n)).toArray = (byteVals (hashB [x, y, 7])).toArray := by unfold hashN; rw [← hx, ← hy]
  obtain ⟨H, hH⟩ : ∃ H, H = (byteVals (hashB [x, y, 7])).toArray := ⟨_, rfl⟩
  rw [hH0, ← hH]
  have HB : Hid (Tryz.prog.built 31 [(0, .int .u8 (x.toNat : Int)), (1, .int .u8 (y.toNat : Int)), (2, .int .u8 7)] = some H) := by show _ = _; rw [hH]; exact hash3_built x y
  obtain ⟨HI, HO, HZ⟩ := hash_let (l := hashB [x, y, 7]) rfl H hH
  have M1 : Hid (∀ W, Calls Tryz.prog 73 #[.int .i64 n, .int .i64 251] W (Ret (.int .i64 (x.toNat : Int)) W)) := fun W => by rw [← ex]; exact mod27_any n 251 W (by decide)
  have M2 : Hid (∀ W, Calls Tryz.prog 73 #[.int .i64 (n.tdiv 251), .int .i64 251] W (Ret (.int .i64 (y.toNat : Int)) W)) := fun W => by rw [← ey]; exact mod27_any (n.tdiv 251) 251 W (by decide)
  have hdv : IntKind.i64.wrap (n.tdiv 251) = n.tdiv 251 := by
    have hb : -9223372036854775808 ≤ n.tdiv 251 ∧ n.tdiv 251 ≤ 9223372036854775807 := by
      unfold i64in at hn
      by_cases h : 0 ≤ n
      · rw [Int.tdiv_eq_ediv_of_nonneg h]; omega
      · have e : n.tdiv 251 = -((-n).tdiv 251) := by rw [Int.neg_tdiv, Int.neg_neg]
        rw [e, Int.tdiv_eq_ediv_of_nonneg (by omega)]; omega
    exact wrap_in hb.1 hb.2
  have wx : IntKind.u8.wrap (x.toNat : Int) = (x.toNat : Int) := IntWalk.u8_in _ (by have := UInt8.toNat_lt x; omega)
  have wy : IntKind.u8.wrap (y.toNat : Int) = (y.toNat : Int) := IntWalk.u8_in _ (by have := UInt8.toNat_lt y; omega)
  obtain ⟨w1, Z1, W1, R1, hq⟩ := blk_new w 31 (byteVals zero32).toArray H
  have HQ := Lib.hid hq
  clear hx hy ex ey hH0 hH hn hq
  go_enter Tryz.func43, Tryz.ntmps43
  go_wp2_with (first | (go_at_call 73; ((with_reducible refine (M1.out _).mono ?_); rintro e w' ⟨rfl, rfl⟩)) | (go_at_call 73; ((with_reducible refine (M2.out _).mono ?_); rintro e w' ⟨rfl, rfl⟩)) | (refine wpList_build_want (by rfl) 31 _ rfl H (Eq.trans (congrArg (fun z => Tryz.prog.built 31 z) (by kernel_rfl)) HB.out) ?_) | (refine wpList_store_rowAs rfl 31 _ _ rfl w.heap.size H rfl rfl _ _ Z1.out HI.out HZ.out HO.out w1 W1.out ?_))
  exact bodyPost_ret (results_cell_row rfl _ _ w.heap.size _ H _ _ rfl R1.out Tryz.underlying31 rfl HI.out) rfl ⟨rfl, HQ.out⟩
def drawS (a : Act27) : ByteArray :=
  if a.wild then ([⟨#[]⟩, ⟨#[97, 32, 98]⟩, ⟨#[97, 98, 99, 100, 101, 102, 103, 104, 105, 106, 107, 108, 109, 110, 111, 112, 113, 114, 115, 116, 117, 118, 119, 120, 121, 122, 49, 50, 51, 52, 53]⟩, ⟨#[108, 111, 116, 116, 111]⟩, ⟨#[120, 47]⟩] : List ByteArray).getD (a.n % 5).toNat ⟨#[]⟩
  else ([⟨#[108, 111, 116, 116, 111]⟩, ⟨#[112, 108, 97, 99, 101, 115]⟩, ⟨#[112, 97, 110, 101, 108, 95, 49]⟩] : List ByteArray).getD (a.n % 3).toNat ⟨#[]⟩
def roundN (a : Act27) : Int := if a.wild then a.n else 1 + a.n % 6
set_option maxHeartbeats 1000000 in
theorem round_any (a : Act27) (w : World) : Calls Tryz.prog 42 #[.agg a.cs] w (Mk (.int .i64 (roundN a)) w) := by
  obtain ⟨q, n, wild⟩ := a
  have M1 := Lib.hid (fun W => mod27_any n 6 W (by decide))
  have hw : IntKind.i64.wrap (1 + n % 6) = 1 + n % 6 := wrap_in (by omega) (by omega)
  have hq : Hid (Upd [] [] w (w.alloc (.cells #[.int .i64 q, .int .i64 n, .bool wild] 66))) := (Upd.refl _ _).alloc _
  show Calls _ _ #[.agg #[.int .i64 q, .int .i64 n, .bool wild]] _ _
  cases wild
  · go_enter Tryz.func42, Tryz.ntmps42
    go_wp2_with (go_at_call 73; ((with_reducible refine (M1.out _).mono ?_); rintro e w' ⟨rfl, rfl⟩))
    go_ret
    exact ⟨rfl, hq.out⟩
  · go_enter Tryz.func42, Tryz.ntmps42
    go_wp2_with fail
    go_ret
    exact ⟨rfl, hq.out⟩
theorem two_lay (w : World) (A X : Array Value) (T U : TypeId) : ∃ w2, (w.alloc (.cells A T)).alloc (.cells X U) = w2 ∧ w2.heap[w.heap.size]? = some (.cells A T (0, 0)) ∧ w2.heap[w.heap.size + 1]? = some (.cells X U (0, 0)) ∧ Upd [] [] w w2 := by
  have h1 := row_updH (heap_alloc_new w (.cells A T)) ((Upd.refl [] _).alloc (.cells X U))
  have h2 := heap_alloc_new (w.alloc (.cells A T)) (.cells X U)
  rw [World.size_alloc] at h2
  exact ⟨_, rfl, h1, h2, ((Upd.refl [] _).alloc _).alloc _⟩
theorem three_lay (w : World) (A X Y : Array Value) (T U V : TypeId) : ∃ w2, ((w.alloc (.cells A T)).alloc (.cells X U)).alloc (.cells Y V) = w2 ∧ w2.heap[w.heap.size]? = some (.cells A T (0, 0)) ∧ w2.heap[w.heap.size + 2]? = some (.cells Y V (0, 0)) ∧ Upd [] [] w w2 := by
  obtain ⟨w1, hw1, h1, _, hu⟩ := two_lay w A X T U
  rw [hw1]
  have hsz : w1.heap.size = w.heap.size + 2 := by rw [← hw1, World.size_alloc, World.size_alloc]
  have h2 := heap_alloc_new w1 (.cells Y V)
  rw [hsz] at h2
  exact ⟨_, rfl, row_updH h1 ((Upd.refl [] _).alloc _), h2, hu.trans ((Upd.refl [] _).alloc _)⟩
set_option maxHeartbeats 2000000 in
theorem draw_any (a : Act27) (w : World) : Calls Tryz.prog 44 #[.agg a.cs] w (Mk (.string (drawS a)) w) := by
  obtain ⟨q, n, wild⟩ := a
  show Calls _ _ #[.agg #[.int .i64 q, .int .i64 n, .bool wild]] _ _
  cases wild
  · obtain ⟨k, hk⟩ : ∃ k : Nat, (k : Int) = n % 3 := ⟨(n % 3).toNat, by omega⟩
    have hk3 : k < 3 := by omega
    obtain ⟨S, hS⟩ : ∃ S, S = drawS ⟨q, n, false⟩ := ⟨_, rfl⟩
    have HX : Hid ((#[.string ⟨#[108, 111, 116, 116, 111]⟩, .string ⟨#[112, 108, 97, 99, 101, 115]⟩, .string ⟨#[112, 97, 110, 101, 108, 95, 49]⟩] : Array Value)[k]? = some (.string S)) := by
      show _ = _
      rw [hS]
      unfold drawS
      rw [if_neg (by simp)]
      rw [show (n % 3).toNat = k by omega]
      obtain h | h | h : k = 0 ∨ k = 1 ∨ k = 2 := by omega
      all_goals (subst h; rfl)
    rw [← hS]
    have M1 := Lib.hid (fun W => mod27_any n 3 W (by decide))
    rw [← hk] at M1
    have i0 : (0 : Int) ≤ (k : Int) := by omega
    have i1 : (k : Int) < 3 := by omega
    obtain ⟨w2, hw2, r0, r1, hu⟩ := two_lay w #[.int .i64 q, .int .i64 n, .bool false] #[.string ⟨#[108, 111, 116, 116, 111]⟩, .string ⟨#[112, 108, 97, 99, 101, 115]⟩, .string ⟨#[112, 97, 110, 101, 108, 95, 49]⟩] 66 9
    have cn : w2.cell? ⟨w.heap.size, 1, none⟩ = some (.int .i64 n) := by rw [cell_of_row _ _ _ _ _ _ r0]; rfl
    have cs : w2.cell? ⟨w.heap.size + 1, k, none⟩ = some (.string S) := by rw [cell_of_row _ _ _ _ _ _ r1, HX.out]
    have HU := Lib.hid hu
    have HW := Lib.hid hw2
    clear hS hk hw2 r0 r1 hu HX
    go_enter Tryz.func44, Tryz.ntmps44
    go_upto_region 4 with (fail)
    rw [HW.out]
    go_wp2_with (go_at_call 73; ((with_reducible refine (M1.out _).mono ?_); rintro e w' ⟨rfl, rfl⟩))
    go_ret
    exact ⟨rfl, HU.out⟩
  · obtain ⟨k, hk⟩ : ∃ k : Nat, (k : Int) = n % 5 := ⟨(n % 5).toNat, by omega⟩
    have hk3 : k < 5 := by omega
    obtain ⟨S, hS⟩ : ∃ S, S = drawS ⟨q, n, true⟩ := ⟨_, rfl⟩
    have HX : Hid ((#[.string ⟨#[]⟩, .string ⟨#[97, 32, 98]⟩, .string ⟨#[97, 98, 99, 100, 101, 102, 103, 104, 105, 106, 107, 108, 109, 110, 111, 112, 113, 114, 115, 116, 117, 118, 119, 120, 121, 122, 49, 50, 51, 52, 53]⟩, .string ⟨#[108, 111, 116, 116, 111]⟩, .string ⟨#[120, 47]⟩] : Array Value)[k]? = some (.string S)) := by
      show _ = _
      rw [hS]
      unfold drawS
      rw [if_pos rfl]
      rw [show (n % 5).toNat = k by omega]
      obtain h | h | h | h | h : k = 0 ∨ k = 1 ∨ k = 2 ∨ k = 3 ∨ k = 4 := by omega
      all_goals (subst h; rfl)
    rw [← hS]
    have M1 := Lib.hid (fun W => mod27_any n 5 W (by decide))
    rw [← hk] at M1
    have i0 : (0 : Int) ≤ (k : Int) := by omega
    have i1 : (k : Int) < 5 := by omega
    obtain ⟨w2, hw2, r0, r1, hu⟩ := three_lay w #[.int .i64 q, .int .i64 n, .bool true] #[.string ⟨#[108, 111, 116, 116, 111]⟩, .string ⟨#[112, 108, 97, 99, 101, 115]⟩, .string ⟨#[112, 97, 110, 101, 108, 95, 49]⟩] #[.string ⟨#[]⟩, .string ⟨#[97, 32, 98]⟩, .string ⟨#[97, 98, 99, 100, 101, 102, 103, 104, 105, 106, 107, 108, 109, 110, 111, 112, 113, 114, 115, 116, 117, 118, 119, 120, 121, 122, 49, 50, 51, 52, 53]⟩, .string ⟨#[108, 111, 116, 116, 111]⟩, .string ⟨#[120, 47]⟩] 66 9 9
    have cn : w2.cell? ⟨w.heap.size, 1, none⟩ = some (.int .i64 n) := by rw [cell_of_row _ _ _ _ _ _ r0]; rfl
    have cs : w2.cell? ⟨w.heap.size + 2, k, none⟩ = some (.string S) := by rw [cell_of_row _ _ _ _ _ _ r1, HX.out]
    have HU := Lib.hid hu
    have HW := Lib.hid hw2
    clear hS hk hw2 r0 r1 hu HX
    go_enter Tryz.func44, Tryz.ntmps44
    go_upto_region 4 with (fail)
    rw [HW.out]
    go_wp2_with (go_at_call 73; ((with_reducible refine (M1.out _).mono ?_); rintro e w' ⟨rfl, rfl⟩))
    go_ret
    exact ⟨rfl, HU.out⟩
theorem drawS_size (a : Act27) : (drawS a).size ≤ 31 := by
  unfold drawS
  split
  · obtain h | h | h | h | h : (a.n % 5).toNat = 0 ∨ (a.n % 5).toNat = 1 ∨ (a.n % 5).toNat = 2 ∨ (a.n % 5).toNat = 3 ∨ (a.n % 5).toNat = 4 := by omega
    all_goals (rw [h]; decide)
  · obtain h | h | h : (a.n % 3).toNat = 0 ∨ (a.n % 3).toNat = 1 ∨ (a.n % 3).toNat = 2 := by omega
    all_goals (rw [h]; decide)
end Go.Proofs.YtabnlklkfgojgaaGreatDoor

namespace Go.Proofs.YtabnlklkfgojgaaGreatDoor
open Go.RowKit
set_option maxRecDepth 100000

structure MBlk (w : World) (xb b kb mb : Nat) (K : List Nat) (id sec : Int) : Prop where
  x : w.heap[xb]? = some (.cells #[.pointer (some ⟨b, 0, none⟩), .pointer (some ⟨kb, 0, none⟩), .pointer (some ⟨mb, 0, none⟩), .pointer none] 69 (0, 0))
  m : ∃ M, w.heap[mb]? = some (.cells M 99 (0, 0)) ∧ M[0]? = some (.int .i64 id) ∧ M[1]? = some (.int .i64 sec)
  xK : xb ∉ K
  mK : mb ∉ K
  ne : xb ≠ mb
theorem off_upd {w w' : World} {K K' : List Nat} {X : Nat} (h : X ∉ K) (hl : X < w.heap.size) (u : Upd K K' w w') : X ∉ K' := fun hm => by
  rcases u.new X hm with g | g
  · exact h g
  · omega
theorem MBlk.upd {w w' : World} {xb b kb mb : Nat} {K K' : List Nat} {id sec : Int} (h : MBlk w xb b kb mb K id sec) (u : Upd K K' w w') : MBlk w' xb b kb mb K' id sec := by
  obtain ⟨M, m1, m2, m3⟩ := h.m
  exact ⟨(u.block xb (blk_lt h.x) h.xK).trans h.x, ⟨M, (u.block mb (blk_lt m1) h.mK).trans m1, m2, m3⟩, off_upd h.xK (blk_lt h.x) u, off_upd h.mK (blk_lt m1) u, h.ne⟩
structure Mach (w0 : World) (xb mb : Nat) (id sec : Int) (m : KM) (n kb : Nat) (K : List Nat) (wr : World) : Prop where
  ex : ∃ jb b D F rs S v, K = kF kb jb v S ∧ KSt w0 w0.heap.size kb jb b D F rs S m v wr ∧ Hist id sec rs m ∧ MBlk wr xb b kb mb K id sec ∧ D.calls ≤ 10 + 4 * n ∧ spaceL rs ≤ 500 * (n + 1)
  xg : w0.heap.size ≤ xb
  i1 : i64in id
  i2 : i64in sec
structure CrashOk (D : DiskM) (id sec : Int) (n : Nat) (A : KM → Prop) : Prop where
  ok : D.ok
  all : ∀ sv, ∃ F rs m, A m ∧ JClean (D.crash sv) F ∧ recsL F = (rs, true) ∧ Hist id sec rs m ∧ spaceL rs ≤ 500 * (n + 1)
structure MachC (w0 : World) (xb mb : Nat) (id sec : Int) (A : KM → Prop) (n kb : Nat) (K : List Nat) (wr : World) : Prop where
  ex : ∃ b D S, (∀ k, k ∈ S → k ∈ K) ∧ DiskAt wr b D S ∧ CrashOk D id sec n A ∧ MBlk wr xb b kb mb K id sec
  up : Upd [] [] w0 wr
  xg : w0.heap.size ≤ xb
  i1 : i64in id
  i2 : i64in sec
structure BrD (id sec : Int) (n kb : Nat) (m : KM) (A : KM → Prop) (K : List Nat) (b : Nat) (wr : World) : Prop where
  ex : ∃ jb v D S, KBody wr kb jb m v true ∧ (∀ x, x ∈ kb :: foot v → x ∈ K) ∧ DiskAt wr b D S ∧ (∀ k, k ∈ S → k ∈ K ∧ k ∉ kb :: foot v) ∧ CrashOk D id sec n A
  lt : ∀ k, k ∈ K → k < wr.heap.size
section
variable {w0 wr w1 : World} {xb mb : Nat} {id sec : Int} {m m2 : KM} {n kb : Nat} {K : List Nat} {A : KM → Prop}
theorem BrD.kept {b : Nat} {T T' : List Nat} (h : BrD id sec n kb m A K b wr) (u : Upd T T' wr w1) (hd : ∀ k, k ∈ K → k ∉ T) : BrD id sec n kb m A K b w1 := by
  obtain ⟨jb, v, D, S, h1, h2, h3, h4, h5⟩ := h.ex
  exact ⟨⟨jb, v, D, S, h1.kept u (hd _ (h2 kb (by simp))) (fun x hx => hd _ (h2 x (by simp [hx]))), h2, h3.kept u (fun k hk => hd _ (h4 k hk).1), h4, h5⟩, fun k hk => Nat.lt_of_lt_of_le (h.lt k hk) u.size⟩
theorem BrD.quiet {b : Nat} (h : BrD id sec n kb m A K b wr) (u : Upd [] [] wr w1) : BrD id sec n kb m A K b w1 := h.kept u (by simp)
theorem Mach.up (h : Mach w0 xb mb id sec m n kb K wr) : Upd [] [] w0 wr := by
  obtain ⟨_, _, _, _, _, _, _, _, hs, _⟩ := h.ex
  exact hs.up
theorem Mach.ok (h : Mach w0 xb mb id sec m n kb K wr) : m.ok := by
  obtain ⟨_, _, _, _, _, _, _, _, hs, _⟩ := h.ex
  exact hs.body.ok
theorem Mach.lt (h : Mach w0 xb mb id sec m n kb K wr) : ∀ k, k ∈ K → k < wr.heap.size := by
  obtain ⟨_, _, _, _, _, _, _, rfl, hs, _⟩ := h.ex
  exact hs.lt
theorem Mach.quiet (h : Mach w0 xb mb id sec m n kb K wr) (u : Upd [] [] wr w1) : Mach w0 xb mb id sec m n kb K w1 := by
  obtain ⟨jb, b, D, F, rs, S, v, hK, hs, hh, hx, r⟩ := h.ex
  exact ⟨⟨jb, b, D, F, rs, S, v, hK, hs.quiet u, hh, hx.upd u.quietTo, r⟩, h.xg, h.i1, h.i2⟩
theorem Mach.mono (h : Mach w0 xb mb id sec m n kb K wr) {n' : Nat} (hn : n ≤ n') : Mach w0 xb mb id sec m n' kb K wr := by
  obtain ⟨jb, b, D, F, rs, S, v, hK, hs, hh, hx, r1, r2⟩ := h.ex
  exact ⟨⟨jb, b, D, F, rs, S, v, hK, hs, hh, hx, by omega, by omega⟩, h.xg, h.i1, h.i2⟩
theorem Mach.fine {jb b : Nat} {D : DiskM} {F : List UInt8} {rs : List (List UInt8)} {S : List Nat} {v : Value} (hh : Hist id sec rs m) (hx : MBlk wr xb b kb mb (kF kb jb v S) id sec) (hc : D.calls ≤ 10 + 4 * n) (hsp : spaceL rs ≤ 500 * (n + 1))
    (xg : w0.heap.size ≤ xb) (i1 : i64in id) (i2 : i64in sec) (e : Ev) (he : m.step e = some m2) (hl : (recE e).length ≤ 440) (h : KFine w0 w0.heap.size kb jb b D F rs (recE e) S m m2 v wr w1) :
    ∃ K', Mach w0 xb mb id sec m2 (n + 1) kb K' w1 ∧ Upd (kF kb jb v S) K' wr w1 := by
  obtain ⟨D', S', v', hst, hup, _, hc'⟩ := h
  exact ⟨_, ⟨⟨jb, b, D', _, _, S', v', rfl, hst, hh.snoc e he hl, hx.upd hup, by omega, by rw [spaceL_snoc]; omega⟩, xg, i1, i2⟩, hup⟩
theorem Mach.fell {jb b : Nat} {D : DiskM} {F : List UInt8} {rs : List (List UInt8)} {S : List Nat} {v : Value} (hr : recsL F = (rs, true)) (hh : Hist id sec rs m) (hx : MBlk wr xb b kb mb (kF kb jb v S) id sec) (hsp : spaceL rs ≤ 500 * (n + 1))
    (xg : w0.heap.size ≤ xb) (i1 : i64in id) (i2 : i64in sec) (e : Ev) (he : m.step e = some m2) (hl : (recE e).length ≤ 440) (h : KFell w0 w0.heap.size kb jb b D F (recE e) S m v wr w1) :
    ∃ K', MachC w0 xb mb id sec (fun z => z = m ∨ z = m2) (n + 1) kb K' w1 ∧ Upd (kF kb jb v S) K' wr w1 ∧ ∃ b, BrD id sec (n + 1) kb m (fun z => z = m ∨ z = m2) K' b w1 ∧ MBlk w1 xb b kb mb K' id sec := by
  obtain ⟨D', S', hbr, hup, _, _, _⟩ := h
  have hr2 : recsL (F ++ frameL (recE e)) = (rs ++ [recE e], true) := recs_snoc _ (by omega) F.length F rs (Nat.le_refl _) hr
  have hco : CrashOk D' id sec (n + 1) (fun z => z = m ∨ z = m2) := by
    refine ⟨hbr.may.ok, fun sv => ?_⟩
    rcases hbr.may.crashed sv with h1 | h1
    · exact ⟨F, rs, m, .inl rfl, h1, hr, hh, by omega⟩
    · exact ⟨_, _, m2, .inr rfl, h1, hr2, hh.snoc e he hl, by rw [spaceL_snoc]; omega⟩
  refine ⟨_, ⟨⟨b, D', S', fun k hk => by simp [kF, hk], hbr.d, hco, hx.upd hup⟩, hbr.up, xg, i1, i2⟩, hup, b, ⟨⟨jb, v, D', S', hbr.body, fun x hx => ?_, hbr.d, fun k hk => ⟨by simp [kF, hk], fun hm => ?_⟩, hco⟩, fun k hk => ?_⟩, hx.upd hup⟩
  · simp only [kF, List.mem_cons, List.mem_append] at hx ⊢
    rcases hx with hx | hx
    · exact .inl hx
    · exact .inr (.inl hx)
  · rcases List.mem_cons.1 hm with q | q
    · exact hbr.kS (by rw [← q]; simp [hk])
    · exact hbr.vS k q (by simp [hk])
  · simp only [kF, List.mem_cons, List.mem_append] at hk
    rcases hk with rfl | hk | rfl | hk
    · exact hbr.body.lt
    · exact hbr.body.vlt k hk
    · exact hbr.jlt
    · exact hbr.d.lt k hk
def StepX (w0 : World) (xb mb : Nat) (id sec : Int) (m m2 : KM) (n kb : Nat) (K' : List Nat) (x0 x : Int) (w' : World) : Prop :=
  (x = x0 ∧ Mach w0 xb mb id sec m2 (n + 1) kb K' w') ∨ (x0 = 0 ∧ x = 70 ∧ MachC w0 xb mb id sec (fun z => z = m ∨ z = m2) (n + 1) kb K' w' ∧ ∃ b, BrD id sec (n + 1) kb m (fun z => z = m ∨ z = m2) K' b w' ∧ MBlk w' xb b kb mb K' id sec)
theorem Learn_m (h : Mach w0 xb mb id sec m n kb K wr) (r : Int) (hs : List UInt8) (hr : i64in r) (hl : hs.length = 32) (hn : n ≤ 1000) (htab : Tabs w0) :
    Calls Tryz.prog 12 #[.pointer (some ⟨kb, 0, none⟩), .int .i64 r, .agg (byteVals hs).toArray] wr (fun e w' => ∃ x K', e = .returned (.int .i64 x) ∧ Upd K K' wr w' ∧ Hid (StepX w0 xb mb id sec m (lrnM m r hs) n kb K' (lrnR m r hs) x w')) := by
  obtain ⟨jb, b, D, F, rs, S, v, rfl, hst, hh, hx, hc, hsp⟩ := h.ex
  by_cases he : learnE m r hs = -1
  · have hb : 1 ≤ r ∧ r ≤ 1000000000 ∧ (m.round : Int) < r := by
      unfold learnE at he
      split at he
      · omega
      · split at he
        · omega
        · split at he
          · split at he <;> omega
          · omega
    obtain ⟨h1, h2, h3⟩ := hb
    obtain ⟨q, hq⟩ : ∃ q : Nat, (q : Int) = r := ⟨r.toNat, by omega⟩
    subst hq
    obtain ⟨_, e2, e3⟩ := lrn_new (hs := hs) h1 h2 h3
    rw [e2, e3]
    have hm := (KM.lrn_ok hst.body.ok (show m.round < q by omega) (by omega) hl).2
    have hlen := rec_lrn_len q (by omega) hs hl
    refine (Learn_go hst q hs hl (by omega) (by omega) (by omega) (by omega) (htab.upd hst.up)).mono ?_
    rintro e w' (⟨rfl, hk⟩ | ⟨rfl, hk⟩)
    · obtain ⟨K', k1, k2⟩ := Mach.fine hh hx hc hsp h.xg h.i1 h.i2 (.lrn q hs) hm (by omega) hk
      exact ⟨0, K', rfl, k2, .inl ⟨rfl, k1⟩⟩
    · obtain ⟨K', k1, k2, k3⟩ := Mach.fell hst.j.recs hh hx hsp h.xg h.i1 h.i2 (.lrn q hs) hm (by omega) hk
      exact ⟨70, K', rfl, k2, .inr ⟨rfl, rfl, k1, k3⟩⟩
  · refine (Learn_no hst.body r hs hr hl (learnE m r hs) rfl he).mono ?_
    rintro e w' ⟨rfl, hu⟩
    refine ⟨learnE m r hs, _, rfl, hu.quietTo, .inl ⟨?_, ?_⟩⟩
    · unfold lrnR; rw [if_neg he]
    · unfold lrnM; rw [if_neg he]; exact (h.quiet hu).mono (by omega)
def fillR (m : KM) (k : Int) : Int := if 1 ≤ k ∧ k ≤ 1000000000 - (m.paper : Int) then 0 else 15
def fillM (m : KM) (k : Int) : KM := if 1 ≤ k ∧ k ≤ 1000000000 - (m.paper : Int) then m.fill k.toNat else m
theorem Refill_m (h : Mach w0 xb mb id sec m n kb K wr) (k : Int) (hk : i64in k) (hn : n ≤ 1000) (htab : Tabs w0) :
    Calls Tryz.prog 15 #[.pointer (some ⟨kb, 0, none⟩), .int .i64 k] wr (fun e w' => ∃ x K', e = .returned (.int .i64 x) ∧ Upd K K' wr w' ∧ Hid (StepX w0 xb mb id sec m (fillM m k) n kb K' (fillR m k) x w')) := by
  obtain ⟨jb, b, D, F, rs, S, v, rfl, hst, hh, hx, hc, hsp⟩ := h.ex
  unfold fillM fillR
  by_cases he : 1 ≤ k ∧ k ≤ 1000000000 - (m.paper : Int)
  · rw [if_pos he, if_pos he]
    obtain ⟨q, hq⟩ : ∃ q : Nat, (q : Int) = k := ⟨k.toNat, by omega⟩
    subst hq
    rw [show ((q : Int)).toNat = q from rfl]
    obtain ⟨_, hm⟩ := KM.fill_ok (n := q) hst.body.ok (by omega) (by omega)
    have hlen := rec_pap_len q (by omega)
    refine (Refill_go hst q (by omega) (by omega) (by omega) (by omega) (htab.upd hst.up)).mono ?_
    rintro e w' (⟨rfl, hk'⟩ | ⟨rfl, hk'⟩)
    · obtain ⟨K', k1, k2⟩ := Mach.fine hh hx hc hsp h.xg h.i1 h.i2 (.pap q) hm (by show (recP q).length ≤ _; omega) hk'
      exact ⟨0, K', rfl, k2, .inl ⟨rfl, k1⟩⟩
    · obtain ⟨K', k1, k2, k3⟩ := Mach.fell hst.j.recs hh hx hsp h.xg h.i1 h.i2 (.pap q) hm (by show (recP q).length ≤ _; omega) hk'
      exact ⟨70, K', rfl, k2, .inr ⟨rfl, rfl, k1, k3⟩⟩
  · rw [if_neg he, if_neg he]
    refine (Refill_no hst.body k hk he).mono ?_
    rintro e w' ⟨rfl, hu⟩
    exact ⟨15, _, rfl, hu.quietTo, .inl ⟨rfl, (h.quiet hu).mono (by omega)⟩⟩
theorem Sell_m (h : Mach w0 xb mb id sec m n kb K wr) (d : ByteArray) (hs : List UInt8) (hd : d.size ≤ 9223372036854775807) (hl : hs.length = 32) (hn : n ≤ 1000) (htab : Tabs w0) :
    Calls Tryz.prog 13 #[.pointer (some ⟨kb, 0, none⟩), .string d, .agg (byteVals hs).toArray] wr (fun e w' => ∃ x K' y, e = .returned (.tuple #[.agg (rcV y).toArray, .int .i64 x]) ∧ Upd K K' wr w' ∧ Hid (StepX w0 xb mb id sec m (selM m d hs) n kb K' (refE m (bs d)) x w') ∧ Hid (y = if x = 70 then Rc.zero else selR m d hs)) := by
  obtain ⟨jb, b, D, F, rs, S, v, rfl, hst, hh, hx, hc, hsp⟩ := h.ex
  by_cases he : refE m (bs d) = 0
  · have hlen : (recE (.sel (nextK m d hs))).length ≤ 440 := Nat.le_trans (rec_sel_len (nextK_ok hst.body.ok hl) (nameOk_size (refE_zero he).1)) (by omega)
    have hm : m.step (.sel (nextK m d hs)) = some (m.sold (nextK m d hs)) := by
      obtain ⟨c1, c2, c3⟩ := refE_zero he
      simp only [KM.step]
      rw [if_pos ⟨c1, c2, c3, hl, eqRc_self _⟩]
      rfl
    have e1 : selM m d hs = m.sold (nextK m d hs) := by unfold selM; rw [if_pos he]
    have e2 : selR m d hs = nextK m d hs := by unfold selR; rw [if_pos he]
    rw [e1, e2]
    refine (Sell_go hst d hs hl he (by omega) (by omega) (htab.upd hst.up)).mono ?_
    rintro e w' (⟨rfl, hk⟩ | ⟨rfl, hk⟩)
    · obtain ⟨K', k1, k2⟩ := Mach.fine hh hx hc hsp h.xg h.i1 h.i2 (.sel (nextK m d hs)) hm hlen hk
      exact ⟨0, K', _, rfl, k2, .inl ⟨he.symm, k1⟩, by show _ = _; rw [if_neg (by decide)]⟩
    · obtain ⟨K', k1, k2, k3⟩ := Mach.fell hst.j.recs hh hx hsp h.xg h.i1 h.i2 (.sel (nextK m d hs)) hm hlen hk
      exact ⟨70, K', _, rfl, k2, .inr ⟨he, rfl, k1, k3⟩, by show _ = _; rw [if_pos rfl]⟩
  · refine (Sell_no hst.body d _ hd (refE m (bs d)) rfl he).mono ?_
    rintro e w' ⟨rfl, hu⟩
    refine ⟨refE m (bs d), _, _, rfl, hu.quietTo, .inl ⟨rfl, ?_⟩, ?_⟩
    · unfold selM; rw [if_neg he]; exact (h.quiet hu).mono (by omega)
    · show _ = _
      unfold selR
      rw [if_neg he]
      split <;> rfl
end
end Go.Proofs.YtabnlklkfgojgaaGreatDoor

namespace Go.Proofs.YtabnlklkfgojgaaGreatDoor
open Go.RowKit
set_option maxRecDepth 100000

def AcsIn (w : World) (ao : Option Addr) (l : List Act27) : Prop := ∀ (j : Nat) a, l[j]? = some a → a.ok ∧ ∃ g o, ao = some ⟨g, o, none⟩ ∧ g < w.heap.size ∧ w.rangeAt g (o + j * 3) a.cs.toList
theorem AcsIn.upd {w w' : World} {ao : Option Addr} {l : List Act27} (h : AcsIn w ao l) (u : Upd [] [] w w') : AcsIn w' ao l := by
  intro j a hj
  obtain ⟨h1, g, o, h3, h4, h5⟩ := h j a hj
  exact ⟨h1, g, o, h3, Nat.lt_of_lt_of_le h4 u.size, rangeAt_upd h5 h4 u⟩
theorem act_cells {w : World} {g o : Nat} {a : Act27} (h : w.rangeAt g o a.cs.toList) : w.cell? ⟨g, o, none⟩ = some (.int .i64 a.what) ∧ w.cell? ⟨g, o + 1, none⟩ = some (.int .i64 a.n) ∧ (Instr.loadAt 66 (.pointer (some ⟨g, o, none⟩))).run Tryz.prog w = .ok (.agg a.cs) w :=
  ⟨h 0 _ rfl, h 1 _ rfl, run_loadAt_mid w g o _ _ _ h Tryz.underlying66 rfl (by kernel_rfl)⟩
end Go.Proofs.YtabnlklkfgojgaaGreatDoor

namespace Go.Proofs.YtabnlklkfgojgaaGreatDoor
open Go.RowKit
set_option maxRecDepth 100000

theorem Upd.dropS {w w' : World} {S : List Nat} (h : Upd [] S w w') : Upd [] [] w w' := ⟨h.os, h.tape, h.output, h.size, h.block, fun _ hk => by simp at hk⟩
theorem Upd.past {a b c : World} {T S S' : List Nat} (u : Upd T T a b) (v : Upd S S' b c) (hS : ∀ k, k ∈ S → a.heap.size ≤ k) : Upd T T a c :=
  ⟨v.os.trans u.os, v.tape.trans u.tape, v.output.trans u.output, Nat.le_trans u.size v.size, fun k hk hn => (v.block k (Nat.lt_of_lt_of_le hk u.size) (fun hm => by have := hS k hm; omega)).trans (u.block k hk hn), fun _ hk => .inl hk⟩
section
variable {w0 wr : World} {xb mb : Nat} {id sec : Int} {n kb : Nat} {K : List Nat} {A : KM → Prop}
end
end Go.Proofs.YtabnlklkfgojgaaGreatDoor

namespace Go.Proofs.YtabnlklkfgojgaaGreatDoor
open Go.RowKit
set_option maxRecDepth 100000

def doH (a : Act27) : List UInt8 := hashN (IntKind.i64.wrap (roundN a + (a.n % 13).tdiv 12))
def doQ (a : Act27) : Int := if a.wild then a.n else a.n % 4
def doM (m : KM) (a : Act27) : KM := if a.what % 12 = 5 ∨ a.what % 12 = 6 then lrnM m (roundN a) (doH a) else if a.what % 12 = 7 then fillM m (doQ a) else selM m (drawS a) (hashN a.n)
def doE (m : KM) (a : Act27) : Int := if a.what % 12 = 5 ∨ a.what % 12 = 6 then lrnR m (roundN a) (doH a) else if a.what % 12 = 7 then fillR m (doQ a) else refE m (bs (drawS a))
def doR (m : KM) (a : Act27) : Rc := if a.what % 12 = 5 ∨ a.what % 12 = 6 then Rc.zero else if a.what % 12 = 7 then Rc.zero else selR m (drawS a) (hashN a.n)
theorem roundN_in {a : Act27} (h : a.ok) : i64in (roundN a) := by
  have := h.2
  unfold i64in at *
  unfold roundN
  split
  · omega
  · omega
theorem doQ_in {a : Act27} (h : a.ok) : i64in (doQ a) := by
  have := h.2
  unfold i64in at *
  unfold doQ
  split
  · omega
  · omega
section
variable {w0 w1 w' wr : World} {xb mb : Nat} {id sec : Int} {m m2 : KM} {n kb g : Nat} {K : List Nat} {A : KM → Prop}
theorem Mach.other (h : Mach w0 xb mb id sec m n kb K wr) (u : Upd [g] [g] wr w1) (hg : w0.heap.size ≤ g) (hK : g ∉ K) (hx : g ≠ xb) (hm : g ≠ mb) : Mach w0 xb mb id sec m n kb K w1 := by
  obtain ⟨jb, b, D, F, rs, S, v, rfl, hs, hh, ⟨x, ⟨M, m0, m1, m2⟩, xK, mK, ne⟩, r⟩ := h.ex
  refine ⟨⟨jb, b, D, F, rs, S, v, rfl, hs.other u (fun k hk => by simp at hk; omega) (fun k hk hm => ?_), hh, ⟨?_, ⟨M, ?_, m1, m2⟩, xK, mK, ne⟩, r⟩, h.xg, h.i1, h.i2⟩
  · simp at hm; exact hK (hm ▸ hk)
  · rw [u.block xb (blk_lt x) (by simp; exact fun e => hx e.symm)]; exact x
  · rw [u.block mb (blk_lt m0) (by simp; exact fun e => hm e.symm)]; exact m0
theorem MachC.other (h : MachC w0 xb mb id sec A n kb K wr) (u : Upd [g] [g] wr w1) (hg : w0.heap.size ≤ g) (hK : g ∉ K) (hx : g ≠ xb) (hm : g ≠ mb) : MachC w0 xb mb id sec A n kb K w1 := by
  obtain ⟨b, D, S, hS, hd, hc, ⟨x, ⟨M, m0, m1, m2⟩, xK, mK, ne⟩⟩ := h.ex
  refine ⟨⟨b, D, S, hS, hd.kept u (fun k hk hm => ?_), hc, ⟨?_, ⟨M, ?_, m1, m2⟩, xK, mK, ne⟩⟩, h.up.ownAt u hg, h.xg, h.i1, h.i2⟩
  · simp at hm; exact hK (hm ▸ hS k hk)
  · rw [u.block xb (blk_lt x) (by simp; exact fun e => hx e.symm)]; exact x
  · rw [u.block mb (blk_lt m0) (by simp; exact fun e => hm e.symm)]; exact m0
theorem StepX.other {x0 x : Int} (h : StepX w0 xb mb id sec m m2 n kb K x0 x wr) (u : Upd [g] [g] wr w1) (hg : w0.heap.size ≤ g) (hK : g ∉ K) (hx : g ≠ xb) (hm : g ≠ mb) : StepX w0 xb mb id sec m m2 n kb K x0 x w1 := by
  rcases h with ⟨h1, h2⟩ | ⟨h1, h2, h3, b, h5, ⟨x, ⟨M, m0, m1, m2⟩, xK, mK, ne⟩⟩
  · exact .inl ⟨h1, h2.other u hg hK hx hm⟩
  · refine .inr ⟨h1, h2, h3.other u hg hK hx hm, b, h5.kept u (fun k hk h => by simp at h; exact hK (h ▸ hk)), ⟨?_, ⟨M, ?_, m1, m2⟩, xK, mK, ne⟩⟩
    · rw [u.block xb (blk_lt x) (by simp; exact fun e => hx e.symm)]; exact x
    · rw [u.block mb (blk_lt m0) (by simp; exact fun e => hm e.symm)]; exact m0
theorem zero_rc : Tryz.zeroCells37 = (rcV Rc.zero).toArray := by kernel_rfl
theorem act_load (W : World) (g : Nat) (a : Act27) (h : W.heap[g]? = some (.cells a.cs 66 (0, 0))) : (Instr.loadAt 66 (.pointer (some ⟨g, 0, none⟩))).run Tryz.prog W = .ok (.agg a.cs) W :=
  run_loadAt_mid W g 0 _ _ _ (fun j v hv => by rw [Nat.zero_add, cell_of_row _ _ _ _ _ _ h, ← Array.getElem?_toList]; exact hv) Tryz.underlying66 rfl (by kernel_rfl)
def CallTo (w0 : World) (xb mb : Nat) (id sec : Int) (m : KM) (n kb : Nat) (K : List Nat) (a : Act27) (w : World) (e : Ending) (w' : World) : Prop :=
  ∃ x K' y, e = .returned (.tuple #[.agg (rcV y).toArray, .int .i64 x]) ∧ Upd K K' w w' ∧ Hid (StepX w0 xb mb id sec m (doM m a) n kb K' (doE m a) x w') ∧ Hid (y = if x = 70 then Rc.zero else doR m a)
set_option maxHeartbeats 4000000 in
theorem call_any (h : Mach w0 xb mb id sec m n kb K wr) (a : Act27) (ha : a.ok) (hn : n ≤ 1000) (htab : Tabs w0) : Calls Tryz.prog 22 #[.pointer (some ⟨xb, 0, none⟩), .agg a.cs] wr (CallTo w0 xb mb id sec m n kb K a wr) := by
  obtain ⟨jb, b, D, F, rs, S, v, hKF, hst, _, hmb, _⟩ := h.ex
  have hkK : kb ∈ K := by rw [hKF]; simp [kF]
  have hKl := h.lt
  obtain ⟨Z, hZ⟩ : ∃ Z, Z = (rcV Rc.zero).toArray := ⟨_, rfl⟩
  have HBZ : Hid (Tryz.prog.built 37 [] = some Z) := by show _ = _; rw [hZ]; exact rc_zero_built
  obtain ⟨ZI, ZO, ZZ⟩ := rcLet Rc.zero_ok Z hZ
  have HZE := Lib.hid hZ
  have HZC : Hid (Tryz.zeroCells37 = Z) := by show _ = _; rw [hZ]; exact zero_rc
  obtain ⟨w2, hw2, r0, r1, hu⟩ := two_lay wr a.cs Tryz.zeroCells37 66 37
  have HW2 := Lib.hid hw2
  obtain ⟨ga, hga⟩ : ∃ ga, ga = wr.heap.size := ⟨_, rfl⟩
  rw [← hga] at r0 r1
  have HX2 := row_updH hmb.x hu
  have hxl := blk_lt hmb.x
  have hml : mb < wr.heap.size := by obtain ⟨M, m0, _⟩ := hmb.m; exact blk_lt m0
  have HB := Lib.hid (And.intro hxl (And.intro hml (And.intro (fun k (hk : k ∈ K) => (hga ▸ hKl k hk : k < ga)) (And.intro h.up.size hkK))))
  have HG : Hid (ga = wr.heap.size) := hga
  have HM0 := Lib.hid h
  have HU := Lib.hid hu
  have R0 := Lib.hid r0
  have R1 := Lib.hid r1
  have X2 := Lib.hid HX2
  have xK := Lib.hid hmb.xK
  have ca : w2.cell? ⟨ga, 0, none⟩ = some (.int .i64 a.what) := by rw [cell_of_row _ _ _ _ _ _ r0]; rfl
  have cn : w2.cell? ⟨ga, 1, none⟩ = some (.int .i64 a.n) := by rw [cell_of_row _ _ _ _ _ _ r0]; rfl
  have cw : w2.cell? ⟨ga, 2, none⟩ = some (.bool a.wild) := by rw [cell_of_row _ _ _ _ _ _ r0]; rfl
  have cx : w2.cell? ⟨xb, 1, none⟩ = some (.pointer (some ⟨kb, 0, none⟩)) := by rw [cell_of_row _ _ _ _ _ _ HX2]; rfl
  obtain ⟨z, hz, hz1, hz2⟩ := mod_add a.what 12 (by decide)
  obtain ⟨W, hW⟩ : ∃ W, W = a.what % 12 := ⟨_, rfl⟩
  rw [← hW] at hz2
  obtain ⟨AC, hAC⟩ : ∃ AC, AC = a.cs := ⟨_, rfl⟩
  have HAC := Lib.hid hAC
  have HWH := Lib.hid hW
  rw [← hAC] at R0 HW2 ⊢
  clear hZ hw2 r0 r1 hu HX2 hxl hml hKl hKF hst hmb h hga hkK hW hAC
  go_enter Tryz.func22, Tryz.ntmps22
  go_upto_region 1 with (fail)
  rw [HW2.out, ← HG.out]
  clear HW2
  have ud0 : Upd [] [] wr w2.drew := HU.out.trans (Upd.refl _ _).drew
  have HKEEP : Hid (∀ W' : World, W'.heap[ga]? = some (.cells AC 66 (0, 0)) → (∃ d o, W'.heap[xb]? = some (.cells #[.pointer d, .pointer (some ⟨kb, 0, none⟩), .pointer (some ⟨mb, 0, none⟩), o] 69 (0, 0))) → W'.cell? ⟨xb, 1, none⟩ = some (.pointer (some ⟨kb, 0, none⟩)) ∧ W'.cell? ⟨ga, 1, none⟩ = some (.int .i64 a.n) ∧ (Instr.loadAt 66 (.pointer (some ⟨ga, 0, none⟩))).run Tryz.prog W' = .ok (.agg AC) W') := by
    rintro W' h1 ⟨d, o, h2⟩
    rw [HAC.out] at h1 ⊢
    exact ⟨by rw [cell_of_row _ _ _ _ _ _ h2]; rfl, by rw [cell_of_row _ _ _ _ _ _ h1]; rfl, act_load W' ga a h1⟩
  have RX : Hid (∃ d o, w2.heap[xb]? = some (.cells #[.pointer d, .pointer (some ⟨kb, 0, none⟩), .pointer (some ⟨mb, 0, none⟩), o] 69 (0, 0))) := ⟨_, _, X2.out⟩
  -- the last touch: a result is laid
  have HLAY : Hid (∀ (W' : World) (K' : List Nat) (x x0 : Int) (m' : KM) (R : Array Value), Upd K K' wr W' → ga + 1 ∉ K' → StepX w0 xb mb id sec m m' n kb K' x0 x W' → Upd K K' wr (W'.setRow (ga + 1) R) ∧ StepX w0 xb mb id sec m m' n kb K' x0 x (W'.setRow (ga + 1) R)) := by
    intro W' K' x x0 m' R u hK st
    have e := HG.out
    have h1 := HB.out.1
    have h2 := HB.out.2.1
    have h3 := HB.out.2.2.2.1
    exact ⟨u.setRowNew (by omega) R, st.other (Upd.setRowIn (Upd.refl [ga + 1] W') (by simp) R) (by omega) hK (by omega) (by omega)⟩
  have HGK : Hid (ga ∉ K ∧ ga + 1 ∉ K) := ⟨fun hm => by have := HB.out.2.2.1 _ hm; omega, fun hm => by have := HB.out.2.2.1 _ hm; omega⟩
  have HAO : Hid (a.ok) := ha
  have HN : Hid (n ≤ 1000) := hn
  by_cases h5 : W = 5
  · have eM : doM m a = lrnM m (roundN a) (doH a) ∧ doE m a = lrnR m (roundN a) (doH a) ∧ doR m a = Rc.zero := by
      have hy : a.what % 12 = 5 ∨ a.what % 12 = 6 := .inl (HWH.out ▸ h5)
      unfold doM doE doR
      rw [if_pos hy, if_pos hy, if_pos hy]
      exact ⟨rfl, rfl, rfl⟩
    subst h5
    obtain ⟨z13, hz13, hz13a, hz13b⟩ := mod_add a.n 13 (by decide)
    obtain ⟨c13, hc13⟩ : ∃ c, c = a.n % 13 := ⟨_, rfl⟩
    rw [← hc13] at hz13b
    obtain ⟨t12, ht12⟩ : ∃ t, t = c13.tdiv 12 := ⟨_, rfl⟩
    have ht12a : c13.tdiv 12 = t12 := ht12.symm
    have ht12c : IntKind.i64.wrap t12 = t12 := by rw [ht12, Int.tdiv_eq_ediv_of_nonneg (by omega)]; exact wrap_in (by omega) (by omega)
    obtain ⟨r, hr⟩ : ∃ r, r = roundN a := ⟨_, rfl⟩
    obtain ⟨hn, hhn⟩ : ∃ hn, IntKind.i64.wrap (r + t12) = hn := ⟨_, rfl⟩
    have hni : i64in hn := by rw [← hhn, IntKind.wrap_i64]; unfold i64in; omega
    have hdoH : doH a = hashN hn := by unfold doH; rw [← hr, ← hc13, ← ht12, hhn]
    obtain ⟨H, hH⟩ : ∃ H, H = (byteVals (hashN hn)).toArray := ⟨_, rfl⟩
    have HRo := Lib.hid (fun W => round_any a W)
    rw [← HAC.out, ← hr] at HRo
    have HHs := Lib.hid (fun W => rHash_any hn hni W)
    rw [← hH] at HHs
    have HLn : Hid (∀ W, Upd [] [] wr W → Calls Tryz.prog 12 #[.pointer (some ⟨kb, 0, none⟩), .int .i64 r, .agg H] W (fun e w' => ∃ x K', e = .returned (.int .i64 x) ∧ Upd K K' W w' ∧ Hid (StepX w0 xb mb id sec m (doM m a) n kb K' (doE m a) x w'))) := by
      intro W u
      rw [hH, hr, eM.1, eM.2.1, hdoH]
      exact Learn_m (HM0.out.quiet u) (roundN a) (hashN hn) (roundN_in HAO.out) (hashN_len _) HN.out htab
    have HEM := Lib.hid eM.2.2
    have fa0 : Hid (w2.drew.heap[ga]? = some (.cells AC 66 (0, 0))) := row_updH R0.out ((Upd.refl _ _).drew)
    have fr0 : Hid (w2.drew.heap[ga + 1]? = some (.cells Tryz.zeroCells37 37 (0, 0))) := row_updH R1.out ((Upd.refl _ _).drew)
    have fx0 : Hid (∃ d o, w2.drew.heap[xb]? = some (.cells #[.pointer d, .pointer (some ⟨kb, 0, none⟩), .pointer (some ⟨mb, 0, none⟩), o] 69 (0, 0))) := by
      obtain ⟨d, o, h⟩ := RX.out
      exact ⟨d, o, row_updH h ((Upd.refl _ _).drew)⟩
    clear eM hH hni hdoH hr ht12 hc13
    go_upto_region 4 with (fail)
    refine wp_region_noPanic ?_
    refine wp_region_held_drew (S := fun wp => wp.cell? ⟨xb, 1, none⟩ = some (.pointer (some ⟨kb, 0, none⟩)) ∧ wp.cell? ⟨ga, 1, none⟩ = some (.int .i64 a.n) ∧ (Instr.loadAt 66 (.pointer (some ⟨ga, 0, none⟩))).run Tryz.prog wp = .ok (.agg AC) wp) (by kernel_rfl) ?_ (fun hHeld => ?_)
    · exact HKEEP.out _ fa0.out fx0.out
    refine tkY 0 hHeld ?_
    refine tkY 1 hHeld ?_
    refine tkY 2 hHeld ?_
    refine tkY 3 hHeld ?_
    refine tkY 4 hHeld ?_
    refine tkL 5 hHeld AC (fun w hSw => hSw.2.2) ?_
    refine tkL 7 hHeld AC (fun w hSw => hSw.2.2) ?_
    refine tkY 9 hHeld ?_
    refine tkY 10 hHeld ?_
    refine tkY 11 hHeld ?_
    refine tkY 12 hHeld ?_
    refine tkY 13 hHeld ?_
    refine tkY 14 hHeld ?_
    refine wpAnyH_ready (rs := [6]) (by kernel_rfl) (by simp) ?_
    refine AllReadyH.cons (by simp only [List.getElem?_toArray, List.getElem?_cons_succ, List.getElem?_cons_zero] <;> rfl) (fun K hK => ?_) ?_
    · go_simp; refine (HRo.out _).mono ?_; rintro e wv1 ⟨rfl, hq⟩; have ud1 := ud0.trans hq; have fa1 := Lib.hid (row_updH fa0.out hq); have fx1 : Hid (∃ d o, wv1.heap[xb]? = some (.cells #[.pointer d, .pointer (some ⟨kb, 0, none⟩), .pointer (some ⟨mb, 0, none⟩), o] 69 (0, 0))) := (by obtain ⟨d, o, h⟩ := fx0.out; exact ⟨d, o, row_updH h hq⟩); have fr1 := Lib.hid (row_updH fr0.out hq); clear hq; go_wp2_with fail
      refine hK.out _ _ ?_ (fun hHeld => ?_)
      · exact HKEEP.out _ fa1.out fx1.out
      clear hK K
      try simp only [Act.put, List.setIfInBounds_toArray, List.set_cons_zero, List.set_cons_succ]
      refine wpAnyH_ready (rs := [8]) (by kernel_rfl) (by simp) ?_
      refine AllReadyH.cons (by simp only [List.getElem?_toArray, List.getElem?_cons_succ, List.getElem?_cons_zero] <;> rfl) (fun K hK => ?_) ?_
      · go_simp; refine (HRo.out _).mono ?_; rintro e wv2 ⟨rfl, hq⟩; have ud2 := ud1.trans hq; have fa2 := Lib.hid (row_updH fa1.out hq); have fx2 : Hid (∃ d o, wv2.heap[xb]? = some (.cells #[.pointer d, .pointer (some ⟨kb, 0, none⟩), .pointer (some ⟨mb, 0, none⟩), o] 69 (0, 0))) := (by obtain ⟨d, o, h⟩ := fx1.out; exact ⟨d, o, row_updH h hq⟩); have fr2 := Lib.hid (row_updH fr1.out hq); clear hq; go_wp2_with fail
        refine hK.out _ _ ?_ (fun hHeld => ?_)
        · exact HKEEP.out _ fa2.out fx2.out
        clear hK K
        try simp only [Act.put, List.setIfInBounds_toArray, List.set_cons_zero, List.set_cons_succ]
        refine tkY 15 hHeld ?_
        refine wpAnyH_ready (rs := [16]) (by kernel_rfl) (by simp) ?_
        refine AllReadyH.cons (by simp only [List.getElem?_toArray, List.getElem?_cons_succ, List.getElem?_cons_zero] <;> rfl) (fun K hK => ?_) ?_
        · go_simp; refine (HHs.out _).mono ?_; rintro e wv3 ⟨rfl, hq⟩; have ud3 := ud2.trans hq; have fa3 := Lib.hid (row_updH fa2.out hq); have fx3 : Hid (∃ d o, wv3.heap[xb]? = some (.cells #[.pointer d, .pointer (some ⟨kb, 0, none⟩), .pointer (some ⟨mb, 0, none⟩), o] 69 (0, 0))) := (by obtain ⟨d, o, h⟩ := fx2.out; exact ⟨d, o, row_updH h hq⟩); have fr3 := Lib.hid (row_updH fr2.out hq); clear hq; go_wp2_with fail
          refine hK.out _ _ ?_ (fun hHeld => ?_)
          · exact HKEEP.out _ fa3.out fx3.out
          clear hK K
          try simp only [Act.put, List.setIfInBounds_toArray, List.set_cons_zero, List.set_cons_succ]
          refine wpAnyH_ready (rs := [17]) (by kernel_rfl) (by simp) ?_
          refine AllReadyH.cons (by simp only [List.getElem?_toArray, List.getElem?_cons_succ, List.getElem?_cons_zero] <;> rfl) (fun K hK => ?_) ?_
          · go_simp; refine (HLn.out _ ud3).mono ?_; rintro e wv4 ⟨x, K', rfl, hup, HX⟩; have hgl : ga + 1 < wv3.heap.size := blk_lt fr3.out; have HK1 : ga + 1 ∉ K' := off_upd HGK.out.2 hgl hup; have fa4 : Hid (wv4.heap[ga]? = some (.cells AC 66 (0, 0))) := (by have k := fa3.out; rw [← k]; exact hup.block ga (blk_lt k) HGK.out.1); have fr4 : Hid (wv4.heap[ga + 1]? = some (.cells Tryz.zeroCells37 37 (0, 0))) := (by have k := fr3.out; rw [← k]; exact hup.block _ hgl HGK.out.2); have fx4 : Hid (∃ d o, wv4.heap[xb]? = some (.cells #[.pointer d, .pointer (some ⟨kb, 0, none⟩), .pointer (some ⟨mb, 0, none⟩), o] 69 (0, 0))) := (by obtain ⟨d, o, h⟩ := fx3.out; exact ⟨d, o, by rw [← h]; exact hup.block xb (blk_lt h) xK.out⟩); have HUPK := Lib.hid (ud3.quietTo.trans hup); clear hup; go_wp2_with fail
            refine hK.out _ _ ?_ (fun hHeld => ?_)
            · exact HKEEP.out _ fa4.out fx4.out
            clear hK K
            try simp only [Act.put, List.setIfInBounds_toArray, List.set_cons_zero, List.set_cons_succ]
            refine wpAnyH_ready (rs := [18]) (by kernel_rfl) (by simp) ?_
            refine AllReadyH.cons (by simp only [List.getElem?_toArray, List.getElem?_cons_succ, List.getElem?_cons_zero] <;> rfl) (fun K hK => ?_) ?_
            · rw [if_pos (by rfl)]; rw [HZC.out]; refine wp_store_row 37 _ _ rfl (ga + 1) Z rfl rfl _ _ fr4.out ZI.out ZZ.out ZO.out ?_
              refine hK.out _ _ ?_ (fun hHeld => ?_)
              · exact HKEEP.out _ (row_setRowO fa4.out (by omega) _) (by obtain ⟨d, o, h⟩ := fx4.out; exact ⟨d, o, row_setRowO h (by have := HB.out.1; have := HG.out; omega) _⟩)
              clear hK K
              try simp only [Act.put]
              refine tkY 19 hHeld ?_
              refine wpAnyH_done (by kernel_rfl) ?_ _
              refine NoPanic.normal ?_
              have FIN : Hid (CallTo w0 xb mb id sec m n kb K a wr (.returned (.tuple #[.agg Z, .int .i64 x])) (wv4.setRow (ga + 1) Z)) := by
                obtain ⟨k1, k2⟩ := HLAY.out wv4 K' x _ _ Z HUPK.out HK1 HX.out
                have hZ := HZE.out
                rw [hZ] at k1 k2 ⊢
                refine ⟨x, K', Rc.zero, rfl, k1, k2, ?_⟩
                show _ = _
                rw [HEM.out]
                split <;> rfl
              have ROW := Lib.hid (setRow_heap _ _ _ Z _ _ fr4.out)
              clear HLAY HUPK HX HK1
              go_wp2_with fail
              refine bodyPost_ret (results_row_tmp rfl _ _ (ga + 1) _ Z _ _ rfl ROW.out Tryz.underlying37 rfl ZI.out) rfl ?_
              exact FIN.out
            exact AllReadyH.nil
          exact AllReadyH.nil
        exact AllReadyH.nil
      exact AllReadyH.nil
    exact AllReadyH.nil
  by_cases h6 : W = 6
  · have eM : doM m a = lrnM m (roundN a) (doH a) ∧ doE m a = lrnR m (roundN a) (doH a) ∧ doR m a = Rc.zero := by
      have hy : a.what % 12 = 5 ∨ a.what % 12 = 6 := .inr (HWH.out ▸ h6)
      unfold doM doE doR
      rw [if_pos hy, if_pos hy, if_pos hy]
      exact ⟨rfl, rfl, rfl⟩
    subst h6
    obtain ⟨z13, hz13, hz13a, hz13b⟩ := mod_add a.n 13 (by decide)
    obtain ⟨c13, hc13⟩ : ∃ c, c = a.n % 13 := ⟨_, rfl⟩
    rw [← hc13] at hz13b
    obtain ⟨t12, ht12⟩ : ∃ t, t = c13.tdiv 12 := ⟨_, rfl⟩
    have ht12a : c13.tdiv 12 = t12 := ht12.symm
    have ht12c : IntKind.i64.wrap t12 = t12 := by rw [ht12, Int.tdiv_eq_ediv_of_nonneg (by omega)]; exact wrap_in (by omega) (by omega)
    obtain ⟨r, hr⟩ : ∃ r, r = roundN a := ⟨_, rfl⟩
    obtain ⟨hn, hhn⟩ : ∃ hn, IntKind.i64.wrap (r + t12) = hn := ⟨_, rfl⟩
    have hni : i64in hn := by rw [← hhn, IntKind.wrap_i64]; unfold i64in; omega
    have hdoH : doH a = hashN hn := by unfold doH; rw [← hr, ← hc13, ← ht12, hhn]
    obtain ⟨H, hH⟩ : ∃ H, H = (byteVals (hashN hn)).toArray := ⟨_, rfl⟩
    have HRo := Lib.hid (fun W => round_any a W)
    rw [← HAC.out, ← hr] at HRo
    have HHs := Lib.hid (fun W => rHash_any hn hni W)
    rw [← hH] at HHs
    have HLn : Hid (∀ W, Upd [] [] wr W → Calls Tryz.prog 12 #[.pointer (some ⟨kb, 0, none⟩), .int .i64 r, .agg H] W (fun e w' => ∃ x K', e = .returned (.int .i64 x) ∧ Upd K K' W w' ∧ Hid (StepX w0 xb mb id sec m (doM m a) n kb K' (doE m a) x w'))) := by
      intro W u
      rw [hH, hr, eM.1, eM.2.1, hdoH]
      exact Learn_m (HM0.out.quiet u) (roundN a) (hashN hn) (roundN_in HAO.out) (hashN_len _) HN.out htab
    have HEM := Lib.hid eM.2.2
    have fa0 : Hid (w2.drew.heap[ga]? = some (.cells AC 66 (0, 0))) := row_updH R0.out ((Upd.refl _ _).drew)
    have fr0 : Hid (w2.drew.heap[ga + 1]? = some (.cells Tryz.zeroCells37 37 (0, 0))) := row_updH R1.out ((Upd.refl _ _).drew)
    have fx0 : Hid (∃ d o, w2.drew.heap[xb]? = some (.cells #[.pointer d, .pointer (some ⟨kb, 0, none⟩), .pointer (some ⟨mb, 0, none⟩), o] 69 (0, 0))) := by
      obtain ⟨d, o, h⟩ := RX.out
      exact ⟨d, o, row_updH h ((Upd.refl _ _).drew)⟩
    clear eM hH hni hdoH hr ht12 hc13
    go_upto_region 4 with (fail)
    refine wp_region_noPanic ?_
    refine wp_region_held_drew (S := fun wp => wp.cell? ⟨xb, 1, none⟩ = some (.pointer (some ⟨kb, 0, none⟩)) ∧ wp.cell? ⟨ga, 1, none⟩ = some (.int .i64 a.n) ∧ (Instr.loadAt 66 (.pointer (some ⟨ga, 0, none⟩))).run Tryz.prog wp = .ok (.agg AC) wp) (by kernel_rfl) ?_ (fun hHeld => ?_)
    · exact HKEEP.out _ fa0.out fx0.out
    refine tkY 0 hHeld ?_
    refine tkY 1 hHeld ?_
    refine tkY 2 hHeld ?_
    refine tkY 3 hHeld ?_
    refine tkY 4 hHeld ?_
    refine tkL 5 hHeld AC (fun w hSw => hSw.2.2) ?_
    refine tkL 7 hHeld AC (fun w hSw => hSw.2.2) ?_
    refine tkY 9 hHeld ?_
    refine tkY 10 hHeld ?_
    refine tkY 11 hHeld ?_
    refine tkY 12 hHeld ?_
    refine tkY 13 hHeld ?_
    refine tkY 14 hHeld ?_
    refine wpAnyH_ready (rs := [6]) (by kernel_rfl) (by simp) ?_
    refine AllReadyH.cons (by simp only [List.getElem?_toArray, List.getElem?_cons_succ, List.getElem?_cons_zero] <;> rfl) (fun K hK => ?_) ?_
    · go_simp; refine (HRo.out _).mono ?_; rintro e wv1 ⟨rfl, hq⟩; have ud1 := ud0.trans hq; have fa1 := Lib.hid (row_updH fa0.out hq); have fx1 : Hid (∃ d o, wv1.heap[xb]? = some (.cells #[.pointer d, .pointer (some ⟨kb, 0, none⟩), .pointer (some ⟨mb, 0, none⟩), o] 69 (0, 0))) := (by obtain ⟨d, o, h⟩ := fx0.out; exact ⟨d, o, row_updH h hq⟩); have fr1 := Lib.hid (row_updH fr0.out hq); clear hq; go_wp2_with fail
      refine hK.out _ _ ?_ (fun hHeld => ?_)
      · exact HKEEP.out _ fa1.out fx1.out
      clear hK K
      try simp only [Act.put, List.setIfInBounds_toArray, List.set_cons_zero, List.set_cons_succ]
      refine wpAnyH_ready (rs := [8]) (by kernel_rfl) (by simp) ?_
      refine AllReadyH.cons (by simp only [List.getElem?_toArray, List.getElem?_cons_succ, List.getElem?_cons_zero] <;> rfl) (fun K hK => ?_) ?_
      · go_simp; refine (HRo.out _).mono ?_; rintro e wv2 ⟨rfl, hq⟩; have ud2 := ud1.trans hq; have fa2 := Lib.hid (row_updH fa1.out hq); have fx2 : Hid (∃ d o, wv2.heap[xb]? = some (.cells #[.pointer d, .pointer (some ⟨kb, 0, none⟩), .pointer (some ⟨mb, 0, none⟩), o] 69 (0, 0))) := (by obtain ⟨d, o, h⟩ := fx1.out; exact ⟨d, o, row_updH h hq⟩); have fr2 := Lib.hid (row_updH fr1.out hq); clear hq; go_wp2_with fail
        refine hK.out _ _ ?_ (fun hHeld => ?_)
        · exact HKEEP.out _ fa2.out fx2.out
        clear hK K
        try simp only [Act.put, List.setIfInBounds_toArray, List.set_cons_zero, List.set_cons_succ]
        refine tkY 15 hHeld ?_
        refine wpAnyH_ready (rs := [16]) (by kernel_rfl) (by simp) ?_
        refine AllReadyH.cons (by simp only [List.getElem?_toArray, List.getElem?_cons_succ, List.getElem?_cons_zero] <;> rfl) (fun K hK => ?_) ?_
        · go_simp; refine (HHs.out _).mono ?_; rintro e wv3 ⟨rfl, hq⟩; have ud3 := ud2.trans hq; have fa3 := Lib.hid (row_updH fa2.out hq); have fx3 : Hid (∃ d o, wv3.heap[xb]? = some (.cells #[.pointer d, .pointer (some ⟨kb, 0, none⟩), .pointer (some ⟨mb, 0, none⟩), o] 69 (0, 0))) := (by obtain ⟨d, o, h⟩ := fx2.out; exact ⟨d, o, row_updH h hq⟩); have fr3 := Lib.hid (row_updH fr2.out hq); clear hq; go_wp2_with fail
          refine hK.out _ _ ?_ (fun hHeld => ?_)
          · exact HKEEP.out _ fa3.out fx3.out
          clear hK K
          try simp only [Act.put, List.setIfInBounds_toArray, List.set_cons_zero, List.set_cons_succ]
          refine wpAnyH_ready (rs := [17]) (by kernel_rfl) (by simp) ?_
          refine AllReadyH.cons (by simp only [List.getElem?_toArray, List.getElem?_cons_succ, List.getElem?_cons_zero] <;> rfl) (fun K hK => ?_) ?_
          · go_simp; refine (HLn.out _ ud3).mono ?_; rintro e wv4 ⟨x, K', rfl, hup, HX⟩; have hgl : ga + 1 < wv3.heap.size := blk_lt fr3.out; have HK1 : ga + 1 ∉ K' := off_upd HGK.out.2 hgl hup; have fa4 : Hid (wv4.heap[ga]? = some (.cells AC 66 (0, 0))) := (by have k := fa3.out; rw [← k]; exact hup.block ga (blk_lt k) HGK.out.1); have fr4 : Hid (wv4.heap[ga + 1]? = some (.cells Tryz.zeroCells37 37 (0, 0))) := (by have k := fr3.out; rw [← k]; exact hup.block _ hgl HGK.out.2); have fx4 : Hid (∃ d o, wv4.heap[xb]? = some (.cells #[.pointer d, .pointer (some ⟨kb, 0, none⟩), .pointer (some ⟨mb, 0, none⟩), o] 69 (0, 0))) := (by obtain ⟨d, o, h⟩ := fx3.out; exact ⟨d, o, by rw [← h]; exact hup.block xb (blk_lt h) xK.out⟩); have HUPK := Lib.hid (ud3.quietTo.trans hup); clear hup; go_wp2_with fail
            refine hK.out _ _ ?_ (fun hHeld => ?_)
            · exact HKEEP.out _ fa4.out fx4.out
            clear hK K
            try simp only [Act.put, List.setIfInBounds_toArray, List.set_cons_zero, List.set_cons_succ]
            refine wpAnyH_ready (rs := [18]) (by kernel_rfl) (by simp) ?_
            refine AllReadyH.cons (by simp only [List.getElem?_toArray, List.getElem?_cons_succ, List.getElem?_cons_zero] <;> rfl) (fun K hK => ?_) ?_
            · rw [if_pos (by rfl)]; rw [HZC.out]; refine wp_store_row 37 _ _ rfl (ga + 1) Z rfl rfl _ _ fr4.out ZI.out ZZ.out ZO.out ?_
              refine hK.out _ _ ?_ (fun hHeld => ?_)
              · exact HKEEP.out _ (row_setRowO fa4.out (by omega) _) (by obtain ⟨d, o, h⟩ := fx4.out; exact ⟨d, o, row_setRowO h (by have := HB.out.1; have := HG.out; omega) _⟩)
              clear hK K
              try simp only [Act.put]
              refine tkY 19 hHeld ?_
              refine wpAnyH_done (by kernel_rfl) ?_ _
              refine NoPanic.normal ?_
              have FIN : Hid (CallTo w0 xb mb id sec m n kb K a wr (.returned (.tuple #[.agg Z, .int .i64 x])) (wv4.setRow (ga + 1) Z)) := by
                obtain ⟨k1, k2⟩ := HLAY.out wv4 K' x _ _ Z HUPK.out HK1 HX.out
                have hZ := HZE.out
                rw [hZ] at k1 k2 ⊢
                refine ⟨x, K', Rc.zero, rfl, k1, k2, ?_⟩
                show _ = _
                rw [HEM.out]
                split <;> rfl
              have ROW := Lib.hid (setRow_heap _ _ _ Z _ _ fr4.out)
              clear HLAY HUPK HX HK1
              go_wp2_with fail
              refine bodyPost_ret (results_row_tmp rfl _ _ (ga + 1) _ Z _ _ rfl ROW.out Tryz.underlying37 rfl ZI.out) rfl ?_
              exact FIN.out
            exact AllReadyH.nil
          exact AllReadyH.nil
        exact AllReadyH.nil
      exact AllReadyH.nil
    exact AllReadyH.nil
  by_cases h7 : W = 7
  · have eM : doM m a = fillM m (doQ a) ∧ doE m a = fillR m (doQ a) ∧ doR m a = Rc.zero := by
      have hy : ¬ (a.what % 12 = 5 ∨ a.what % 12 = 6) := by have := HWH.out; omega
      have hy7 : a.what % 12 = 7 := by have := HWH.out; omega
      unfold doM doE doR
      rw [if_neg hy, if_neg hy, if_neg hy, if_pos hy7, if_pos hy7, if_pos hy7]
      exact ⟨rfl, rfl, rfl⟩
    subst h7
    obtain ⟨z4, hz4, hz4a, hz4b⟩ := mod_add a.n 4 (by decide)
    obtain ⟨q, hq⟩ : ∃ q, q = doQ a := ⟨_, rfl⟩
    have HRf : Hid (∀ W, Upd [] [] wr W → Calls Tryz.prog 15 #[.pointer (some ⟨kb, 0, none⟩), .int .i64 q] W (fun e w' => ∃ x K', e = .returned (.int .i64 x) ∧ Upd K K' W w' ∧ Hid (StepX w0 xb mb id sec m (doM m a) n kb K' (doE m a) x w'))) := by
      intro W u
      rw [hq, eM.1, eM.2.1]
      exact Refill_m (HM0.out.quiet u) (doQ a) (doQ_in HAO.out) HN.out htab
    have HEM := Lib.hid eM.2.2
    obtain ⟨c4, hc4⟩ : ∃ c, c = a.n % 4 := ⟨_, rfl⟩
    rw [← hc4] at hz4b
    obtain ⟨wild, hwild⟩ : ∃ wd, wd = a.wild := ⟨_, rfl⟩
    obtain ⟨an, han⟩ : ∃ an, an = a.n := ⟨_, rfl⟩
    rw [← hwild] at cw
    rw [← han] at cn hz4
    have hqq : q = if wild then an else c4 := by rw [hq, hwild, han, hc4]; rfl
    clear eM hq hc4 hwild han cx
    have cx : w2.cell? ⟨xb, 1, none⟩ = some (.pointer (some ⟨kb, 0, none⟩)) := by rw [cell_of_row _ _ _ _ _ _ X2.out]; rfl
    cases wild
    · obtain rfl : q = c4 := by rw [hqq]; rfl
      clear hqq
      go_upto_region 9 with (fail)
      go_wp2_with (first | (refine wpList_build_want (by rfl) 37 #[] rfl Z (Eq.trans (congrArg (fun z => Tryz.prog.built 37 z) (by kernel_rfl)) HBZ.out) ?_))
      refine (HRf.out _ HU.out).mono ?_
      rintro e wv4 ⟨x, K', rfl, hup, HX⟩
      have hgl : ga + 1 < w2.heap.size := blk_lt R1.out
      have HK1 : ga + 1 ∉ K' := off_upd HGK.out.2 hgl hup
      have fr4 : Hid (wv4.heap[ga + 1]? = some (.cells Tryz.zeroCells37 37 (0, 0))) := by
        have k := R1.out
        show _ = _
        rw [← k]
        exact hup.block _ hgl HGK.out.2
      have FIN : Hid (CallTo w0 xb mb id sec m n kb K a wr (.returned (.tuple #[.agg Z, .int .i64 x])) (wv4.setRow (ga + 1) Z)) := by
        obtain ⟨k1, k2⟩ := HLAY.out wv4 K' x _ _ Z (HU.out.quietTo.trans hup) HK1 HX.out
        have hZ := HZE.out
        rw [hZ] at k1 k2 ⊢
        refine ⟨x, K', Rc.zero, rfl, k1, k2, ?_⟩
        show _ = _
        rw [HEM.out]
        split <;> rfl
      have ROW := Lib.hid (setRow_heap _ _ _ Z _ _ fr4.out)
      clear hup HLAY HX HK1 HRf
      go_wp2_with (first | (refine wpList_store_row rfl 37 _ _ rfl (ga + 1) Z rfl rfl _ _ fr4.out ZI.out ZZ.out ZO.out ?_))
      refine bodyPost_ret (results_row_tmp rfl _ _ (ga + 1) _ Z _ _ rfl ROW.out Tryz.underlying37 rfl ZI.out) rfl ?_
      exact FIN.out
    · obtain rfl : q = an := by rw [hqq]; rfl
      clear hqq
      go_upto_region 9 with (fail)
      go_wp2_with (first | (refine wpList_build_want (by rfl) 37 #[] rfl Z (Eq.trans (congrArg (fun z => Tryz.prog.built 37 z) (by kernel_rfl)) HBZ.out) ?_))
      refine (HRf.out _ HU.out).mono ?_
      rintro e wv4 ⟨x, K', rfl, hup, HX⟩
      have hgl : ga + 1 < w2.heap.size := blk_lt R1.out
      have HK1 : ga + 1 ∉ K' := off_upd HGK.out.2 hgl hup
      have fr4 : Hid (wv4.heap[ga + 1]? = some (.cells Tryz.zeroCells37 37 (0, 0))) := by
        have k := R1.out
        show _ = _
        rw [← k]
        exact hup.block _ hgl HGK.out.2
      have FIN : Hid (CallTo w0 xb mb id sec m n kb K a wr (.returned (.tuple #[.agg Z, .int .i64 x])) (wv4.setRow (ga + 1) Z)) := by
        obtain ⟨k1, k2⟩ := HLAY.out wv4 K' x _ _ Z (HU.out.quietTo.trans hup) HK1 HX.out
        have hZ := HZE.out
        rw [hZ] at k1 k2 ⊢
        refine ⟨x, K', Rc.zero, rfl, k1, k2, ?_⟩
        show _ = _
        rw [HEM.out]
        split <;> rfl
      have ROW := Lib.hid (setRow_heap _ _ _ Z _ _ fr4.out)
      clear hup HLAY HX HK1 HRf
      go_wp2_with (first | (refine wpList_store_row rfl 37 _ _ rfl (ga + 1) Z rfl rfl _ _ fr4.out ZI.out ZZ.out ZO.out ?_))
      refine bodyPost_ret (results_row_tmp rfl _ _ (ga + 1) _ Z _ _ rfl ROW.out Tryz.underlying37 rfl ZI.out) rfl ?_
      exact FIN.out
  · have eM : doM m a = selM m (drawS a) (hashN a.n) ∧ doE m a = refE m (bs (drawS a)) ∧ doR m a = selR m (drawS a) (hashN a.n) := by
      rw [HWH.out] at h5 h6 h7
      have hno : ¬ (a.what % 12 = 5 ∨ a.what % 12 = 6) := fun h => h.elim h5 h6
      unfold doM doE doR
      rw [if_neg hno, if_neg hno, if_neg hno, if_neg h7, if_neg h7, if_neg h7]
      exact ⟨rfl, rfl, rfl⟩
    obtain ⟨H, hH⟩ : ∃ H, H = (byteVals (hashN a.n)).toArray := ⟨_, rfl⟩
    have HDr := Lib.hid (fun W => draw_any a W)
    rw [← HAC.out] at HDr
    have HHs := Lib.hid (fun W => rHash_any a.n HAO.out.2 W)
    rw [← hH] at HHs
    have HSl : Hid (∀ W, Upd [] [] wr W → Calls Tryz.prog 13 #[.pointer (some ⟨kb, 0, none⟩), .string (drawS a), .agg H] W (fun e w' => ∃ x K' R, e = .returned (.tuple #[.agg R, .int .i64 x]) ∧ Upd K K' W w' ∧ Hid (StepX w0 xb mb id sec m (doM m a) n kb K' (doE m a) x w') ∧ Hid (∃ y, R = (rcV y).toArray ∧ y.ok ∧ y = if x = 70 then Rc.zero else doR m a))) := by
      intro W u
      rw [hH]
      refine (Sell_m (HM0.out.quiet u) (drawS a) (hashN a.n) (Nat.le_trans (drawS_size a) (by decide)) (hashN_len _) HN.out htab).mono ?_
      rintro e w' ⟨x, K', y, rfl, hup, HX, HY⟩
      rw [← eM.1, ← eM.2.1] at HX
      refine ⟨x, K', _, rfl, hup, HX, y, rfl, ?_, ?_⟩
      · rw [HY.out]
        split
        · exact Rc.zero_ok
        · exact selR_ok HM0.out.ok (hashN_len _)
      · rw [HY.out, eM.2.2]
    obtain ⟨dr, hdr⟩ : ∃ dr, dr = drawS a := ⟨_, rfl⟩
    rw [← hdr] at HDr HSl
    have fa0 : Hid (w2.drew.heap[ga]? = some (.cells AC 66 (0, 0))) := row_updH R0.out ((Upd.refl _ _).drew)
    have fr0 : Hid (w2.drew.heap[ga + 1]? = some (.cells Tryz.zeroCells37 37 (0, 0))) := row_updH R1.out ((Upd.refl _ _).drew)
    have fx0 : Hid (∃ d o, w2.drew.heap[xb]? = some (.cells #[.pointer d, .pointer (some ⟨kb, 0, none⟩), .pointer (some ⟨mb, 0, none⟩), o] 69 (0, 0))) := by
      obtain ⟨d, o, h⟩ := RX.out
      exact ⟨d, o, row_updH h ((Upd.refl _ _).drew)⟩
    clear eM hH hdr
    go_upto_region 10 with (fail)
    refine wp_region_noPanic ?_
    refine wp_region_held_drew (S := fun wp => wp.cell? ⟨xb, 1, none⟩ = some (.pointer (some ⟨kb, 0, none⟩)) ∧ wp.cell? ⟨ga, 1, none⟩ = some (.int .i64 a.n) ∧ (Instr.loadAt 66 (.pointer (some ⟨ga, 0, none⟩))).run Tryz.prog wp = .ok (.agg AC) wp) (by kernel_rfl) ?_ (fun hHeld => ?_)
    · exact HKEEP.out _ fa0.out fx0.out
    refine tkY 0 hHeld ?_
    refine tkY 1 hHeld ?_
    refine tkY 2 hHeld ?_
    refine tkY 3 hHeld ?_
    refine tkL 4 hHeld AC (fun w hSw => hSw.2.2) ?_
    refine tkY 6 hHeld ?_
    refine tkY 7 hHeld ?_
    refine wpAnyH_ready (rs := [5]) (by kernel_rfl) (by simp) ?_
    refine AllReadyH.cons (by simp only [List.getElem?_toArray, List.getElem?_cons_succ, List.getElem?_cons_zero] <;> rfl) (fun K hK => ?_) ?_
    · go_simp; refine (HDr.out _).mono ?_; rintro e wv1 ⟨rfl, hq⟩; have ud1 := ud0.trans hq; have fa1 := Lib.hid (row_updH fa0.out hq); have fx1 : Hid (∃ d o, wv1.heap[xb]? = some (.cells #[.pointer d, .pointer (some ⟨kb, 0, none⟩), .pointer (some ⟨mb, 0, none⟩), o] 69 (0, 0))) := (by obtain ⟨d, o, h⟩ := fx0.out; exact ⟨d, o, row_updH h hq⟩); have fr1 := Lib.hid (row_updH fr0.out hq); clear hq; go_wp2_with fail
      refine hK.out _ _ ?_ (fun hHeld => ?_)
      · exact HKEEP.out _ fa1.out fx1.out
      clear hK K
      try simp only [Act.put, List.setIfInBounds_toArray, List.set_cons_zero, List.set_cons_succ]
      refine wpAnyH_ready (rs := [8]) (by kernel_rfl) (by simp) ?_
      refine AllReadyH.cons (by simp only [List.getElem?_toArray, List.getElem?_cons_succ, List.getElem?_cons_zero] <;> rfl) (fun K hK => ?_) ?_
      · go_simp; refine (HHs.out _).mono ?_; rintro e wv2 ⟨rfl, hq⟩; have ud2 := ud1.trans hq; have fa2 := Lib.hid (row_updH fa1.out hq); have fx2 : Hid (∃ d o, wv2.heap[xb]? = some (.cells #[.pointer d, .pointer (some ⟨kb, 0, none⟩), .pointer (some ⟨mb, 0, none⟩), o] 69 (0, 0))) := (by obtain ⟨d, o, h⟩ := fx1.out; exact ⟨d, o, row_updH h hq⟩); have fr2 := Lib.hid (row_updH fr1.out hq); clear hq; go_wp2_with fail
        refine hK.out _ _ ?_ (fun hHeld => ?_)
        · exact HKEEP.out _ fa2.out fx2.out
        clear hK K
        try simp only [Act.put, List.setIfInBounds_toArray, List.set_cons_zero, List.set_cons_succ]
        refine wpAnyH_ready (rs := [9]) (by kernel_rfl) (by simp) ?_
        refine AllReadyH.cons (by simp only [List.getElem?_toArray, List.getElem?_cons_succ, List.getElem?_cons_zero] <;> rfl) (fun K hK => ?_) ?_
        · go_simp; refine (HSl.out _ ud2).mono ?_; rintro e wv3 ⟨x, K', R, rfl, hup, HX, HY⟩; have hgl : ga + 1 < wv2.heap.size := blk_lt fr2.out; have HK1 : ga + 1 ∉ K' := off_upd HGK.out.2 hgl hup; have fa3 : Hid (wv3.heap[ga]? = some (.cells AC 66 (0, 0))) := (by have k := fa2.out; rw [← k]; exact hup.block ga (blk_lt k) HGK.out.1); have fr3 : Hid (wv3.heap[ga + 1]? = some (.cells Tryz.zeroCells37 37 (0, 0))) := (by have k := fr2.out; rw [← k]; exact hup.block _ hgl HGK.out.2); have fx3 : Hid (∃ d o, wv3.heap[xb]? = some (.cells #[.pointer d, .pointer (some ⟨kb, 0, none⟩), .pointer (some ⟨mb, 0, none⟩), o] 69 (0, 0))) := (by obtain ⟨d, o, h⟩ := fx2.out; exact ⟨d, o, by rw [← h]; exact hup.block xb (blk_lt h) xK.out⟩); have RI : Hid ((Tryz.prog.info? 37).map (·.size) = some R.size) := (by obtain ⟨y, hy, hyo, _⟩ := HY.out; exact (rcLet hyo R hy).1.out); have RO : Hid (R.all (·.oneCell') = true) := (by obtain ⟨y, hy, hyo, _⟩ := HY.out; exact (rcLet hyo R hy).2.1.out); have RZ : Hid (Tryz.zeroCells37.size = R.size) := (by obtain ⟨y, hy, hyo, _⟩ := HY.out; exact (rcLet hyo R hy).2.2.out); have HUPK := Lib.hid (ud2.quietTo.trans hup); clear hup; go_wp2_with fail
          refine hK.out _ _ ?_ (fun hHeld => ?_)
          · exact HKEEP.out _ fa3.out fx3.out
          clear hK K
          try simp only [Act.put, List.setIfInBounds_toArray, List.set_cons_zero, List.set_cons_succ]
          refine tkY 10 hHeld ?_
          refine tkY 11 hHeld ?_
          refine wpAnyH_ready (rs := [12]) (by kernel_rfl) (by simp) ?_
          refine AllReadyH.cons (by simp only [List.getElem?_toArray, List.getElem?_cons_succ, List.getElem?_cons_zero] <;> rfl) (fun K hK => ?_) ?_
          · rw [if_pos (by rfl)]; refine wp_store_row 37 _ _ rfl (ga + 1) R rfl rfl _ _ fr3.out RI.out RZ.out RO.out ?_
            refine hK.out _ _ ?_ (fun hHeld => ?_)
            · exact HKEEP.out _ (row_setRowO fa3.out (by omega) _) (by obtain ⟨d, o, h⟩ := fx3.out; exact ⟨d, o, row_setRowO h (by have := HB.out.1; have := HG.out; omega) _⟩)
            clear hK K
            try simp only [Act.put]
            refine tkY 13 hHeld ?_
            refine wpAnyH_done (by kernel_rfl) ?_ _
            refine NoPanic.normal ?_
            have FIN : Hid (CallTo w0 xb mb id sec m n kb K a wr (.returned (.tuple #[.agg R, .int .i64 x])) (wv3.setRow (ga + 1) R)) := by
              obtain ⟨k1, k2⟩ := HLAY.out wv3 K' x _ _ R HUPK.out HK1 HX.out
              obtain ⟨y, hy, _, hy2⟩ := HY.out
              rw [hy] at k1 k2 ⊢
              exact ⟨x, K', y, rfl, k1, k2, hy2⟩
            have ROW := Lib.hid (setRow_heap _ _ _ R _ _ fr3.out)
            clear HLAY HUPK HX HY HK1
            go_wp2_with fail
            refine bodyPost_ret (results_row_tmp rfl _ _ (ga + 1) _ R _ _ rfl ROW.out Tryz.underlying37 rfl RI.out) rfl ?_
            exact FIN.out
          exact AllReadyH.nil
        exact AllReadyH.nil
      exact AllReadyH.nil
    exact AllReadyH.nil
end
end Go.Proofs.YtabnlklkfgojgaaGreatDoor

namespace Go.Proofs.YtabnlklkfgojgaaGreatDoor
open Go.RowKit
set_option maxRecDepth 100000

theorem Upd.widen {w w' : World} {S K : List Nat} (h : Upd S S w w') (hS : ∀ k, k ∈ S → k ∈ K) : Upd K K w w' := ⟨h.os, h.tape, h.output, h.size, fun k hk hn => h.block k hk (fun hm => hn (hS k hm)), fun _ hk => .inl hk⟩
section
variable {w0 wr w1 : World} {xb mb : Nat} {id sec : Int} {m : KM} {n kb : Nat} {K : List Nat}
theorem Fail_m (h : Mach w0 xb mb id sec m n kb K wr) : ∃ b, (∃ o, wr.heap[xb]? = some (.cells #[.pointer (some ⟨b, 0, none⟩), .pointer (some ⟨kb, 0, none⟩), .pointer (some ⟨mb, 0, none⟩), o] 69 (0, 0))) ∧ ∀ (z : Int) (W : World), z ≤ 1000 → Upd [] [] wr W →
    Calls Tryz.prog 19 #[.pointer (some ⟨b, 0, none⟩), .int .i64 z] W (fun e w' => e = .returned (.tuple #[]) ∧ Mach w0 xb mb id sec m n kb K w' ∧ Upd K K W w') := by
  obtain ⟨jb, b, D, F, rs, S, v, rfl, hs, hh, hx, r1, r2⟩ := h.ex
  refine ⟨b, ⟨_, hx.x⟩, fun z W hz u => ?_⟩
  have hs' := hs.quiet u
  refine (Fail_any b D S z W hs'.j.d).mono ?_
  rintro e w' ⟨rfl, hd, hu⟩
  have hup : Upd (kF kb jb v S) (kF kb jb v S) W w' := hu.widen (fun k hk => by simp [kF, hk])
  have hju : Upd (jb :: S) (jb :: S) W w' := hu.widen (fun k hk => by simp [hk])
  exact ⟨rfl, ⟨⟨jb, b, D.fail z, F, rs, S, v, rfl, hs'.jour hju (hs'.j.disk hd hu (hs'.j.clean.fail z (by omega))), hh, (hx.upd (u.quietTo (K := kF kb jb v S))).upd hup, r1, r2⟩, h.xg, h.i1, h.i2⟩, hup⟩
theorem MachC.quiet {A : KM → Prop} (h : MachC w0 xb mb id sec A n kb K wr) (u : Upd [] [] wr w1) : MachC w0 xb mb id sec A n kb K w1 := by
  obtain ⟨b, D, S, hS, hd, hc, hx⟩ := h.ex
  exact ⟨⟨b, D, S, hS, hd.kept u (by simp), hc, hx.upd (u.quietTo (K := K))⟩, h.up.trans u, h.xg, h.i1, h.i2⟩
end
theorem ints_new (w : World) (A : Array Value) (zs : List Int) (h : A = (zs.map (Value.int .i64)).toArray) : IntsAt (w.alloc (.cells A 3)) (.slice (some ⟨w.heap.size, 0, none⟩) zs.length zs.length) zs := by
  refine ⟨zs.length, .inr ⟨w.heap.size, 0, rfl, fun j z hz => ?_⟩⟩
  rw [Nat.zero_add, cell_of_row _ _ _ _ _ _ (heap_alloc_new w (.cells A 3)), h, List.getElem?_toArray, List.getElem?_map, hz]
  rfl
theorem Batch_m {w0 wr : World} {xb mb : Nat} {id sec : Int} {m : KM} {n kb : Nat} {K : List Nat} (h : Mach w0 xb mb id sec m n kb K wr) : Calls Tryz.prog 17 #[.pointer (some ⟨kb, 0, none⟩), .int .i64 0] wr (MkBat m.id m.rs wr) := by
  obtain ⟨jb, b, D, F, rs, S, v, rfl, hst, _⟩ := h.ex
  exact Batch_any hst.body 0 0 (by unfold i64in; omega) (Nat.zero_le _) (fun _ => rfl) (fun h => by omega)
theorem Mach.ck {w0 wr : World} {xb mb : Nat} {id sec : Int} {m : KM} {n kb : Nat} {K : List Nat} (h : Mach w0 xb mb id sec m n kb K wr) : wr.cell? ⟨xb, 1, none⟩ = some (.pointer (some ⟨kb, 0, none⟩)) := by
  obtain ⟨_, _, _, _, _, _, _, _, _, _, hx, _⟩ := h.ex
  rw [cell_of_row _ _ _ _ _ _ hx.x]
  rfl

theorem KM.step_id {m m' : KM} {e : Ev} (h : m.step e = some m') : m'.id = m.id ∧ m'.sec = m.sec := by
  cases e with
  | pap n =>
    simp only [KM.step] at h
    split at h
    · injection h with h
      rw [← h]
      exact ⟨rfl, rfl⟩
    · cases h
  | lrn r s =>
    simp only [KM.step] at h
    split at h
    · injection h with h
      rw [← h]
      exact ⟨rfl, rfl⟩
    · cases h
  | sel x =>
    simp only [KM.step] at h
    split at h
    · injection h with h
      rw [← h]
      exact ⟨rfl, rfl⟩
    · cases h
theorem KM.run_id : ∀ (l : List Ev) (m m' : KM), m.run l = some m' → m'.id = m.id ∧ m'.sec = m.sec
  | [], m, m', h => by
    simp only [KM.run, Option.some.injEq] at h
    rw [← h]
    exact ⟨rfl, rfl⟩
  | e :: r, m, m', h => by
    simp only [KM.run] at h
    obtain ⟨m1, h1, h2⟩ := Option.bind_eq_some_iff.1 h
    have a := KM.step_id h1
    have b := KM.run_id r m1 m' h2
    exact ⟨b.1.trans a.1, b.2.trans a.2⟩
theorem Hist.ids {id sec : Int} {rs : List (List UInt8)} {m : KM} (h : Hist id sec rs m) : m.id = id ∧ m.sec = sec := by
  obtain ⟨p, evs, _, _, h3⟩ := h.ex
  exact KM.run_id evs _ m h3
theorem doE_ne (m : KM) (a : Act27) : doE m a ≠ 70 := by
  have h1 : ∀ r hs, lrnR m r hs ≠ 70 := by
    intro r hs
    unfold lrnR learnE
    repeat' split
    all_goals omega
  unfold doE fillR refE
  repeat' split
  all_goals first | exact h1 _ _ | omega
theorem do_any (m : KM) (a : Act27) : (doM m a).rs = m.rs ∨ ∃ y, (doM m a).rs = m.rs ++ [y] := by
  unfold doM
  split
  · exact .inl (lrnM_rs m _ _).1
  · split
    · unfold fillM; split <;> exact .inl rfl
    · unfold selM
      split
      · exact .inr ⟨_, rfl⟩
      · exact .inl rfl
theorem doM_ids (m : KM) (a : Act27) : (doM m a).id = m.id ∧ (doM m a).sec = m.sec := by
  unfold doM
  split
  · unfold lrnM
    split <;> exact ⟨rfl, rfl⟩
  · split
    · unfold fillM
      split <;> exact ⟨rfl, rfl⟩
    · unfold selM
      split <;> exact ⟨rfl, rfl⟩
def FillAll (w0 : World) (kb b : Nat) (m : KM) (k : Int) (n : Nat) (K : List Nat) (w : World) (e : Ending) (w' : World) : Prop :=
  ∃ K', e = .returned (.int .i64 (fillR m k)) ∧ KIn w0 kb b (fillM m k) (n + 1) K' w' ∧ Upd K K' w w'
theorem KIn.mono {w0 wp : World} {kb b n : Nat} {m : KM} {K : List Nat} (h : KIn w0 kb b m n K wp) {n' : Nat} (hn : n ≤ n') : KIn w0 kb b m n' K wp := by
  obtain ⟨jb, D, F, rs, S, v, h1, h2, h3, h4, h5⟩ := h.ex
  exact ⟨jb, D, F, rs, S, v, h1, h2, h3, by omega, by omega⟩
theorem Refill_all {w0 wp : World} {kb b n : Nat} {m : KM} {K : List Nat} (h : KIn w0 kb b m n K wp) (k : Int) (hk : i64in k) (hn : n ≤ 1000) (htab : Tabs w0) : Calls Tryz.prog 15 #[.pointer (some ⟨kb, 0, none⟩), .int .i64 k] wp (FillAll w0 kb b m k n K wp) := by
  unfold FillAll fillM fillR
  by_cases he : 1 ≤ k ∧ k ≤ 1000000000 - (m.paper : Int)
  · rw [if_pos he, if_pos he]
    obtain ⟨q, hq⟩ : ∃ q : Nat, (q : Int) = k := ⟨k.toNat, by omega⟩
    subst hq
    rw [show ((q : Int)).toNat = q from rfl]
    refine (Refill_in h q (by omega) (by omega) hn htab).mono ?_
    rintro e w' ⟨K', rfl, hK, hu⟩
    exact ⟨K', rfl, hK, hu⟩
  · rw [if_neg he, if_neg he]
    refine (RefillNo_in h k hk he).mono ?_
    rintro e w' ⟨rfl, hq⟩
    exact ⟨K, rfl, (h.quiet hq).mono (by omega), hq.quietTo⟩
end Go.Proofs.YtabnlklkfgojgaaGreatDoor
