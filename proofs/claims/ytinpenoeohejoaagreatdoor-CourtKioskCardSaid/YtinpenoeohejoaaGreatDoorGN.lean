/- sortesref27: mod, Hash, Act.Round, Act.Draw, New. A kiosk's records taken again: number, begin, refilled, learned. A kiosk's records taken again: learned. A map of the call's own with ints as keys: what it holds, as a function. A map of the call's own with strings as keys: what it holds, as a function. kiosk.follow: an event's record is taken. kiosk.Open on a clean journal with records. The laws' machine: a kiosk with its disk, the power perhaps failing. -/
import Derived.Test.YtinpenoeohejoaaGreatDoorGM
import Derived.Test.YtinpenoeohejoaaGreatDoorGL
import Derived.Test.YtinpenoeohejoaaGreatDoorGZ
import Derived.Maps.OwnSet
import Derived.Test.YtinpenoeohejoaaGreatDoorGB
import Derived.StringKeys
import Derived.Carry
namespace Go.Proofs.YtinpenoeohejoaaGreatDoor
open Go.RowKit
set_option maxRecDepth 100000

theorem mod_add (a m : Int) (hm : 0 < m ∧ m ≤ 4611686018427387904) : ∃ z : Int, a.tmod m = z ∧ IntKind.i64.wrap (z + m) = z + m ∧ (z + m).tmod m = a % m := by
  have e1 := Int.tmod_eq_emod (a := a) (b := m)
  have e3 := Int.emod_nonneg a (show m ≠ 0 by omega)
  have e4 := Int.emod_lt_of_pos a (show 0 < m by omega)
  obtain ⟨z, hz⟩ : ∃ z, z = a.tmod m := ⟨_, rfl⟩
  have hz1 : -m < z ∧ z < m ∧ (z = a % m ∨ z = a % m - m) := by
    rw [hz]
    split at e1
    · rw [e1]; omega
    · rw [e1]; omega
  refine ⟨z, hz.symm, IntWalk.i64_in _ (by omega), ?_⟩
  rw [Int.tmod_eq_emod_of_nonneg (by omega)]
  rcases hz1.2.2 with h | h
  · rw [h, Int.add_emod_right, Int.emod_emod]
  · rw [h, show a % m - m + m = a % m by omega, Int.emod_emod]
theorem mod27_any (a m : Int) (w : World) (hm : 0 < m ∧ m ≤ 4611686018427387904) : Calls Tryz.prog 34 #[.int .i64 a, .int .i64 m] w (Ret (.int .i64 (a % m)) w) := by
  obtain ⟨z, hz, w1, w2⟩ := mod_add a m hm
  obtain ⟨r, hr⟩ : ∃ r, r = a % m := ⟨_, rfl⟩
  rw [← hr] at w2 ⊢
  have hm0 : ¬ m = 0 := by omega
  clear hr
  go_enter Tryz.func34, Tryz.ntmps34
  go_wp2_with fail
  go_ret
  exact ⟨rfl, rfl⟩
structure Act27 where
  what : Int
  n : Int
  wild : Bool
def Act27.ok (a : Act27) : Prop := i64in a.what ∧ i64in a.n
def Act27.cs (a : Act27) : Array Value := #[.int .i64 a.what, .int .i64 a.n, .bool a.wild]
def hashN (n : Int) : List UInt8 := hashB [UInt8.ofNat (n % 251).toNat, UInt8.ofNat ((n.tdiv 251) % 251).toNat, 7]
theorem hashN_len (n : Int) : (hashN n).length = 32 := rfl
theorem byte_mod (n : Int) : ((UInt8.ofNat (n % 251).toNat).toNat : Int) = n % 251 := by
  rw [UInt8.toNat_ofNat']
  omega
theorem hash3_built (x y : UInt8) : Tryz.prog.built 37 [(0, .int .u8 (x.toNat : Int)), (1, .int .u8 (y.toNat : Int)), (2, .int .u8 7)] = some (byteVals (hashB [x, y, 7])).toArray := by kernel_rfl
set_option maxHeartbeats 1000000 in
theorem rHash_any (n : Int) (hn : i64in n) (w : World) : Calls Tryz.prog 9 #[.int .i64 n] w (Mk (.agg (byteVals (hashN n)).toArray) w) := by
  obtain ⟨x, hx⟩ : ∃ x, x = UInt8.ofNat (n % 251).toNat := ⟨_, rfl⟩
  obtain ⟨y, hy⟩ : ∃ y, y = UInt8.ofNat ((n.tdiv 251) % 251).toNat := ⟨_, rfl⟩
  have ex : n % 251 = (x.toNat : Int) := by rw [hx, byte_mod]
  have ey : (n.tdiv 251) % 251 = (y.toNat : Int) := by rw [hy, byte_mod]
  have hH0 : (byteVals (hashN n)).toArray = (byteVals (hashB [x, y, 7])).toArray := by unfold hashN; rw [← hx, ← hy]
  obtain ⟨H, hH⟩ : ∃ H, H = (byteVals (hashB [x, y, 7])).toArray := ⟨_, rfl⟩
  rw [hH0, ← hH]
  have HB : Hid (Tryz.prog.built 37 [(0, .int .u8 (x.toNat : Int)), (1, .int .u8 (y.toNat : Int)), (2, .int .u8 7)] = some H) := by show _ = _; rw [hH]; exact hash3_built x y
  obtain ⟨HI, HO, HZ⟩ := hash_let (l := hashB [x, y, 7]) rfl H hH
  have M1 : Hid (∀ W, Calls Tryz.prog 34 #[.int .i64 n, .int .i64 251] W (Ret (.int .i64 (x.toNat : Int)) W)) := fun W => by rw [← ex]; exact mod27_any n 251 W (by decide)
  have M2 : Hid (∀ W, Calls Tryz.prog 34 #[.int .i64 (n.tdiv 251), .int .i64 251] W (Ret (.int .i64 (y.toNat : Int)) W)) := fun W => by rw [← ey]; exact mod27_any (n.tdiv 251) 251 W (by decide)
  have hdv : IntKind.i64.wrap (n.tdiv 251) = n.tdiv 251 := by
    have hb : -9223372036854775808 ≤ n.tdiv 251 ∧ n.tdiv 251 ≤ 9223372036854775807 := by
      unfold i64in at hn
      by_cases h : 0 ≤ n
      · rw [Int.tdiv_eq_ediv_of_nonneg h]; omega
      · have e : n.tdiv 251 = -((-n).tdiv 251) := by rw [Int.neg_tdiv, Int.neg_neg]
        rw [e, Int.tdiv_eq_ediv_of_nonneg (by omega)]; omega
    exact wrap_in hb.1 hb.2
  have wx : IntKind.u8.wrap (x.toNat : Int) = (x.toNat : Int) := IntWalk.u8_in _ (by have := UInt8.toNat_lt x; omega)
  have wy : IntKind.u8.wrap (y.toNat : Int) = (y.toNat : Int) := IntWalk.u8_in _ (by have := UInt8.toNat_lt y; omega)
  obtain ⟨w1, Z1, W1, R1, hq⟩ := blk_new w 37 (byteVals zero32).toArray H
  have HQ := Lib.hid hq
  clear hx hy ex ey hH0 hH hn hq
  go_enter Tryz.func9, Tryz.ntmps9
  go_wp2_with (first | (go_at_call 34; ((with_reducible refine (M1.out _).mono ?_); rintro e w' ⟨rfl, rfl⟩)) | (go_at_call 34; ((with_reducible refine (M2.out _).mono ?_); rintro e w' ⟨rfl, rfl⟩)) | (refine wpList_build_want (by rfl) 37 _ rfl H (Eq.trans (congrArg (fun z => Tryz.prog.built 37 z) (by kernel_rfl)) HB.out) ?_) | (refine wpList_store_rowAs rfl 37 _ _ rfl w.heap.size H rfl rfl _ _ Z1.out HI.out HZ.out HO.out w1 W1.out ?_))
  exact bodyPost_ret (results_cell_row rfl _ _ w.heap.size _ H _ _ rfl R1.out Tryz.underlying37 rfl HI.out) rfl ⟨rfl, HQ.out⟩
end Go.Proofs.YtinpenoeohejoaaGreatDoor

namespace Go.Proofs.YtinpenoeohejoaaGreatDoor
open Go.RowKit
set_option maxRecDepth 100000

theorem kBs_inj {s t : ByteArray} (h : bs s = bs t) : s = t := by
  cases s with
  | mk a => cases t with
    | mk c =>
      have h : a.toList = c.toList := h
      rw [Array.toList_inj.1 h]
set_option maxHeartbeats 1000000 in
theorem kNumber_any (s : ByteArray) (n : Int) (hn : i64in n) (hs : bs s = Lib.itoa n) (w : World) (htab : Tabs w) : Calls Tryz.prog 62 #[.string s] w (Mk (.tuple #[.int .i64 n, .bool true]) w) := by
  have hsz : s.size ≤ 30 := by rw [← bs_length, hs]; have := itoa_len n hn; omega
  have HA := Lib.hid (atoi_ok s n w (by omega) (by rw [hs]; exact atoi_itoa n hn))
  have HI : Hid (∀ W, Upd [] [] w W → Calls Tryz.prog 27 #[.int .i64 n] W (fun e w' => e = .returned (.string s) ∧ Upd [] [] W w')) := by
    intro W u
    refine (itoa_any n W hn (htab.upd u)).mono ?_
    rintro e w' ⟨y, HY, _, rfl, hq⟩
    obtain rfl : y = s := kBs_inj (HY.out.trans hs.symm)
    exact ⟨rfl, hq⟩
  clear hs hsz hn
  go_enter Tryz.func62, Tryz.ntmps62
  go_wp2_with fail
  refine HA.out.mono ?_
  rintro e w1 ⟨rfl, hu⟩
  have HU := Lib.hid hu
  clear hu HA
  go_wp2_with fail
  refine (HI.out w1 HU.out).mono ?_
  rintro e w2 ⟨rfl, hu⟩
  have HU2 := Lib.hid (HU.out.trans hu)
  clear hu HI HU
  go_wp2_with fail
  go_ret2
  exact ⟨rfl, HU2.out⟩
section
variable {w0 wp : World} {B kb jb b : Nat} {m : KM} {v : Value} {D : DiskM} {F : List UInt8} {rs : List (List UInt8)} {S : List Nat}
def FolTo (w0 : World) (B kb jb b : Nat) (D : DiskM) (F : List UInt8) (rs : List (List UInt8)) (S : List Nat) (m' : KM) (v : Value) (w : World) (e : Ending) (w' : World) : Prop :=
  e = .returned (.bool true) ∧ ∃ v', KSt w0 B kb jb b D F rs S m' v' w' ∧ Upd (kF kb jb v S) (kF kb jb v' S) w w'
theorem KM.pap_ok {n : Nat} (h : m.ok) (hn : n ≤ 1000000000) : ({ m with paper := n } : KM).ok :=
  ⟨h.id, h.sec, hn, h.round, h.out, h.many, h.each, h.serial⟩
theorem KSt.paper (h : KSt w0 B kb jb b D F rs S m v wp) (n : Nat) (hn : n ≤ 1000000000) : KSt w0 B kb jb b D F rs S { m with paper := n } v (wp.setCell ⟨kb, 4, none⟩ (.int .i64 (n : Int))) :=
  h.set { m with paper := n } 4 _ (KM.pap_ok h.body.ok hn) rfl rfl
theorem kF_set {w w' : World} (u : Upd [] [] w w') (i : Nat) (x : Value) : Upd (kF kb jb v S) (kF kb jb v S) w (w'.setCell ⟨kb, i, none⟩ x) := (u.quiet (T := kF kb jb v S)).setCell (by simp [kF]) x
set_option maxHeartbeats 2000000 in
theorem begin_any (h : KSt w0 B kb jb b D F rs S m v wp) (s : ByteArray) (n : Nat) (hn : n ≤ 1000000000) (hs : bs s = recP n) (htab : Tabs wp) :
    Calls Tryz.prog 28 #[.pointer (some ⟨kb, 0, none⟩), .string s] wp (FolTo w0 B kb jb b D F rs S { m with paper := n } v wp) := by
  have hlen : s.size ≤ 100 := by rw [← bs_length, hs]; have := rec_pap_len n hn; omega
  have hcut : Lib.cut (bs s) [32] = ([112, 97, 112, 101, 114], Lib.itoa (n : Int), true) := by
    rw [hs]
    exact cut_hit 32 [112, 97, 112, 101, 114] (Lib.itoa (n : Int)) (by decide)
  have i5 : i64in (n : Int) := by unfold i64in; omega
  have HC := Lib.hid (cutByte_any s 32 wp (by omega) htab)
  have HCUT := Lib.hid hcut
  have HNum : Hid (∀ (t : ByteArray) (W : World), bs t = Lib.itoa (n : Int) → Upd [] [] wp W → Calls Tryz.prog 62 #[.string t] W (Mk (.tuple #[.int .i64 (n : Int), .bool true]) W)) := fun t W ht u => kNumber_any t _ i5 ht W (htab.upd u)
  have HFin : Hid (∀ W : World, Upd [] [] wp W → FolTo w0 B kb jb b D F rs S { m with paper := n } v wp (.returned (.bool true)) (W.setCell ⟨kb, 4, none⟩ (.int .i64 (n : Int))) ∧ W.cell? ⟨kb, 4, none⟩ = some (.int .i64 (m.paper : Int)) ∧ W.frozen? ⟨kb, 4, none⟩ = false) := by
    intro W u
    have k := h.quiet u
    exact ⟨⟨rfl, v, k.paper n hn, kF_set u 4 _⟩, k.body.c4, k.body.free 4⟩
  clear hs hcut h hlen
  have g1 : ¬ (n : Int) < 0 := by omega
  have g2 : ¬ (1000000000 : Int) < (n : Int) := by omega
  go_enter Tryz.func28, Tryz.ntmps28
  go_wp2_with fail
  refine HC.out.mono ?_
  rintro e w1 ⟨l, r, q, HL, HR, HQ, hl, hr, rfl, hu⟩
  rw [HCUT.out] at HL HR HQ
  obtain rfl : l = ⟨#[112, 97, 112, 101, 114]⟩ := kBs_inj HL.out
  have HU := Lib.hid hu
  clear hu HC HCUT HL HQ hl hr
  go_wp2_with fail
  refine (HNum.out r w1 HR.out HU.out).mono ?_
  rintro e w2 ⟨rfl, hu⟩
  obtain ⟨F1, c4, f4⟩ := HFin.out w2 (HU.out.trans hu)
  have HF1 := Lib.hid F1
  clear hu HNum HFin HR HU F1
  go_wp2_with fail
  go_ret
  exact HF1.out
set_option maxHeartbeats 2000000 in
theorem refilled_any (h : KSt w0 B kb jb b D F rs S m v wp) (s : ByteArray) (n : Nat) (hn : 1 ≤ n) (hn2 : n + m.paper ≤ 1000000000) (hs : bs s = Lib.itoa (n : Int)) (htab : Tabs wp) :
    Calls Tryz.prog 63 #[.pointer (some ⟨kb, 0, none⟩), .string s] wp (FolTo w0 B kb jb b D F rs S (m.fill n) v wp) := by
  have i5 : i64in (n : Int) := by unfold i64in; omega
  have HNum := Lib.hid (kNumber_any s _ i5 hs wp htab)
  have hT : Hid (∀ W : World, Upd [] [] wp W → Calls Tryz.prog 114 #[.pointer (some ⟨kb, 0, none⟩), .int .i64 (n : Int)] W (fun e w' => e = .returned (.bool true) ∧ W = w')) := by
    intro W u
    refine (takes_any (h.quiet u).body (n : Int) i5).mono ?_
    rintro e w' ⟨y, HY, rfl, rfl⟩
    have hb : decide (1 ≤ (n : Int) ∧ (n : Int) ≤ 1000000000 - (m.paper : Int)) = true := decide_eq_true (by omega)
    exact ⟨by rw [HY.out, hb], rfl⟩
  have hsum : IntKind.i64.wrap ((m.paper : Int) + (n : Int)) = ((m.paper + n : Nat) : Int) := by rw [IntWalk.i64_in _ (by omega)]; omega
  have HFin : Hid (∀ W : World, Upd [] [] wp W → FolTo w0 B kb jb b D F rs S (m.fill n) v wp (.returned (.bool true)) (W.setCell ⟨kb, 4, none⟩ (.int .i64 ((m.paper + n : Nat) : Int))) ∧ W.cell? ⟨kb, 4, none⟩ = some (.int .i64 (m.paper : Int)) ∧ W.frozen? ⟨kb, 4, none⟩ = false) := by
    intro W u
    have k := h.quiet u
    exact ⟨⟨rfl, v, k.paper (m.paper + n) (by omega), kF_set u 4 _⟩, k.body.c4, k.body.free 4⟩
  obtain ⟨M', hM'⟩ : ∃ M', M' = m.fill n := ⟨_, rfl⟩
  rw [← hM'] at HFin ⊢
  clear hs h hM' i5 hn2
  generalize m.paper + n = q at *
  generalize m.paper = p at *
  go_enter Tryz.func63, Tryz.ntmps63
  go_wp2_with fail
  refine HNum.out.mono ?_
  rintro e w1 ⟨rfl, hu⟩
  have HU := Lib.hid hu
  clear hu HNum
  go_wp2_with fail
  refine (hT.out w1 HU.out).mono ?_
  rintro e w2 ⟨rfl, rfl⟩
  obtain ⟨F1, c4, f4⟩ := HFin.out w1 HU.out
  have HF1 := Lib.hid F1
  clear hT HFin HU F1
  go_wp2_with fail
  go_ret
  exact HF1.out
end
end Go.Proofs.YtinpenoeohejoaaGreatDoor

namespace Go.Proofs.YtinpenoeohejoaaGreatDoor
open Go.RowKit
set_option maxRecDepth 100000

section
variable {w0 wp : World} {B kb jb b : Nat} {m : KM} {v : Value} {D : DiskM} {F : List UInt8} {rs : List (List UInt8)} {S : List Nat}
set_option maxHeartbeats 4000000 in
theorem learned_any (h : KSt w0 B kb jb b D F rs S m v wp) (s : ByteArray) (r : Nat) (hs : List UInt8) (hl : hs.length = 32) (hr : m.round < r) (hr2 : r ≤ 1000000000) (he : bs s = Lib.itoa (r : Int) ++ 32 :: hexL hs) (htab : Tabs wp) :
    Calls Tryz.prog 64 #[.pointer (some ⟨kb, 0, none⟩), .string s] wp (FolTo w0 B kb jb b D F rs S (m.lrn r hs) v wp) := by
  obtain ⟨H, hH⟩ : ∃ H, H = (byteVals hs).toArray := ⟨_, rfl⟩
  have HHI : Hid ((Tryz.prog.info? 37).map (·.size) = some H.size) := by show _ = _; rw [hH]; exact hashInfo hl
  have HH1 : Hid (H.all (·.oneCell') = true) := by show _ = _; rw [hH]; exact hashOne _
  have i5 : i64in (r : Int) := by unfold i64in; omega
  have hsz : s.size ≤ 200 := by
    rw [← bs_length, he]
    have := itoa_len (r : Int) i5
    simp only [List.length_append, List.length_cons, hexL_len, hl]
    omega
  have hcut : Lib.cut (bs s) [32] = (Lib.itoa (r : Int), hexL hs, true) := by
    rw [he]
    exact cut_hit 32 _ _ (itoa_no32 _)
  have HC := Lib.hid (cutByte_any s 32 wp (by omega) htab)
  have HCUT := Lib.hid hcut
  have HNum : Hid (∀ (t : ByteArray) (W : World), bs t = Lib.itoa (r : Int) → Upd [] [] wp W → Calls Tryz.prog 62 #[.string t] W (Mk (.tuple #[.int .i64 (r : Int), .bool true]) W)) := fun t W ht u => kNumber_any t _ i5 ht W (htab.upd u)
  have HRd : Hid (∀ (t : ByteArray) (W : World), bs t = hexL hs → Calls Tryz.prog 115 #[.string t] W (Mk (.tuple #[.agg H, .bool true]) W)) := by
    intro t W ht
    refine (hexRead_any t W).mono ?_
    rintro e w' ⟨h', ok, HO, rfl, hu⟩
    have ho := HO.out
    rw [ht] at ho
    obtain ⟨p1, p2⟩ := hexOk_hex hl ho
    rw [p1, p2, hH]
    exact ⟨rfl, hu⟩
  obtain ⟨hmo, _⟩ := KM.lrn_ok h.body.ok hr hr2 hl
  have hFin : Hid (∀ (W : World), Upd [] [] wp W → FolTo w0 B kb jb b D F rs S (m.lrn r hs) v wp (.returned (.bool true)) ((W.setCell ⟨kb, 5, none⟩ (.int .i64 (r : Int))).drew.setCells kb 6 H.toList) ∧ W.frozen? ⟨kb, 5, none⟩ = false ∧ (W.setCell ⟨kb, 5, none⟩ (.int .i64 (r : Int))).there kb 6 H.size ∧ W.cell? ⟨kb, 5, none⟩ = some (.int .i64 (m.round : Int))) := by
    intro W u
    have k := h.quiet u
    obtain ⟨a1, a2⟩ := k.lrn r hs hl hmo
    have e : H.toList = byteVals hs := by rw [hH]
    have hz : H.size = 32 := by rw [hH, hashSz hl]
    rw [e, hz]
    refine ⟨⟨rfl, v, a1, (u.quiet (T := kF kb jb v S)).trans (a2.mono (fun k hk => by simp at hk; rw [hk]; simp [kF]) (fun k hk => .inr hk))⟩, k.body.free 5, fun j hj => ?_, k.body.c5⟩
    have e1 := heap_setCell_same W kb 5 _ _ (.int .i64 (r : Int)) k.body.k
    refine ⟨?_, frozen_of_row _ _ _ _ _ e1⟩
    rw [cell_of_row _ _ _ _ _ _ e1]
    have hlen : ((kqV jb m v false).toArray.setIfInBounds 5 (.int .i64 (r : Int))).size = 39 := by simp [kqV_len k.body.ok.out]
    rw [Array.getElem?_eq_getElem (by rw [hlen]; omega)]
    rfl
  have HLD : Hid (∀ (W : World) (g : Nat), W.heap[g]? = some (.cells H 37 (0, 0)) → (Instr.loadAt 37 (.pointer (some ⟨g, 0, none⟩))).run Tryz.prog W = .ok (.agg H) W) := fun W g hA => hash_load hl H hH hA
  have HKB : Hid (kb < wp.heap.size) := h.body.lt
  have HZS : Hid ((byteVals zero32).toArray.size = H.size) := by show _ = _; rw [hH, hashSz hl]; rfl
  have hmr := h.body.ok.round
  have g2 : ¬ (1000000000 : Int) < (r : Int) := by omega
  have g3 : ¬ (r : Int) ≤ (m.round : Int) := by omega
  obtain ⟨M', hM'⟩ : ∃ M', M' = m.lrn r hs := ⟨_, rfl⟩
  rw [← hM'] at hFin ⊢
  clear hH h hr hmo he hcut hsz hl hM' i5
  generalize m.round = z at *
  go_enter Tryz.func64, Tryz.ntmps64
  go_wp2_with fail
  refine HC.out.mono ?_
  rintro e w1 ⟨l, t, q, HL, HR, HQ, hl, hr, rfl, hu⟩
  rw [HCUT.out] at HL HR HQ
  have HU := Lib.hid hu
  clear hu HC HCUT HQ hl hr
  go_wp2_with fail
  refine (HNum.out l w1 HL.out HU.out).mono ?_
  rintro e w2 ⟨rfl, hu⟩
  have HU2 := Lib.hid (HU.out.trans hu)
  clear hu HNum HL HU
  go_wp2_with fail
  refine (HRd.out t w2 HR.out).mono ?_
  rintro e w3 ⟨rfl, hu⟩
  have hu3 := HU2.out.trans hu
  obtain ⟨w4, Z4, W4, R4, hq⟩ := blk_new w3 37 (byteVals zero32).toArray H
  obtain ⟨gh, hgh⟩ : ∃ gh, gh = w3.heap.size := ⟨_, rfl⟩
  have HGH := Lib.hid hgh
  have R4' : Hid (w4.heap[gh]? = some (.cells H 37 (0, 0))) := by show _ = _; rw [hgh]; exact R4.out
  have HU4 := Lib.hid (hu3.trans hq)
  have HN : Hid (gh ≠ kb) := by show _ ≠ _; have := HKB.out; have := hu3.size; omega
  obtain ⟨k1, k2, k3, c5⟩ := hFin.out w4 HU4.out
  have HF1 := Lib.hid k1
  have HTH := Lib.hid k3
  clear hu HU2 hu3 hq R4 HRd HR hFin hgh k1 k3
  go_upto_region 4 with (first | (refine wpList_store_rowAs rfl 37 _ _ rfl w3.heap.size H rfl rfl _ _ Z4.out HHI.out HZS.out HH1.out w4 W4.out ?_))
  rw [← HGH.out]
  clear Z4 W4 HGH HZS
  go_upto_region 6 with (fail)
  refine @_root_.id ((?pj1 : Prop) → _) (fun hJ => ?mj1) ?jj1
  case mj1 =>
    refine wp_region_noPanic ?_
    refine wp_region_held_drew (S := fun wp' => (Instr.loadAt 37 (.pointer (some ⟨gh, 0, none⟩))).run Tryz.prog wp' = .ok (.agg H) wp') (by kernel_rfl) ?_ (fun hHeld => ?_)
    · exact HLD.out _ gh R4'.out
    refine tkY 0 hHeld ?_
    refine tkY 1 hHeld ?_
    refine tkY 2 hHeld ?_
    refine tkL 3 hHeld H (fun w hSw => hSw) ?_
    refine tkY 4 hHeld ?_
    refine tkY 5 hHeld ?_
    refine wpAnyH_ready (rs := [6]) (by kernel_rfl) (by simp) ?_
    refine AllReadyH.cons (by simp only [List.getElem?_toArray, List.getElem?_cons_succ, List.getElem?_cons_zero] <;> rfl) (fun K hK => ?_) ?_
    · go_simp
      refine hK.out _ _ ?_ (fun hHeld => ?_)
      · exact HLD.out _ gh (row_otherE R4'.out HN.out _)
      clear hK K
      try simp only [Act.put]
      refine tkY 7 hHeld ?_
      refine tkY 8 hHeld ?_
      refine wpAnyH_ready (rs := [9]) (by kernel_rfl) (by simp) ?_
      refine AllReadyH.cons (by simp only [List.getElem?_toArray, List.getElem?_cons_succ, List.getElem?_cons_zero] <;> rfl) (fun K hK => ?_) ?_
      · rw [if_pos (by rfl)]; refine wp_store_mid 37 _ _ rfl kb 6 H rfl rfl HTH.out HHI.out HH1.out ?_
        refine hK.out _ _ ?_ (fun hHeld => ?_)
        · exact HLD.out _ gh (row_setCellsO HN.out _ _ _ (row_otherE R4'.out HN.out _))
        clear hK K
        try simp only [Act.put]
        refine wpAnyH_done (by kernel_rfl) ?_ _
        refine NoPanic.normal ?_
        exact hJ
      exact AllReadyH.nil
    exact AllReadyH.nil
  go_wp2_with fail
  go_ret
  exact HF1.out
theorem rc_sub_hash {w : World} {g b : Nat} {x : Rc} (h : w.rangeAt g b (rcV x)) (hx : x.ok) : w.rangeAt g (b + 36) (byteVals x.hash) := by
  intro j v hv
  obtain ⟨_, _, _, h1, h2, _⟩ := hx
  have e : rcV x = ([.int .i64 x.kiosk, .int .i64 x.serial, .string x.draw, .int .i64 x.seen] ++ byteVals x.out) ++ (byteVals x.hash ++ (byteVals x.prev ++ [.int .i64 x.r, .int .i64 x.s])) := by simp [rcV]
  have hl : ([.int .i64 x.kiosk, .int .i64 x.serial, .string x.draw, .int .i64 x.seen] ++ byteVals x.out : List Value).length = 36 := by simp [byteVals_length, h1]
  have := h (36 + j) v (by rw [e]; exact mid_get hl hv)
  rw [show b + 36 + j = b + (36 + j) by omega]
  exact this
set_option maxHeartbeats 4000000 in
theorem sold_any (h : KSt w0 B kb jb b D F rs S m v wp) (s : ByteArray) (x : Rc) (hx : m.step (.sel x) = some (m.sold x)) (he : bs s = textL x) (htab : Tabs wp) :
    Calls Tryz.prog 65 #[.pointer (some ⟨kb, 0, none⟩), .string s] wp (FolTo w0 B kb jb b D F rs S (m.sold x) v wp) := by
  have hc : nameOk (bs x.draw) = true ∧ 0 < m.paper ∧ m.rs.length < 2000 ∧ x.hash.length = 32 ∧ eqRc (nextK m x.draw x.hash) x = true := by
    simp only [KM.step] at hx
    split at hx
    · assumption
    · cases hx
  obtain ⟨c1, c2, c3, c4, c5⟩ := hc
  have hnx : nextK m x.draw x.hash = x := (eqRc_iff _ _).1 c5
  have hxo : x.ok := by rw [← hnx]; exact nextK_ok h.body.ok c4
  have hm' : (m.sold x).ok := KM.ok_step h.body.ok hx
  have r0 : refE m (bs x.draw) = 0 := by unfold refE; rw [c1, if_neg (by decide), if_neg (by omega), if_neg (by omega)]
  have hdr := nameOk_size c1
  obtain ⟨R, hR⟩ : ∃ R, R = (rcV x).toArray := ⟨_, rfl⟩
  obtain ⟨RI, RO, RZ⟩ := rcLet hxo R hR
  obtain ⟨H, hH⟩ : ∃ H, H = (byteVals x.hash).toArray := ⟨_, rfl⟩
  have hts : s.size ≤ 1000 := by
    rw [← bs_length, he]
    have := textL_len hxo
    omega
  have HRd : Hid (Calls Tryz.prog 116 #[.string s] wp (Mk (.tuple #[.agg R, .bool true]) wp)) := by
    refine (read22_any s wp (by omega) htab).mono ?_
    rintro e w' ⟨y, ok, HO, rfl, hu⟩
    have ho := HO.out
    rw [he] at ho
    obtain ⟨p1, p2⟩ := rcOk_text hxo ho
    rw [p1, p2, hR]
    exact ⟨rfl, hu⟩
  have HRef : Hid (∀ W, Upd [] [] wp W → Calls Tryz.prog 31 #[.pointer (some ⟨kb, 0, none⟩), .string x.draw] W (Mk (.int .i64 0) W)) := by
    intro W u
    refine (refuses_any (h.quiet u).body x.draw (by omega)).mono ?_
    rintro e w' ⟨y, HY, rfl, hu⟩
    rw [HY.out, r0]
    exact ⟨rfl, hu⟩
  have HNx : Hid (∀ W, Upd [] [] wp W → Calls Tryz.prog 32 #[.pointer (some ⟨kb, 0, none⟩), .string x.draw, .agg H] W (Mk (.agg R) W)) := by
    intro W u
    have k := next_any (h.quiet u).body x.draw x.hash (by omega) c4 (htab.upd u)
    rw [hnx, ← hR, ← hH] at k
    exact k
  have HHd : Hid (∀ W, Upd [] [] wp W → Calls Tryz.prog 33 #[.pointer (some ⟨kb, 0, none⟩), .agg R] W (HandTo w0 B kb jb b D F rs S (m.sold x) v W)) := by
    intro W u
    rw [hR]
    exact hand_any (h.quiet u) x (m.sold x) hxo (by omega) hm' rfl
  have HLD : Hid (∀ (W : World) (g : Nat), W.heap[g]? = some (.cells R 41 (0, 0)) → W.cell? ⟨g, 2, none⟩ = some (.string x.draw) ∧ (Instr.loadAt 37 (.pointer (some ⟨g, 36, none⟩))).run Tryz.prog W = .ok (.agg H) W ∧ (Instr.loadAt 41 (.pointer (some ⟨g, 0, none⟩))).run Tryz.prog W = .ok (.agg R) W) := by
    intro W g hg
    have rr := row_range hR hg
    have p1 := run_loadAt_mid W _ _ _ _ _ rr Tryz.underlying41 rfl (rcInfo hxo)
    have p2 := run_loadAt_mid W _ _ _ _ _ (rc_sub_hash rr hxo) Tryz.underlying37 rfl (hashLen c4)
    rw [← hR] at p1
    rw [← hH] at p2
    exact ⟨by rw [cell_of_row _ _ _ _ _ _ hg, hR, (rc_parts hxo).2.2.2.2.2.2.1], p2, p1⟩
  have hq : ∀ W : World, (Op.equalIn 10000 41 (.agg R) (.agg R)).run Tryz.prog W = .ok true W := fun W => eqR_self hR hxo W
  obtain ⟨M', hM'⟩ : ∃ M', M' = m.sold x := ⟨_, rfl⟩
  rw [← hM'] at HHd ⊢
  obtain ⟨dr, hdr'⟩ : ∃ dr, dr = x.draw := ⟨_, rfl⟩
  rw [← hdr'] at HRef HNx HLD
  clear h hx he htab c1 c2 c3 c4 c5 hnx hxo hm' r0 hdr hts hR hH hM' hdr'
  go_enter Tryz.func65, Tryz.ntmps65
  go_wp2_with fail
  refine HRd.out.mono ?_
  rintro e w1 ⟨rfl, hu⟩
  obtain ⟨w2, Z2, W2, R2, hqq⟩ := blk_new w1 41 Tryz.zeroCells41 R
  obtain ⟨gr, hgr⟩ : ∃ g, g = w1.heap.size := ⟨_, rfl⟩
  have HGR := Lib.hid hgr
  have R2' : Hid (w2.heap[gr]? = some (.cells R 41 (0, 0))) := by show _ = _; rw [hgr]; exact R2.out
  have HU2 := Lib.hid (hu.trans hqq)
  clear hu HRd hqq R2 hgr
  go_upto_region 2 with (first | (refine wpList_store_rowAs rfl 41 _ _ rfl w1.heap.size R rfl rfl _ _ Z2.out RI.out RZ.out RO.out w2 W2.out ?_))
  rw [← HGR.out]
  clear Z2 W2 HGR RZ
  have ud0 : Upd [] [] w2 w2.drew := (Upd.refl _ _).drew
  refine wp_region_noPanic ?_
  refine wp_region_held_drew (S := fun wp' => wp'.cell? ⟨gr, 2, none⟩ = some (.string dr) ∧ (Instr.loadAt 37 (.pointer (some ⟨gr, 36, none⟩))).run Tryz.prog wp' = .ok (.agg H) wp' ∧ (Instr.loadAt 41 (.pointer (some ⟨gr, 0, none⟩))).run Tryz.prog wp' = .ok (.agg R) wp') (by kernel_rfl) ?_ (fun hHeld => ?_)
  · exact HLD.out _ gr (row_updH R2'.out ud0)
  refine tkY 0 hHeld ?_
  refine tkY 1 hHeld ?_
  refine tkY 2 hHeld ?_
  refine tkY 3 hHeld ?_
  refine tkY 4 hHeld ?_
  refine tkY 5 hHeld ?_
  refine wpAnyH_ready (rs := [6]) (by kernel_rfl) (by simp) ?_
  refine AllReadyH.cons (by simp only [List.getElem?_toArray, List.getElem?_cons_succ, List.getElem?_cons_zero] <;> rfl) (fun K hK => ?_) ?_
  · go_simp; refine (HRef.out _ (HU2.out.trans ud0)).mono ?_; rintro e wv1 ⟨rfl, hu⟩; have ud1 := ud0.trans hu; clear hu; go_wp2_with fail
    refine hK.out _ _ ?_ (fun hHeld => ?_)
    · exact HLD.out _ gr (row_updH R2'.out ud1)
    clear hK K
    try simp only [Act.put, List.setIfInBounds_toArray, List.set_cons_zero, List.set_cons_succ]
    refine tkY 7 hHeld ?_
    refine tkY 8 hHeld ?_
    refine tkY 9 hHeld ?_
    refine tkY 10 hHeld ?_
    refine tkY 11 hHeld ?_
    refine tkY 12 hHeld ?_
    refine tkY 13 hHeld ?_
    refine tkL 14 hHeld H (fun w hSw => hSw.2.1) ?_
    refine tkL 16 hHeld R (fun w hSw => hSw.2.2) ?_
    refine wpAnyH_ready (rs := [15]) (by kernel_rfl) (by simp) ?_
    refine AllReadyH.cons (by simp only [List.getElem?_toArray, List.getElem?_cons_succ, List.getElem?_cons_zero] <;> rfl) (fun K hK => ?_) ?_
    · go_simp; refine (HNx.out _ (HU2.out.trans ud1)).mono ?_; rintro e wv2 ⟨rfl, hu⟩; have ud2 := ud1.trans hu; clear hu; go_wp2_with fail
      refine hK.out _ _ ?_ (fun hHeld => ?_)
      · exact HLD.out _ gr (row_updH R2'.out ud2)
      clear hK K
      try simp only [Act.put, List.setIfInBounds_toArray, List.set_cons_zero, List.set_cons_succ]
      refine tkY 17 hHeld ?_
      refine tkY 18 hHeld ?_
      refine wpAnyH_done (by kernel_rfl) ?_ _
      refine NoPanic.normal ?_
      have HLR := Lib.hid (HLD.out _ gr (row_updH R2'.out ud2)).2.2
      have HU3 := Lib.hid (HU2.out.trans ud2)
      have HH3 := Lib.hid (HHd.out _ HU3.out)
      clear HRef HNx HHd HLD HU2 ud0 ud1 ud2 R2'
      go_wp2_with (first | (refine wpList_load_want (by rfl) 41 _ rfl gr rfl R HLR.out ?_))
      refine HH3.out.mono ?_
      rintro e w5 ⟨rfl, v', k1, k2⟩
      have HFIN : Hid (FolTo w0 B kb jb b D F rs S M' v wp (.returned (.bool true)) w5) := ⟨rfl, v', k1, (HU3.out.quiet (T := kF kb jb v S)).trans k2⟩
      clear k1 k2 HH3 HU3
      go_wp2_with fail
      go_ret
      exact HFIN.out
    exact AllReadyH.nil
  exact AllReadyH.nil
end
end Go.Proofs.YtinpenoeohejoaaGreatDoor

namespace Go.Proofs.YtinpenoeohejoaaGreatDoor
open Go.Maps
set_option maxRecDepth 100000

def RV (v : Value) : Option (DataW Value × List MemPlace) := some (.held v, [])
def MapF (w : World) (b n : Nat) (f : Int → Option Value) : Prop :=
  ∃ D : DataW Value, w.ownsMap Tryz.prog 3 RV b n D ∧ IsMap D ∧ ∀ x : Int, Maps.has D (.int .i64 x) = (f x).isSome ∧ ∀ v, f x = some v → ∀ z, D.atKey (.int .i64 x) z = .held v

theorem keyI : Keyed Tryz.prog 3 := int_keyed Tryz.underlying3
theorem keyI_mk {x : Int} (hx : -9223372036854775808 ≤ x ∧ x ≤ 9223372036854775807) : keyOf Tryz.prog 3 (.int .i64 x) = some (.int .i64 x) := keyOf_int_mk Tryz.underlying3 (WalkArith.wf_i64 hx)

theorem MapF.made (w : World) : MapF (w.alloc (.map #[] 0)) w.heap.size 0 (fun _ => none) :=
  ⟨.map [], World.ownsMap_made _ _ _ _, isMap_empty, fun _ => ⟨rfl, fun _ h => by cases h⟩⟩
theorem MapF.lt {w : World} {b n : Nat} {f : Int → Option Value} (h : MapF w b n f) : b < w.heap.size := by
  obtain ⟨D, ho, _⟩ := h
  exact ho.lt
theorem MapF.upd {w w' : World} {S S' : List Nat} {b n : Nat} {f : Int → Option Value} (h : MapF w b n f) (u : Upd S S' w w') (hb : b ∉ S) : MapF w' b n f := by
  have hlt := h.lt
  obtain ⟨D, ⟨es, clock, hg, F, hs, hD⟩, hm, hf⟩ := h
  exact ⟨D, ⟨es, clock, (u.block b hlt hb).trans hg, F, hs, hD⟩, hm, hf⟩
theorem MapF.mono {w : World} {b n m : Nat} {f : Int → Option Value} (h : MapF w b n f) (hn : n ≤ m) : MapF w b m f := by
  obtain ⟨D, ho, hm, hf⟩ := h
  exact ⟨D, ho.mono hn, hm, hf⟩

theorem MapF.look_ok {w : World} {b n : Nat} {f : Int → Option Value} {t e : TypeId} {x : Int} {z : Value} (h : MapF w b n f) (ht : Tryz.prog.underlying t = some (.map 3 e)) (hz : (zeroValue e).run Tryz.prog w = .ok z w) (hx : -9223372036854775808 ≤ x ∧ x ≤ 9223372036854775807) :
    (Instr.lookup t (.map (some b)) (.int .i64 x) true).run Tryz.prog w = .ok (.tuple #[(f x).getD z, .bool (f x).isSome]) w := by
  obtain ⟨D, ho, _, hf⟩ := h
  obtain ⟨v, ps, hrun, hv⟩ := ho.look_ok keyI ht hz (zd := .held z) (zp := []) rfl (keyI_mk hx)
  obtain ⟨h1, h2⟩ := hf x
  rw [hrun, h1]
  unfold RV at hv
  cases hfx : f x with
  | none =>
    rw [hfx] at h1
    rw [atKey_of_not_has h1] at hv
    cases hv
    rfl
  | some y =>
    rw [h2 y hfx] at hv
    cases hv
    rfl
theorem MapF.put {w : World} {b n : Nat} {f : Int → Option Value} {t e : TypeId} {x : Int} {v : Value} (h : MapF w b n f) (ht : Tryz.prog.underlying t = some (.map 3 e)) (hn : n < maxLen) (hx : -9223372036854775808 ≤ x ∧ x ≤ 9223372036854775807) :
    ∃ w', (Instr.mapUpdate t (.map (some b)) (.int .i64 x) v).run Tryz.prog w = .ok () w' ∧ MapF w' b (n + 1) (fun y => if y = x then some v else f y) ∧ Upd [b] [b] w w' := by
  obtain ⟨D, ho, hm, hf⟩ := h
  obtain ⟨w', hrun, ho', hg⟩ := ho.update keyI ht hn (d := .held v) (ps := []) (keyI_mk hx) rfl
  refine ⟨w', hrun, ⟨_, ho', hm.put _ _, fun y => ?_⟩, ⟨hg.os, hg.tape, hg.output, hg.size, fun k hk hne => hg.block k hk (fun e => hne (by cases e; exact List.mem_cons_self)), fun k hk => .inl hk⟩⟩
  show has _ _ = (if y = x then some v else f y).isSome ∧ ∀ v', (if y = x then some v else f y) = some v' → _
  by_cases hy : y = x
  · subst hy
    rw [if_pos rfl]
    exact ⟨has_put_same (k := .int .i64 y) hm trivial _, fun v' hv' z => by cases hv'; exact atKey_put_same (k := .int .i64 y) hm trivial _ _⟩
  · rw [if_neg hy]
    have hne : (Lit.int .i64 y) ≠ Lit.int .i64 x := fun e => hy (by cases e; rfl)
    exact ⟨(has_put_other hne _).trans (hf y).1, fun v' hv' z => (atKey_put_other hne _ _).trans ((hf y).2 v' hv' z)⟩

end Go.Proofs.YtinpenoeohejoaaGreatDoor

namespace Go.Proofs.YtinpenoeohejoaaGreatDoor
open Go.Maps Go.WideMaps
set_option maxRecDepth 100000

def MapT (w : World) (b n : Nat) (f : List UInt8 → Option Value) : Prop :=
  ∃ D : DataW Value, w.ownsMap Tryz.prog 9 RV b n D ∧ IsMap D ∧ ∀ x : List UInt8, Maps.has D (.string x) = (f x).isSome ∧ ∀ v, f x = some v → ∀ z, D.atKey (.string x) z = .held v
theorem keyT : Keyed Tryz.prog 9 := string_keyed Tryz.underlying9
theorem keyT_mk {s : ByteArray} (hs : s.size ≤ maxLen) : keyOf Tryz.prog 9 (.string s) = some (.string (bs s)) := keyOf_string_mk Tryz.underlying9 hs
theorem MapT.made (w : World) : MapT (w.alloc (.map #[] 0)) w.heap.size 0 (fun _ => none) :=
  ⟨.map [], World.ownsMap_made _ _ _ _, isMap_empty, fun _ => ⟨rfl, fun _ h => by cases h⟩⟩
theorem MapT.lt {w : World} {b n : Nat} {f : List UInt8 → Option Value} (h : MapT w b n f) : b < w.heap.size := by
  obtain ⟨D, ho, _⟩ := h
  exact ho.lt
theorem MapT.upd {w w' : World} {S S' : List Nat} {b n : Nat} {f : List UInt8 → Option Value} (h : MapT w b n f) (u : Upd S S' w w') (hb : b ∉ S) : MapT w' b n f := by
  have hlt := h.lt
  obtain ⟨D, ⟨es, clock, hg, F, hs, hD⟩, hm, hf⟩ := h
  exact ⟨D, ⟨es, clock, (u.block b hlt hb).trans hg, F, hs, hD⟩, hm, hf⟩
theorem MapT.look_ok {w : World} {b n : Nat} {f : List UInt8 → Option Value} {t e : TypeId} {x : ByteArray} {z : Value} (h : MapT w b n f) (ht : Tryz.prog.underlying t = some (.map 9 e)) (hz : (zeroValue e).run Tryz.prog w = .ok z w) (hx : x.size ≤ maxLen) :
    (Instr.lookup t (.map (some b)) (.string x) true).run Tryz.prog w = .ok (.tuple #[(f (bs x)).getD z, .bool (f (bs x)).isSome]) w := by
  obtain ⟨D, ho, _, hf⟩ := h
  obtain ⟨v, ps, hrun, hv⟩ := ho.look_ok keyT ht hz (zd := .held z) (zp := []) rfl (keyT_mk hx)
  obtain ⟨h1, h2⟩ := hf (bs x)
  rw [hrun, h1]
  unfold RV at hv
  cases hfx : f (bs x) with
  | none =>
    rw [hfx] at h1
    rw [atKey_of_not_has h1] at hv
    cases hv
    rfl
  | some y =>
    rw [h2 y hfx] at hv
    cases hv
    rfl
theorem MapT.put {w : World} {b n : Nat} {f : List UInt8 → Option Value} {t e : TypeId} {x : ByteArray} {v : Value} (h : MapT w b n f) (ht : Tryz.prog.underlying t = some (.map 9 e)) (hn : n < maxLen) (hx : x.size ≤ maxLen) :
    ∃ w', (Instr.mapUpdate t (.map (some b)) (.string x) v).run Tryz.prog w = .ok () w' ∧ MapT w' b (n + 1) (fun y => if y = bs x then some v else f y) ∧ Upd [b] [b] w w' := by
  obtain ⟨D, ho, hm, hf⟩ := h
  obtain ⟨w', hrun, ho', hg⟩ := ho.update keyT ht hn (d := .held v) (ps := []) (keyT_mk hx) rfl
  refine ⟨w', hrun, ⟨_, ho', hm.put _ _, fun y => ?_⟩, ⟨hg.os, hg.tape, hg.output, hg.size, fun k hk hne => hg.block k hk (fun e => hne (by cases e; exact List.mem_cons_self)), fun k hk => .inl hk⟩⟩
  show has _ _ = (if y = bs x then some v else f y).isSome ∧ ∀ v', (if y = bs x then some v else f y) = some v' → _
  by_cases hy : y = bs x
  · subst hy
    rw [if_pos rfl]
    exact ⟨has_put_same (k := .string (bs x)) hm trivial _, fun v' hv' z => by cases hv'; exact atKey_put_same (k := .string (bs x)) hm trivial _ _⟩
  · rw [if_neg hy]
    have hne : (Lit.string y) ≠ Lit.string (bs x) := fun e => hy (by cases e; rfl)
    exact ⟨(has_put_other hne _).trans (hf y).1, fun v' hv' z => (atKey_put_other hne _ _).trans ((hf y).2 v' hv' z)⟩
theorem wpList_ins_T (w : World) {ops : Array Oper} {rest : List Oper} {o : Oper} {a : Act} {Q : Exit → Act → World → Prop}
    (hg : o.guard = none) (m x v : Operand) (t : TypeId) (hop : o.op = Op.insert t m x v) (e : TypeId) (ht : Tryz.prog.underlying t = some (.map 9 e)) (b n : Nat) (f : List UInt8 → Option Value)
    (hm : a.eval m = .map (some b)) (h : MapT w b n f) (hn : n < maxLen) (key : ByteArray) (val : Value) (hx : a.eval x = .string key) (hv : a.eval v = val) (hk : key.size ≤ maxLen)
    (hK : ∀ w', MapT w' b (n + 1) (fun y => if y = bs key then some val else f y) → Upd [b] [b] w w' → wpList Tryz.prog ops Q rest (a.put o.dst undef) w') :
    wpList Tryz.prog ops Q (o :: rest) a w := by
  refine wpList_plain hg fun K' hK' => ?_
  obtain ⟨w', hrun, r1, r2⟩ := h.put (x := key) (v := val) ht hn hk
  unfold Oper.wp
  simp [execOp, hop, hm, hx, hv, hrun, Result.andThen]
  exact hK' _ _ (hK w' r1 r2)
end Go.Proofs.YtinpenoeohejoaaGreatDoor

namespace Go.Proofs.YtinpenoeohejoaaGreatDoor
open Go.RowKit Go.Maps
set_option maxRecDepth 100000

theorem Upd.ownAt {B : Nat} {a b c : World} (h : Upd [] [] a b) (k : Upd [B] [B] b c) (hB : a.heap.size ≤ B) : Upd [] [] a c :=
  ⟨k.os.trans h.os, k.tape.trans h.tape, k.output.trans h.output, Nat.le_trans h.size k.size, fun i hi _ => (k.block i (Nat.lt_of_lt_of_le hi h.size) (by simp; omega)).trans (h.block i hi (by simp)), fun _ hk => absurd hk (by simp)⟩
section
variable {w0 wp : World} {B kb jb b : Nat} {m : KM} {v : Value} {D : DiskM} {F : List UInt8} {rs : List (List UInt8)} {S : List Nat}
theorem und121 : Tryz.prog.underlying 145 = some (.map 9 144) := by kernel_rfl
theorem zeroFn (w : World) : (zeroValue 144).run Tryz.prog w = .ok .nilFunc w := by kernel_rfl
set_option maxHeartbeats 2000000 in
theorem fol_pap (s : ByteArray) (R : List UInt8) (hs : bs s = [112, 97, 112, 101, 114] ++ 32 :: R) (hsz : s.size ≤ 2000) (Q : Ending → World → Prop) (htab : Tabs wp)
    (hC : ∀ (t : ByteArray) (W : World), bs t = R → Upd [] [] wp W → Calls Tryz.prog 63 #[.pointer (some ⟨kb, 0, none⟩), .string t] W (fun e w' => e = .returned (.bool true) ∧ Q (.returned (.bool true)) w')) :
    Calls Tryz.prog 29 #[.pointer (some ⟨kb, 0, none⟩), .string s] wp Q := by
  have hcut : Lib.cut (bs s) [32] = ([112, 97, 112, 101, 114], R, true) := by
    rw [hs]
    exact cut_hit 32 _ _ (by decide)
  have HCUT := Lib.hid hcut
  have HCU := Lib.hid (fun W (u : Upd [] [] wp W) => cutByte_any s 32 W (by omega) (htab.upd u))
  have HC := Lib.hid hC
  have hF0 := MapT.made wp
  have u0 : Upd [] [] wp (wp.alloc (.map #[] 0)) := (Upd.refl _ _).alloc _
  obtain ⟨g, hg⟩ : ∃ g, g = wp.heap.size := ⟨_, rfl⟩
  have HG := Lib.hid hg
  have HU0 := Lib.hid u0
  clear hs hsz hcut hC htab u0 hg
  have hmm := @run_makeMap Tryz.prog
  go_enter Tryz.func29, Tryz.ntmps29
  go_upto_region 1 with (fail)
  go_upto_region 2 with (first | (refine wpList_ins_T _ rfl _ _ _ 145 rfl _ und121 wp.heap.size 0 _ rfl hF0 (by unfold maxLen; omega) _ _ rfl rfl (by decide) ?_; intro w1 hF1 hU1) | (refine wpList_ins_T _ rfl _ _ _ 145 rfl _ und121 wp.heap.size 1 _ rfl hF1 (by unfold maxLen; omega) _ _ rfl rfl (by decide) ?_; intro w2 hF2 hU2) | (refine wpList_ins_T _ rfl _ _ _ 145 rfl _ und121 wp.heap.size 2 _ rfl hF2 (by unfold maxLen; omega) _ _ rfl rfl (by decide) ?_; intro w3 hF3 hU3))
  have HU3 : Hid (Upd [] [] wp w3) := by
    have q := HU0.out.ownAt hU1 (Nat.le_refl _)
    have q2 := q.ownAt hU2 (Nat.le_refl _)
    exact q2.ownAt hU3 (Nat.le_refl _)
  have HF3 := Lib.hid hF3
  clear hF0 hF1 hF2 hF3 hU1 hU2 hU3 HU0 hmm
  go_wp2_with fail
  refine (HCU.out w3 HU3.out).mono ?_
  rintro e w4 ⟨l, r, q, HL, HR, HQ, hl, hr, rfl, hu⟩
  rw [HCUT.out] at HL HR HQ
  obtain rfl : l = ⟨#[112, 97, 112, 101, 114]⟩ := bs_inj HL.out
  have hlk : (Instr.lookup 145 (.map (some wp.heap.size)) (.string ⟨#[112, 97, 112, 101, 114]⟩) true).run Tryz.prog w4 = .ok (.tuple #[.func (.func 63) #[] #[], .bool true]) w4 := (MapT.look_ok (x := ⟨#[112, 97, 112, 101, 114]⟩) (HF3.out.upd hu (by simp)) und121 (zeroFn w4) (by decide)).trans (congrArg (fun z => Result.ok z w4) (by kernel_rfl))
  have HU4 := Lib.hid (HU3.out.trans hu)
  clear hu HCU HCUT HL HQ hl hr HF3 HU3
  go_wp2_with (first | (go_at_fn 63))
  refine (HC.out r w4 HR.out HU4.out).mono ?_
  rintro e w5 ⟨rfl, hq⟩
  have HQ5 := Lib.hid hq
  clear hq HC HR HU4 hlk
  go_wp2_with fail
  exact HQ5.out
set_option maxHeartbeats 2000000 in
theorem fol_lrn (s : ByteArray) (R : List UInt8) (hs : bs s = [108, 101, 97, 114, 110] ++ 32 :: R) (hsz : s.size ≤ 2000) (Q : Ending → World → Prop) (htab : Tabs wp)
    (hC : ∀ (t : ByteArray) (W : World), bs t = R → Upd [] [] wp W → Calls Tryz.prog 64 #[.pointer (some ⟨kb, 0, none⟩), .string t] W (fun e w' => e = .returned (.bool true) ∧ Q (.returned (.bool true)) w')) :
    Calls Tryz.prog 29 #[.pointer (some ⟨kb, 0, none⟩), .string s] wp Q := by
  have hcut : Lib.cut (bs s) [32] = ([108, 101, 97, 114, 110], R, true) := by
    rw [hs]
    exact cut_hit 32 _ _ (by decide)
  have HCUT := Lib.hid hcut
  have HCU := Lib.hid (fun W (u : Upd [] [] wp W) => cutByte_any s 32 W (by omega) (htab.upd u))
  have HC := Lib.hid hC
  have hF0 := MapT.made wp
  have u0 : Upd [] [] wp (wp.alloc (.map #[] 0)) := (Upd.refl _ _).alloc _
  obtain ⟨g, hg⟩ : ∃ g, g = wp.heap.size := ⟨_, rfl⟩
  have HG := Lib.hid hg
  have HU0 := Lib.hid u0
  clear hs hsz hcut hC htab u0 hg
  have hmm := @run_makeMap Tryz.prog
  go_enter Tryz.func29, Tryz.ntmps29
  go_upto_region 1 with (fail)
  go_upto_region 2 with (first | (refine wpList_ins_T _ rfl _ _ _ 145 rfl _ und121 wp.heap.size 0 _ rfl hF0 (by unfold maxLen; omega) _ _ rfl rfl (by decide) ?_; intro w1 hF1 hU1) | (refine wpList_ins_T _ rfl _ _ _ 145 rfl _ und121 wp.heap.size 1 _ rfl hF1 (by unfold maxLen; omega) _ _ rfl rfl (by decide) ?_; intro w2 hF2 hU2) | (refine wpList_ins_T _ rfl _ _ _ 145 rfl _ und121 wp.heap.size 2 _ rfl hF2 (by unfold maxLen; omega) _ _ rfl rfl (by decide) ?_; intro w3 hF3 hU3))
  have HU3 : Hid (Upd [] [] wp w3) := by
    have q := HU0.out.ownAt hU1 (Nat.le_refl _)
    have q2 := q.ownAt hU2 (Nat.le_refl _)
    exact q2.ownAt hU3 (Nat.le_refl _)
  have HF3 := Lib.hid hF3
  clear hF0 hF1 hF2 hF3 hU1 hU2 hU3 HU0 hmm
  go_wp2_with fail
  refine (HCU.out w3 HU3.out).mono ?_
  rintro e w4 ⟨l, r, q, HL, HR, HQ, hl, hr, rfl, hu⟩
  rw [HCUT.out] at HL HR HQ
  obtain rfl : l = ⟨#[108, 101, 97, 114, 110]⟩ := bs_inj HL.out
  have hlk : (Instr.lookup 145 (.map (some wp.heap.size)) (.string ⟨#[108, 101, 97, 114, 110]⟩) true).run Tryz.prog w4 = .ok (.tuple #[.func (.func 64) #[] #[], .bool true]) w4 := (MapT.look_ok (x := ⟨#[108, 101, 97, 114, 110]⟩) (HF3.out.upd hu (by simp)) und121 (zeroFn w4) (by decide)).trans (congrArg (fun z => Result.ok z w4) (by kernel_rfl))
  have HU4 := Lib.hid (HU3.out.trans hu)
  clear hu HCU HCUT HL HQ hl hr HF3 HU3
  go_wp2_with (first | (go_at_fn 64))
  refine (HC.out r w4 HR.out HU4.out).mono ?_
  rintro e w5 ⟨rfl, hq⟩
  have HQ5 := Lib.hid hq
  clear hq HC HR HU4 hlk
  go_wp2_with fail
  exact HQ5.out
set_option maxHeartbeats 2000000 in
theorem fol_sel (s : ByteArray) (R : List UInt8) (hs : bs s = [115, 101, 108, 108] ++ 32 :: R) (hsz : s.size ≤ 2000) (Q : Ending → World → Prop) (htab : Tabs wp)
    (hC : ∀ (t : ByteArray) (W : World), bs t = R → Upd [] [] wp W → Calls Tryz.prog 65 #[.pointer (some ⟨kb, 0, none⟩), .string t] W (fun e w' => e = .returned (.bool true) ∧ Q (.returned (.bool true)) w')) :
    Calls Tryz.prog 29 #[.pointer (some ⟨kb, 0, none⟩), .string s] wp Q := by
  have hcut : Lib.cut (bs s) [32] = ([115, 101, 108, 108], R, true) := by
    rw [hs]
    exact cut_hit 32 _ _ (by decide)
  have HCUT := Lib.hid hcut
  have HCU := Lib.hid (fun W (u : Upd [] [] wp W) => cutByte_any s 32 W (by omega) (htab.upd u))
  have HC := Lib.hid hC
  have hF0 := MapT.made wp
  have u0 : Upd [] [] wp (wp.alloc (.map #[] 0)) := (Upd.refl _ _).alloc _
  obtain ⟨g, hg⟩ : ∃ g, g = wp.heap.size := ⟨_, rfl⟩
  have HG := Lib.hid hg
  have HU0 := Lib.hid u0
  clear hs hsz hcut hC htab u0 hg
  have hmm := @run_makeMap Tryz.prog
  go_enter Tryz.func29, Tryz.ntmps29
  go_upto_region 1 with (fail)
  go_upto_region 2 with (first | (refine wpList_ins_T _ rfl _ _ _ 145 rfl _ und121 wp.heap.size 0 _ rfl hF0 (by unfold maxLen; omega) _ _ rfl rfl (by decide) ?_; intro w1 hF1 hU1) | (refine wpList_ins_T _ rfl _ _ _ 145 rfl _ und121 wp.heap.size 1 _ rfl hF1 (by unfold maxLen; omega) _ _ rfl rfl (by decide) ?_; intro w2 hF2 hU2) | (refine wpList_ins_T _ rfl _ _ _ 145 rfl _ und121 wp.heap.size 2 _ rfl hF2 (by unfold maxLen; omega) _ _ rfl rfl (by decide) ?_; intro w3 hF3 hU3))
  have HU3 : Hid (Upd [] [] wp w3) := by
    have q := HU0.out.ownAt hU1 (Nat.le_refl _)
    have q2 := q.ownAt hU2 (Nat.le_refl _)
    exact q2.ownAt hU3 (Nat.le_refl _)
  have HF3 := Lib.hid hF3
  clear hF0 hF1 hF2 hF3 hU1 hU2 hU3 HU0 hmm
  go_wp2_with fail
  refine (HCU.out w3 HU3.out).mono ?_
  rintro e w4 ⟨l, r, q, HL, HR, HQ, hl, hr, rfl, hu⟩
  rw [HCUT.out] at HL HR HQ
  obtain rfl : l = ⟨#[115, 101, 108, 108]⟩ := bs_inj HL.out
  have hlk : (Instr.lookup 145 (.map (some wp.heap.size)) (.string ⟨#[115, 101, 108, 108]⟩) true).run Tryz.prog w4 = .ok (.tuple #[.func (.func 65) #[] #[], .bool true]) w4 := (MapT.look_ok (x := ⟨#[115, 101, 108, 108]⟩) (HF3.out.upd hu (by simp)) und121 (zeroFn w4) (by decide)).trans (congrArg (fun z => Result.ok z w4) (by kernel_rfl))
  have HU4 := Lib.hid (HU3.out.trans hu)
  clear hu HCU HCUT HL HQ hl hr HF3 HU3
  go_wp2_with (first | (go_at_fn 65))
  refine (HC.out r w4 HR.out HU4.out).mono ?_
  rintro e w5 ⟨rfl, hq⟩
  have HQ5 := Lib.hid hq
  clear hq HC HR HU4 hlk
  go_wp2_with fail
  exact HQ5.out
theorem FolTo.from {w1 : World} {m' : KM} {e : Ending} {w' : World} (u : Upd [] [] wp w1) (h : FolTo w0 B kb jb b D F rs S m' v w1 e w') : e = .returned (.bool true) ∧ FolTo w0 B kb jb b D F rs S m' v wp (.returned (.bool true)) w' := by
  obtain ⟨h1, v', h2, h3⟩ := h
  exact ⟨h1, rfl, v', h2, (u.quiet (T := kF kb jb v S)).trans h3⟩
theorem follow_any (h : KSt w0 B kb jb b D F rs S m v wp) (s : ByteArray) (e : Ev) (m' : KM) (he : m.step e = some m') (hs : bs s = recE e) (hsz : s.size ≤ 2000) (htab : Tabs wp) :
    Calls Tryz.prog 29 #[.pointer (some ⟨kb, 0, none⟩), .string s] wp (FolTo w0 B kb jb b D F rs S m' v wp) := by
  cases e with
  | pap n =>
    have hc : 1 ≤ n ∧ n + m.paper ≤ 1000000000 ∧ m' = m.fill n := by
      simp only [KM.step] at he
      split at he
      · rename_i hh
        cases he
        exact ⟨hh.1, hh.2, rfl⟩
      · cases he
    obtain ⟨h1, h2, rfl⟩ := hc
    exact fol_pap s (Lib.itoa (n : Int)) hs hsz _ htab (fun t W ht u => (refilled_any (h.quiet u) t n h1 h2 ht (htab.upd u)).mono fun _ _ k => k.from u)
  | lrn r hh =>
    have hc : m.round < r ∧ r ≤ 1000000000 ∧ hh.length = 32 ∧ m' = m.lrn r hh := by
      simp only [KM.step] at he
      split at he
      · rename_i hq
        cases he
        exact ⟨hq.1, hq.2.1, hq.2.2, rfl⟩
      · cases he
    obtain ⟨h1, h2, h3, rfl⟩ := hc
    exact fol_lrn s (Lib.itoa (r : Int) ++ 32 :: hexL hh) hs hsz _ htab (fun t W ht u => (learned_any (h.quiet u) t r hh h3 h1 h2 ht (htab.upd u)).mono fun _ _ k => k.from u)
  | sel x =>
    have hc : m' = m.sold x := by
      simp only [KM.step] at he
      split at he
      · cases he; rfl
      · cases he
    subst hc
    exact fol_sel s (textL x) hs hsz _ htab (fun t W ht u => (sold_any (h.quiet u) t x he ht (htab.upd u)).mono fun _ _ k => k.from u)
end
end Go.Proofs.YtinpenoeohejoaaGreatDoor

namespace Go.Proofs.YtinpenoeohejoaaGreatDoor
open Go.RowKit
set_option maxRecDepth 100000

theorem KM.run_append : ∀ (l k : List Ev) (m : KM), m.run (l ++ k) = (m.run l).bind (fun m' => m'.run k)
  | [], k, m => by simp [KM.run]
  | x :: r, k, m => by
    simp only [List.cons_append, KM.run]
    cases m.step x with
    | none => rfl
    | some m' => exact KM.run_append r k m'
structure Hist (id sec : Int) (rs : List (List UInt8)) (m : KM) : Prop where
  ex : ∃ (p : Nat) (evs : List Ev), rs = recP p :: evs.map recE ∧ p ≤ 1000000000 ∧ (KM.new id sec p).run evs = some m
  len : ∀ r ∈ rs, r.length ≤ 440
theorem Hist.new (id sec : Int) (p : Nat) (hp : p ≤ 1000000000) : Hist id sec [recP p] (KM.new id sec p) :=
  ⟨⟨p, [], rfl, hp, rfl⟩, fun r hr => by
    simp at hr
    subst hr
    have := rec_pap_len p hp
    omega⟩
theorem Hist.snoc {id sec : Int} {rs : List (List UInt8)} {m m' : KM} (h : Hist id sec rs m) (e : Ev) (hs : m.step e = some m') (hl : (recE e).length ≤ 440) : Hist id sec (rs ++ [recE e]) m' := by
  obtain ⟨⟨p, evs, h1, h2, h3⟩, h4⟩ := h
  refine ⟨⟨p, evs ++ [e], by rw [h1, List.map_append]; rfl, h2, by rw [KM.run_snoc, h3]; exact hs⟩, fun r hr => ?_⟩
  rw [List.mem_append] at hr
  rcases hr with hr | hr
  · exact h4 r hr
  · simp at hr
    rw [hr]
    exact hl
theorem run_take {m0 m : KM} {evs : List Ev} (h : m0.run evs = some m) {j : Nat} (hj : j < evs.length) {mj : KM} (hm : m0.run (evs.take j) = some mj) : ∃ mk, mj.step evs[j] = some mk ∧ m0.run (evs.take (j + 1)) = some mk := by
  have e1 : evs.take (j + 1) = evs.take j ++ [evs[j]] := by rw [List.take_succ_eq_append_getElem hj]
  have e2 : m0.run evs = (m0.run (evs.take (j + 1))).bind (fun m' => m'.run (evs.drop (j + 1))) := by rw [← KM.run_append, List.take_append_drop]
  rw [e1, KM.run_snoc, hm] at e2 ⊢
  cases hs : mj.step evs[j] with
  | none =>
    rw [h] at e2
    simp [hs] at e2
  | some mk => exact ⟨mk, rfl, by simp [hs]⟩
structure FitsN (n : Nat) : Prop where
  fits : (n : Int) + 1 ≤ 9223372036854775807
theorem FitsN.wrap {n j : Nat} (h : FitsN n) (hj : j < n) : IntKind.i64.wrap ((j : Int) + 1) = (j : Int) + 1 := by
  have := h.fits
  exact wrap_in (by omega) (by omega)
section
variable {w0 wp w1 : World} {B kb jb b : Nat} {m m' : KM} {v : Value} {D : DiskM} {F G : List UInt8} {rs : List (List UInt8)} {S S' T T' : List Nat}
structure RdI (w0 : World) (B kb jb b : Nat) (D : DiskM) (F : List UInt8) (rs : List (List UInt8)) (S2 : List Nat) (wp : World) (S : List Nat) (g : Nat) (cur : Array Value) (evs : List Ev) (m0 : KM) (j : Nat) (wr : World) : Prop where
  ex : ∃ mj v, m0.run (evs.take j) = some mj ∧ KSt w0 B kb jb b D F rs S2 mj v wr ∧ Upd S (kF kb jb v S2) wp wr ∧ Blk wr (kF kb jb v S2) g (.cells cur 9 (0, 0))
set_option maxHeartbeats 4000000 in
theorem Open_old (id sec pq : Int) (hid : i64in id) (hsec : i64in sec) (hq : 0 ≤ pq) (hq2 : pq ≤ 1000000000) (hd : DiskOk w0 B b D S wp) (hcl : JClean D F) (hr : recsL F = (rs, true)) (hh : Hist id sec rs m) (hf : D.failing = false) (hc : D.calls + 6 ≤ 65536) (htab : Tabs w0) (hB : B = w0.heap.size) :
    Calls Tryz.prog 7 #[.int .i64 id, .int .i64 sec, .int .i64 pq, .pointer (some ⟨b, 0, none⟩)] wp (OpenK w0 B b D F rs S m 1 wp) := by
  subst hB
  obtain ⟨⟨p, evs, hrs, hp, hrun⟩, hlen⟩ := hh
  have hoff : D.off = false := DiskM.off_of hf
  have HO := Lib.hid (Open_fine hd.at_ hcl hr hoff (by omega) hd.above hd.below hd.size)
  have HF := Lib.hid hf
  have HC := Lib.hid hc
  have HI := Lib.hid hid
  have HS := Lib.hid hsec
  have HRS := Lib.hid hrs
  have HRUN := Lib.hid hrun
  have HLEN := Lib.hid hlen
  have hnp : 1 ≤ rs.length := by rw [hrs]; simp
  have hnl : rs.length = evs.length + 1 := by rw [hrs]; simp
  have HNL := Lib.hid hnl
  clear hd hcl hoff hc hf hid hsec hr hrs hrun hlen hnl
  go_enter Tryz.func7, Tryz.ntmps7
  go_wp2_with fail
  refine HO.out.mono ?_
  rintro e w2 ⟨jb, v, S2, rfl, st2, hv, hu2, hn2⟩
  obtain ⟨g, cap, cur, rfl, hg, hcn, hcm, hcs, htk⟩ := row_pos hv (by omega)
  have hcell : ∀ (k : Nat) (r : List UInt8), rs[k]? = some r → cur[k]? = some (Value.string ⟨r.toArray⟩) := by
    intro k r hk
    have hkl : k < rs.length := (List.getElem?_eq_some_iff.1 hk).1
    rw [Nat.mul_one] at htk
    have h1 : (cur.toList.take rs.length)[k]? = (strVals rs)[k]? := by rw [htk]
    rw [List.getElem?_take, if_pos hkl] at h1
    rw [← Array.getElem?_toList, h1]
    simp [strVals, hk, strV]
  have HCELL := Lib.hid hcell
  obtain ⟨w3, hw3, st3, hu3⟩ := kst_new id sec HI.out HS.out st2
  have HB := Lib.hid (kq_built jb id sec)
  obtain ⟨K, hK⟩ : ∃ K, K = (kqV jb (KM.new id sec 0) (.slice none 0 0) false).toArray := ⟨_, rfl⟩
  rw [← hK] at HB hw3
  have HW3 := Lib.hid hw3
  have hbg : Blk w3 (kF w2.heap.size jb (.slice none 0 0) S2) g (.cells cur 9 (0, 0)) := by
    refine ⟨?_, fun hm => ?_⟩
    · rw [← hw3]
      exact row_updH hg ((Upd.refl _ _).alloc _)
    · have hlt := blk_lt hg
      simp only [kF, foot, Value.ownBlock, Option.toList, List.nil_append, List.mem_cons] at hm
      simp only [foot, Value.ownBlock, Option.toList, List.nodup_cons, List.mem_cons, List.cons_append, List.nil_append] at hn2
      rcases hm with h1 | h1 | h1
      · omega
      · exact hn2.1 (.inl h1.symm)
      · exact hn2.2.1 h1
  obtain ⟨kb, hkb⟩ : ∃ kb, kb = w2.heap.size := ⟨_, rfl⟩
  rw [← hkb] at st3 hu3 hbg
  have HK := Lib.hid hkb
  have HU3 : Hid (Upd S (kF kb jb (.slice none 0 0) S2) wp w3) := by
    show Upd _ _ _ _
    refine hu2.trans (hu3.mono (fun k hk => ?_) (fun k hk => .inl hk))
    simp only [List.mem_cons, List.mem_append] at hk ⊢
    rcases hk with hk | hk
    · exact .inl hk
    · exact .inr (.inr hk)
  have r0 : rs[0]? = some (recP p) := by rw [HRS.out]; rfl
  obtain ⟨s0, hs0⟩ : ∃ s0 : ByteArray, s0 = ⟨(recP p).toArray⟩ := ⟨_, rfl⟩
  have c0 : w3.cell? ⟨g, 0, none⟩ = some (.string s0) := by rw [cell_of_row _ _ _ _ _ _ hbg.at_, hs0]; exact hcell 0 _ r0
  have HBG := Lib.hid (begin_any st3 s0 p hp (by rw [hs0]; rfl) (htab.upd st3.up))
  have H3 := Lib.hid (And.intro st3 hbg)
  obtain ⟨n, hn⟩ : ∃ n, n = evs.length := ⟨_, rfl⟩
  have hN : rs.length = n + 1 := by rw [HNL.out, hn]
  have HN := Lib.hid hn
  have q1 : ¬ pq < 0 := by omega
  have q2 : ¬ 1000000000 < pq := by omega
  have q3 : ¬ ((n + 1 : Nat) : Int) = 0 := by omega
  have q4 : (0 : Int) < ((n + 1 : Nat) : Int) := by omega
  rw [hN] at hcn ⊢
  have HNB : FitsN n := by unfold maxLen at hcm; exact ⟨by omega⟩
  clear st2 hv hu2 hn2 hw3 hK hkb st3 hu3 HO hbg hcell htk hs0 r0 hcs hN hn hg hnp
  go_upto_region 7 with (first | (refine wpList_buildTo rfl 97 _ rfl _ rfl K (Eq.trans (congrArg (fun z => Tryz.prog.built 97 z) (by kernel_rfl)) HB.out) ?_))
  rw [HW3.out, ← HK.out]
  clear HW3 HB HK
  go_wp2_with fail
  refine HBG.out.mono ?_
  rintro e w4 ⟨rfl, v4, st4, hu4⟩
  have hb4 := H3.out.2.upd hu4
  have I4 : Hid (RdI w0 w0.heap.size kb jb b D.synced1.count F rs S2 wp S g cur evs (KM.new id sec p) 0 w4) := ⟨_, v4, rfl, st4, HU3.out.trans hu4, hb4⟩
  clear st4 hu4 hb4 H3 HBG HU3 c0 q3 q4
  by_cases hcap : cap = 1
  · subst hcap
    obtain rfl : n = 0 := by omega
    go_wp2_with fail
    go_loopw [66] (fun i wr => ∃ j : Nat, i = .int .i64 (j : Int) ∧ j ≤ 0 ∧ Hid (RdI w0 w0.heap.size kb jb b D.synced1.count F rs S2 wp S g cur evs (KM.new id sec p) j wr)) (fun i _ => 0 - (intOf i).toNat)
    case atStart => exact ⟨0, rfl, Nat.zero_le _, I4⟩
    case round =>
      clear I4
      obtain ⟨j, rfl, hj, HJ⟩ := hrel
      by_cases hlt : j < 0
      · skip
        exact absurd hlt (by omega)
      · obtain rfl : j = 0 := by omega
        have HFIN : Hid (∃ v, KSt w0 w0.heap.size kb jb b D.synced1.count F rs S2 m v wr ∧ Upd S (kF kb jb v S2) wp wr) := by
          obtain ⟨mj, v, e1, st, up, _⟩ := HJ.out.ex
          rw [HN.out, List.take_length, HRUN.out] at e1
          cases e1
          exact ⟨v, st, up⟩
        clear HJ hlt
        go_wp2_with fail
        go_ret2
        obtain ⟨v, st, up⟩ := HFIN.out
        exact ⟨kb, jb, S2, v, D.synced1.count, rfl, st, up, HF.out, Nat.le_refl _⟩
  · skip
    go_wp2_with fail
    go_loopw [66] (fun i wr => ∃ j : Nat, i = .int .i64 (j : Int) ∧ j ≤ n ∧ Hid (RdI w0 w0.heap.size kb jb b D.synced1.count F rs S2 wp S g cur evs (KM.new id sec p) j wr)) (fun i _ => n - (intOf i).toNat)
    case atStart => exact ⟨0, rfl, Nat.zero_le _, I4⟩
    case round =>
      clear I4
      obtain ⟨j, rfl, hj, HJ⟩ := hrel
      by_cases hlt : j < n
      · skip
        obtain ⟨mj, v, e1, st, up, bg⟩ := HJ.out.ex
        have hje : j < evs.length := by rw [← HN.out]; exact hlt
        obtain ⟨mk, e2, e3⟩ := run_take HRUN.out hje e1
        have rk : rs[j + 1]? = some (recE evs[j]) := by rw [HRS.out, List.getElem?_cons_succ, List.getElem?_map, List.getElem?_eq_getElem hje]; rfl
        obtain ⟨s, hs⟩ : ∃ s : ByteArray, s = ⟨(recE evs[j]).toArray⟩ := ⟨_, rfl⟩
        have c : wr.cell? ⟨g, 1 + j, none⟩ = some (.string s) := by rw [cell_of_row _ _ _ _ _ _ bg.at_, hs, Nat.add_comm 1 j]; exact HCELL.out _ _ rk
        have hsz : s.size ≤ 2000 := by
          have e : s.size = (recE evs[j]).length := by rw [hs]; rfl
          have := HLEN.out _ (List.mem_of_getElem? rk)
          omega
        have HFo := Lib.hid (follow_any st s evs[j] mk e2 (by rw [hs]; rfl) hsz (htab.upd st.up))
        have H5 := Lib.hid (And.intro e3 (And.intro up bg))
        have i0 : (0 : Int) ≤ (j : Int) := by omega
        have wj : IntKind.i64.wrap ((j : Int) + 1) = (j : Int) + 1 := HNB.wrap hlt
        have i1 : (j : Int) < (n : Int) := by omega
        clear e1 e2 e3 st up bg hs rk HJ hje hsz
        go_wp2_with fail
        refine HFo.out.mono ?_
        rintro e w5 ⟨rfl, v5, st5, hu5⟩
        have IN : Hid (RdI w0 w0.heap.size kb jb b D.synced1.count F rs S2 wp S g cur evs (KM.new id sec p) (j + 1) w5) := ⟨mk, v5, H5.out.1, st5, H5.out.2.1.trans hu5, H5.out.2.2.upd hu5⟩
        clear st5 hu5 H5 HFo
        go_wp2_with fail
        exact ⟨⟨j + 1, by go_num, by omega, IN⟩, by simp [intOf]; omega⟩
      · obtain rfl : j = n := by omega
        have HFIN : Hid (∃ v, KSt w0 w0.heap.size kb jb b D.synced1.count F rs S2 m v wr ∧ Upd S (kF kb jb v S2) wp wr) := by
          obtain ⟨mj, v, e1, st, up, _⟩ := HJ.out.ex
          rw [HN.out, List.take_length, HRUN.out] at e1
          cases e1
          exact ⟨v, st, up⟩
        clear HJ hlt
        go_wp2_with fail
        go_ret2
        obtain ⟨v, st, up⟩ := HFIN.out
        exact ⟨kb, jb, S2, v, D.synced1.count, rfl, st, up, HF.out, Nat.le_refl _⟩
end
end Go.Proofs.YtinpenoeohejoaaGreatDoor

namespace Go.Proofs.YtinpenoeohejoaaGreatDoor
open Go.RowKit
set_option maxRecDepth 100000

theorem off_upd {w w' : World} {K K' : List Nat} {X : Nat} (h : X ∉ K) (hl : X < w.heap.size) (u : Upd K K' w w') : X ∉ K' := fun hm => by
  rcases u.new X hm with g | g
  · exact h g
  · omega
structure CrashOk (D : DiskM) (id sec : Int) (n : Nat) (A : KM → Prop) : Prop where
  ok : D.ok
  all : ∀ sv, ∃ F rs m, A m ∧ JClean (D.crash sv) F ∧ recsL F = (rs, true) ∧ Hist id sec rs m ∧ spaceL rs ≤ 500 * (n + 1)
structure BrD (id sec : Int) (n kb : Nat) (m : KM) (A : KM → Prop) (K : List Nat) (b : Nat) (wr : World) : Prop where
  ex : ∃ jb v D S, KBody wr kb jb m v true ∧ (∀ x, x ∈ kb :: foot v → x ∈ K) ∧ DiskAt wr b D S ∧ (∀ k, k ∈ S → k ∈ K ∧ k ∉ kb :: foot v) ∧ CrashOk D id sec n A
  lt : ∀ k, k ∈ K → k < wr.heap.size
section
variable {w0 wr w1 : World} {xb mb : Nat} {id sec : Int} {m m2 : KM} {n kb : Nat} {K : List Nat} {A : KM → Prop}
theorem BrD.kept {b : Nat} {T T' : List Nat} (h : BrD id sec n kb m A K b wr) (u : Upd T T' wr w1) (hd : ∀ k, k ∈ K → k ∉ T) : BrD id sec n kb m A K b w1 := by
  obtain ⟨jb, v, D, S, h1, h2, h3, h4, h5⟩ := h.ex
  exact ⟨⟨jb, v, D, S, h1.kept u (hd _ (h2 kb (by simp))) (fun x hx => hd _ (h2 x (by simp [hx]))), h2, h3.kept u (fun k hk => hd _ (h4 k hk).1), h4, h5⟩, fun k hk => Nat.lt_of_lt_of_le (h.lt k hk) u.size⟩
theorem BrD.quiet {b : Nat} (h : BrD id sec n kb m A K b wr) (u : Upd [] [] wr w1) : BrD id sec n kb m A K b w1 := h.kept u (by simp)
end
end Go.Proofs.YtinpenoeohejoaaGreatDoor
