/- Court's example: the signature of the first text does not serve for the second. Court's example: the texts of its two events, plainly. day: number, word, cutWord, Text, Encode at the events of court's example. day.Text at the events of court's example. day.Encode, day.Sign, vote at the events of court's example. -/
import Derived.Test.YtinpenoeohejoaaGreatDoorGB
import Derived.Test.YtinpenoeohejoaaGreatDoorGE
import Derived.Lib.SplitLaws
import Derived.Test.YtinpenoeohejoaaGreatDoorGI
import Derived.Test.YtinpenoeohejoaaGreatDoorGZ
import Derived.Test.YtinpenoeohejoaaGreatDoorGM
namespace Go.Proofs.YtinpenoeohejoaaGreatDoor
set_option maxRecDepth 100000

def zeros64 : List UInt8 := List.replicate 64 48
def tPre : List UInt8 := [101, 118, 101, 110, 116, 32, 53, 32, 52, 32, 51, 32, 48, 32, 48, 32] ++ (zeros64 ++ [32, 49, 58])
def tA : List UInt8 := tPre ++ [97]
def tB : List UInt8 := tPre ++ [98]
def three : List UInt8 := [116, 104, 114, 101, 101]
theorem k_three : keyN three = 157892282797220714 := by decide +kernel
theorem k_nonce : nonceN 157892282797220714 tA = 582795021020609833 := by decide +kernel
theorem k_pub : gP 157892282797220714 = 1329328167538474094 := by
  rw [gP, ← pmF_eq Pn 64 4 157892282797220714 (by decide)]
  decide +kernel
theorem k_r : gP 582795021020609833 = 1933573506679164813 := by
  rw [gP, ← pmF_eq Pn 64 4 582795021020609833 (by decide)]
  decide +kernel
theorem k_ca : chalN 1933573506679164813 1329328167538474094 tA = 159858859656014421 := by decide +kernel
theorem k_cb : chalN 1933573506679164813 1329328167538474094 tB = 223578461168602368 := by decide +kernel
theorem forged_no : verB (gP (keyN three) : Int) tB (gP (nonceN (keyN three) tA) : Int) (sWith (keyN three) (nonceN (keyN three) tA) tA : Int) = false := by
  cases h : verB (gP (keyN three) : Int) tB (gP (nonceN (keyN three) tA) : Int) (sWith (keyN three) (nonceN (keyN three) tA) tA : Int) with
  | false => rfl
  | true =>
    rcases ver_two (ver_with (keyN three) (nonceN (keyN three) tA) tA) h with k | k
    · rw [k_three, k_nonce, k_pub, k_r, k_ca, k_cb] at k
      exact absurd k (by decide)
    · rw [k_three, k_pub] at k
      exact absurd k (by decide)
end Go.Proofs.YtinpenoeohejoaaGreatDoor

namespace Go.Proofs.YtinpenoeohejoaaGreatDoor
open Go.RowKit
set_option maxRecDepth 100000

def evV (c : UInt8) (r s : Int) : List Value := [.int .i64 5, .int .i64 4, .int .i64 3, .int .i64 0, .int .i64 0, .string ⟨#[c]⟩] ++ (byteVals zero32 ++ [.int .i64 r, .int .i64 s])
theorem evV_len (c : UInt8) (r s : Int) : (evV c r s).length = 40 := by simp [evV, byteVals, zero32]
theorem evV_one (c : UInt8) (r s : Int) : ∀ u ∈ evV c r s, u.oneCell' = true := by
  intro u hu
  simp only [evV, List.mem_append, List.mem_cons, List.not_mem_nil, or_false] at hu
  rcases hu with (rfl | rfl | rfl | rfl | rfl | rfl) | hu | rfl | rfl
  all_goals first | rfl | exact byteVals_one _ _ hu
def tOf (c : UInt8) : List UInt8 := tPre ++ [c]
def wEv : List UInt8 := [101, 118, 101, 110, 116]
def codeL (c : UInt8) : List UInt8 := [48, 32, 48, 32] ++ tOf c
theorem tOf_len (c : UInt8) : (tOf c).length = 84 := by simp [tOf, tPre, zeros64]
theorem codeL_len (c : UInt8) : (codeL c).length = 88 := by simp [codeL, tOf_len]
theorem itoa_d (n : Nat) (h : n < 10) : Lib.itoa (n : Int) = [UInt8.ofNat (48 + n)] := by
  unfold Lib.itoa
  rw [if_neg (by omega), Int.toNat_natCast, Lib.decDigits_one h]
theorem itoa_5 : Lib.itoa 5 = [53] := itoa_d 5 (by omega)
theorem itoa_4 : Lib.itoa 4 = [52] := itoa_d 4 (by omega)
theorem itoa_0 : Lib.itoa 0 = [48] := itoa_d 0 (by omega)
theorem itoa_1 : Lib.itoa 1 = [49] := itoa_d 1 (by omega)
theorem hex_zero : hexL zero32 = zeros64 := by decide
theorem evt_join (c : UInt8) : Lib.join [wEv, [53], [52], [51], [48], [48], zeros64, [49, 58, c]] [32] = tOf c := by
  simp [Lib.join, List.intercalate_cons_cons, tOf, tPre, wEv]
theorem splitK_hit {c : UInt8} {k : Nat} {a b : List UInt8} (h : c ∉ a) : Lib.splitK [c] 0 (k + 1) (a ++ c :: b) = a :: Lib.splitK [c] 0 k b := by
  have hi := index_hit1 c a b h
  have h1 : (a ++ c :: b).take a.length = a := List.take_left
  have h2 : (a ++ c :: b).drop (a.length + 1) = b := by
    rw [show a ++ c :: b = (a ++ [c]) ++ b by simp, show a.length + 1 = (a ++ [c]).length by simp]
    exact List.drop_left
  rw [Lib.splitK, hi, if_neg (by simp), Int.toNat_natCast, Nat.add_zero, h1]
  show a :: Lib.splitK [c] 0 k ((a ++ c :: b).drop (a.length + 1)) = _
  rw [h2]
theorem code_split (c : UInt8) : Lib.splitK [32] 0 9 (codeL c) = [[48], [48], wEv, [53], [52], [51], [48], [48], zeros64, [49, 58, c]] := by
  have e : codeL c = [48] ++ 32 :: ([48] ++ 32 :: (wEv ++ 32 :: ([53] ++ 32 :: ([52] ++ 32 :: ([51] ++ 32 :: ([48] ++ 32 :: ([48] ++ 32 :: (zeros64 ++ 32 :: [49, 58, c])))))))) := by
    simp [codeL, tOf, tPre, wEv]
  rw [e, splitK_hit (by decide), splitK_hit (by decide), splitK_hit (by decide), splitK_hit (by decide), splitK_hit (by decide), splitK_hit (by decide), splitK_hit (by decide), splitK_hit (by decide), splitK_hit (by decide)]
  rfl
theorem splitB_of {s sep : ByteArray} {k : Nat} {l : List (List UInt8)} (h : Lib.splitK (bs sep) 0 k (bs s) = l) : Lib.splitB sep 0 k s = l.map (fun x => ⟨x.toArray⟩) := by
  have e := Lib.splitB_data sep 0 k s
  have e2 : (Lib.splitB sep 0 k s).map (·.data.toList) = l := e.trans h
  rw [← e2, List.map_map]
  conv => lhs; rw [← List.map_id (Lib.splitB sep 0 k s)]
  refine List.map_congr_left fun x _ => ?_
  exact bs_inj rfl
theorem tOf_count {c : UInt8} (h : c ≠ 32) {s : ByteArray} (hs : bs s = tOf c) : Lib.countB s ⟨#[32]⟩ = 7 := by
  have e : Lib.countB s ⟨#[32]⟩ = (bs s).count 32 := Lib.count_one 32 (bs s)
  rw [e, hs, tOf, List.count_append, show tPre.count 32 = 7 by decide, List.count_cons_of_ne (by simpa using h)]
  rfl
end Go.Proofs.YtinpenoeohejoaaGreatDoor

namespace Go.Proofs.YtinpenoeohejoaaGreatDoor
open Go.RowKit
set_option maxRecDepth 100000

set_option maxHeartbeats 1000000 in
theorem dNumber_any (s : ByteArray) (n : Int) (hn : i64in n) (hs : bs s = Lib.itoa n) (w : World) (htab : Tabs w) : Calls Tryz.prog 205 #[.string s] w (Mk (.tuple #[.int .i64 n, .bool true]) w) := by
  have hsz : s.size ≤ 30 := by rw [← bs_length, hs]; have := itoa_len n hn; omega
  have HA := Lib.hid (atoi_ok s n w (by omega) (by rw [hs]; exact atoi_itoa n hn))
  have HI : Hid (∀ W, Upd [] [] w W → Calls Tryz.prog 27 #[.int .i64 n] W (fun e w' => e = .returned (.string s) ∧ Upd [] [] W w')) := by
    intro W u
    refine (itoa_any n W hn (htab.upd u)).mono ?_
    rintro e w' ⟨y, HY, _, rfl, hq⟩
    obtain rfl : y = s := bs_inj (HY.out.trans hs.symm)
    exact ⟨rfl, hq⟩
  clear hs hsz hn
  go_enter Tryz.func205, Tryz.ntmps205
  go_wp2_with fail
  refine HA.out.mono ?_
  rintro e w1 ⟨rfl, hu⟩
  have HU := Lib.hid hu
  clear hu HA
  go_wp2_with fail
  refine (HI.out w1 HU.out).mono ?_
  rintro e w2 ⟨rfl, hu⟩
  have HU2 := Lib.hid (HU.out.trans hu)
  clear hu HI HU
  go_wp2_with fail
  go_ret2
  exact ⟨rfl, HU2.out⟩
theorem dWord_any (c : UInt8) (w : World) (htab : Tabs w) : Calls Tryz.prog 92 #[.string ⟨#[c]⟩] w (fun e w' => e = .returned (.string ⟨#[49, 58, c]⟩) ∧ Upd [] [] w w') := by
  have HI : Hid (Calls Tryz.prog 27 #[.int .i64 1] w (fun e w' => e = .returned (.string ⟨#[49]⟩) ∧ Upd [] [] w w')) := by
    refine (itoa_any 1 w (by unfold i64in; omega) htab).mono ?_
    rintro e w' ⟨y, HY, _, rfl, hq⟩
    obtain rfl : y = ⟨#[49]⟩ := bs_inj (HY.out.trans itoa_1)
    exact ⟨rfl, hq⟩
  go_enter Tryz.func92, Tryz.ntmps92
  go_wp2_with fail
  refine HI.out.mono ?_
  rintro e w1 ⟨rfl, hu⟩
  have HU := Lib.hid hu
  clear hu HI
  go_wp2_with fail
  go_ret
  exact ⟨rfl, HU.out⟩
theorem dCut_any (c : UInt8) (w : World) (htab : Tabs w) : Calls Tryz.prog 206 #[.string ⟨#[49, 58, c]⟩] w (fun e w' => e = .returned (.tuple #[.string ⟨#[c]⟩, .string ⟨#[]⟩, .bool true]) ∧ Upd [] [] w w') := by
  have hcut : Lib.cut (bs ⟨#[49, 58, c]⟩) [58] = ([49], [c], true) := cut_hit 58 [49] [c] (by decide)
  have HCUT := Lib.hid hcut
  have HC := Lib.hid (cutByte_any ⟨#[49, 58, c]⟩ 58 w (by show 3 ≤ _; decide) htab)
  have HN := Lib.hid (fun W (u : Upd [] [] w W) => dNumber_any ⟨#[49]⟩ 1 (by unfold i64in; omega) itoa_1.symm W (htab.upd u))
  clear hcut
  go_enter Tryz.func206, Tryz.ntmps206
  go_wp2_with fail
  refine HC.out.mono ?_
  rintro e w1 ⟨l, r, q, HL, HR, HQ, hl, hr, rfl, hu⟩
  rw [HCUT.out] at HL HR HQ
  obtain rfl : l = ⟨#[49]⟩ := bs_inj HL.out
  obtain rfl : r = ⟨#[c]⟩ := bs_inj HR.out
  obtain rfl : q = true := HQ.out
  have HU := Lib.hid hu
  clear hu HC HCUT HL HQ HR hl hr
  go_wp2_with fail
  refine (HN.out w1 HU.out).mono ?_
  rintro e w2 ⟨rfl, hu⟩
  have HU2 := Lib.hid (HU.out.trans hu)
  clear hu HN HU
  go_wp2_with fail
  go_quiet (fail)
  go_wp2_with fail
  go_ret3
  exact ⟨rfl, HU2.out.drewN _⟩
end Go.Proofs.YtinpenoeohejoaaGreatDoor

namespace Go.Proofs.YtinpenoeohejoaaGreatDoor
open Go.RowKit
set_option maxRecDepth 100000

def EvA (w : World) (g : Nat) (c : UInt8) (r s : Int) : Prop := w.heap[g]? = some (.cells (evV c r s).toArray 78 (0, 0))
theorem EvA.upd {w w' : World} {g : Nat} {c : UInt8} {r s : Int} (h : EvA w g c r s) (u : Upd [] [] w w') : EvA w' g c r s := row_updH h u
theorem EvA.cell {w : World} {g : Nat} {c : UInt8} {r s : Int} (h : EvA w g c r s) (j : Nat) : w.cell? ⟨g, j, none⟩ = (evV c r s)[j]? := by
  rw [cell_of_row w g j _ _ _ h, List.getElem?_toArray]
theorem ev_at38 (c : UInt8) (r s : Int) : (evV c r s)[38]? = some (.int .i64 r) := by
  unfold evV
  rw [List.getElem?_append_right (by simp), List.getElem?_append_right (by simp [byteVals, zero32])]
  simp [byteVals, zero32]
theorem ev_at39 (c : UInt8) (r s : Int) : (evV c r s)[39]? = some (.int .i64 s) := by
  unfold evV
  rw [List.getElem?_append_right (by simp), List.getElem?_append_right (by simp [byteVals, zero32])]
  simp [byteVals, zero32]
theorem zeroHashInfo : (Tryz.prog.info? 37).map (·.size) = some (byteVals zero32).length := by
  rw [show (byteVals zero32).length = 32 by simp [byteVals, zero32]]
  kernel_rfl
def evS (g : Nat) (c : UInt8) (ZH : Array Value) (w : World) : Prop := w.cell? ⟨g, 0, none⟩ = some (.int .i64 5) ∧ w.cell? ⟨g, 1, none⟩ = some (.int .i64 4) ∧ w.cell? ⟨g, 2, none⟩ = some (.int .i64 3) ∧ w.cell? ⟨g, 3, none⟩ = some (.int .i64 0) ∧ w.cell? ⟨g, 4, none⟩ = some (.int .i64 0) ∧ w.cell? ⟨g, 5, none⟩ = some (.string ⟨#[c]⟩) ∧ (Instr.loadAt 37 (.pointer (some ⟨g, 6, none⟩))).run Tryz.prog w = .ok (.agg ZH) w
theorem EvA.hash {w : World} {g : Nat} {c : UInt8} {r s : Int} (h : EvA w g c r s) : w.rangeAt g 6 (byteVals zero32) := by
  intro j v hv
  rw [h.cell]
  exact mid_get (A := [.int .i64 5, .int .i64 4, .int .i64 3, .int .i64 0, .int .i64 0, .string ⟨#[c]⟩]) rfl hv
theorem EvA.s {w : World} {g : Nat} {c : UInt8} {r s : Int} (h : EvA w g c r s) {ZH : Array Value} (hZ : ZH = (byteVals zero32).toArray) : evS g c ZH w := by
  subst hZ
  exact ⟨h.cell 0, h.cell 1, h.cell 2, h.cell 3, h.cell 4, h.cell 5, run_loadAt_mid w g 6 37 _ _ h.hash Tryz.underlying37 rfl zeroHashInfo⟩
theorem evV_load {w : World} {g : Nat} {c : UInt8} {r s : Int} {E : Array Value} (hE : E = (evV c r s).toArray) (h : EvA w g c r s) : (Instr.loadAt 78 (.pointer (some ⟨g, 0, none⟩))).run Tryz.prog w = .ok (.agg E) w := by
  subst hE
  refine run_loadAt_mid w g 0 78 _ _ (fun j v hv => ?_) Tryz.underlying78 rfl ?_
  · rw [h.cell, Nat.zero_add]; exact hv
  · rw [evV_len]; kernel_rfl
theorem itoa_is (n : Int) (t : ByteArray) (h : Lib.itoa n = bs t) (hn : i64in n) (w : World) (htab : Tabs w) : Calls Tryz.prog 27 #[.int .i64 n] w (fun e w' => e = .returned (.string t) ∧ Upd [] [] w w') := by
  refine (itoa_any n w hn htab).mono ?_
  rintro e w' ⟨y, HY, _, rfl, hq⟩
  obtain rfl : y = t := bs_inj (HY.out.trans h)
  exact ⟨rfl, hq⟩
set_option maxHeartbeats 4000000 in
theorem dText_any (c : UInt8) (r s : Int) (w : World) (htab : Tabs w) : Calls Tryz.prog 45 #[.agg (evV c r s).toArray] w (MkS (tOf c) w) := by
  obtain ⟨EV, hEV⟩ : ∃ EV, EV = (evV c r s).toArray := ⟨_, rfl⟩
  obtain ⟨ZH, hZH⟩ : ∃ ZH, ZH = (byteVals zero32).toArray := ⟨_, rfl⟩
  have HZH := Lib.hid hZH
  obtain ⟨w0, hw0⟩ : ∃ w0, w.alloc (.cells EV 78) = w0 := ⟨_, rfl⟩
  obtain ⟨g, hg⟩ : ∃ g, g = w.heap.size := ⟨_, rfl⟩
  have r0 : EvA w0 g c r s := by rw [hg, ← hw0, hEV]; exact heap_alloc_new _ _
  have u0 : Upd [] [] w w0 := by rw [← hw0]; exact (Upd.refl _ _).alloc _
  have HK := Lib.hid (fun W (u : Upd [] [] w0 W) => (r0.upd u).s hZH)
  have HU0 := Lib.hid u0
  have ud0 : Upd [] [] w0 w0.drew := (Upd.refl _ _).drew
  have HG := Lib.hid hg
  rw [← hEV]
  clear hEV hZH r0 u0 hg
  go_enter Tryz.func45, Tryz.ntmps45
  go_upto_region 1 with (fail)
  rw [← HG.out]
  clear hw0
  refine wp_region_noPanic ?_
  refine wp_region_held_drew (S := fun wp => wp.cell? ⟨g, 0, none⟩ = some (.int .i64 5) ∧ wp.cell? ⟨g, 1, none⟩ = some (.int .i64 4) ∧ wp.cell? ⟨g, 2, none⟩ = some (.int .i64 3) ∧ wp.cell? ⟨g, 3, none⟩ = some (.int .i64 0) ∧ wp.cell? ⟨g, 4, none⟩ = some (.int .i64 0) ∧ wp.cell? ⟨g, 5, none⟩ = some (.string ⟨#[c]⟩) ∧ (Instr.loadAt 37 (.pointer (some ⟨g, 6, none⟩))).run Tryz.prog wp = .ok (.agg ZH) wp) (by kernel_rfl) ?_ (fun hHeld => ?_)
  · exact HK.out _ ud0
  refine tkY 0 hHeld ?_
  refine tkY 1 hHeld ?_
  refine tkY 3 hHeld ?_
  refine tkY 4 hHeld ?_
  refine tkY 6 hHeld ?_
  refine tkY 7 hHeld ?_
  refine tkY 9 hHeld ?_
  refine tkY 10 hHeld ?_
  refine tkY 12 hHeld ?_
  refine tkY 13 hHeld ?_
  refine tkY 15 hHeld ?_
  refine tkL 16 hHeld ZH (fun w hSw => hSw.2.2.2.2.2.2) ?_
  refine tkY 18 hHeld ?_
  refine tkY 19 hHeld ?_
  refine wpAnyH_ready (rs := [2]) (by kernel_rfl) (by simp) ?_
  refine AllReadyH.cons (by simp only [List.getElem?_toArray, List.getElem?_cons_succ, List.getElem?_cons_zero] <;> rfl) (fun K hK => ?_) ?_
  · go_simp; refine (itoa_is 5 ⟨#[53]⟩ itoa_5 (by unfold i64in; omega) _ (htab.upd (HU0.out.trans ud0))).mono ?_; rintro e wv1 ⟨rfl, hq⟩; have ud1 := ud0.trans hq; clear hq; go_wp2_with fail
    refine hK.out _ _ ?_ (fun hHeld => ?_)
    · exact HK.out _ ud1
    clear hK K
    try simp only [Act.put, List.setIfInBounds_toArray, List.set_cons_zero, List.set_cons_succ]
    refine wpAnyH_ready (rs := [5]) (by kernel_rfl) (by simp) ?_
    refine AllReadyH.cons (by simp only [List.getElem?_toArray, List.getElem?_cons_succ, List.getElem?_cons_zero] <;> rfl) (fun K hK => ?_) ?_
    · go_simp; refine (itoa_is 4 ⟨#[52]⟩ itoa_4 (by unfold i64in; omega) _ (htab.upd (HU0.out.trans ud1))).mono ?_; rintro e wv2 ⟨rfl, hq⟩; have ud2 := ud1.trans hq; clear hq; go_wp2_with fail
      refine hK.out _ _ ?_ (fun hHeld => ?_)
      · exact HK.out _ ud2
      clear hK K
      try simp only [Act.put, List.setIfInBounds_toArray, List.set_cons_zero, List.set_cons_succ]
      refine wpAnyH_ready (rs := [8]) (by kernel_rfl) (by simp) ?_
      refine AllReadyH.cons (by simp only [List.getElem?_toArray, List.getElem?_cons_succ, List.getElem?_cons_zero] <;> rfl) (fun K hK => ?_) ?_
      · go_simp; refine (itoa_is 3 ⟨#[51]⟩ itoa_3 (by unfold i64in; omega) _ (htab.upd (HU0.out.trans ud2))).mono ?_; rintro e wv3 ⟨rfl, hq⟩; have ud3 := ud2.trans hq; clear hq; go_wp2_with fail
        refine hK.out _ _ ?_ (fun hHeld => ?_)
        · exact HK.out _ ud3
        clear hK K
        try simp only [Act.put, List.setIfInBounds_toArray, List.set_cons_zero, List.set_cons_succ]
        refine wpAnyH_ready (rs := [11]) (by kernel_rfl) (by simp) ?_
        refine AllReadyH.cons (by simp only [List.getElem?_toArray, List.getElem?_cons_succ, List.getElem?_cons_zero] <;> rfl) (fun K hK => ?_) ?_
        · go_simp; refine (itoa_is 0 ⟨#[48]⟩ itoa_0 (by unfold i64in; omega) _ (htab.upd (HU0.out.trans ud3))).mono ?_; rintro e wv4 ⟨rfl, hq⟩; have ud4 := ud3.trans hq; clear hq; go_wp2_with fail
          refine hK.out _ _ ?_ (fun hHeld => ?_)
          · exact HK.out _ ud4
          clear hK K
          try simp only [Act.put, List.setIfInBounds_toArray, List.set_cons_zero, List.set_cons_succ]
          refine wpAnyH_ready (rs := [14]) (by kernel_rfl) (by simp) ?_
          refine AllReadyH.cons (by simp only [List.getElem?_toArray, List.getElem?_cons_succ, List.getElem?_cons_zero] <;> rfl) (fun K hK => ?_) ?_
          · go_simp; refine (itoa_is 0 ⟨#[48]⟩ itoa_0 (by unfold i64in; omega) _ (htab.upd (HU0.out.trans ud4))).mono ?_; rintro e wv5 ⟨rfl, hq⟩; have ud5 := ud4.trans hq; clear hq; go_wp2_with fail
            refine hK.out _ _ ?_ (fun hHeld => ?_)
            · exact HK.out _ ud5
            clear hK K
            try simp only [Act.put, List.setIfInBounds_toArray, List.set_cons_zero, List.set_cons_succ]
            refine wpAnyH_ready (rs := [17]) (by kernel_rfl) (by simp) ?_
            refine AllReadyH.cons (by simp only [List.getElem?_toArray, List.getElem?_cons_succ, List.getElem?_cons_zero] <;> rfl) (fun K hK => ?_) ?_
            · go_simp; rw [HZH.out]; refine (hexText_any zero32 rfl _).mono ?_; rintro e wv6 ⟨y6, HY6, hy6, rfl, hq⟩; have ud6 := ud5.trans hq; clear hq; go_wp2_with fail
              refine hK.out _ _ ?_ (fun hHeld => ?_)
              · exact HK.out _ ud6
              clear hK K
              try simp only [Act.put, List.setIfInBounds_toArray, List.set_cons_zero, List.set_cons_succ]
              refine wpAnyH_ready (rs := [20]) (by kernel_rfl) (by simp) ?_
              refine AllReadyH.cons (by simp only [List.getElem?_toArray, List.getElem?_cons_succ, List.getElem?_cons_zero] <;> rfl) (fun K hK => ?_) ?_
              · go_simp; refine (dWord_any c _ (htab.upd (HU0.out.trans ud6))).mono ?_; rintro e wv7 ⟨rfl, hq⟩; have ud7 := ud6.trans hq; clear hq; go_wp2_with fail
                refine hK.out _ _ ?_ (fun hHeld => ?_)
                · exact HK.out _ ud7
                clear hK K
                try simp only [Act.put, List.setIfInBounds_toArray, List.set_cons_zero, List.set_cons_succ]
                refine wpAnyH_ready (rs := [21]) (by kernel_rfl) (by simp) ?_
                refine AllReadyH.cons (by simp only [List.getElem?_toArray, List.getElem?_cons_succ, List.getElem?_cons_zero] <;> rfl) (fun K hK => ?_) ?_
                · go_simp
                  refine hK.out _ _ ?_ (fun hHeld => ?_)
                  · exact HK.out _ (ud7.alloc _)
                  clear hK K
                  try simp only [Act.put, List.setIfInBounds_toArray, List.set_cons_zero, List.set_cons_succ]
                  refine tkY 22 hHeld ?_
                  refine wpAnyH_done (by kernel_rfl) ?_ _
                  refine NoPanic.normal ?_
                  go_wp2_with fail
                  have hXS := strsIn_new wv7 [⟨#[101, 118, 101, 110, 116]⟩, ⟨#[53]⟩, ⟨#[52]⟩, ⟨#[51]⟩, ⟨#[48]⟩, ⟨#[48]⟩, y6, ⟨#[49, 58, c]⟩] 9
                  have hjoin : Lib.join ([⟨#[101, 118, 101, 110, 116]⟩, ⟨#[53]⟩, ⟨#[52]⟩, ⟨#[51]⟩, ⟨#[48]⟩, ⟨#[48]⟩, y6, (⟨#[49, 58, c]⟩ : ByteArray)].map bs) [32] = tOf c := by
                    rw [← evt_join c, ← hex_zero, ← HY6.out]
                    rfl
                  have hj := Tryz.strings_Join wv7.heap.size 0 8 [⟨#[101, 118, 101, 110, 116]⟩, ⟨#[53]⟩, ⟨#[52]⟩, ⟨#[51]⟩, ⟨#[48]⟩, ⟨#[48]⟩, y6, ⟨#[49, 58, c]⟩] ⟨#[32]⟩ _ hXS.2 hXS.1 (by simp) (by simp) (by
                    show (Lib.join (_) [32]).length ≤ _
                    have e := congrArg List.length hjoin
                    rw [tOf_len] at e
                    exact Nat.le_trans (Nat.le_of_eq e) (by omega))
                  refine hj.mono ?_
                  rintro e w9 ⟨rfl, hb⟩
                  have hu := upd_of_below hb
                  obtain ⟨T, hT⟩ : ∃ T : ByteArray, T = ⟨(Lib.join ([⟨#[101, 118, 101, 110, 116]⟩, ⟨#[53]⟩, ⟨#[52]⟩, ⟨#[51]⟩, ⟨#[48]⟩, ⟨#[48]⟩, y6, (⟨#[49, 58, c]⟩ : ByteArray)].map (·.data.toList)) (⟨#[32]⟩ : ByteArray).data.toList).toArray⟩ := ⟨_, rfl⟩
                  rw [← hT]
                  have HB : Hid (bs T = tOf c) := by
                    show _ = _
                    rw [hT, bs_mk]
                    exact hjoin
                  have HU := Lib.hid ((HU0.out.trans (ud7.alloc _)).trans hu)
                  clear hj hXS hjoin hb hu hT
                  go_wp2_with fail
                  go_ret
                  exact ⟨T, HB, by rw [← HB.out, bs_length]; exact Nat.le_refl _, rfl, HU.out⟩
                exact AllReadyH.nil
              exact AllReadyH.nil
            exact AllReadyH.nil
          exact AllReadyH.nil
        exact AllReadyH.nil
      exact AllReadyH.nil
    exact AllReadyH.nil
  exact AllReadyH.nil
end Go.Proofs.YtinpenoeohejoaaGreatDoor

namespace Go.Proofs.YtinpenoeohejoaaGreatDoor
open Go.RowKit
set_option maxRecDepth 100000

theorem evInfo (c : UInt8) (r s : Int) : (Tryz.prog.info? 78).map (·.size) = some (evV c r s).toArray.size := by
  rw [show (evV c r s).toArray.size = 40 from evV_len c r s]
  kernel_rfl
theorem evOne (c : UInt8) (r s : Int) : (evV c r s).toArray.all (·.oneCell') = true := by
  rw [Array.all_eq_true_iff_forall_mem]
  intro v hv
  exact evV_one c r s v (by simpa using hv)
set_option maxHeartbeats 4000000 in
theorem dEncode_any (c : UInt8) (w : World) (htab : Tabs w) : Calls Tryz.prog 207 #[.agg (evV c 0 0).toArray] w (MkS (codeL c) w) := by
  obtain ⟨EV, hEV⟩ : ∃ EV, EV = (evV c 0 0).toArray := ⟨_, rfl⟩
  have HEV := Lib.hid hEV
  obtain ⟨w0, hw0⟩ : ∃ w0, w.alloc (.cells EV 78) = w0 := ⟨_, rfl⟩
  obtain ⟨g, hg⟩ : ∃ g, g = w.heap.size := ⟨_, rfl⟩
  have r0 : EvA w0 g c 0 0 := by rw [hg, ← hw0, hEV]; exact heap_alloc_new _ _
  have u0 : Upd [] [] w w0 := by rw [← hw0]; exact (Upd.refl _ _).alloc _
  have HK : Hid (∀ W, Upd [] [] w0 W → W.cell? ⟨g, 38, none⟩ = some (.int .i64 0) ∧ W.cell? ⟨g, 39, none⟩ = some (.int .i64 0) ∧ (Instr.loadAt 78 (.pointer (some ⟨g, 0, none⟩))).run Tryz.prog W = .ok (.agg EV) W) := by
    intro W u
    exact ⟨((r0.upd u).cell 38).trans (ev_at38 _ _ _), ((r0.upd u).cell 39).trans (ev_at39 _ _ _), evV_load hEV (r0.upd u)⟩
  have HU0 := Lib.hid u0
  have ud0 : Upd [] [] w0 w0.drew := (Upd.refl _ _).drew
  have HG := Lib.hid hg
  rw [← hEV]
  clear hEV r0 u0 hg
  go_enter Tryz.func207, Tryz.ntmps207
  go_upto_region 1 with (fail)
  rw [← HG.out]
  clear hw0
  refine wp_region_noPanic ?_
  refine wp_region_held_drew (S := fun wp => wp.cell? ⟨g, 38, none⟩ = some (.int .i64 0) ∧ wp.cell? ⟨g, 39, none⟩ = some (.int .i64 0) ∧ (Instr.loadAt 78 (.pointer (some ⟨g, 0, none⟩))).run Tryz.prog wp = .ok (.agg EV) wp) (by kernel_rfl) ?_ (fun hHeld => ?_)
  · exact HK.out _ ud0
  refine tkY 0 hHeld ?_
  refine tkY 1 hHeld ?_
  refine tkY 2 hHeld ?_
  refine tkY 5 hHeld ?_
  refine tkY 6 hHeld ?_
  refine tkY 7 hHeld ?_
  refine tkL 11 hHeld EV (fun w hSw => hSw.2.2) ?_
  refine wpAnyH_ready (rs := [3]) (by kernel_rfl) (by simp) ?_
  refine AllReadyH.cons (by simp only [List.getElem?_toArray, List.getElem?_cons_succ, List.getElem?_cons_zero] <;> rfl) (fun K hK => ?_) ?_
  · go_simp; refine (itoa_is 0 ⟨#[48]⟩ itoa_0 (by unfold i64in; omega) _ (htab.upd (HU0.out.trans ud0))).mono ?_; rintro e wv1 ⟨rfl, hq⟩; have ud1 := ud0.trans hq; clear hq; go_wp2_with fail
    refine hK.out _ _ ?_ (fun hHeld => ?_)
    · exact HK.out _ ud1
    clear hK K
    try simp only [Act.put, List.setIfInBounds_toArray, List.set_cons_zero, List.set_cons_succ]
    refine tkY 4 hHeld ?_
    refine wpAnyH_ready (rs := [8]) (by kernel_rfl) (by simp) ?_
    refine AllReadyH.cons (by simp only [List.getElem?_toArray, List.getElem?_cons_succ, List.getElem?_cons_zero] <;> rfl) (fun K hK => ?_) ?_
    · go_simp; refine (itoa_is 0 ⟨#[48]⟩ itoa_0 (by unfold i64in; omega) _ (htab.upd (HU0.out.trans ud1))).mono ?_; rintro e wv2 ⟨rfl, hq⟩; have ud2 := ud1.trans hq; clear hq; go_wp2_with fail
      refine hK.out _ _ ?_ (fun hHeld => ?_)
      · exact HK.out _ ud2
      clear hK K
      try simp only [Act.put, List.setIfInBounds_toArray, List.set_cons_zero, List.set_cons_succ]
      refine tkY 9 hHeld ?_
      refine tkY 10 hHeld ?_
      refine wpAnyH_ready (rs := [12]) (by kernel_rfl) (by simp) ?_
      refine AllReadyH.cons (by simp only [List.getElem?_toArray, List.getElem?_cons_succ, List.getElem?_cons_zero] <;> rfl) (fun K hK => ?_) ?_
      · go_simp; rw [HEV.out]; refine (dText_any c 0 0 _ (htab.upd (HU0.out.trans ud2))).mono ?_; rintro e wv3 ⟨y, HY, _, rfl, hq⟩; have ud3 := ud2.trans hq; clear hq; have hys : y.size = 84 := (by rw [← bs_length, HY.out, tOf_len]); go_wp2_with fail
        refine hK.out _ _ ?_ (fun hHeld => ?_)
        · exact HK.out _ ud3
        clear hK K
        try simp only [Act.put, List.setIfInBounds_toArray, List.set_cons_zero, List.set_cons_succ]
        refine tkY 13 hHeld ?_
        refine tkY 14 hHeld ?_
        refine wpAnyH_done (by kernel_rfl) ?_ _
        refine NoPanic.normal ?_
        go_wp2_with fail
        go_ret
        have hb : bs (ByteArray.mk #[48] ++ ByteArray.mk #[32] ++ ByteArray.mk #[48] ++ ByteArray.mk #[32] ++ y) = codeL c := by
          rw [bs_append, HY.out]
          rfl
        exact ⟨_, hb, by rw [← hb, bs_length]; exact Nat.le_refl _, rfl, HU0.out.trans ud3⟩
      exact AllReadyH.nil
    exact AllReadyH.nil
  exact AllReadyH.nil
end Go.Proofs.YtinpenoeohejoaaGreatDoor
