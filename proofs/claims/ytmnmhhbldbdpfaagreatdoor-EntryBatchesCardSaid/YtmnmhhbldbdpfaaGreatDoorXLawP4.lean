/- The walk of EntryChains. -/
import Derived.Test.YtmnmhhbldbdpfaaGreatDoorXChain
import Derived.Test.YtmnmhhbldbdpfaaGreatDoorXBentW
import Derived.Test.YtmnmhhbldbdpfaaGreatDoorXLawP2
namespace Go.Proofs.YtmnmhhbldbdpfaaGreatDoor
open Go.RowKit
set_option maxRecDepth 100000

theorem rc_prev_range {w : World} {g b : Nat} {x : Rc} (h : w.rangeAt g b (rcV x)) (hx : x.ok) : w.rangeAt g (b + 68) (byteVals x.prev) := by
  intro j v hv
  obtain ⟨_, _, _, h1, h2, _⟩ := hx
  have e : rcV x = ([.int .i64 x.kiosk, .int .i64 x.serial, .string x.draw, .int .i64 x.seen] ++ byteVals x.out ++ byteVals x.hash) ++ (byteVals x.prev ++ [.int .i64 x.r, .int .i64 x.s]) := by simp [rcV]
  have hl : ([.int .i64 x.kiosk, .int .i64 x.serial, .string x.draw, .int .i64 x.seen] ++ byteVals x.out ++ byteVals x.hash : List Value).length = 68 := by simp [byteVals_length, h1, h2]
  have := h (68 + j) v (by rw [e]; exact mid_get hl hv)
  rw [show b + 68 + j = b + (68 + j) by omega]
  exact this
theorem chain_ver (q : List (List UInt8)) (k : Nat) : verB (gP (expN 5012) : Int) (bodyL (chainRc q k)) (chainRc q k).r (chainRc q k).s = true := by
  rw [chainRc_eq]
  exact printR_ver _ _ _ _ _ _ _ _
theorem chainRc_prev (q : List (List UInt8)) (k : Nat) : (chainRc q k).prev = prevOf q k := by cases k <;> rfl
theorem chainRc_draw (q : List (List UInt8)) (k : Nat) : (chainRc q k).draw.size ≤ 1000 := by
  rw [chainRc_eq]
  show may.size ≤ 1000
  decide
theorem HsIn.take {w : World} {ao : Option Addr} {q : List (List UInt8)} (h : HsIn w ao q) (n : Nat) : HsIn w ao (q.take n) := by
  intro k x hk
  rw [List.getElem?_take] at hk
  split at hk
  · exact h k x hk
  · cases hk

set_option maxHeartbeats 4000000 in
theorem entryChains_walk (seals : List (List UInt8)) (which a b : Int) (ao : Option Addr) (cap : Nat) (w : World) (hsl : HsIn w ao seals) (hlc : seals.length ≤ cap) (_hcm : cap ≤ 9223372036854775807) (hwh : 0 ≤ which ∧ which ≤ 255) (ha : -9223372036854775808 ≤ a ∧ a ≤ 9223372036854775807) (hb : -9223372036854775808 ≤ b ∧ b ≤ 9223372036854775807) (htab : Tabs w) :
    Calls Tryz.prog 8 #[.slice ao seals.length cap, .int .u8 which, .agg #[.int .i64 a, .int .i64 b]] w (TrueMk w) := by
  have q0 := two_box w 52 #[.int .i64 a, .int .i64 b]
  have u0 : Upd [] [] w (w.alloc (.cells #[.int .i64 a, .int .i64 b] 52)) := (Upd.refl _ _).alloc _
  have HSL := Lib.hid hsl
  clear hsl
  go_enter Tryz.func8, Tryz.ntmps8
  go_wp2_with fail
  refine (sanity22_any _ (htab.upd u0)).mono ?_
  rintro e w1 ⟨rfl, hq⟩
  have u1 := u0.trans hq
  have Q1 := Lib.hid (row_updH q0 hq)
  clear hq q0 u0
  obtain ⟨n, hn⟩ : ∃ n : Nat, (n : Int) = min (seals.length : Int) 10 := ⟨min seals.length 10, by omega⟩
  have hn' := hn.symm
  have n1 : (n : Int) ≤ (cap : Int) := by omega
  have n0 : (0 : Int) ≤ (n : Int) := by omega
  obtain ⟨q, hqq⟩ : ∃ q, q = seals.take 10 := ⟨_, rfl⟩
  have hql : q.length = n := by rw [hqq, List.length_take]; omega
  have HQ : Hid (HsIn w ao q) := by rw [hqq]; exact HSL.out.take 10
  have hn10 : n ≤ 10 := by omega
  clear hqq hn
  go_wp2_with fail
  have uA : Upd [] [] w1 (w1.alloc (.cells #[.int .i64 1, .int .i64 2] 3)) := (Upd.refl _ _).alloc _
  have HCH := chain_any q ao cap w1.heap.size (w1.alloc (.cells #[.int .i64 1, .int .i64 2] 3)) (HQ.out.upd (u1.trans uA)) (by omega) (heap_alloc_new _ _)
  rw [hql] at HCH
  refine HCH.mono ?_
  rintro e w2 ⟨v, HO, hf, rfl, hq⟩
  have hq2 := uA.trans hq
  have u2 := u1.trans hq2
  have Q2 := row_updH Q1.out hq2
  have hqd : ∀ k, k < n → (q.getD k []).length = 32 := by
    intro k hk
    obtain ⟨h, hh⟩ : ∃ h, q[k]? = some h := ⟨_, List.getElem?_eq_getElem (by omega)⟩
    rw [List.getD_eq_getElem?_getD, hh]
    exact (HQ.out k h hh).1
  have hmem : ∀ x ∈ chainL q n, x.ok ∧ x.draw.size ≤ 1000000 := by
    intro x hx
    unfold chainL at hx
    obtain ⟨k, hk, rfl⟩ := List.mem_map.1 hx
    have hk' := List.mem_range.1 hk
    exact ⟨chainRc_ok (by omega) (hqd k hk'), Nat.le_trans (chainRc_draw q k) (by omega)⟩
  obtain ⟨ar, cr, rfl, hcr, HR⟩ := rcs_of_row HO.out hmem
  rw [chainL_len] at hcr ⊢
  have HOK : Hid (∀ k, k < n → (chainRc q k).ok) := fun k hk => chainRc_ok (by omega) (hqd k hk)
  have I2 : Hid (RcsIn w2 ar (chainL q n) ∧ w2.heap[w.heap.size]? = some (.cells #[.int .i64 a, .int .i64 b] 52 (0, 0)) ∧ Upd [] [] w w2) := ⟨HR, Q2, u2⟩
  have hz32 : zero32.length = 32 := rfl
  have HZ32 := Lib.hid hz32
  clear HO hf hq hq2 uA HCH Q1 HR Q2 u1 u2 HSL HQ hql hqd hmem hn' n1 n0 hz32
  go_wp2_with fail
  go_loopw [9, 10, 24] (fun _ _ i wr => ∃ k : Nat, i = .int .i64 (k : Int) ∧ k ≤ n ∧ Hid (RcsIn wr ar (chainL q n) ∧ wr.heap[w.heap.size]? = some (.cells #[.int .i64 a, .int .i64 b] 52 (0, 0)) ∧ Upd [] [] w wr)) (fun _ _ i _ => n - (intOf i).toNat)
  case atStart => exact ⟨0, rfl, Nat.zero_le _, I2⟩
  case round =>
    obtain ⟨k, rfl, hk, HI⟩ := hrel
    by_cases hlt : k < n
    · have hlt' : (k : Int) < (n : Int) := by omega
      have i0 : (0 : Int) ≤ (k : Int) := by omega
      obtain ⟨x, hx⟩ : ∃ x, x = chainRc q k := ⟨_, rfl⟩
      have hxk : (chainL q n)[k]? = some x := by rw [hx]; exact chainL_get q n k hlt
      obtain ⟨hxo, hxd, g, o, har, hg, hrg⟩ := HI.out.1 k x hxk
      subst har
      have HXO := Lib.hid hxo
      obtain ⟨R, hR⟩ : ∃ R, R = (rcV x).toArray := ⟨_, rfl⟩
      have HRE := Lib.hid hR
      have hpl : (prevOf q k).length = 32 := prevOf_len q k
      have HPL := Lib.hid hpl
      have hxp : x.prev = prevOf q k := by rw [hx, chainRc_prev]
      obtain ⟨PV, hPV⟩ : ∃ PV, PV = (byteVals (prevOf q k)).toArray := ⟨_, rfl⟩
      have HPV := Lib.hid hPV
      -- the world behind 'want'
      have MK : ∀ (wB : World) (uB : Upd [] [] wr wB), ∀ (gw : Nat), wB.heap[gw]? = some (.cells PV 24 (0, 0)) → (Instr.loadAt 24 (.pointer (some ⟨g, o + k * 102 + 68, none⟩))).run Tryz.prog wB = .ok (.agg PV) wB ∧ (Instr.loadAt 24 (.pointer (some ⟨gw, 0, none⟩))).run Tryz.prog wB = .ok (.agg PV) wB ∧ (Instr.loadAt 33 (.pointer (some ⟨g, o + k * 102, none⟩))).run Tryz.prog wB = .ok (.agg R) wB := by
        intro wB uB gw hw
        have hr := rangeAt_upd hrg hg uB
        have hp := rc_prev_range hr hxo
        rw [hxp] at hp
        rw [hR]
        rw [hPV] at hw ⊢
        refine ⟨run_loadAt_mid wB _ _ _ _ _ hp Tryz.underlying24 rfl (hashLen hpl), run_loadAt_mid wB _ 0 _ _ _ (fun j v hv => ?_) Tryz.underlying24 rfl (hashLen hpl), run_loadAt_mid wB _ _ _ _ _ hr Tryz.underlying33 rfl (rcInfo hxo)⟩
        rw [Nat.zero_add, cell_of_row _ _ _ _ _ _ hw, List.getElem?_toArray]
        exact hv
      have MKH := Lib.hid MK
      have HV := Lib.hid (fun (p : Int) (hp : i64in p) (h : verB p (bodyL x) x.r x.s = true) W hW => verify22_is p x true hp hxo (by omega) h W hW)
      rw [← hR] at HV
      have hver : verB (gP (expN 5012) : Int) (bodyL x) x.r x.s = true := by rw [hx]; exact chain_ver q k
      have HVER := Lib.hid hver
      have HE12 : Hid ((5000 + 3 * 4 : Int) = 5012) := by show _ = _; omega
      have hEqP : ∀ W : World, (Op.equalIn 10000 24 (.agg PV) (.agg PV)).run Tryz.prog W = .ok true W := by
        intro W
        rw [hPV, show (10000 : Nat) = 9998 + 2 from rfl, eqHash_run 9998 _ _ W hpl hpl]
        simp
      have HEQ := Lib.hid hEqP
      clear hEqP hver MK hPV hR hxp hxk hpl hx hrg
      obtain ⟨wZ, HZA, HWZ, HZ0, hqZ⟩ := blk_new wr 24 (byteVals zero32).toArray (byteVals zero32).toArray
      have ZI : Hid ((Tryz.prog.info? 24).map (·.size) = some (byteVals zero32).toArray.size) := hashInfo HZ32.out
      go_upto_region 7 with (first | (refine wpList_store_rowAs rfl 24 _ _ rfl wr.heap.size (byteVals zero32).toArray rfl rfl _ _ HZA.out ZI.out rfl (hashOne _) wZ HWZ.out ?_))
      obtain ⟨GW, hGW⟩ : ∃ GW, GW = wr.heap.size := ⟨_, rfl⟩
      rw [← hGW] at HZ0 ⊢
      have hwG : wr.heap.size ≤ GW := by omega
      by_cases hk0 : k = 0
      · have hp0 : PV = (byteVals zero32).toArray := by rw [HPV.out, hk0]; rfl
        subst hk0
        have ud0 : Upd [] [] wr wZ.drew := hqZ.drew
        have gw0 : Hid (wZ.drew.heap[GW]? = some (.cells PV 24 (0, 0))) := by show _ = _; rw [hp0]; exact HZ0.out
        have hEq := HEQ.out
        have n1' : (0 : Int) < (n : Int) := by omega
        clear hGW HZA HWZ hqZ hp0 hlt' i0
        go_upto_region 9 with (fail)
        refine wp_region_noPanic ?_
        refine wp_region_held_drew (S := fun wp => (Instr.loadAt 24 (.pointer (some ⟨g, o + 68, none⟩))).run Tryz.prog wp = .ok (.agg PV) wp ∧ (Instr.loadAt 24 (.pointer (some ⟨GW, 0, none⟩))).run Tryz.prog wp = .ok (.agg PV) wp ∧ (Instr.loadAt 33 (.pointer (some ⟨g, o, none⟩))).run Tryz.prog wp = .ok (.agg R) wp) (by kernel_rfl) ?_ (fun hHeld => ?_)
        · exact MKH.out _ ud0 GW gw0.out
        refine wpAnyH_take (i := 0) (v := ?v1) (by simp only [List.getElem?_toArray, List.getElem?_cons_zero] <;> rfl) (by kernel_rfl) (by kernel_rfl) (by kernel_rfl) (fun _ _ _ h => h) (Or.inl ⟨by rfl, ?y1⟩) hHeld ?r1
        case y1 => (intro w hSw; (try dsimp only at hSw); go_simp; first | done | with_reducible rfl | rfl)
        try simp only [Act.put, List.setIfInBounds_toArray, List.set_cons_zero, List.set_cons_succ]
        refine wpAnyH_take (i := 1) (v := ?v2) (by simp only [List.getElem?_toArray, List.getElem?_cons_succ, List.getElem?_cons_zero] <;> rfl) (by kernel_rfl) (by kernel_rfl) (by kernel_rfl) (fun _ _ _ h => h) (Or.inl ⟨by rfl, ?y2⟩) hHeld ?r2
        case y2 => (intro w hSw; (try dsimp only at hSw); go_simp; first | done | with_reducible rfl | rfl)
        try simp only [Act.put, List.setIfInBounds_toArray, List.set_cons_zero, List.set_cons_succ]
        refine wpAnyH_take (i := 2) (v := ?v3) (by simp only [List.getElem?_toArray, List.getElem?_cons_succ, List.getElem?_cons_zero] <;> rfl) (by kernel_rfl) (by kernel_rfl) (by kernel_rfl) (fun _ _ _ h => h) (Or.inl ⟨by rfl, ?y3⟩) hHeld ?r3
        case y3 => (intro w hSw; (try dsimp only at hSw); go_simp; first | done | with_reducible rfl | rfl)
        try simp only [Act.put, List.setIfInBounds_toArray, List.set_cons_zero, List.set_cons_succ]
        refine wpAnyH_take (i := 3) (v := ?v4) (by simp only [List.getElem?_toArray, List.getElem?_cons_succ, List.getElem?_cons_zero] <;> rfl) (by kernel_rfl) (by kernel_rfl) (by kernel_rfl) (fun _ _ _ h => h) (Or.inl ⟨by rfl, ?y4⟩) hHeld ?r4
        case y4 => (intro w hSw; (try dsimp only at hSw); go_simp; first | done | with_reducible rfl | rfl)
        try simp only [Act.put, List.setIfInBounds_toArray, List.set_cons_zero, List.set_cons_succ]
        refine wpAnyH_take (i := 4) (v := .agg PV) (by simp only [List.getElem?_toArray, List.getElem?_cons_succ, List.getElem?_cons_zero] <;> rfl) (by kernel_rfl) (by kernel_rfl) (by kernel_rfl) (fun _ _ _ h => h) (yieldsIf_loadW (by rfl) _ _ rfl _ rfl PV (fun w hSw => hSw.1)) hHeld ?_
        try simp only [Act.put, List.setIfInBounds_toArray, List.set_cons_zero, List.set_cons_succ]
        refine wpAnyH_take (i := 5) (v := .agg PV) (by simp only [List.getElem?_toArray, List.getElem?_cons_succ, List.getElem?_cons_zero] <;> rfl) (by kernel_rfl) (by kernel_rfl) (by kernel_rfl) (fun _ _ _ h => h) (yieldsIf_loadW (by rfl) _ _ rfl _ rfl PV (fun w hSw => hSw.2.1)) hHeld ?_
        try simp only [Act.put, List.setIfInBounds_toArray, List.set_cons_zero, List.set_cons_succ]
        refine wpAnyH_take (i := 6) (v := ?v5) (by simp only [List.getElem?_toArray, List.getElem?_cons_succ, List.getElem?_cons_zero] <;> rfl) (by kernel_rfl) (by kernel_rfl) (by kernel_rfl) (fun _ _ _ h => h) (Or.inl ⟨by rfl, ?y5⟩) hHeld ?r5
        case y5 => (intro w hSw; (try dsimp only at hSw); go_simp; first | done | with_reducible rfl | rfl)
        try simp only [Act.put, List.setIfInBounds_toArray, List.set_cons_zero, List.set_cons_succ]
        refine wpAnyH_take (i := 7) (v := ?v6) (by simp only [List.getElem?_toArray, List.getElem?_cons_succ, List.getElem?_cons_zero] <;> rfl) (by kernel_rfl) (by kernel_rfl) (by kernel_rfl) (fun _ _ _ h => h) (Or.inl ⟨by rfl, ?y6⟩) hHeld ?r6
        case y6 => (intro w hSw; (try dsimp only at hSw); go_simp; first | done | with_reducible rfl | rfl)
        try simp only [Act.put, List.setIfInBounds_toArray, List.set_cons_zero, List.set_cons_succ]
        refine wpAnyH_take (i := 9) (v := ?v7) (by simp only [List.getElem?_toArray, List.getElem?_cons_succ, List.getElem?_cons_zero] <;> rfl) (by kernel_rfl) (by kernel_rfl) (by kernel_rfl) (fun _ _ _ h => h) (Or.inl ⟨by rfl, ?y7⟩) hHeld ?r7
        case y7 => (intro w hSw; (try dsimp only at hSw); go_simp; first | done | with_reducible rfl | rfl)
        try simp only [Act.put, List.setIfInBounds_toArray, List.set_cons_zero, List.set_cons_succ]
        refine wpAnyH_take (i := 10) (v := ?v8) (by simp only [List.getElem?_toArray, List.getElem?_cons_succ, List.getElem?_cons_zero] <;> rfl) (by kernel_rfl) (by kernel_rfl) (by kernel_rfl) (fun _ _ _ h => h) (Or.inl ⟨by rfl, ?y8⟩) hHeld ?r8
        case y8 => (intro w hSw; (try dsimp only at hSw); go_simp; first | done | with_reducible rfl | rfl)
        try simp only [Act.put, List.setIfInBounds_toArray, List.set_cons_zero, List.set_cons_succ]
        refine wpAnyH_take (i := 11) (v := ?v9) (by simp only [List.getElem?_toArray, List.getElem?_cons_succ, List.getElem?_cons_zero] <;> rfl) (by kernel_rfl) (by kernel_rfl) (by kernel_rfl) (fun _ _ _ h => h) (Or.inl ⟨by rfl, ?y9⟩) hHeld ?r9
        case y9 => (intro w hSw; (try dsimp only at hSw); go_simp; first | done | with_reducible rfl | rfl)
        try simp only [Act.put, List.setIfInBounds_toArray, List.set_cons_zero, List.set_cons_succ]
        refine wpAnyH_take (i := 12) (v := .agg R) (by simp only [List.getElem?_toArray, List.getElem?_cons_succ, List.getElem?_cons_zero] <;> rfl) (by kernel_rfl) (by kernel_rfl) (by kernel_rfl) (fun _ _ _ h => h) (yieldsIf_loadW (by rfl) _ _ rfl _ rfl R (fun w hSw => hSw.2.2)) hHeld ?_
        try simp only [Act.put, List.setIfInBounds_toArray, List.set_cons_zero, List.set_cons_succ]
        refine wpAnyH_ready (rs := [8]) (by kernel_rfl) (by simp) ?_
        refine AllReadyH.cons (by simp only [List.getElem?_toArray, List.getElem?_cons_succ, List.getElem?_cons_zero] <;> rfl) (fun K hK => ?_) ?_
        · go_simp; refine (public22_any 4 _ (by omega)).mono ?_; rintro e wv1 ⟨p, HP, hp, rfl, rfl⟩; go_wp2_with fail
          refine hK.out _ _ ?_ (fun hHeld => ?_)
          · exact MKH.out _ ud0 GW gw0.out
          clear hK K
          try simp only [Act.put, List.setIfInBounds_toArray, List.set_cons_zero, List.set_cons_succ]
          refine wpAnyH_ready (rs := [13]) (by kernel_rfl) (by simp) ?_
          refine AllReadyH.cons (by simp only [List.getElem?_toArray, List.getElem?_cons_succ, List.getElem?_cons_zero] <;> rfl) (fun K hK => ?_) ?_
          · go_simp; refine (HV.out (p : Int) ⟨by omega, by omega⟩ (by rw [HP.out, HE12.out]; exact HVER.out) _ (htab.upd (HI.out.2.2.trans ud0))).mono ?_; rintro e wv1 ⟨rfl, hq⟩; have ud1 := ud0.trans hq; have gw1 := Lib.hid (row_updH gw0.out hq); clear hq; go_wp2_with fail
            refine hK.out _ _ ?_ (fun hHeld => ?_)
            · exact MKH.out _ ud1 GW gw1.out
            clear hK K
            try simp only [Act.put, List.setIfInBounds_toArray, List.set_cons_zero, List.set_cons_succ]
            refine wpAnyH_take (i := 14) (v := ?v10) (by simp only [List.getElem?_toArray, List.getElem?_cons_succ, List.getElem?_cons_zero] <;> rfl) (by kernel_rfl) (by kernel_rfl) (by kernel_rfl) (fun _ _ _ h => h) (Or.inl ⟨by rfl, ?y10⟩) hHeld ?r10
            case y10 => (intro w hSw; (try dsimp only at hSw); go_simp; first | done | with_reducible rfl | rfl)
            try simp only [Act.put, List.setIfInBounds_toArray, List.set_cons_zero, List.set_cons_succ]
            refine wpAnyH_take (i := 15) (v := ?v11) (by simp only [List.getElem?_toArray, List.getElem?_cons_succ, List.getElem?_cons_zero] <;> rfl) (by kernel_rfl) (by kernel_rfl) (by kernel_rfl) (fun _ _ _ h => h) (Or.inl ⟨by rfl, ?y11⟩) hHeld ?r11
            case y11 => (intro w hSw; (try dsimp only at hSw); go_simp; first | done | with_reducible rfl | rfl)
            try simp only [Act.put, List.setIfInBounds_toArray, List.set_cons_zero, List.set_cons_succ]
            refine wpAnyH_done (by kernel_rfl) ?_ _
            refine NoPanic.normal ?_
            have IN : Hid (RcsIn wv1 (some ⟨g, o, none⟩) (chainL q n) ∧ wv1.heap[w.heap.size]? = some (.cells #[.int .i64 a, .int .i64 b] 52 (0, 0)) ∧ Upd [] [] w wv1) := ⟨HI.out.1.upd ud1, row_updH HI.out.2.1 ud1, HI.out.2.2.trans ud1⟩
            go_wp2_with fail
            exact ⟨⟨0 + 1, by go_num, by omega, IN⟩, by simp [intOf]; omega⟩
          exact AllReadyH.nil
        exact AllReadyH.nil
      · obtain ⟨j, rfl⟩ : ∃ j, k = j + 1 := ⟨k - 1, by omega⟩
        have kg : (0 : Int) < ((j + 1 : Nat) : Int) := by omega
        have wj : IntKind.i64.wrap (((j + 1 : Nat) : Int) - 1) = (j : Int) := by rw [IntWalk.i64_in _ (by omega)]; omega
        have j0 : (0 : Int) ≤ (j : Int) := by omega
        have j1 : (j : Int) < (n : Int) := by omega
        have j2 : (0 : Int) ≤ (j : Int) + 1 := by omega
        have j3 : (j : Int) + 1 < (n : Int) := by omega
        obtain ⟨y, hy⟩ : ∃ y, y = chainRc q j := ⟨_, rfl⟩
        obtain ⟨hyo, hyd, g', o', hgo, _, hyr⟩ := HI.out.1 j y (by rw [hy]; exact chainL_get q n j (by omega))
        simp only [Option.some.injEq, Addr.mk.injEq, and_true] at hgo
        obtain ⟨rfl, rfl⟩ := hgo
        obtain ⟨Y, hY⟩ : ∃ Y, Y = (rcV y).toArray := ⟨_, rfl⟩
        have HYL : Hid ((Instr.loadAt 33 (.pointer (some ⟨g, o + j * 102, none⟩))).run Tryz.prog wZ = .ok (.agg Y) wZ) := by
          show _ = _
          rw [hY]
          exact run_loadAt_mid wZ _ _ _ _ _ (rangeAt_upd hyr hg hqZ) Tryz.underlying33 rfl (rcInfo hyo)
        have HHS := Lib.hid (fun W hW => hash22_any y hyo (by omega) W hW)
        have hPY : PV = (byteVals (sha (textL y))).toArray := by rw [HPV.out, hy]; rfl
        rw [← hY, ← hPY] at HHS
        have uZ := HI.out.2.2.trans hqZ
        have PI : Hid ((Tryz.prog.info? 24).map (·.size) = some PV.size) := by show _ = _; rw [HPV.out]; exact hashInfo HPL.out
        have PO : Hid (PV.all (·.oneCell') = true) := by show _ = _; rw [HPV.out]; exact hashOne _
        have PZ : Hid ((byteVals zero32).toArray.size = PV.size) := by show _ = _; rw [HPV.out, hashSz HPL.out]; rfl
        have hEq := HEQ.out
        clear hGW hk0 HZA HWZ hY hPY hy hyr
        go_upto_region 8 with (fail)
        go_wp2_with (first | (refine wpList_load_atW (by rfl) 33 _ rfl g (o + j * 102) rfl Y HYL.out ?_))
        refine (HHS.out _ (htab.upd uZ)).mono ?_
        rintro e wH ⟨rfl, hq⟩
        have ZH := Lib.hid (row_updH HZ0.out hq)
        obtain ⟨wB, hwB, GB, uB⟩ := setRow_let wH GW _ _ PV ZH.out wr (hqZ.trans hq) hwG
        have HWB := Lib.hid hwB.symm
        have ud0 : Upd [] [] wr wB.drew := uB.drew
        have gw0 : Hid (wB.drew.heap[GW]? = some (.cells PV 24 (0, 0))) := GB
        clear hwB hq uZ HYL HHS
        go_upto_region 9 with (first | (refine wpList_store_rowAs rfl 24 _ _ rfl GW PV rfl rfl _ _ ZH.out PI.out PZ.out PO.out wB HWB.out ?_))
        refine wp_region_noPanic ?_
        refine wp_region_held_drew (S := fun wp => (Instr.loadAt 24 (.pointer (some ⟨g, o + (j + 1) * 102 + 68, none⟩))).run Tryz.prog wp = .ok (.agg PV) wp ∧ (Instr.loadAt 24 (.pointer (some ⟨GW, 0, none⟩))).run Tryz.prog wp = .ok (.agg PV) wp ∧ (Instr.loadAt 33 (.pointer (some ⟨g, o + (j + 1) * 102, none⟩))).run Tryz.prog wp = .ok (.agg R) wp) (by kernel_rfl) ?_ (fun hHeld => ?_)
        · exact MKH.out _ ud0 GW gw0.out
        refine wpAnyH_take (i := 0) (v := ?v12) (by simp only [List.getElem?_toArray, List.getElem?_cons_zero] <;> rfl) (by kernel_rfl) (by kernel_rfl) (by kernel_rfl) (fun _ _ _ h => h) (Or.inl ⟨by rfl, ?y12⟩) hHeld ?r12
        case y12 => (intro w hSw; (try dsimp only at hSw); go_simp; first | done | with_reducible rfl | rfl)
        try simp only [Act.put, List.setIfInBounds_toArray, List.set_cons_zero, List.set_cons_succ]
        refine wpAnyH_take (i := 1) (v := ?v13) (by simp only [List.getElem?_toArray, List.getElem?_cons_succ, List.getElem?_cons_zero] <;> rfl) (by kernel_rfl) (by kernel_rfl) (by kernel_rfl) (fun _ _ _ h => h) (Or.inl ⟨by rfl, ?y13⟩) hHeld ?r13
        case y13 => (intro w hSw; (try dsimp only at hSw); go_simp; first | done | with_reducible rfl | rfl)
        try simp only [Act.put, List.setIfInBounds_toArray, List.set_cons_zero, List.set_cons_succ]
        refine wpAnyH_take (i := 2) (v := ?v14) (by simp only [List.getElem?_toArray, List.getElem?_cons_succ, List.getElem?_cons_zero] <;> rfl) (by kernel_rfl) (by kernel_rfl) (by kernel_rfl) (fun _ _ _ h => h) (Or.inl ⟨by rfl, ?y14⟩) hHeld ?r14
        case y14 => (intro w hSw; (try dsimp only at hSw); go_simp; first | done | with_reducible rfl | rfl)
        try simp only [Act.put, List.setIfInBounds_toArray, List.set_cons_zero, List.set_cons_succ]
        refine wpAnyH_take (i := 3) (v := ?v15) (by simp only [List.getElem?_toArray, List.getElem?_cons_succ, List.getElem?_cons_zero] <;> rfl) (by kernel_rfl) (by kernel_rfl) (by kernel_rfl) (fun _ _ _ h => h) (Or.inl ⟨by rfl, ?y15⟩) hHeld ?r15
        case y15 => (intro w hSw; (try dsimp only at hSw); go_simp; first | done | with_reducible rfl | rfl)
        try simp only [Act.put, List.setIfInBounds_toArray, List.set_cons_zero, List.set_cons_succ]
        refine wpAnyH_take (i := 4) (v := .agg PV) (by simp only [List.getElem?_toArray, List.getElem?_cons_succ, List.getElem?_cons_zero] <;> rfl) (by kernel_rfl) (by kernel_rfl) (by kernel_rfl) (fun _ _ _ h => h) (yieldsIf_loadW (by rfl) _ _ rfl _ rfl PV (fun w hSw => hSw.1)) hHeld ?_
        try simp only [Act.put, List.setIfInBounds_toArray, List.set_cons_zero, List.set_cons_succ]
        refine wpAnyH_take (i := 5) (v := .agg PV) (by simp only [List.getElem?_toArray, List.getElem?_cons_succ, List.getElem?_cons_zero] <;> rfl) (by kernel_rfl) (by kernel_rfl) (by kernel_rfl) (fun _ _ _ h => h) (yieldsIf_loadW (by rfl) _ _ rfl _ rfl PV (fun w hSw => hSw.2.1)) hHeld ?_
        try simp only [Act.put, List.setIfInBounds_toArray, List.set_cons_zero, List.set_cons_succ]
        refine wpAnyH_take (i := 6) (v := ?v16) (by simp only [List.getElem?_toArray, List.getElem?_cons_succ, List.getElem?_cons_zero] <;> rfl) (by kernel_rfl) (by kernel_rfl) (by kernel_rfl) (fun _ _ _ h => h) (Or.inl ⟨by rfl, ?y16⟩) hHeld ?r16
        case y16 => (intro w hSw; (try dsimp only at hSw); go_simp; first | done | with_reducible rfl | rfl)
        try simp only [Act.put, List.setIfInBounds_toArray, List.set_cons_zero, List.set_cons_succ]
        refine wpAnyH_take (i := 7) (v := ?v17) (by simp only [List.getElem?_toArray, List.getElem?_cons_succ, List.getElem?_cons_zero] <;> rfl) (by kernel_rfl) (by kernel_rfl) (by kernel_rfl) (fun _ _ _ h => h) (Or.inl ⟨by rfl, ?y17⟩) hHeld ?r17
        case y17 => (intro w hSw; (try dsimp only at hSw); go_simp; first | done | with_reducible rfl | rfl)
        try simp only [Act.put, List.setIfInBounds_toArray, List.set_cons_zero, List.set_cons_succ]
        refine wpAnyH_take (i := 9) (v := ?v18) (by simp only [List.getElem?_toArray, List.getElem?_cons_succ, List.getElem?_cons_zero] <;> rfl) (by kernel_rfl) (by kernel_rfl) (by kernel_rfl) (fun _ _ _ h => h) (Or.inl ⟨by rfl, ?y18⟩) hHeld ?r18
        case y18 => (intro w hSw; (try dsimp only at hSw); go_simp; first | done | with_reducible rfl | rfl)
        try simp only [Act.put, List.setIfInBounds_toArray, List.set_cons_zero, List.set_cons_succ]
        refine wpAnyH_take (i := 10) (v := ?v19) (by simp only [List.getElem?_toArray, List.getElem?_cons_succ, List.getElem?_cons_zero] <;> rfl) (by kernel_rfl) (by kernel_rfl) (by kernel_rfl) (fun _ _ _ h => h) (Or.inl ⟨by rfl, ?y19⟩) hHeld ?r19
        case y19 => (intro w hSw; (try dsimp only at hSw); go_simp; first | done | with_reducible rfl | rfl)
        try simp only [Act.put, List.setIfInBounds_toArray, List.set_cons_zero, List.set_cons_succ]
        refine wpAnyH_take (i := 11) (v := ?v20) (by simp only [List.getElem?_toArray, List.getElem?_cons_succ, List.getElem?_cons_zero] <;> rfl) (by kernel_rfl) (by kernel_rfl) (by kernel_rfl) (fun _ _ _ h => h) (Or.inl ⟨by rfl, ?y20⟩) hHeld ?r20
        case y20 => (intro w hSw; (try dsimp only at hSw); go_simp; first | done | with_reducible rfl | rfl)
        try simp only [Act.put, List.setIfInBounds_toArray, List.set_cons_zero, List.set_cons_succ]
        refine wpAnyH_take (i := 12) (v := .agg R) (by simp only [List.getElem?_toArray, List.getElem?_cons_succ, List.getElem?_cons_zero] <;> rfl) (by kernel_rfl) (by kernel_rfl) (by kernel_rfl) (fun _ _ _ h => h) (yieldsIf_loadW (by rfl) _ _ rfl _ rfl R (fun w hSw => hSw.2.2)) hHeld ?_
        try simp only [Act.put, List.setIfInBounds_toArray, List.set_cons_zero, List.set_cons_succ]
        refine wpAnyH_ready (rs := [8]) (by kernel_rfl) (by simp) ?_
        refine AllReadyH.cons (by simp only [List.getElem?_toArray, List.getElem?_cons_succ, List.getElem?_cons_zero] <;> rfl) (fun K hK => ?_) ?_
        · go_simp; refine (public22_any 4 _ (by omega)).mono ?_; rintro e wv1 ⟨p, HP, hp, rfl, rfl⟩; go_wp2_with fail
          refine hK.out _ _ ?_ (fun hHeld => ?_)
          · exact MKH.out _ ud0 GW gw0.out
          clear hK K
          try simp only [Act.put, List.setIfInBounds_toArray, List.set_cons_zero, List.set_cons_succ]
          refine wpAnyH_ready (rs := [13]) (by kernel_rfl) (by simp) ?_
          refine AllReadyH.cons (by simp only [List.getElem?_toArray, List.getElem?_cons_succ, List.getElem?_cons_zero] <;> rfl) (fun K hK => ?_) ?_
          · go_simp; refine (HV.out (p : Int) ⟨by omega, by omega⟩ (by rw [HP.out, HE12.out]; exact HVER.out) _ (htab.upd (HI.out.2.2.trans ud0))).mono ?_; rintro e wv1 ⟨rfl, hq⟩; have ud1 := ud0.trans hq; have gw1 := Lib.hid (row_updH gw0.out hq); clear hq; go_wp2_with fail
            refine hK.out _ _ ?_ (fun hHeld => ?_)
            · exact MKH.out _ ud1 GW gw1.out
            clear hK K
            try simp only [Act.put, List.setIfInBounds_toArray, List.set_cons_zero, List.set_cons_succ]
            refine wpAnyH_take (i := 14) (v := ?v21) (by simp only [List.getElem?_toArray, List.getElem?_cons_succ, List.getElem?_cons_zero] <;> rfl) (by kernel_rfl) (by kernel_rfl) (by kernel_rfl) (fun _ _ _ h => h) (Or.inl ⟨by rfl, ?y21⟩) hHeld ?r21
            case y21 => (intro w hSw; (try dsimp only at hSw); go_simp; first | done | with_reducible rfl | rfl)
            try simp only [Act.put, List.setIfInBounds_toArray, List.set_cons_zero, List.set_cons_succ]
            refine wpAnyH_take (i := 15) (v := ?v22) (by simp only [List.getElem?_toArray, List.getElem?_cons_succ, List.getElem?_cons_zero] <;> rfl) (by kernel_rfl) (by kernel_rfl) (by kernel_rfl) (fun _ _ _ h => h) (Or.inl ⟨by rfl, ?y22⟩) hHeld ?r22
            case y22 => (intro w hSw; (try dsimp only at hSw); go_simp; first | done | with_reducible rfl | rfl)
            try simp only [Act.put, List.setIfInBounds_toArray, List.set_cons_zero, List.set_cons_succ]
            refine wpAnyH_done (by kernel_rfl) ?_ _
            refine NoPanic.normal ?_
            have IN : Hid (RcsIn wv1 (some ⟨g, o, none⟩) (chainL q n) ∧ wv1.heap[w.heap.size]? = some (.cells #[.int .i64 a, .int .i64 b] 52 (0, 0)) ∧ Upd [] [] w wv1) := ⟨HI.out.1.upd ud1, row_updH HI.out.2.1 ud1, HI.out.2.2.trans ud1⟩
            go_wp2_with fail
            exact ⟨⟨j + 1 + 1, by go_num, by omega, IN⟩, by simp [intOf]; omega⟩
          exact AllReadyH.nil
        exact AllReadyH.nil
    · have hkn : k = n := by omega
      subst hkn
      clear hlt hk I2 HZ32
      by_cases hn2 : (k : Int) < 2
      · go_wp2_with fail
        go_ret
        exact ⟨rfl, HI.out.2.2⟩
      · obtain ⟨m, hm⟩ : ∃ m : Nat, which.tmod ((k : Int) - 1) = (m : Int) := ⟨(which.tmod ((k : Int) - 1)).toNat, by have := Int.tmod_nonneg (b := (k : Int) - 1) hwh.1; omega⟩
        have hmk : (m : Int) < (k : Int) - 1 := by rw [← hm]; exact Int.tmod_lt_of_pos _ (by omega)
        have w1' : IntKind.i64.wrap ((k : Int) - 1) = (k : Int) - 1 := IntWalk.i64_in _ (by omega)
        have w2' : IntKind.i64.wrap which = which := IntWalk.i64_in _ (by omega)
        have w3' : IntKind.i64.wrap (m : Int) = (m : Int) := IntWalk.i64_in _ (by omega)
        have d0 : ¬ (k : Int) - 1 = 0 := by omega
        have m0 : (0 : Int) ≤ (m : Int) := by omega
        have m1 : (m : Int) < (k : Int) := by omega
        have w4' : IntKind.i64.wrap ((m : Int) + 1) = (m : Int) + 1 := IntWalk.i64_in _ (by omega)
        have m2 : (0 : Int) ≤ (m : Int) + 1 := by omega
        have m3 : (m : Int) + 1 < (k : Int) := by omega
        have hmn : m + 1 < k := by omega
        obtain ⟨x, hx⟩ : ∃ x, x = chainRc q m := ⟨_, rfl⟩
        obtain ⟨x2, hx2⟩ : ∃ x2, x2 = chainRc q (m + 1) := ⟨_, rfl⟩
        obtain ⟨hxo, hxd, g, o, har, hg, hrg⟩ := HI.out.1 m x (by rw [hx]; exact chainL_get q k m (by omega))
        obtain ⟨hyo, hyd, g', o', hgo, _, hrg2⟩ := HI.out.1 (m + 1) x2 (by rw [hx2]; exact chainL_get q k (m + 1) hmn)
        subst har
        simp only [Option.some.injEq, Addr.mk.injEq, and_true] at hgo
        obtain ⟨rfl, rfl⟩ := hgo
        have hp2 : x2.prev = sha (textL x) := by rw [hx2, hx, chainRc_prev]; rfl
        obtain ⟨R, hR⟩ : ∃ R, R = (rcV x).toArray := ⟨_, rfl⟩
        have HRE := Lib.hid hR
        obtain ⟨y, hy⟩ : ∃ y, y = bentR x a b := ⟨_, rfl⟩
        have hyok := bentC_ok hxo (a % 9) b
        have hydr := bentC_draw x (a % 9) b
        have HYO : Hid y.ok := by rw [hy]; exact hyok
        have hyd2 : y.draw.size ≤ 1000001 := by rw [hy]; exact Nat.le_trans hydr (by omega)
        have HB := Lib.hid (fun W => bent_any x a b hxo (by omega) ha hb W)
        rw [← hy, ← hR] at HB
        obtain ⟨Y, hY⟩ : ∃ Y, Y = (rcV y).toArray := ⟨_, rfl⟩
        rw [← hY] at HB
        have HYE := Lib.hid hY
        obtain ⟨HYI, HYM, HYZ⟩ := rcLet HYO.out Y hY
        obtain ⟨HX, hHX⟩ : ∃ HX, HX = (byteVals (sha (textL x))).toArray := ⟨_, rfl⟩
        obtain ⟨HY, hHY⟩ : ∃ HY, HY = (byteVals (sha (textL y))).toArray := ⟨_, rfl⟩
        have HK : Hid (∀ W, Upd [] [] wr W → (Instr.loadAt 33 (.pointer (some ⟨g, o + m * 102, none⟩))).run Tryz.prog W = .ok (.agg R) W ∧ (Instr.loadAt 24 (.pointer (some ⟨g, o + (m + 1) * 102 + 68, none⟩))).run Tryz.prog W = .ok (.agg HX) W ∧ W.cell? ⟨w.heap.size, 0, none⟩ = some (.int .i64 a) ∧ W.cell? ⟨w.heap.size, 1, none⟩ = some (.int .i64 b)) := by
          intro W u
          have hp := rc_prev_range (rangeAt_upd hrg2 hg u) hyo
          rw [hp2] at hp
          rw [hR, hHX]
          have hqb := row_updH HI.out.2.1 u
          exact ⟨run_loadAt_mid W _ _ _ _ _ (rangeAt_upd hrg hg u) Tryz.underlying33 rfl (rcInfo hxo), run_loadAt_mid W _ _ _ _ _ hp Tryz.underlying24 rfl (hashLen (sha_len _)), by rw [cell_of_row _ _ _ _ _ _ hqb]; rfl, by rw [cell_of_row _ _ _ _ _ _ hqb]; rfl⟩
        have HHA := Lib.hid (fun W hW => hash22_any y HYO.out (by omega) W hW)
        rw [← hHY, ← hY] at HHA
        obtain ⟨nb, hnb⟩ : ∃ nb, decide (sha (textL y) = sha (textL x)) = nb := ⟨_, rfl⟩
        have hEqH : ∀ W : World, (Op.equalIn 10000 24 (.agg HY) (.agg HX)).run Tryz.prog W = .ok nb W := by
          intro W
          rw [hHX, hHY, show (10000 : Nat) = 9998 + 2 from rfl, eqHash_run 9998 _ _ W (sha_len _) (sha_len _), hnb]
        have HEQH := Lib.hid hEqH
        obtain ⟨eb, heb⟩ : ∃ eb, eqRc y x = eb := ⟨_, rfl⟩
        have HEQR := Lib.hid (fun W => rc_eq_run HYO.out hxo eb heb Y R hY hR W)
        have HTX := Lib.hid (fun W hW => text22_any x hxo (by omega) W hW)
        have HTY := Lib.hid (fun W hW => text22_any y HYO.out (by omega) W hW)
        rw [← hR] at HTX
        rw [← hY] at HTY
        have HXL : Hid ((textL x).length ≤ 1000500) := Nat.le_trans (textL_len hxo) (by omega)
        have HYL : Hid ((textL y).length ≤ 1000500) := Nat.le_trans (textL_len HYO.out) (by omega)
        have HCL : Hid (eb = false → nb = true → ∀ s t : ByteArray, bs s = textL x → bs t = textL y → clashB s t = true) := by
          intro h1 h2 s t hs ht
          rw [h1] at heb
          rw [h2, decide_eq_true_eq] at hnb
          rw [clashB_iff, hs, ht]
          refine ⟨fun e => ?_, hnb.symm⟩
          rw [e, ht] at hs
          rw [textL_inj HYO.out hxo hs, eqRc_refl] at heb
          cases heb
        have hgw : w.heap.size ≤ wr.heap.size := HI.out.2.2.size
        have ud0 : Upd [] [] wr wr.drew := (Upd.refl _ _).drew
        have HM := Lib.hid hm
        clear hx hx2 hp2 hR hy hyok hydr hY hHX hHY hEqH hnb heb hrg hrg2 hyo hyd hn2 hm
        have hm' := HM.out
        go_upto_region 15 with (fail)
        clear hm' w1' w2' w3' d0
        refine @id ((∀ (gX : Nat) (W : World), Hid (W.heap[gX]? = some (.cells Y 33 (0, 0))) → Upd [] [] wr W → wr.heap.size ≤ gX → (?pj23 : Nat → World → Prop) gX W) → _) (fun hJ => ?mj23) ?jj23
        case mj23 =>
          refine wp_region_noPanic ?_
          refine wp_region_held_drew (S := fun wp => (Instr.loadAt 33 (.pointer (some ⟨g, o + m * 102, none⟩))).run Tryz.prog wp = .ok (.agg R) wp ∧ (Instr.loadAt 24 (.pointer (some ⟨g, o + (m + 1) * 102 + 68, none⟩))).run Tryz.prog wp = .ok (.agg HX) wp ∧ wp.cell? ⟨w.heap.size, 0, none⟩ = some (.int .i64 a) ∧ wp.cell? ⟨w.heap.size, 1, none⟩ = some (.int .i64 b)) (by kernel_rfl) ?_ (fun hHeld => ?_)
          · exact HK.out _ ud0
          refine wpAnyH_take (i := 0) (v := ?v24) (by simp only [List.getElem?_toArray, List.getElem?_cons_zero] <;> rfl) (by kernel_rfl) (by kernel_rfl) (by kernel_rfl) (fun _ _ _ h => h) (Or.inl ⟨by rfl, ?y24⟩) hHeld ?r24
          case y24 => (intro w hSw; (try dsimp only at hSw); go_simp; first | done | with_reducible rfl | rfl)
          try simp only [Act.put, List.setIfInBounds_toArray, List.set_cons_zero, List.set_cons_succ]
          refine wpAnyH_take (i := 1) (v := ?v25) (by simp only [List.getElem?_toArray, List.getElem?_cons_succ, List.getElem?_cons_zero] <;> rfl) (by kernel_rfl) (by kernel_rfl) (by kernel_rfl) (fun _ _ _ h => h) (Or.inl ⟨by rfl, ?y25⟩) hHeld ?r25
          case y25 => (intro w hSw; (try dsimp only at hSw); go_simp; first | done | with_reducible rfl | rfl)
          try simp only [Act.put, List.setIfInBounds_toArray, List.set_cons_zero, List.set_cons_succ]
          refine wpAnyH_take (i := 2) (v := ?v26) (by simp only [List.getElem?_toArray, List.getElem?_cons_succ, List.getElem?_cons_zero] <;> rfl) (by kernel_rfl) (by kernel_rfl) (by kernel_rfl) (fun _ _ _ h => h) (Or.inl ⟨by rfl, ?y26⟩) hHeld ?r26
          case y26 => (intro w hSw; (try dsimp only at hSw); go_simp; first | done | with_reducible rfl | rfl)
          try simp only [Act.put, List.setIfInBounds_toArray, List.set_cons_zero, List.set_cons_succ]
          refine wpAnyH_take (i := 3) (v := .agg R) (by simp only [List.getElem?_toArray, List.getElem?_cons_succ, List.getElem?_cons_zero] <;> rfl) (by kernel_rfl) (by kernel_rfl) (by kernel_rfl) (fun _ _ _ h => h) (yieldsIf_loadW (by rfl) _ _ rfl _ rfl R (fun w hSw => hSw.1)) hHeld ?_
          try simp only [Act.put, List.setIfInBounds_toArray, List.set_cons_zero, List.set_cons_succ]
          refine wpAnyH_take (i := 4) (v := ?v27) (by simp only [List.getElem?_toArray, List.getElem?_cons_succ, List.getElem?_cons_zero] <;> rfl) (by kernel_rfl) (by kernel_rfl) (by kernel_rfl) (fun _ _ _ h => h) (Or.inl ⟨by rfl, ?y27⟩) hHeld ?r27
          case y27 => (intro w hSw; (try dsimp only at hSw); go_simp; first | done | with_reducible rfl | rfl)
          try simp only [Act.put, List.setIfInBounds_toArray, List.set_cons_zero, List.set_cons_succ]
          refine wpAnyH_ready (rs := [5, 6]) (by kernel_rfl) (by simp) ?_
          refine AllReadyH.cons (by simp only [List.getElem?_toArray, List.getElem?_cons_succ, List.getElem?_cons_zero] <;> rfl) (fun K hK => ?_) ?_
          · go_simp; refine (HB.out _).mono ?_; rintro e wv1 ⟨rfl, hq⟩; have ud1 := ud0.trans hq; clear hq; go_wp2_with fail
            refine hK.out _ _ ?_ (fun hHeld => ?_)
            · exact HK.out _ ud1
            clear hK K
            try simp only [Act.put, List.setIfInBounds_toArray, List.set_cons_zero, List.set_cons_succ]
            refine wpAnyH_ready (rs := [6]) (by kernel_rfl) (by simp) ?_
            refine AllReadyH.cons (by simp only [List.getElem?_toArray, List.getElem?_cons_succ, List.getElem?_cons_zero] <;> rfl) (fun K hK => ?_) ?_
            · go_simp; obtain ⟨gX, wv2, hgx, hwx, fz2, hq⟩ := alloc_let wv1 (.cells Tryz.zeroCells33 33); rw [← hgx, ← hwx]; have ud2 := ud1.trans hq; have hgX : wr.heap.size ≤ gX := (by have := ud1.size; omega); clear hgx hwx hq
              refine hK.out _ _ ?_ (fun hHeld => ?_)
              · exact HK.out _ ud2
              clear hK K
              try simp only [Act.put, List.setIfInBounds_toArray, List.set_cons_zero, List.set_cons_succ]
              refine wpAnyH_ready (rs := [7]) (by kernel_rfl) (by simp) ?_
              refine AllReadyH.cons (by simp only [List.getElem?_toArray, List.getElem?_cons_succ, List.getElem?_cons_zero] <;> rfl) (fun K hK => ?_) ?_
              · rw [if_pos (by rfl)]; refine wp_store_row 33 _ _ rfl gX Y rfl rfl _ _ fz2.out HYI.out HYZ.out HYM.out ?_; obtain ⟨wv3, hwx, fz3, ud3⟩ := setRow_let wv2 gX _ _ Y fz2.out wr ud2 hgX; rw [← hwx]; clear hwx
                refine hK.out _ _ ?_ (fun hHeld => ?_)
                · exact HK.out _ ud3
                clear hK K
                try simp only [Act.put]
                refine wpAnyH_done (by kernel_rfl) ?_ _
                refine NoPanic.normal ?_
                exact hJ gX wv3 fz3 ud3 hgX
              exact AllReadyH.nil
            exact AllReadyH.nil
          refine AllReadyH.cons (by simp only [List.getElem?_toArray, List.getElem?_cons_succ, List.getElem?_cons_zero] <;> rfl) (fun K hK => ?_) ?_
          · go_simp; obtain ⟨gX, wv1, hgx, hwx, fz1, hq⟩ := alloc_letD wr (.cells Tryz.zeroCells33 33); rw [← hgx, ← hwx]; have ud1 := hq; have hgX : wr.heap.size ≤ gX := (by omega); clear hgx hwx hq
            refine hK.out _ _ ?_ (fun hHeld => ?_)
            · exact HK.out _ ud1
            clear hK K
            try simp only [Act.put, List.setIfInBounds_toArray, List.set_cons_zero, List.set_cons_succ]
            refine wpAnyH_ready (rs := [5]) (by kernel_rfl) (by simp) ?_
            refine AllReadyH.cons (by simp only [List.getElem?_toArray, List.getElem?_cons_succ, List.getElem?_cons_zero] <;> rfl) (fun K hK => ?_) ?_
            · go_simp; refine (HB.out _).mono ?_; rintro e wv2 ⟨rfl, hq⟩; have ud2 := ud1.trans hq; have fz2 := Lib.hid (row_updH fz1.out hq); clear hq; go_wp2_with fail
              refine hK.out _ _ ?_ (fun hHeld => ?_)
              · exact HK.out _ ud2
              clear hK K
              try simp only [Act.put, List.setIfInBounds_toArray, List.set_cons_zero, List.set_cons_succ]
              refine wpAnyH_ready (rs := [7]) (by kernel_rfl) (by simp) ?_
              refine AllReadyH.cons (by simp only [List.getElem?_toArray, List.getElem?_cons_succ, List.getElem?_cons_zero] <;> rfl) (fun K hK => ?_) ?_
              · rw [if_pos (by rfl)]; refine wp_store_row 33 _ _ rfl gX Y rfl rfl _ _ fz2.out HYI.out HYZ.out HYM.out ?_; obtain ⟨wv3, hwx, fz3, ud3⟩ := setRow_let wv2 gX _ _ Y fz2.out wr ud2 hgX; rw [← hwx]; clear hwx
                refine hK.out _ _ ?_ (fun hHeld => ?_)
                · exact HK.out _ ud3
                clear hK K
                try simp only [Act.put]
                refine wpAnyH_done (by kernel_rfl) ?_ _
                refine NoPanic.normal ?_
                exact hJ gX wv3 fz3 ud3 hgX
              exact AllReadyH.nil
            exact AllReadyH.nil
          exact AllReadyH.nil
        intro gX wA FX uA hgX
        clear ud0 HB
        have RX : Hid (RcAt wA gX y) := by have := FX.out; rw [HYE.out] at this; exact this
        have HK2 : Hid (∀ W, Upd [] [] wA W → (Instr.loadAt 33 (.pointer (some ⟨g, o + m * 102, none⟩))).run Tryz.prog W = .ok (.agg R) W ∧ (Instr.loadAt 24 (.pointer (some ⟨g, o + (m + 1) * 102 + 68, none⟩))).run Tryz.prog W = .ok (.agg HX) W ∧ (Instr.loadAt 33 (.pointer (some ⟨gX, 0, none⟩))).run Tryz.prog W = .ok (.agg Y) W) := by
          intro W u
          exact ⟨(HK.out W (uA.trans u)).1, (HK.out W (uA.trans u)).2.1, (RX.out.upd u).load HYO.out Y HYE.out⟩
        have uAw := HI.out.2.2.trans uA
        clear FX RX HK
        go_upto_region 16 with (fail)
        have ue0 : Upd [] [] wA wA.drew := (Upd.refl _ _).drew
        have hEqH := HEQH.out
        refine @id ((∀ W : World, Upd [] [] wA W → (?pj28 : World → Prop) W) → _) (fun hJ => ?mj28) ?jj28
        case mj28 =>
          refine wp_region_noPanic ?_
          refine wp_region_held_drew (S := fun wp => (Instr.loadAt 33 (.pointer (some ⟨g, o + m * 102, none⟩))).run Tryz.prog wp = .ok (.agg R) wp ∧ (Instr.loadAt 24 (.pointer (some ⟨g, o + (m + 1) * 102 + 68, none⟩))).run Tryz.prog wp = .ok (.agg HX) wp ∧ (Instr.loadAt 33 (.pointer (some ⟨gX, 0, none⟩))).run Tryz.prog wp = .ok (.agg Y) wp) (by kernel_rfl) ?_ (fun hHeld => ?_)
          · exact HK2.out _ ue0
          refine wpAnyH_take (i := 0) (v := .agg Y) (by simp only [List.getElem?_toArray, List.getElem?_cons_zero] <;> rfl) (by kernel_rfl) (by kernel_rfl) (by kernel_rfl) (fun _ _ _ h => h) (yieldsIf_loadW (by rfl) _ _ rfl _ rfl Y (fun w hSw => hSw.2.2)) hHeld ?_
          try simp only [Act.put, List.setIfInBounds_toArray, List.set_cons_zero, List.set_cons_succ]
          refine wpAnyH_take (i := 2) (v := ?v29) (by simp only [List.getElem?_toArray, List.getElem?_cons_succ, List.getElem?_cons_zero] <;> rfl) (by kernel_rfl) (by kernel_rfl) (by kernel_rfl) (fun _ _ _ h => h) (Or.inl ⟨by rfl, ?y29⟩) hHeld ?r29
          case y29 => (intro w hSw; (try dsimp only at hSw); go_simp; first | done | with_reducible rfl | rfl)
          try simp only [Act.put, List.setIfInBounds_toArray, List.set_cons_zero, List.set_cons_succ]
          refine wpAnyH_take (i := 3) (v := ?v30) (by simp only [List.getElem?_toArray, List.getElem?_cons_succ, List.getElem?_cons_zero] <;> rfl) (by kernel_rfl) (by kernel_rfl) (by kernel_rfl) (fun _ _ _ h => h) (Or.inl ⟨by rfl, ?y30⟩) hHeld ?r30
          case y30 => (intro w hSw; (try dsimp only at hSw); go_simp; first | done | with_reducible rfl | rfl)
          try simp only [Act.put, List.setIfInBounds_toArray, List.set_cons_zero, List.set_cons_succ]
          refine wpAnyH_take (i := 4) (v := ?v31) (by simp only [List.getElem?_toArray, List.getElem?_cons_succ, List.getElem?_cons_zero] <;> rfl) (by kernel_rfl) (by kernel_rfl) (by kernel_rfl) (fun _ _ _ h => h) (Or.inl ⟨by rfl, ?y31⟩) hHeld ?r31
          case y31 => (intro w hSw; (try dsimp only at hSw); go_simp; first | done | with_reducible rfl | rfl)
          try simp only [Act.put, List.setIfInBounds_toArray, List.set_cons_zero, List.set_cons_succ]
          refine wpAnyH_take (i := 5) (v := ?v32) (by simp only [List.getElem?_toArray, List.getElem?_cons_succ, List.getElem?_cons_zero] <;> rfl) (by kernel_rfl) (by kernel_rfl) (by kernel_rfl) (fun _ _ _ h => h) (Or.inl ⟨by rfl, ?y32⟩) hHeld ?r32
          case y32 => (intro w hSw; (try dsimp only at hSw); go_simp; first | done | with_reducible rfl | rfl)
          try simp only [Act.put, List.setIfInBounds_toArray, List.set_cons_zero, List.set_cons_succ]
          refine wpAnyH_take (i := 6) (v := ?v33) (by simp only [List.getElem?_toArray, List.getElem?_cons_succ, List.getElem?_cons_zero] <;> rfl) (by kernel_rfl) (by kernel_rfl) (by kernel_rfl) (fun _ _ _ h => h) (Or.inl ⟨by rfl, ?y33⟩) hHeld ?r33
          case y33 => (intro w hSw; (try dsimp only at hSw); go_simp; first | done | with_reducible rfl | rfl)
          try simp only [Act.put, List.setIfInBounds_toArray, List.set_cons_zero, List.set_cons_succ]
          refine wpAnyH_take (i := 7) (v := .agg HX) (by simp only [List.getElem?_toArray, List.getElem?_cons_succ, List.getElem?_cons_zero] <;> rfl) (by kernel_rfl) (by kernel_rfl) (by kernel_rfl) (fun _ _ _ h => h) (yieldsIf_loadW (by rfl) _ _ rfl _ rfl HX (fun w hSw => hSw.2.1)) hHeld ?_
          try simp only [Act.put, List.setIfInBounds_toArray, List.set_cons_zero, List.set_cons_succ]
          refine wpAnyH_ready (rs := [1]) (by kernel_rfl) (by simp) ?_
          refine AllReadyH.cons (by simp only [List.getElem?_toArray, List.getElem?_cons_succ, List.getElem?_cons_zero] <;> rfl) (fun K hK => ?_) ?_
          · go_simp; refine (HHA.out _ (htab.upd (uAw.trans ue0))).mono ?_; rintro e wq1 ⟨rfl, hq⟩; have ue1 := ue0.trans hq; clear hq; go_wp2_with fail
            refine hK.out _ _ ?_ (fun hHeld => ?_)
            · exact HK2.out _ ue1
            clear hK K
            try simp only [Act.put, List.setIfInBounds_toArray, List.set_cons_zero, List.set_cons_succ]
            refine wpAnyH_take (i := 8) (v := ?v34) (by simp only [List.getElem?_toArray, List.getElem?_cons_succ, List.getElem?_cons_zero] <;> rfl) (by kernel_rfl) (by kernel_rfl) (by kernel_rfl) (fun _ _ _ h => h) (Or.inl ⟨by rfl, ?y34⟩) hHeld ?r34
            case y34 => (intro w hSw; (try dsimp only at hSw); go_simp; first | done | with_reducible rfl | rfl)
            try simp only [Act.put, List.setIfInBounds_toArray, List.set_cons_zero, List.set_cons_succ]
            refine wpAnyH_take (i := 9) (v := ?v35) (by simp only [List.getElem?_toArray, List.getElem?_cons_succ, List.getElem?_cons_zero] <;> rfl) (by kernel_rfl) (by kernel_rfl) (by kernel_rfl) (fun _ _ _ h => h) (Or.inl ⟨by rfl, ?y35⟩) hHeld ?r35
            case y35 => (intro w hSw; (try dsimp only at hSw); go_simp; first | done | with_reducible rfl | rfl)
            try simp only [Act.put, List.setIfInBounds_toArray, List.set_cons_zero, List.set_cons_succ]
            refine wpAnyH_done (by kernel_rfl) ?_ _
            refine NoPanic.normal ?_
            exact hJ wq1 ue1
          exact AllReadyH.nil
        intro wB uB
        clear ue0 HHA hEqH HEQH w4' m2 m3
        go_upto_region 17 with (fail)
        have ue0 : Upd [] [] wA wB.drew := uB.drew
        have hEqR := HEQR.out
        clear HEQR
        cases eb
        · cases nb
          · skip
            refine wp_region_noPanic ?_
            refine wp_region_held_drew (S := fun wp => (Instr.loadAt 33 (.pointer (some ⟨g, o + m * 102, none⟩))).run Tryz.prog wp = .ok (.agg R) wp ∧ (Instr.loadAt 24 (.pointer (some ⟨g, o + (m + 1) * 102 + 68, none⟩))).run Tryz.prog wp = .ok (.agg HX) wp ∧ (Instr.loadAt 33 (.pointer (some ⟨gX, 0, none⟩))).run Tryz.prog wp = .ok (.agg Y) wp) (by kernel_rfl) ?_ (fun hHeld => ?_)
            · exact HK2.out _ ue0
            refine wpAnyH_take (i := 0) (v := ?v36) (by simp only [List.getElem?_toArray, List.getElem?_cons_zero] <;> rfl) (by kernel_rfl) (by kernel_rfl) (by kernel_rfl) (fun _ _ _ h => h) (Or.inl ⟨by rfl, ?y36⟩) hHeld ?r36
            case y36 => (intro w hSw; (try dsimp only at hSw); go_simp; first | done | with_reducible rfl | rfl)
            try simp only [Act.put, List.setIfInBounds_toArray, List.set_cons_zero, List.set_cons_succ]
            refine wpAnyH_take (i := 1) (v := ?v37) (by simp only [List.getElem?_toArray, List.getElem?_cons_succ, List.getElem?_cons_zero] <;> rfl) (by kernel_rfl) (by kernel_rfl) (by kernel_rfl) (fun _ _ _ h => h) (Or.inl ⟨by rfl, ?y37⟩) hHeld ?r37
            case y37 => (intro w hSw; (try dsimp only at hSw); go_simp; first | done | with_reducible rfl | rfl)
            try simp only [Act.put, List.setIfInBounds_toArray, List.set_cons_zero, List.set_cons_succ]
            refine wpAnyH_take (i := 2) (v := .agg Y) (by simp only [List.getElem?_toArray, List.getElem?_cons_succ, List.getElem?_cons_zero] <;> rfl) (by kernel_rfl) (by kernel_rfl) (by kernel_rfl) (fun _ _ _ h => h) (yieldsIf_loadW (by rfl) _ _ rfl _ rfl Y (fun w hSw => hSw.2.2)) hHeld ?_
            try simp only [Act.put, List.setIfInBounds_toArray, List.set_cons_zero, List.set_cons_succ]
            refine wpAnyH_take (i := 3) (v := ?v38) (by simp only [List.getElem?_toArray, List.getElem?_cons_succ, List.getElem?_cons_zero] <;> rfl) (by kernel_rfl) (by kernel_rfl) (by kernel_rfl) (fun _ _ _ h => h) (Or.inl ⟨by rfl, ?y38⟩) hHeld ?r38
            case y38 => (intro w hSw; (try dsimp only at hSw); go_simp; first | done | with_reducible rfl | rfl)
            try simp only [Act.put, List.setIfInBounds_toArray, List.set_cons_zero, List.set_cons_succ]
            refine wpAnyH_take (i := 4) (v := ?v39) (by simp only [List.getElem?_toArray, List.getElem?_cons_succ, List.getElem?_cons_zero] <;> rfl) (by kernel_rfl) (by kernel_rfl) (by kernel_rfl) (fun _ _ _ h => h) (Or.inl ⟨by rfl, ?y39⟩) hHeld ?r39
            case y39 => (intro w hSw; (try dsimp only at hSw); go_simp; first | done | with_reducible rfl | rfl)
            try simp only [Act.put, List.setIfInBounds_toArray, List.set_cons_zero, List.set_cons_succ]
            refine wpAnyH_take (i := 5) (v := ?v40) (by simp only [List.getElem?_toArray, List.getElem?_cons_succ, List.getElem?_cons_zero] <;> rfl) (by kernel_rfl) (by kernel_rfl) (by kernel_rfl) (fun _ _ _ h => h) (Or.inl ⟨by rfl, ?y40⟩) hHeld ?r40
            case y40 => (intro w hSw; (try dsimp only at hSw); go_simp; first | done | with_reducible rfl | rfl)
            try simp only [Act.put, List.setIfInBounds_toArray, List.set_cons_zero, List.set_cons_succ]
            refine wpAnyH_take (i := 6) (v := .agg R) (by simp only [List.getElem?_toArray, List.getElem?_cons_succ, List.getElem?_cons_zero] <;> rfl) (by kernel_rfl) (by kernel_rfl) (by kernel_rfl) (fun _ _ _ h => h) (yieldsIf_loadW (by rfl) _ _ rfl _ rfl R (fun w hSw => hSw.1)) hHeld ?_
            try simp only [Act.put, List.setIfInBounds_toArray, List.set_cons_zero, List.set_cons_succ]
            refine wpAnyH_take (i := 7) (v := ?v41) (by simp only [List.getElem?_toArray, List.getElem?_cons_succ, List.getElem?_cons_zero] <;> rfl) (by kernel_rfl) (by kernel_rfl) (by kernel_rfl) (fun _ _ _ h => h) (Or.inl ⟨by rfl, ?y41⟩) hHeld ?r41
            case y41 => (intro w hSw; (try dsimp only at hSw); go_simp; first | done | with_reducible rfl | rfl)
            try simp only [Act.put, List.setIfInBounds_toArray, List.set_cons_zero, List.set_cons_succ]
            refine wpAnyH_take (i := 8) (v := ?v42) (by simp only [List.getElem?_toArray, List.getElem?_cons_succ, List.getElem?_cons_zero] <;> rfl) (by kernel_rfl) (by kernel_rfl) (by kernel_rfl) (fun _ _ _ h => h) (Or.inl ⟨by rfl, ?y42⟩) hHeld ?r42
            case y42 => (intro w hSw; (try dsimp only at hSw); go_simp; first | done | with_reducible rfl | rfl)
            try simp only [Act.put, List.setIfInBounds_toArray, List.set_cons_zero, List.set_cons_succ]
            refine wpAnyH_take (i := 9) (v := ?v43) (by simp only [List.getElem?_toArray, List.getElem?_cons_succ, List.getElem?_cons_zero] <;> rfl) (by kernel_rfl) (by kernel_rfl) (by kernel_rfl) (fun _ _ _ h => h) (Or.inl ⟨by rfl, ?y43⟩) hHeld ?r43
            case y43 => (intro w hSw; (try dsimp only at hSw); go_simp; first | done | with_reducible rfl | rfl)
            try simp only [Act.put, List.setIfInBounds_toArray, List.set_cons_zero, List.set_cons_succ]
            refine wpAnyH_take (i := 10) (v := ?v44) (by simp only [List.getElem?_toArray, List.getElem?_cons_succ, List.getElem?_cons_zero] <;> rfl) (by kernel_rfl) (by kernel_rfl) (by kernel_rfl) (fun _ _ _ h => h) (Or.inl ⟨by rfl, ?y44⟩) hHeld ?r44
            case y44 => (intro w hSw; (try dsimp only at hSw); go_simp; first | done | with_reducible rfl | rfl)
            try simp only [Act.put, List.setIfInBounds_toArray, List.set_cons_zero, List.set_cons_succ]
            refine wpAnyH_take (i := 11) (v := ?v45) (by simp only [List.getElem?_toArray, List.getElem?_cons_succ, List.getElem?_cons_zero] <;> rfl) (by kernel_rfl) (by kernel_rfl) (by kernel_rfl) (fun _ _ _ h => h) (Or.inl ⟨by rfl, ?y45⟩) hHeld ?r45
            case y45 => (intro w hSw; (try dsimp only at hSw); go_simp; first | done | with_reducible rfl | rfl)
            try simp only [Act.put, List.setIfInBounds_toArray, List.set_cons_zero, List.set_cons_succ]
            refine wpAnyH_take (i := 12) (v := undef) (by simp only [List.getElem?_toArray, List.getElem?_cons_succ, List.getElem?_cons_zero] <;> rfl) (by kernel_rfl) (by kernel_rfl) (by kernel_rfl) (fun _ _ _ h => h) (Or.inr ⟨by rfl, rfl⟩) hHeld ?_
            try simp only [Act.put, List.setIfInBounds_toArray, List.set_cons_zero, List.set_cons_succ]
            refine wpAnyH_take (i := 13) (v := undef) (by simp only [List.getElem?_toArray, List.getElem?_cons_succ, List.getElem?_cons_zero] <;> rfl) (by kernel_rfl) (by kernel_rfl) (by kernel_rfl) (fun _ _ _ h => h) (Or.inr ⟨by rfl, rfl⟩) hHeld ?_
            try simp only [Act.put, List.setIfInBounds_toArray, List.set_cons_zero, List.set_cons_succ]
            refine wpAnyH_take (i := 14) (v := undef) (by simp only [List.getElem?_toArray, List.getElem?_cons_succ, List.getElem?_cons_zero] <;> rfl) (by kernel_rfl) (by kernel_rfl) (by kernel_rfl) (fun _ _ _ h => h) (Or.inr ⟨by rfl, rfl⟩) hHeld ?_
            try simp only [Act.put, List.setIfInBounds_toArray, List.set_cons_zero, List.set_cons_succ]
            refine wpAnyH_take (i := 15) (v := undef) (by simp only [List.getElem?_toArray, List.getElem?_cons_succ, List.getElem?_cons_zero] <;> rfl) (by kernel_rfl) (by kernel_rfl) (by kernel_rfl) (fun _ _ _ h => h) (Or.inr ⟨by rfl, rfl⟩) hHeld ?_
            try simp only [Act.put, List.setIfInBounds_toArray, List.set_cons_zero, List.set_cons_succ]
            refine wpAnyH_take (i := 16) (v := undef) (by simp only [List.getElem?_toArray, List.getElem?_cons_succ, List.getElem?_cons_zero] <;> rfl) (by kernel_rfl) (by kernel_rfl) (by kernel_rfl) (fun _ _ _ h => h) (Or.inr ⟨by rfl, rfl⟩) hHeld ?_
            try simp only [Act.put, List.setIfInBounds_toArray, List.set_cons_zero, List.set_cons_succ]
            refine wpAnyH_take (i := 17) (v := undef) (by simp only [List.getElem?_toArray, List.getElem?_cons_succ, List.getElem?_cons_zero] <;> rfl) (by kernel_rfl) (by kernel_rfl) (by kernel_rfl) (fun _ _ _ h => h) (Or.inr ⟨by rfl, rfl⟩) hHeld ?_
            try simp only [Act.put, List.setIfInBounds_toArray, List.set_cons_zero, List.set_cons_succ]
            refine wpAnyH_take (i := 18) (v := undef) (by simp only [List.getElem?_toArray, List.getElem?_cons_succ, List.getElem?_cons_zero] <;> rfl) (by kernel_rfl) (by kernel_rfl) (by kernel_rfl) (fun _ _ _ h => h) (Or.inr ⟨by rfl, rfl⟩) hHeld ?_
            try simp only [Act.put, List.setIfInBounds_toArray, List.set_cons_zero, List.set_cons_succ]
            refine wpAnyH_take (i := 19) (v := undef) (by simp only [List.getElem?_toArray, List.getElem?_cons_succ, List.getElem?_cons_zero] <;> rfl) (by kernel_rfl) (by kernel_rfl) (by kernel_rfl) (fun _ _ _ h => h) (Or.inr ⟨by rfl, rfl⟩) hHeld ?_
            try simp only [Act.put, List.setIfInBounds_toArray, List.set_cons_zero, List.set_cons_succ]
            refine wpAnyH_take (i := 20) (v := undef) (by simp only [List.getElem?_toArray, List.getElem?_cons_succ, List.getElem?_cons_zero] <;> rfl) (by kernel_rfl) (by kernel_rfl) (by kernel_rfl) (fun _ _ _ h => h) (Or.inr ⟨by rfl, rfl⟩) hHeld ?_
            try simp only [Act.put, List.setIfInBounds_toArray, List.set_cons_zero, List.set_cons_succ]
            refine wpAnyH_take (i := 21) (v := ?v46) (by simp only [List.getElem?_toArray, List.getElem?_cons_succ, List.getElem?_cons_zero] <;> rfl) (by kernel_rfl) (by kernel_rfl) (by kernel_rfl) (fun _ _ _ h => h) (Or.inl ⟨by rfl, ?y46⟩) hHeld ?r46
            case y46 => (intro w hSw; (try dsimp only at hSw); go_simp; first | done | with_reducible rfl | rfl)
            try simp only [Act.put, List.setIfInBounds_toArray, List.set_cons_zero, List.set_cons_succ]
            refine wpAnyH_take (i := 22) (v := ?v47) (by simp only [List.getElem?_toArray, List.getElem?_cons_succ, List.getElem?_cons_zero] <;> rfl) (by kernel_rfl) (by kernel_rfl) (by kernel_rfl) (fun _ _ _ h => h) (Or.inl ⟨by rfl, ?y47⟩) hHeld ?r47
            case y47 => (intro w hSw; (try dsimp only at hSw); go_simp; first | done | with_reducible rfl | rfl)
            try simp only [Act.put, List.setIfInBounds_toArray, List.set_cons_zero, List.set_cons_succ]
            refine wpAnyH_take (i := 23) (v := ?v48) (by simp only [List.getElem?_toArray, List.getElem?_cons_succ, List.getElem?_cons_zero] <;> rfl) (by kernel_rfl) (by kernel_rfl) (by kernel_rfl) (fun _ _ _ h => h) (Or.inl ⟨by rfl, ?y48⟩) hHeld ?r48
            case y48 => (intro w hSw; (try dsimp only at hSw); go_simp; first | done | with_reducible rfl | rfl)
            try simp only [Act.put, List.setIfInBounds_toArray, List.set_cons_zero, List.set_cons_succ]
            refine wpAnyH_done (by kernel_rfl) ?_ _
            refine NoPanic.normal ?_
            go_wp2_with fail
            go_ret
            exact ⟨rfl, uAw.trans ue0⟩
          · have HCT := Lib.hid (HCL.out rfl rfl)
            clear HCL
            refine wp_region_noPanic ?_
            refine wp_region_held_drew (S := fun wp => (Instr.loadAt 33 (.pointer (some ⟨g, o + m * 102, none⟩))).run Tryz.prog wp = .ok (.agg R) wp ∧ (Instr.loadAt 24 (.pointer (some ⟨g, o + (m + 1) * 102 + 68, none⟩))).run Tryz.prog wp = .ok (.agg HX) wp ∧ (Instr.loadAt 33 (.pointer (some ⟨gX, 0, none⟩))).run Tryz.prog wp = .ok (.agg Y) wp) (by kernel_rfl) ?_ (fun hHeld => ?_)
            · exact HK2.out _ ue0
            refine wpAnyH_take (i := 0) (v := ?v49) (by simp only [List.getElem?_toArray, List.getElem?_cons_zero] <;> rfl) (by kernel_rfl) (by kernel_rfl) (by kernel_rfl) (fun _ _ _ h => h) (Or.inl ⟨by rfl, ?y49⟩) hHeld ?r49
            case y49 => (intro w hSw; (try dsimp only at hSw); go_simp; first | done | with_reducible rfl | rfl)
            try simp only [Act.put, List.setIfInBounds_toArray, List.set_cons_zero, List.set_cons_succ]
            refine wpAnyH_take (i := 1) (v := ?v50) (by simp only [List.getElem?_toArray, List.getElem?_cons_succ, List.getElem?_cons_zero] <;> rfl) (by kernel_rfl) (by kernel_rfl) (by kernel_rfl) (fun _ _ _ h => h) (Or.inl ⟨by rfl, ?y50⟩) hHeld ?r50
            case y50 => (intro w hSw; (try dsimp only at hSw); go_simp; first | done | with_reducible rfl | rfl)
            try simp only [Act.put, List.setIfInBounds_toArray, List.set_cons_zero, List.set_cons_succ]
            refine wpAnyH_take (i := 2) (v := .agg Y) (by simp only [List.getElem?_toArray, List.getElem?_cons_succ, List.getElem?_cons_zero] <;> rfl) (by kernel_rfl) (by kernel_rfl) (by kernel_rfl) (fun _ _ _ h => h) (yieldsIf_loadW (by rfl) _ _ rfl _ rfl Y (fun w hSw => hSw.2.2)) hHeld ?_
            try simp only [Act.put, List.setIfInBounds_toArray, List.set_cons_zero, List.set_cons_succ]
            refine wpAnyH_take (i := 3) (v := ?v51) (by simp only [List.getElem?_toArray, List.getElem?_cons_succ, List.getElem?_cons_zero] <;> rfl) (by kernel_rfl) (by kernel_rfl) (by kernel_rfl) (fun _ _ _ h => h) (Or.inl ⟨by rfl, ?y51⟩) hHeld ?r51
            case y51 => (intro w hSw; (try dsimp only at hSw); go_simp; first | done | with_reducible rfl | rfl)
            try simp only [Act.put, List.setIfInBounds_toArray, List.set_cons_zero, List.set_cons_succ]
            refine wpAnyH_take (i := 4) (v := ?v52) (by simp only [List.getElem?_toArray, List.getElem?_cons_succ, List.getElem?_cons_zero] <;> rfl) (by kernel_rfl) (by kernel_rfl) (by kernel_rfl) (fun _ _ _ h => h) (Or.inl ⟨by rfl, ?y52⟩) hHeld ?r52
            case y52 => (intro w hSw; (try dsimp only at hSw); go_simp; first | done | with_reducible rfl | rfl)
            try simp only [Act.put, List.setIfInBounds_toArray, List.set_cons_zero, List.set_cons_succ]
            refine wpAnyH_take (i := 5) (v := ?v53) (by simp only [List.getElem?_toArray, List.getElem?_cons_succ, List.getElem?_cons_zero] <;> rfl) (by kernel_rfl) (by kernel_rfl) (by kernel_rfl) (fun _ _ _ h => h) (Or.inl ⟨by rfl, ?y53⟩) hHeld ?r53
            case y53 => (intro w hSw; (try dsimp only at hSw); go_simp; first | done | with_reducible rfl | rfl)
            try simp only [Act.put, List.setIfInBounds_toArray, List.set_cons_zero, List.set_cons_succ]
            refine wpAnyH_take (i := 6) (v := .agg R) (by simp only [List.getElem?_toArray, List.getElem?_cons_succ, List.getElem?_cons_zero] <;> rfl) (by kernel_rfl) (by kernel_rfl) (by kernel_rfl) (fun _ _ _ h => h) (yieldsIf_loadW (by rfl) _ _ rfl _ rfl R (fun w hSw => hSw.1)) hHeld ?_
            try simp only [Act.put, List.setIfInBounds_toArray, List.set_cons_zero, List.set_cons_succ]
            refine wpAnyH_take (i := 7) (v := ?v54) (by simp only [List.getElem?_toArray, List.getElem?_cons_succ, List.getElem?_cons_zero] <;> rfl) (by kernel_rfl) (by kernel_rfl) (by kernel_rfl) (fun _ _ _ h => h) (Or.inl ⟨by rfl, ?y54⟩) hHeld ?r54
            case y54 => (intro w hSw; (try dsimp only at hSw); go_simp; first | done | with_reducible rfl | rfl)
            try simp only [Act.put, List.setIfInBounds_toArray, List.set_cons_zero, List.set_cons_succ]
            refine wpAnyH_take (i := 8) (v := ?v55) (by simp only [List.getElem?_toArray, List.getElem?_cons_succ, List.getElem?_cons_zero] <;> rfl) (by kernel_rfl) (by kernel_rfl) (by kernel_rfl) (fun _ _ _ h => h) (Or.inl ⟨by rfl, ?y55⟩) hHeld ?r55
            case y55 => (intro w hSw; (try dsimp only at hSw); go_simp; first | done | with_reducible rfl | rfl)
            try simp only [Act.put, List.setIfInBounds_toArray, List.set_cons_zero, List.set_cons_succ]
            refine wpAnyH_take (i := 9) (v := ?v56) (by simp only [List.getElem?_toArray, List.getElem?_cons_succ, List.getElem?_cons_zero] <;> rfl) (by kernel_rfl) (by kernel_rfl) (by kernel_rfl) (fun _ _ _ h => h) (Or.inl ⟨by rfl, ?y56⟩) hHeld ?r56
            case y56 => (intro w hSw; (try dsimp only at hSw); go_simp; first | done | with_reducible rfl | rfl)
            try simp only [Act.put, List.setIfInBounds_toArray, List.set_cons_zero, List.set_cons_succ]
            refine wpAnyH_take (i := 10) (v := ?v57) (by simp only [List.getElem?_toArray, List.getElem?_cons_succ, List.getElem?_cons_zero] <;> rfl) (by kernel_rfl) (by kernel_rfl) (by kernel_rfl) (fun _ _ _ h => h) (Or.inl ⟨by rfl, ?y57⟩) hHeld ?r57
            case y57 => (intro w hSw; (try dsimp only at hSw); go_simp; first | done | with_reducible rfl | rfl)
            try simp only [Act.put, List.setIfInBounds_toArray, List.set_cons_zero, List.set_cons_succ]
            refine wpAnyH_take (i := 11) (v := ?v58) (by simp only [List.getElem?_toArray, List.getElem?_cons_succ, List.getElem?_cons_zero] <;> rfl) (by kernel_rfl) (by kernel_rfl) (by kernel_rfl) (fun _ _ _ h => h) (Or.inl ⟨by rfl, ?y58⟩) hHeld ?r58
            case y58 => (intro w hSw; (try dsimp only at hSw); go_simp; first | done | with_reducible rfl | rfl)
            try simp only [Act.put, List.setIfInBounds_toArray, List.set_cons_zero, List.set_cons_succ]
            refine wpAnyH_take (i := 12) (v := ?v59) (by simp only [List.getElem?_toArray, List.getElem?_cons_succ, List.getElem?_cons_zero] <;> rfl) (by kernel_rfl) (by kernel_rfl) (by kernel_rfl) (fun _ _ _ h => h) (Or.inl ⟨by rfl, ?y59⟩) hHeld ?r59
            case y59 => (intro w hSw; (try dsimp only at hSw); go_simp; first | done | with_reducible rfl | rfl)
            try simp only [Act.put, List.setIfInBounds_toArray, List.set_cons_zero, List.set_cons_succ]
            refine wpAnyH_take (i := 13) (v := ?v60) (by simp only [List.getElem?_toArray, List.getElem?_cons_succ, List.getElem?_cons_zero] <;> rfl) (by kernel_rfl) (by kernel_rfl) (by kernel_rfl) (fun _ _ _ h => h) (Or.inl ⟨by rfl, ?y60⟩) hHeld ?r60
            case y60 => (intro w hSw; (try dsimp only at hSw); go_simp; first | done | with_reducible rfl | rfl)
            try simp only [Act.put, List.setIfInBounds_toArray, List.set_cons_zero, List.set_cons_succ]
            refine wpAnyH_take (i := 14) (v := ?v61) (by simp only [List.getElem?_toArray, List.getElem?_cons_succ, List.getElem?_cons_zero] <;> rfl) (by kernel_rfl) (by kernel_rfl) (by kernel_rfl) (fun _ _ _ h => h) (Or.inl ⟨by rfl, ?y61⟩) hHeld ?r61
            case y61 => (intro w hSw; (try dsimp only at hSw); go_simp; first | done | with_reducible rfl | rfl)
            try simp only [Act.put, List.setIfInBounds_toArray, List.set_cons_zero, List.set_cons_succ]
            refine wpAnyH_take (i := 15) (v := .agg R) (by simp only [List.getElem?_toArray, List.getElem?_cons_succ, List.getElem?_cons_zero] <;> rfl) (by kernel_rfl) (by kernel_rfl) (by kernel_rfl) (fun _ _ _ h => h) (yieldsIf_loadW (by rfl) _ _ rfl _ rfl R (fun w hSw => hSw.1)) hHeld ?_
            try simp only [Act.put, List.setIfInBounds_toArray, List.set_cons_zero, List.set_cons_succ]
            refine wpAnyH_take (i := 17) (v := .agg Y) (by simp only [List.getElem?_toArray, List.getElem?_cons_succ, List.getElem?_cons_zero] <;> rfl) (by kernel_rfl) (by kernel_rfl) (by kernel_rfl) (fun _ _ _ h => h) (yieldsIf_loadW (by rfl) _ _ rfl _ rfl Y (fun w hSw => hSw.2.2)) hHeld ?_
            try simp only [Act.put, List.setIfInBounds_toArray, List.set_cons_zero, List.set_cons_succ]
            refine wpAnyH_ready (rs := [16]) (by kernel_rfl) (by simp) ?_
            refine AllReadyH.cons (by simp only [List.getElem?_toArray, List.getElem?_cons_succ, List.getElem?_cons_zero] <;> rfl) (fun K hK => ?_) ?_
            · go_simp; refine (HTX.out _ (htab.upd (uAw.trans ue0))).mono ?_; rintro e wq1 ⟨s1, HS1, hs1, rfl, hq⟩; have ue1 := ue0.trans hq; clear hq; go_wp2_with fail
              refine hK.out _ _ ?_ (fun hHeld => ?_)
              · exact HK2.out _ ue1
              clear hK K
              try simp only [Act.put, List.setIfInBounds_toArray, List.set_cons_zero, List.set_cons_succ]
              refine wpAnyH_ready (rs := [18]) (by kernel_rfl) (by simp) ?_
              refine AllReadyH.cons (by simp only [List.getElem?_toArray, List.getElem?_cons_succ, List.getElem?_cons_zero] <;> rfl) (fun K hK => ?_) ?_
              · go_simp; refine (HTY.out _ (htab.upd (uAw.trans ue1))).mono ?_; rintro e wq2 ⟨s2, HS2, hs2, rfl, hq⟩; have ue2 := ue1.trans hq; clear hq; go_wp2_with fail
                refine hK.out _ _ ?_ (fun hHeld => ?_)
                · exact HK2.out _ ue2
                clear hK K
                try simp only [Act.put, List.setIfInBounds_toArray, List.set_cons_zero, List.set_cons_succ]
                refine wpAnyH_ready (rs := [19]) (by kernel_rfl) (by simp) ?_
                refine AllReadyH.cons (by simp only [List.getElem?_toArray, List.getElem?_cons_succ, List.getElem?_cons_zero] <;> rfl) (fun K hK => ?_) ?_
                · go_simp; obtain ⟨gS, wq3, hgx, hwx, fs, hq⟩ := alloc_let wq2 (.cells #[.string s1, .string s2] 9); rw [← hgx, ← hwx]; have ue3 := ue2.trans hq; clear hgx hwx hq
                  refine hK.out _ _ ?_ (fun hHeld => ?_)
                  · exact HK2.out _ ue3
                  clear hK K
                  try simp only [Act.put, List.setIfInBounds_toArray, List.set_cons_zero, List.set_cons_succ]
                  refine wpAnyH_ready (rs := [20]) (by kernel_rfl) (by simp) ?_
                  refine AllReadyH.cons (by simp only [List.getElem?_toArray, List.getElem?_cons_succ, List.getElem?_cons_zero] <;> rfl) (fun K hK => ?_) ?_
                  · have hl1 := HXL.out; have hl2 := HYL.out; have hct := HCT.out s1 s2 HS1.out HS2.out; go_simp; refine (clash_any s1 s2 gS _ (by omega) (by omega) fs.out).mono ?_; rintro e wq4 ⟨rfl, hq⟩; rw [hct]; have ue4 := ue3.trans hq; clear hq hct hl1 hl2; go_wp2_with fail
                    refine hK.out _ _ ?_ (fun hHeld => ?_)
                    · exact HK2.out _ ue4
                    clear hK K
                    try simp only [Act.put, List.setIfInBounds_toArray, List.set_cons_zero, List.set_cons_succ]
                    refine wpAnyH_take (i := 21) (v := ?v62) (by simp only [List.getElem?_toArray, List.getElem?_cons_succ, List.getElem?_cons_zero] <;> rfl) (by kernel_rfl) (by kernel_rfl) (by kernel_rfl) (fun _ _ _ h => h) (Or.inl ⟨by rfl, ?y62⟩) hHeld ?r62
                    case y62 => (intro w hSw; (try dsimp only at hSw); go_simp; first | done | with_reducible rfl | rfl)
                    try simp only [Act.put, List.setIfInBounds_toArray, List.set_cons_zero, List.set_cons_succ]
                    refine wpAnyH_take (i := 22) (v := ?v63) (by simp only [List.getElem?_toArray, List.getElem?_cons_succ, List.getElem?_cons_zero] <;> rfl) (by kernel_rfl) (by kernel_rfl) (by kernel_rfl) (fun _ _ _ h => h) (Or.inl ⟨by rfl, ?y63⟩) hHeld ?r63
                    case y63 => (intro w hSw; (try dsimp only at hSw); go_simp; first | done | with_reducible rfl | rfl)
                    try simp only [Act.put, List.setIfInBounds_toArray, List.set_cons_zero, List.set_cons_succ]
                    refine wpAnyH_take (i := 23) (v := ?v64) (by simp only [List.getElem?_toArray, List.getElem?_cons_succ, List.getElem?_cons_zero] <;> rfl) (by kernel_rfl) (by kernel_rfl) (by kernel_rfl) (fun _ _ _ h => h) (Or.inl ⟨by rfl, ?y64⟩) hHeld ?r64
                    case y64 => (intro w hSw; (try dsimp only at hSw); go_simp; first | done | with_reducible rfl | rfl)
                    try simp only [Act.put, List.setIfInBounds_toArray, List.set_cons_zero, List.set_cons_succ]
                    refine wpAnyH_done (by kernel_rfl) ?_ _
                    refine NoPanic.normal ?_
                    go_wp2_with fail
                    go_ret
                    exact ⟨rfl, uAw.trans ue4⟩
                  exact AllReadyH.nil
                exact AllReadyH.nil
              exact AllReadyH.nil
            exact AllReadyH.nil
        · skip
          refine wp_region_noPanic ?_
          refine wp_region_held_drew (S := fun wp => (Instr.loadAt 33 (.pointer (some ⟨g, o + m * 102, none⟩))).run Tryz.prog wp = .ok (.agg R) wp ∧ (Instr.loadAt 24 (.pointer (some ⟨g, o + (m + 1) * 102 + 68, none⟩))).run Tryz.prog wp = .ok (.agg HX) wp ∧ (Instr.loadAt 33 (.pointer (some ⟨gX, 0, none⟩))).run Tryz.prog wp = .ok (.agg Y) wp) (by kernel_rfl) ?_ (fun hHeld => ?_)
          · exact HK2.out _ ue0
          refine wpAnyH_take (i := 0) (v := ?v65) (by simp only [List.getElem?_toArray, List.getElem?_cons_zero] <;> rfl) (by kernel_rfl) (by kernel_rfl) (by kernel_rfl) (fun _ _ _ h => h) (Or.inl ⟨by rfl, ?y65⟩) hHeld ?r65
          case y65 => (intro w hSw; (try dsimp only at hSw); go_simp; first | done | with_reducible rfl | rfl)
          try simp only [Act.put, List.setIfInBounds_toArray, List.set_cons_zero, List.set_cons_succ]
          refine wpAnyH_take (i := 1) (v := ?v66) (by simp only [List.getElem?_toArray, List.getElem?_cons_succ, List.getElem?_cons_zero] <;> rfl) (by kernel_rfl) (by kernel_rfl) (by kernel_rfl) (fun _ _ _ h => h) (Or.inl ⟨by rfl, ?y66⟩) hHeld ?r66
          case y66 => (intro w hSw; (try dsimp only at hSw); go_simp; first | done | with_reducible rfl | rfl)
          try simp only [Act.put, List.setIfInBounds_toArray, List.set_cons_zero, List.set_cons_succ]
          refine wpAnyH_take (i := 2) (v := .agg Y) (by simp only [List.getElem?_toArray, List.getElem?_cons_succ, List.getElem?_cons_zero] <;> rfl) (by kernel_rfl) (by kernel_rfl) (by kernel_rfl) (fun _ _ _ h => h) (yieldsIf_loadW (by rfl) _ _ rfl _ rfl Y (fun w hSw => hSw.2.2)) hHeld ?_
          try simp only [Act.put, List.setIfInBounds_toArray, List.set_cons_zero, List.set_cons_succ]
          refine wpAnyH_take (i := 3) (v := ?v67) (by simp only [List.getElem?_toArray, List.getElem?_cons_succ, List.getElem?_cons_zero] <;> rfl) (by kernel_rfl) (by kernel_rfl) (by kernel_rfl) (fun _ _ _ h => h) (Or.inl ⟨by rfl, ?y67⟩) hHeld ?r67
          case y67 => (intro w hSw; (try dsimp only at hSw); go_simp; first | done | with_reducible rfl | rfl)
          try simp only [Act.put, List.setIfInBounds_toArray, List.set_cons_zero, List.set_cons_succ]
          refine wpAnyH_take (i := 4) (v := ?v68) (by simp only [List.getElem?_toArray, List.getElem?_cons_succ, List.getElem?_cons_zero] <;> rfl) (by kernel_rfl) (by kernel_rfl) (by kernel_rfl) (fun _ _ _ h => h) (Or.inl ⟨by rfl, ?y68⟩) hHeld ?r68
          case y68 => (intro w hSw; (try dsimp only at hSw); go_simp; first | done | with_reducible rfl | rfl)
          try simp only [Act.put, List.setIfInBounds_toArray, List.set_cons_zero, List.set_cons_succ]
          refine wpAnyH_take (i := 5) (v := ?v69) (by simp only [List.getElem?_toArray, List.getElem?_cons_succ, List.getElem?_cons_zero] <;> rfl) (by kernel_rfl) (by kernel_rfl) (by kernel_rfl) (fun _ _ _ h => h) (Or.inl ⟨by rfl, ?y69⟩) hHeld ?r69
          case y69 => (intro w hSw; (try dsimp only at hSw); go_simp; first | done | with_reducible rfl | rfl)
          try simp only [Act.put, List.setIfInBounds_toArray, List.set_cons_zero, List.set_cons_succ]
          refine wpAnyH_take (i := 6) (v := .agg R) (by simp only [List.getElem?_toArray, List.getElem?_cons_succ, List.getElem?_cons_zero] <;> rfl) (by kernel_rfl) (by kernel_rfl) (by kernel_rfl) (fun _ _ _ h => h) (yieldsIf_loadW (by rfl) _ _ rfl _ rfl R (fun w hSw => hSw.1)) hHeld ?_
          try simp only [Act.put, List.setIfInBounds_toArray, List.set_cons_zero, List.set_cons_succ]
          refine wpAnyH_take (i := 7) (v := ?v70) (by simp only [List.getElem?_toArray, List.getElem?_cons_succ, List.getElem?_cons_zero] <;> rfl) (by kernel_rfl) (by kernel_rfl) (by kernel_rfl) (fun _ _ _ h => h) (Or.inl ⟨by rfl, ?y70⟩) hHeld ?r70
          case y70 => (intro w hSw; (try dsimp only at hSw); go_simp; first | done | with_reducible rfl | rfl)
          try simp only [Act.put, List.setIfInBounds_toArray, List.set_cons_zero, List.set_cons_succ]
          refine wpAnyH_take (i := 8) (v := ?v71) (by simp only [List.getElem?_toArray, List.getElem?_cons_succ, List.getElem?_cons_zero] <;> rfl) (by kernel_rfl) (by kernel_rfl) (by kernel_rfl) (fun _ _ _ h => h) (Or.inl ⟨by rfl, ?y71⟩) hHeld ?r71
          case y71 => (intro w hSw; (try dsimp only at hSw); go_simp; first | done | with_reducible rfl | rfl)
          try simp only [Act.put, List.setIfInBounds_toArray, List.set_cons_zero, List.set_cons_succ]
          refine wpAnyH_take (i := 9) (v := undef) (by simp only [List.getElem?_toArray, List.getElem?_cons_succ, List.getElem?_cons_zero] <;> rfl) (by kernel_rfl) (by kernel_rfl) (by kernel_rfl) (fun _ _ _ h => h) (Or.inr ⟨by rfl, rfl⟩) hHeld ?_
          try simp only [Act.put, List.setIfInBounds_toArray, List.set_cons_zero, List.set_cons_succ]
          refine wpAnyH_take (i := 10) (v := ?v72) (by simp only [List.getElem?_toArray, List.getElem?_cons_succ, List.getElem?_cons_zero] <;> rfl) (by kernel_rfl) (by kernel_rfl) (by kernel_rfl) (fun _ _ _ h => h) (Or.inl ⟨by rfl, ?y72⟩) hHeld ?r72
          case y72 => (intro w hSw; (try dsimp only at hSw); go_simp; first | done | with_reducible rfl | rfl)
          try simp only [Act.put, List.setIfInBounds_toArray, List.set_cons_zero, List.set_cons_succ]
          refine wpAnyH_take (i := 11) (v := ?v73) (by simp only [List.getElem?_toArray, List.getElem?_cons_succ, List.getElem?_cons_zero] <;> rfl) (by kernel_rfl) (by kernel_rfl) (by kernel_rfl) (fun _ _ _ h => h) (Or.inl ⟨by rfl, ?y73⟩) hHeld ?r73
          case y73 => (intro w hSw; (try dsimp only at hSw); go_simp; first | done | with_reducible rfl | rfl)
          try simp only [Act.put, List.setIfInBounds_toArray, List.set_cons_zero, List.set_cons_succ]
          refine wpAnyH_take (i := 12) (v := undef) (by simp only [List.getElem?_toArray, List.getElem?_cons_succ, List.getElem?_cons_zero] <;> rfl) (by kernel_rfl) (by kernel_rfl) (by kernel_rfl) (fun _ _ _ h => h) (Or.inr ⟨by rfl, rfl⟩) hHeld ?_
          try simp only [Act.put, List.setIfInBounds_toArray, List.set_cons_zero, List.set_cons_succ]
          refine wpAnyH_take (i := 13) (v := undef) (by simp only [List.getElem?_toArray, List.getElem?_cons_succ, List.getElem?_cons_zero] <;> rfl) (by kernel_rfl) (by kernel_rfl) (by kernel_rfl) (fun _ _ _ h => h) (Or.inr ⟨by rfl, rfl⟩) hHeld ?_
          try simp only [Act.put, List.setIfInBounds_toArray, List.set_cons_zero, List.set_cons_succ]
          refine wpAnyH_take (i := 14) (v := undef) (by simp only [List.getElem?_toArray, List.getElem?_cons_succ, List.getElem?_cons_zero] <;> rfl) (by kernel_rfl) (by kernel_rfl) (by kernel_rfl) (fun _ _ _ h => h) (Or.inr ⟨by rfl, rfl⟩) hHeld ?_
          try simp only [Act.put, List.setIfInBounds_toArray, List.set_cons_zero, List.set_cons_succ]
          refine wpAnyH_take (i := 15) (v := undef) (by simp only [List.getElem?_toArray, List.getElem?_cons_succ, List.getElem?_cons_zero] <;> rfl) (by kernel_rfl) (by kernel_rfl) (by kernel_rfl) (fun _ _ _ h => h) (Or.inr ⟨by rfl, rfl⟩) hHeld ?_
          try simp only [Act.put, List.setIfInBounds_toArray, List.set_cons_zero, List.set_cons_succ]
          refine wpAnyH_take (i := 16) (v := undef) (by simp only [List.getElem?_toArray, List.getElem?_cons_succ, List.getElem?_cons_zero] <;> rfl) (by kernel_rfl) (by kernel_rfl) (by kernel_rfl) (fun _ _ _ h => h) (Or.inr ⟨by rfl, rfl⟩) hHeld ?_
          try simp only [Act.put, List.setIfInBounds_toArray, List.set_cons_zero, List.set_cons_succ]
          refine wpAnyH_take (i := 17) (v := undef) (by simp only [List.getElem?_toArray, List.getElem?_cons_succ, List.getElem?_cons_zero] <;> rfl) (by kernel_rfl) (by kernel_rfl) (by kernel_rfl) (fun _ _ _ h => h) (Or.inr ⟨by rfl, rfl⟩) hHeld ?_
          try simp only [Act.put, List.setIfInBounds_toArray, List.set_cons_zero, List.set_cons_succ]
          refine wpAnyH_take (i := 18) (v := undef) (by simp only [List.getElem?_toArray, List.getElem?_cons_succ, List.getElem?_cons_zero] <;> rfl) (by kernel_rfl) (by kernel_rfl) (by kernel_rfl) (fun _ _ _ h => h) (Or.inr ⟨by rfl, rfl⟩) hHeld ?_
          try simp only [Act.put, List.setIfInBounds_toArray, List.set_cons_zero, List.set_cons_succ]
          refine wpAnyH_take (i := 19) (v := undef) (by simp only [List.getElem?_toArray, List.getElem?_cons_succ, List.getElem?_cons_zero] <;> rfl) (by kernel_rfl) (by kernel_rfl) (by kernel_rfl) (fun _ _ _ h => h) (Or.inr ⟨by rfl, rfl⟩) hHeld ?_
          try simp only [Act.put, List.setIfInBounds_toArray, List.set_cons_zero, List.set_cons_succ]
          refine wpAnyH_take (i := 20) (v := undef) (by simp only [List.getElem?_toArray, List.getElem?_cons_succ, List.getElem?_cons_zero] <;> rfl) (by kernel_rfl) (by kernel_rfl) (by kernel_rfl) (fun _ _ _ h => h) (Or.inr ⟨by rfl, rfl⟩) hHeld ?_
          try simp only [Act.put, List.setIfInBounds_toArray, List.set_cons_zero, List.set_cons_succ]
          refine wpAnyH_take (i := 21) (v := ?v74) (by simp only [List.getElem?_toArray, List.getElem?_cons_succ, List.getElem?_cons_zero] <;> rfl) (by kernel_rfl) (by kernel_rfl) (by kernel_rfl) (fun _ _ _ h => h) (Or.inl ⟨by rfl, ?y74⟩) hHeld ?r74
          case y74 => (intro w hSw; (try dsimp only at hSw); go_simp; first | done | with_reducible rfl | rfl)
          try simp only [Act.put, List.setIfInBounds_toArray, List.set_cons_zero, List.set_cons_succ]
          refine wpAnyH_take (i := 22) (v := ?v75) (by simp only [List.getElem?_toArray, List.getElem?_cons_succ, List.getElem?_cons_zero] <;> rfl) (by kernel_rfl) (by kernel_rfl) (by kernel_rfl) (fun _ _ _ h => h) (Or.inl ⟨by rfl, ?y75⟩) hHeld ?r75
          case y75 => (intro w hSw; (try dsimp only at hSw); go_simp; first | done | with_reducible rfl | rfl)
          try simp only [Act.put, List.setIfInBounds_toArray, List.set_cons_zero, List.set_cons_succ]
          refine wpAnyH_take (i := 23) (v := ?v76) (by simp only [List.getElem?_toArray, List.getElem?_cons_succ, List.getElem?_cons_zero] <;> rfl) (by kernel_rfl) (by kernel_rfl) (by kernel_rfl) (fun _ _ _ h => h) (Or.inl ⟨by rfl, ?y76⟩) hHeld ?r76
          case y76 => (intro w hSw; (try dsimp only at hSw); go_simp; first | done | with_reducible rfl | rfl)
          try simp only [Act.put, List.setIfInBounds_toArray, List.set_cons_zero, List.set_cons_succ]
          refine wpAnyH_done (by kernel_rfl) ?_ _
          refine NoPanic.normal ?_
          go_wp2_with fail
          go_ret
          exact ⟨rfl, uAw.trans ue0⟩
end Go.Proofs.YtmnmhhbldbdpfaaGreatDoor
