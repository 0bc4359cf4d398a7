/- The walk of KioskChains. -/
import Derived.Test.YtabnlklkfgojgaaGreatDoorGZ
import Derived.Test.YtabnlklkfgojgaaGreatDoorGS
import Derived.Test.YtabnlklkfgojgaaGreatDoorGB
namespace Go.Proofs.YtabnlklkfgojgaaGreatDoor
open Go.RowKit
set_option maxRecDepth 100000

section
variable {w0 wr w1 : World} {xb : Nat} {id sec : Int} {n : Nat}
theorem do_act (h : ChI w0 xb id sec n wr) (a : Act27) (ha : a.ok) (hn : n ≤ 900) (htab : Tabs w0) : Calls Tryz.prog 24 #[.pointer (some ⟨xb, 0, none⟩), .agg a.cs] wr (DoTo w0 xb id sec (n + 1)) := by
  rcases h with ⟨m, kb, mb, K, v, hF⟩ | ⟨m, m2, kb, mb, ob, K, v, vo, hB⟩
  · by_cases hw : 8 ≤ a.what % 12
    · obtain ⟨b, hx, hFa⟩ := hF.fail_any
      exact (do_front hx hFa hF.mach.off.1 (fun q sv W u hI => (hF.quiet u).open_any hn q sv hI htab) hF.mach.lt a ha hw).mono fun e w' h => h.mono (by omega)
    · exact doF_else hF a ha hw hn htab
  · by_cases hw : 8 ≤ a.what % 12
    · obtain ⟨b, hx, hFa⟩ := hB.fail_any
      obtain ⟨b', hbr, _⟩ := hB.br
      exact (do_front hx hFa hB.xK (fun q sv W u hI => (hB.quiet u).open_any hn q sv hI htab) hbr.lt a ha hw).mono fun e w' h => h.mono (by omega)
    · exact (doB_else hB a ha hw).mono fun e w' h => h.mono (by omega)
theorem ChI.up (h : ChI w0 xb id sec n wr) : Upd [] [] w0 wr := by
  rcases h with ⟨m, kb, mb, K, v, hF⟩ | ⟨m, m2, kb, mb, ob, K, v, vo, hB⟩
  · exact hF.mach.up
  · exact hB.up
theorem ChI.last (h : ChI w0 xb id sec n wr) : ∃ m kb, wr.cell? ⟨xb, 1, none⟩ = some (.pointer (some ⟨kb, 0, none⟩)) ∧ m.ok ∧ m.id = id ∧ m.rs.length ≤ n ∧ ChK id sec m ∧ Calls Tryz.prog 17 #[.pointer (some ⟨kb, 0, none⟩), .int .i64 0] wr (MkBat m.id m.rs wr) := by
  rcases h with ⟨m, kb, mb, K, v, hF⟩ | ⟨m, m2, kb, mb, ob, K, v, vo, hB⟩
  · obtain ⟨b, hx⟩ := hF.mach.row
    obtain ⟨rs, hh⟩ := hF.mach.hist
    exact ⟨m, kb, by rw [cell_of_row _ _ _ _ _ _ hx]; rfl, hF.mach.ok, hF.mach.ids.1, hF.len, hh.chain, Batch_m hF.mach⟩
  · obtain ⟨b, hbr, hx⟩ := hB.br
    obtain ⟨jb, u, D, S, a1, _⟩ := hbr.ex
    obtain ⟨rs, hh⟩ := hB.hs
    exact ⟨m, kb, by rw [cell_of_row _ _ _ _ _ _ hx]; rfl, a1.ok, hB.ids.1, hB.l1, hh.chain, Batch_any a1 0 0 (by unfold i64in; omega) (Nat.zero_le _) (fun _ => rfl) (fun h => by omega)⟩
end
structure ChJ (w wr : World) (gp : Nat) (ab : Option Addr) (m : KM) (k : Nat) (z : Int) : Prop where
  up : Upd [] [] w wr
  row : wr.heap[gp]? = some (.cells (byteVals (prevK (m.rs.take k))).toArray 31 (0, 0))
  gw : w.heap.size ≤ gp
  r : RcsIn wr ab m.rs
  z : ∀ x, m.rs[k]? = some x → z ≤ x.seen
theorem rcsIn_offH {w : World} {g : Nat} {ao : Option Addr} {l : List Rc} {s : List UInt8} {T : TypeId} (h : RcsIn w ao l) (hg : w.heap[g]? = some (.cells (byteVals s).toArray T (0, 0))) (C : Array Value) : RcsIn (w.setRow g C) ao l := by
  intro k x hx
  obtain ⟨h1, h2, g', o, e, h3, h4⟩ := h k x hx
  refine ⟨h1, h2, g', o, e, by simpa using h3, ?_⟩
  have hne : g' ≠ g := by
    intro e
    subst e
    have hs : (rcV x)[3]? = some (.int .i64 x.seen) := by have := (rc_parts h1).2.2.2.2.2.2.2; rwa [List.getElem?_toArray] at this
    have q := h4 3 _ hs
    rw [cell_of_row _ _ _ _ _ _ hg, List.getElem?_toArray] at q
    unfold byteVals at q
    rw [List.getElem?_map] at q
    cases hq : s[o + k * 102 + 3]? with
    | none => rw [hq] at q; cases q
    | some b => rw [hq] at q; injection q with q; cases q
  intro j v hv
  rw [← h4 j v hv]
  exact World.cell?_of_block (a := ⟨g', o + k * 102 + j, none⟩) (setRow_other _ _ _ _ hne)
theorem prev_load {W : World} {g : Nat} {x : Rc} (hx : x.ok) (P : Array Value) (hP : P = (byteVals x.prev).toArray) (h : W.heap[g]? = some (.cells (rcV x).toArray 37 (0, 0))) : (Instr.loadAt 31 (.pointer (some ⟨g, 68, none⟩))).run Tryz.prog W = .ok (.agg P) W := by
  rw [hP]
  refine run_loadAt_mid W g 68 _ (byteVals x.prev) _ (fun j u hj => ?_) Tryz.underlying31 rfl (hashLen hx.2.2.2.2.2.1)
  rw [cell_of_row _ _ _ _ _ _ h]
  have h1 := (rc_parts hx).2.2.1
  have h2 : ((rcV x).toArray.extract 68 (68 + 32))[j]? = some u := by rw [h1, List.getElem?_toArray]; exact hj
  rw [Array.getElem?_extract] at h2
  split at h2
  · exact h2
  · cases h2
set_option maxHeartbeats 40000000 in
theorem kioskChains_walk (seed : ByteArray) (n0 : Int) (l : List Act27) (ao : Option Addr) (cap : Nat) (w : World) (hseed : seed.size ≤ 140737488355000) (hn : 0 ≤ n0 ∧ n0 ≤ 255) (hp : AcsIn w ao l) (_hlc : l.length ≤ cap) (_hcm : cap ≤ 9223372036854775807) (htab : Tabs w) :
    Calls Tryz.prog 8 #[.string seed, .int .u8 n0, .slice ao l.length cap] w (TrueMk w) := by
  have HP := Lib.hid hp
  clear hp
  go_enter Tryz.func8, Tryz.ntmps8
  go_wp2_with fail
  refine (sanity27_any _ htab).mono ?_
  rintro e w1 ⟨rfl, hu1⟩
  have HU1 := Lib.hid hu1
  clear hu1
  go_wp2_with fail
  refine (key_any seed w1 hseed (htab.upd HU1.out)).mono ?_
  rintro e w2 ⟨sc, pb, hsc, hpb, hsl, hpl, rfl, hu2⟩
  have HU2 := Lib.hid (HU1.out.trans hu2)
  have HPB : Hid ((pb : Int) = (gP (expN (sc : Int)) : Int)) := by
    show _ = _
    rw [expN_of (by unfold Qn; omega), hpb.out, hsc.out]
  have HSB : Hid (sc < 1152921504606845789 ∧ pb < 2305843009213691579) := ⟨hsl, hpl⟩
  obtain ⟨p0, hp0⟩ : ∃ p : Nat, (p : Int) = n0 % 8 := ⟨(n0 % 8).toNat, by omega⟩
  have hp6 : p0 < 8 := by omega
  clear hu2 HU1 hsc hpb hsl hpl
  go_wp2_with fail
  rw [hp0.symm]
  refine (newC_any 9 (sc : Int) p0 (by unfold i64in; omega) (by have := HSB.out.1; unfold i64in; omega) (by omega) HU2.out htab).mono ?_
  rintro e w3 ⟨xb, mb, kb, K, rfl, hF⟩
  have I3 : Hid (ChI w xb 9 (sc : Int) 0 w3) := .inl ⟨_, kb, mb, K, _, hF⟩
  clear hF hp0 HU2
  go_wp2_with fail
  go_loopw [11] (fun i wr => ∃ (k : Nat), i = .int .i64 (k : Int) ∧ k ≤ 25 ∧ k ≤ l.length ∧ Hid (ChI w xb 9 (sc : Int) k wr)) (fun i _ => 25 - (intOf i).toNat)
  case atStart => exact ⟨0, rfl, by omega, by omega, I3⟩
  case round =>
    clear I3
    obtain ⟨k, rfl, hk, hkl, HI⟩ := hrel
    by_cases hlt : k < l.length
    · by_cases h25 : k < 25
      · obtain ⟨a, ha⟩ : ∃ a, l[k]? = some a := ⟨_, List.getElem?_eq_getElem hlt⟩
        obtain ⟨haok, g, o, hao, hg, _⟩ := HP.out k a ha
        obtain ⟨AC, hAC⟩ : ∃ AC, AC = a.cs := ⟨_, rfl⟩
        have HLA : Hid ((Instr.loadAt 66 (.pointer (some ⟨g, o + k * 3, none⟩))).run Tryz.prog wr = .ok (.agg AC) wr) := by
          obtain ⟨_, g', o', hao', _, hr⟩ := (HP.out.upd HI.out.up) k a ha
          rw [hao] at hao'
          cases hao'
          rw [hAC]
          exact (act_cells hr).2.2
        subst hao
        have HD := Lib.hid (do_act HI.out a haok (by omega) htab)
        rw [← hAC] at HD
        have i0 : (0 : Int) ≤ (k : Int) := by omega
        have i1 : (k : Int) < (l.length : Int) := by omega
        have i2 : (k : Int) < 25 := by omega
        clear ha haok hAC hg HI hlt h25
        go_wp2_with (first | (refine wpList_load_atW (by rfl) 66 _ rfl g (o + k * 3) rfl AC HLA.out ?_))
        refine HD.out.mono ?_
        rintro e w5 ⟨rfl, hI⟩
        have HI5 := Lib.hid hI
        clear hI HD HLA
        go_wp2_with fail
        exact ⟨⟨k + 1, by go_num, by omega, by omega, HI5⟩, by simp [intOf]; omega⟩
      · obtain rfl : k = 25 := by omega
        have h25' := Lib.hid h25
        clear h25
        obtain ⟨m, kb2, ckb, hmo, hmi, hml, hch, hBa⟩ := HI.out.last
        have HM := Lib.hid (And.intro hmo (And.intro hmi hch))
        have HBa := Lib.hid hBa
        have HUP := Lib.hid HI.out.up
        obtain ⟨L, hL⟩ : ∃ L, L = m.rs.length := ⟨_, rfl⟩
        have hL26 : L ≤ 26 := by omega
        have HL := Lib.hid hL
        have hfld : ∀ (i : Int) (a : Option Addr) (n c : Nat) (W : World), (Instr.field 50 (.agg #[.int .i64 i, .slice a n c]) 1).run Tryz.prog W = .ok (.slice a n c) W := field_bat
        clear HI hmo hmi hml hch hBa hL hk hkl
        go_upto_region 11 with (fail)
        go_wp2_with fail
        refine HBa.out.mono ?_
        rintro e w5 ⟨ab, cb, HRS, hcb, rfl, hq5⟩
        rw [← HL.out] at hcb ⊢
        obtain ⟨gp, hgp⟩ : ∃ g, g = w5.heap.size := ⟨_, rfl⟩
        obtain ⟨w6, hw6⟩ : ∃ w6, w5.alloc (.cells (#[.int .u8 0, .int .u8 0, .int .u8 0, .int .u8 0, .int .u8 0, .int .u8 0, .int .u8 0, .int .u8 0, .int .u8 0, .int .u8 0, .int .u8 0, .int .u8 0, .int .u8 0, .int .u8 0, .int .u8 0, .int .u8 0, .int .u8 0, .int .u8 0, .int .u8 0, .int .u8 0, .int .u8 0, .int .u8 0, .int .u8 0, .int .u8 0, .int .u8 0, .int .u8 0, .int .u8 0, .int .u8 0, .int .u8 0, .int .u8 0, .int .u8 0, .int .u8 0] : Array Value) 31) = w6 := ⟨_, rfl⟩
        have I6 : Hid (ChJ w w6 gp ab m 0 0) := by
          have u : Upd [] [] w5 w6 := by rw [← hw6]; exact (Upd.refl _ _).alloc _
          refine ⟨(HUP.out.trans hq5).trans u, ?_, by rw [hgp]; have := HUP.out.size; have := hq5.size; omega, HRS.out.upd u, fun x hx => (HM.out.2.2.each 0 x hx).2.2.2.1⟩
          rw [← hw6, hgp]
          exact heap_alloc_new _ _
        have HW6 := Lib.hid hw6
        have HGP := Lib.hid hgp
        clear HBa HRS hq5 hw6 hgp ckb HUP
        go_upto_region 13 with (fail)
        rw [HW6.out, ← HGP.out]
        clear HW6 HGP hfld
        go_wp2_with fail
        go_loopw [14, 15] (fun z i wr => ∃ (j : Nat) (zz : Int), z = .int .i64 zz ∧ i = .int .i64 (j : Int) ∧ j ≤ L ∧ Hid (ChJ w wr gp ab m j zz)) (fun _ i _ => L - (intOf i).toNat)
        case atStart => exact ⟨0, 0, rfl, rfl, Nat.zero_le _, I6⟩
        case round =>
          clear I6
          obtain ⟨j, zz, rfl, rfl, hj, HJ⟩ := hrel
          by_cases hjl : j < L
          · obtain ⟨x, hx⟩ : ∃ x, m.rs[j]? = some x := ⟨_, List.getElem?_eq_getElem (by rw [← HL.out]; exact hjl)⟩
            obtain ⟨hxo, hxd, g, o, hab, _⟩ := HJ.out.r j x hx
            have hser := HM.out.1.serial j x hx
            obtain ⟨hxk, hxp, hxv, hxs0, hxs1⟩ := HM.out.2.2.each j x hx
            obtain ⟨R, hR⟩ : ∃ R, R = (rcV x).toArray := ⟨_, rfl⟩
            obtain ⟨RI, RO, RZ⟩ := rcLet hxo R hR
            have HLR : Hid ((Instr.loadAt 37 (.pointer (some ⟨g, o + j * 102, none⟩))).run Tryz.prog wr = .ok (.agg R) wr) := by
              have := HJ.out.r
              rw [hab] at this
              exact rcs_load this hx R hR
            subst hab
            obtain ⟨w7, Z7, W7, R7, hq7⟩ := blk_new wr 37 Tryz.zeroCells37 R
            obtain ⟨gr, hgr⟩ : ∃ g, g = wr.heap.size := ⟨_, rfl⟩
            have HGR := Lib.hid hgr
            rw [← hgr] at R7
            have hup7 : Upd [] [] w w7 := HJ.out.up.trans hq7
            obtain ⟨P, hP⟩ : ∃ P, P = (byteVals x.prev).toArray := ⟨_, rfl⟩
            have hgP : w7.heap[gp]? = some (.cells P 31 (0, 0)) := by rw [hP, hxp]; exact row_updH HJ.out.row hq7
            have HV : Hid (Calls Tryz.prog 25 #[.int .i64 (pb : Int), .agg R] w7 (fun e w' => e = .returned (.bool true) ∧ Upd [] [] w7 w')) := by
              have q := verify22_is (pb : Int) x true (by have := HSB.out.2; unfold i64in; omega) hxo (by omega) (by rw [HPB.out]; exact hxv) w7 (htab.upd hup7)
              rw [← hR] at q
              exact q
            obtain ⟨N, hN⟩ : ∃ N, N = (byteVals (sha (textL x))).toArray := ⟨_, rfl⟩
            have HH : Hid (∀ W, Upd [] [] w7 W → Calls Tryz.prog 26 #[.agg R] W (Mk (.agg N) W)) := by
              intro W u
              rw [hR, hN]
              exact hash22_any x hxo (by omega) W (htab.upd (hup7.trans u))
            have NI : Hid ((Tryz.prog.info? 31).map (·.size) = some N.size) := by show _ = _; rw [hN]; exact hashInfo (sha_len _)
            have NO : Hid (N.all (·.oneCell') = true) := by show _ = _; rw [hN]; exact hashOne _
            have NZ : Hid (P.size = N.size) := by show _ = _; rw [hN, hP, hashSz (sha_len _), hashSz hxo.2.2.2.2.2.1]
            have hqp : ∀ W : World, (Op.equalIn 10000 31 (.agg P) (.agg P)).run Tryz.prog W = .ok true W := by
              intro W
              rw [hP, show (10000 : Nat) = 9998 + 2 from rfl, eqHash_run 9998 _ _ W hxo.2.2.2.2.2.1 hxo.2.2.2.2.2.1, decide_eq_true rfl]
            have HS : Hid (∀ W, Upd [] [] w7 W → (W.cell? ⟨gr, 0, none⟩ = some (.int .i64 9) ∧ W.cell? ⟨gr, 1, none⟩ = some (.int .i64 ((j : Int) + 1)) ∧ W.cell? ⟨gr, 3, none⟩ = some (.int .i64 x.seen)) ∧ (Instr.loadAt 37 (.pointer (some ⟨gr, 0, none⟩))).run Tryz.prog W = .ok (.agg R) W ∧ (Instr.loadAt 31 (.pointer (some ⟨gr, 68, none⟩))).run Tryz.prog W = .ok (.agg P) W ∧ (Instr.loadAt 31 (.pointer (some ⟨gp, 0, none⟩))).run Tryz.prog W = .ok (.agg P) W) := by
              intro W u
              have q := row_updH R7.out u
              have q1 := q
              rw [hR] at q1
              have parts := (rc_parts hxo).2.2.2
              refine ⟨⟨?_, ?_, ?_⟩, RcAt.load q1 hxo R hR, prev_load hxo P hP q1, hash_load hxo.2.2.2.2.2.1 P hP (row_updH hgP u)⟩
              · rw [cell_of_row _ _ _ _ _ _ q1, List.getElem?_toArray]; show some (Value.int .i64 x.kiosk) = _; rw [hxk]
              · rw [cell_of_row _ _ _ _ _ _ q1, List.getElem?_toArray]; show some (Value.int .i64 x.serial) = _; rw [hser]; rfl
              · rw [cell_of_row _ _ _ _ _ _ q1, List.getElem?_toArray]; rfl
            have GP7 := Lib.hid hgP
            obtain ⟨s, hs⟩ : ∃ s, s = x.seen := ⟨_, rfl⟩
            have hzz : ¬ s < zz := by have := HJ.out.z x hx; omega
            have HNX : Hid (∀ W : World, Upd [] [] w W → W.heap[gp]? = some (.cells N 31 (0, 0)) → RcsIn W (some ⟨g, o, none⟩) m.rs → ChJ w W gp (some ⟨g, o, none⟩) m (j + 1) s) := by
              intro W u h1 h2
              refine ⟨u, by rw [prevK_next hx, ← hN]; exact h1, HJ.out.gw, h2, fun y hy => ?_⟩
              rw [hs]
              exact HM.out.2.2.mono j x y hx hy
            have HRI7 := Lib.hid (HJ.out.r.upd hq7)
            have HRX : Hid (R = (rcV x).toArray ∧ x.ok) := ⟨hR, hxo⟩
            have HU7 := Lib.hid hup7
            have HPB2 : Hid (P = (byteVals x.prev).toArray) := hP
            have HGW : Hid (w.heap.size ≤ gp) := HJ.out.gw
            rw [← hs] at HS
            have jw : IntKind.i64.wrap ((j : Int) + 1) = (j : Int) + 1 := wrap_in (by omega) (by omega)
            have j0 : (0 : Int) ≤ (j : Int) := by omega
            have j1 : (j : Int) < (L : Int) := by omega
            have j2 : (j : Int) < 26 := by omega
            have HL7 := Lib.hid (HS.out w7 (Upd.refl _ _)).2.1
            clear hx hxo hxd hser hxk hxp hxv hxs0 hxs1 hR hq7 hgr hup7 hP hgP hN hs HJ hjl
            go_upto_region 18 with (first | (refine wpList_load_atW (by rfl) 37 _ rfl g (o + j * 102) rfl R HLR.out ?_) | (refine wpList_store_rowAs rfl 37 _ _ rfl wr.heap.size R rfl rfl _ _ Z7.out RI.out RZ.out RO.out w7 W7.out ?_))
            rw [← HGR.out]
            clear Z7 W7 HGR HLR
            go_wp2_with (first | (refine wpList_load_atW (by rfl) 37 _ rfl gr 0 rfl R HL7.out ?_))
            refine HV.out.mono ?_
            rintro e w8 ⟨rfl, hq8⟩
            obtain ⟨⟨c0, c1, c3⟩, _, hl2, hl3⟩ := HS.out w8 hq8
            have HQ8 := Lib.hid hq8
            have HL2 := Lib.hid hl2
            have HL3 := Lib.hid hl3
            have GP8 := Lib.hid (row_updH GP7.out hq8)
            have ud0 : Upd [] [] w8 w8.drew := (Upd.refl _ _).drew
            clear hl2 hl3 hq8 HV HL7
            go_upto_region 20 with (first | (refine wpList_load_atW (by rfl) 31 _ rfl gr 68 rfl P HL2.out ?_) | (refine wpList_load_atW (by rfl) 31 _ rfl gp 0 rfl P HL3.out ?_))
            clear c0 c1 c3 HL2 HL3
            have HGG : Hid (gr ≠ gp) := fun e => by
              have h1 := R7.out
              rw [e, GP7.out] at h1
              cases h1
            have HS2 : Hid (∀ W, Upd [] [] w7 W → (W.setRow gp N).cell? ⟨gr, 3, none⟩ = some (.int .i64 s) ∧ (Instr.loadAt 37 (.pointer (some ⟨gr, 0, none⟩))).run Tryz.prog (W.setRow gp N) = .ok (.agg R) (W.setRow gp N)) := by
              intro W u
              have q : (W.setRow gp N).heap[gr]? = some (.cells R 37 (0, 0)) := row_setRowO (row_updH R7.out u) HGG.out N
              have q0 := HRX.out
              refine ⟨?_, ?_⟩
              · rw [cell_of_row _ _ _ _ _ _ q, ← cell_of_row _ _ 3 _ _ _ R7.out]
                exact (HS.out w7 (Upd.refl _ _)).1.2.2
              · rw [q0.1] at q ⊢
                exact RcAt.load q q0.2 _ rfl
            have HK2 : Hid (∀ W, Upd [] [] w7 W → Upd [] [] w (W.setRow gp N) ∧ (W.setRow gp N).heap[gp]? = some (.cells N 31 (0, 0)) ∧ RcsIn (W.setRow gp N) (some ⟨g, o, none⟩) m.rs) := by
              intro W u
              have q := row_updH GP7.out u
              exact ⟨(HU7.out.trans u).setRowNew HGW.out N, setRow_heap _ _ _ _ _ _ q, rcsIn_offH (HRI7.out.upd u) (by rw [← HPB2.out]; exact q) N⟩
            refine @_root_.id ((∀ (W : World), (Upd [] [] w W ∧ W.heap[gp]? = some (.cells N 31 (0, 0)) ∧ RcsIn W (some ⟨g, o, none⟩) m.rs) → (?pj1 : World → Prop) W) → _) (fun hJ => ?mj1) ?jj1
            case mj1 =>
              refine wp_region_noPanic ?_
              refine wp_region_held_drew (S := fun wp => wp.cell? ⟨gr, 3, none⟩ = some (.int .i64 s) ∧ (Instr.loadAt 37 (.pointer (some ⟨gr, 0, none⟩))).run Tryz.prog wp = .ok (.agg R) wp) (by kernel_rfl) ?_ (fun hHeld => ?_)
              · exact ⟨(HS.out _ (HQ8.out.trans ud0)).1.2.2, (HS.out _ (HQ8.out.trans ud0)).2.1⟩
              refine tkL 0 hHeld R (fun w hSw => hSw.2) ?_
              refine tkY 2 hHeld ?_
              refine tkY 3 hHeld ?_
              refine wpAnyH_ready (rs := [1]) (by kernel_rfl) (by simp) ?_
              refine AllReadyH.cons (by simp only [List.getElem?_toArray, List.getElem?_cons_succ, List.getElem?_cons_zero] <;> rfl) (fun K hK => ?_) ?_
              · go_simp; refine (HH.out _ (HQ8.out.trans ud0)).mono ?_; rintro e w9 ⟨rfl, hq⟩; have ud9 := ud0.trans hq; clear hq; go_wp2_with fail
                refine hK.out _ _ ?_ (fun hHeld => ?_)
                · exact ⟨(HS.out _ (HQ8.out.trans ud9)).1.2.2, (HS.out _ (HQ8.out.trans ud9)).2.1⟩
                clear hK K
                try simp only [Act.put, List.setIfInBounds_toArray, List.set_cons_zero, List.set_cons_succ]
                refine wpAnyH_ready (rs := [4]) (by kernel_rfl) (by simp) ?_
                refine AllReadyH.cons (by simp only [List.getElem?_toArray, List.getElem?_cons_succ, List.getElem?_cons_zero] <;> rfl) (fun K hK => ?_) ?_
                · rw [if_pos (by rfl)]; refine wp_store_row 31 _ _ rfl gp N rfl rfl _ _ (row_updH GP8.out ud9) NI.out NZ.out NO.out ?_
                  refine hK.out _ _ ?_ (fun hHeld => ?_)
                  · exact HS2.out _ (HQ8.out.trans ud9)
                  clear hK K
                  try simp only [Act.put]
                  refine tkY 5 hHeld ?_
                  refine wpAnyH_done (by kernel_rfl) ?_ _
                  refine NoPanic.normal ?_
                  exact hJ _ (HK2.out _ (HQ8.out.trans ud9))
                exact AllReadyH.nil
              exact AllReadyH.nil
            intro w11 k11
            have K11 := Lib.hid k11
            clear k11 HK2 HS2
            have HN2 : Hid (ChJ w w11 gp (some ⟨g, o, none⟩) m (j + 1) s) := HNX.out w11 K11.out.1 K11.out.2.1 K11.out.2.2
            clear HNX K11
            go_wp2_with fail
            exact ⟨⟨j + 1, s, rfl, by go_num, by omega, HN2⟩, by simp [intOf]; omega⟩
          · obtain rfl : j = L := by omega
            have HUP := Lib.hid HJ.out.up
            clear HJ hjl
            go_wp2_with fail
            go_ret
            exact ⟨rfl, HUP.out⟩
    · obtain rfl : k = l.length := by omega
      clear hlt
      obtain ⟨m, kb2, ckb, hmo, hmi, hml, hch, hBa⟩ := HI.out.last
      have HM := Lib.hid (And.intro hmo (And.intro hmi hch))
      have HBa := Lib.hid hBa
      have HUP := Lib.hid HI.out.up
      obtain ⟨L, hL⟩ : ∃ L, L = m.rs.length := ⟨_, rfl⟩
      have hL26 : L ≤ 26 := by omega
      have HL := Lib.hid hL
      have hfld : ∀ (i : Int) (a : Option Addr) (n c : Nat) (W : World), (Instr.field 50 (.agg #[.int .i64 i, .slice a n c]) 1).run Tryz.prog W = .ok (.slice a n c) W := field_bat
      clear HI hmo hmi hml hch hBa hL hk hkl
      go_upto_region 11 with (fail)
      go_wp2_with fail
      refine HBa.out.mono ?_
      rintro e w5 ⟨ab, cb, HRS, hcb, rfl, hq5⟩
      rw [← HL.out] at hcb ⊢
      obtain ⟨gp, hgp⟩ : ∃ g, g = w5.heap.size := ⟨_, rfl⟩
      obtain ⟨w6, hw6⟩ : ∃ w6, w5.alloc (.cells (#[.int .u8 0, .int .u8 0, .int .u8 0, .int .u8 0, .int .u8 0, .int .u8 0, .int .u8 0, .int .u8 0, .int .u8 0, .int .u8 0, .int .u8 0, .int .u8 0, .int .u8 0, .int .u8 0, .int .u8 0, .int .u8 0, .int .u8 0, .int .u8 0, .int .u8 0, .int .u8 0, .int .u8 0, .int .u8 0, .int .u8 0, .int .u8 0, .int .u8 0, .int .u8 0, .int .u8 0, .int .u8 0, .int .u8 0, .int .u8 0, .int .u8 0, .int .u8 0] : Array Value) 31) = w6 := ⟨_, rfl⟩
      have I6 : Hid (ChJ w w6 gp ab m 0 0) := by
        have u : Upd [] [] w5 w6 := by rw [← hw6]; exact (Upd.refl _ _).alloc _
        refine ⟨(HUP.out.trans hq5).trans u, ?_, by rw [hgp]; have := HUP.out.size; have := hq5.size; omega, HRS.out.upd u, fun x hx => (HM.out.2.2.each 0 x hx).2.2.2.1⟩
        rw [← hw6, hgp]
        exact heap_alloc_new _ _
      have HW6 := Lib.hid hw6
      have HGP := Lib.hid hgp
      clear HBa HRS hq5 hw6 hgp ckb HUP
      go_upto_region 13 with (fail)
      rw [HW6.out, ← HGP.out]
      clear HW6 HGP hfld
      go_wp2_with fail
      go_loopw [14, 15] (fun z i wr => ∃ (j : Nat) (zz : Int), z = .int .i64 zz ∧ i = .int .i64 (j : Int) ∧ j ≤ L ∧ Hid (ChJ w wr gp ab m j zz)) (fun _ i _ => L - (intOf i).toNat)
      case atStart => exact ⟨0, 0, rfl, rfl, Nat.zero_le _, I6⟩
      case round =>
        clear I6
        obtain ⟨j, zz, rfl, rfl, hj, HJ⟩ := hrel
        by_cases hjl : j < L
        · obtain ⟨x, hx⟩ : ∃ x, m.rs[j]? = some x := ⟨_, List.getElem?_eq_getElem (by rw [← HL.out]; exact hjl)⟩
          obtain ⟨hxo, hxd, g, o, hab, _⟩ := HJ.out.r j x hx
          have hser := HM.out.1.serial j x hx
          obtain ⟨hxk, hxp, hxv, hxs0, hxs1⟩ := HM.out.2.2.each j x hx
          obtain ⟨R, hR⟩ : ∃ R, R = (rcV x).toArray := ⟨_, rfl⟩
          obtain ⟨RI, RO, RZ⟩ := rcLet hxo R hR
          have HLR : Hid ((Instr.loadAt 37 (.pointer (some ⟨g, o + j * 102, none⟩))).run Tryz.prog wr = .ok (.agg R) wr) := by
            have := HJ.out.r
            rw [hab] at this
            exact rcs_load this hx R hR
          subst hab
          obtain ⟨w7, Z7, W7, R7, hq7⟩ := blk_new wr 37 Tryz.zeroCells37 R
          obtain ⟨gr, hgr⟩ : ∃ g, g = wr.heap.size := ⟨_, rfl⟩
          have HGR := Lib.hid hgr
          rw [← hgr] at R7
          have hup7 : Upd [] [] w w7 := HJ.out.up.trans hq7
          obtain ⟨P, hP⟩ : ∃ P, P = (byteVals x.prev).toArray := ⟨_, rfl⟩
          have hgP : w7.heap[gp]? = some (.cells P 31 (0, 0)) := by rw [hP, hxp]; exact row_updH HJ.out.row hq7
          have HV : Hid (Calls Tryz.prog 25 #[.int .i64 (pb : Int), .agg R] w7 (fun e w' => e = .returned (.bool true) ∧ Upd [] [] w7 w')) := by
            have q := verify22_is (pb : Int) x true (by have := HSB.out.2; unfold i64in; omega) hxo (by omega) (by rw [HPB.out]; exact hxv) w7 (htab.upd hup7)
            rw [← hR] at q
            exact q
          obtain ⟨N, hN⟩ : ∃ N, N = (byteVals (sha (textL x))).toArray := ⟨_, rfl⟩
          have HH : Hid (∀ W, Upd [] [] w7 W → Calls Tryz.prog 26 #[.agg R] W (Mk (.agg N) W)) := by
            intro W u
            rw [hR, hN]
            exact hash22_any x hxo (by omega) W (htab.upd (hup7.trans u))
          have NI : Hid ((Tryz.prog.info? 31).map (·.size) = some N.size) := by show _ = _; rw [hN]; exact hashInfo (sha_len _)
          have NO : Hid (N.all (·.oneCell') = true) := by show _ = _; rw [hN]; exact hashOne _
          have NZ : Hid (P.size = N.size) := by show _ = _; rw [hN, hP, hashSz (sha_len _), hashSz hxo.2.2.2.2.2.1]
          have hqp : ∀ W : World, (Op.equalIn 10000 31 (.agg P) (.agg P)).run Tryz.prog W = .ok true W := by
            intro W
            rw [hP, show (10000 : Nat) = 9998 + 2 from rfl, eqHash_run 9998 _ _ W hxo.2.2.2.2.2.1 hxo.2.2.2.2.2.1, decide_eq_true rfl]
          have HS : Hid (∀ W, Upd [] [] w7 W → (W.cell? ⟨gr, 0, none⟩ = some (.int .i64 9) ∧ W.cell? ⟨gr, 1, none⟩ = some (.int .i64 ((j : Int) + 1)) ∧ W.cell? ⟨gr, 3, none⟩ = some (.int .i64 x.seen)) ∧ (Instr.loadAt 37 (.pointer (some ⟨gr, 0, none⟩))).run Tryz.prog W = .ok (.agg R) W ∧ (Instr.loadAt 31 (.pointer (some ⟨gr, 68, none⟩))).run Tryz.prog W = .ok (.agg P) W ∧ (Instr.loadAt 31 (.pointer (some ⟨gp, 0, none⟩))).run Tryz.prog W = .ok (.agg P) W) := by
            intro W u
            have q := row_updH R7.out u
            have q1 := q
            rw [hR] at q1
            have parts := (rc_parts hxo).2.2.2
            refine ⟨⟨?_, ?_, ?_⟩, RcAt.load q1 hxo R hR, prev_load hxo P hP q1, hash_load hxo.2.2.2.2.2.1 P hP (row_updH hgP u)⟩
            · rw [cell_of_row _ _ _ _ _ _ q1, List.getElem?_toArray]; show some (Value.int .i64 x.kiosk) = _; rw [hxk]
            · rw [cell_of_row _ _ _ _ _ _ q1, List.getElem?_toArray]; show some (Value.int .i64 x.serial) = _; rw [hser]; rfl
            · rw [cell_of_row _ _ _ _ _ _ q1, List.getElem?_toArray]; rfl
          have GP7 := Lib.hid hgP
          obtain ⟨s, hs⟩ : ∃ s, s = x.seen := ⟨_, rfl⟩
          have hzz : ¬ s < zz := by have := HJ.out.z x hx; omega
          have HNX : Hid (∀ W : World, Upd [] [] w W → W.heap[gp]? = some (.cells N 31 (0, 0)) → RcsIn W (some ⟨g, o, none⟩) m.rs → ChJ w W gp (some ⟨g, o, none⟩) m (j + 1) s) := by
            intro W u h1 h2
            refine ⟨u, by rw [prevK_next hx, ← hN]; exact h1, HJ.out.gw, h2, fun y hy => ?_⟩
            rw [hs]
            exact HM.out.2.2.mono j x y hx hy
          have HRI7 := Lib.hid (HJ.out.r.upd hq7)
          have HRX : Hid (R = (rcV x).toArray ∧ x.ok) := ⟨hR, hxo⟩
          have HU7 := Lib.hid hup7
          have HPB2 : Hid (P = (byteVals x.prev).toArray) := hP
          have HGW : Hid (w.heap.size ≤ gp) := HJ.out.gw
          rw [← hs] at HS
          have jw : IntKind.i64.wrap ((j : Int) + 1) = (j : Int) + 1 := wrap_in (by omega) (by omega)
          have j0 : (0 : Int) ≤ (j : Int) := by omega
          have j1 : (j : Int) < (L : Int) := by omega
          have j2 : (j : Int) < 26 := by omega
          have HL7 := Lib.hid (HS.out w7 (Upd.refl _ _)).2.1
          clear hx hxo hxd hser hxk hxp hxv hxs0 hxs1 hR hq7 hgr hup7 hP hgP hN hs HJ hjl
          go_upto_region 18 with (first | (refine wpList_load_atW (by rfl) 37 _ rfl g (o + j * 102) rfl R HLR.out ?_) | (refine wpList_store_rowAs rfl 37 _ _ rfl wr.heap.size R rfl rfl _ _ Z7.out RI.out RZ.out RO.out w7 W7.out ?_))
          rw [← HGR.out]
          clear Z7 W7 HGR HLR
          go_wp2_with (first | (refine wpList_load_atW (by rfl) 37 _ rfl gr 0 rfl R HL7.out ?_))
          refine HV.out.mono ?_
          rintro e w8 ⟨rfl, hq8⟩
          obtain ⟨⟨c0, c1, c3⟩, _, hl2, hl3⟩ := HS.out w8 hq8
          have HQ8 := Lib.hid hq8
          have HL2 := Lib.hid hl2
          have HL3 := Lib.hid hl3
          have GP8 := Lib.hid (row_updH GP7.out hq8)
          have ud0 : Upd [] [] w8 w8.drew := (Upd.refl _ _).drew
          clear hl2 hl3 hq8 HV HL7
          go_upto_region 20 with (first | (refine wpList_load_atW (by rfl) 31 _ rfl gr 68 rfl P HL2.out ?_) | (refine wpList_load_atW (by rfl) 31 _ rfl gp 0 rfl P HL3.out ?_))
          clear c0 c1 c3 HL2 HL3
          have HGG : Hid (gr ≠ gp) := fun e => by
            have h1 := R7.out
            rw [e, GP7.out] at h1
            cases h1
          have HS2 : Hid (∀ W, Upd [] [] w7 W → (W.setRow gp N).cell? ⟨gr, 3, none⟩ = some (.int .i64 s) ∧ (Instr.loadAt 37 (.pointer (some ⟨gr, 0, none⟩))).run Tryz.prog (W.setRow gp N) = .ok (.agg R) (W.setRow gp N)) := by
            intro W u
            have q : (W.setRow gp N).heap[gr]? = some (.cells R 37 (0, 0)) := row_setRowO (row_updH R7.out u) HGG.out N
            have q0 := HRX.out
            refine ⟨?_, ?_⟩
            · rw [cell_of_row _ _ _ _ _ _ q, ← cell_of_row _ _ 3 _ _ _ R7.out]
              exact (HS.out w7 (Upd.refl _ _)).1.2.2
            · rw [q0.1] at q ⊢
              exact RcAt.load q q0.2 _ rfl
          have HK2 : Hid (∀ W, Upd [] [] w7 W → Upd [] [] w (W.setRow gp N) ∧ (W.setRow gp N).heap[gp]? = some (.cells N 31 (0, 0)) ∧ RcsIn (W.setRow gp N) (some ⟨g, o, none⟩) m.rs) := by
            intro W u
            have q := row_updH GP7.out u
            exact ⟨(HU7.out.trans u).setRowNew HGW.out N, setRow_heap _ _ _ _ _ _ q, rcsIn_offH (HRI7.out.upd u) (by rw [← HPB2.out]; exact q) N⟩
          refine @_root_.id ((∀ (W : World), (Upd [] [] w W ∧ W.heap[gp]? = some (.cells N 31 (0, 0)) ∧ RcsIn W (some ⟨g, o, none⟩) m.rs) → (?pj5 : World → Prop) W) → _) (fun hJ => ?mj5) ?jj5
          case mj5 =>
            refine wp_region_noPanic ?_
            refine wp_region_held_drew (S := fun wp => wp.cell? ⟨gr, 3, none⟩ = some (.int .i64 s) ∧ (Instr.loadAt 37 (.pointer (some ⟨gr, 0, none⟩))).run Tryz.prog wp = .ok (.agg R) wp) (by kernel_rfl) ?_ (fun hHeld => ?_)
            · exact ⟨(HS.out _ (HQ8.out.trans ud0)).1.2.2, (HS.out _ (HQ8.out.trans ud0)).2.1⟩
            refine tkL 0 hHeld R (fun w hSw => hSw.2) ?_
            refine tkY 2 hHeld ?_
            refine tkY 3 hHeld ?_
            refine wpAnyH_ready (rs := [1]) (by kernel_rfl) (by simp) ?_
            refine AllReadyH.cons (by simp only [List.getElem?_toArray, List.getElem?_cons_succ, List.getElem?_cons_zero] <;> rfl) (fun K hK => ?_) ?_
            · go_simp; refine (HH.out _ (HQ8.out.trans ud0)).mono ?_; rintro e w9 ⟨rfl, hq⟩; have ud9 := ud0.trans hq; clear hq; go_wp2_with fail
              refine hK.out _ _ ?_ (fun hHeld => ?_)
              · exact ⟨(HS.out _ (HQ8.out.trans ud9)).1.2.2, (HS.out _ (HQ8.out.trans ud9)).2.1⟩
              clear hK K
              try simp only [Act.put, List.setIfInBounds_toArray, List.set_cons_zero, List.set_cons_succ]
              refine wpAnyH_ready (rs := [4]) (by kernel_rfl) (by simp) ?_
              refine AllReadyH.cons (by simp only [List.getElem?_toArray, List.getElem?_cons_succ, List.getElem?_cons_zero] <;> rfl) (fun K hK => ?_) ?_
              · rw [if_pos (by rfl)]; refine wp_store_row 31 _ _ rfl gp N rfl rfl _ _ (row_updH GP8.out ud9) NI.out NZ.out NO.out ?_
                refine hK.out _ _ ?_ (fun hHeld => ?_)
                · exact HS2.out _ (HQ8.out.trans ud9)
                clear hK K
                try simp only [Act.put]
                refine tkY 5 hHeld ?_
                refine wpAnyH_done (by kernel_rfl) ?_ _
                refine NoPanic.normal ?_
                exact hJ _ (HK2.out _ (HQ8.out.trans ud9))
              exact AllReadyH.nil
            exact AllReadyH.nil
          intro w11 k11
          have K11 := Lib.hid k11
          clear k11 HK2 HS2
          have HN2 : Hid (ChJ w w11 gp (some ⟨g, o, none⟩) m (j + 1) s) := HNX.out w11 K11.out.1 K11.out.2.1 K11.out.2.2
          clear HNX K11
          go_wp2_with fail
          exact ⟨⟨j + 1, s, rfl, by go_num, by omega, HN2⟩, by simp [intOf]; omega⟩
        · obtain rfl : j = L := by omega
          have HUP := Lib.hid HJ.out.up
          clear HJ hjl
          go_wp2_with fail
          go_ret
          exact ⟨rfl, HUP.out⟩
end Go.Proofs.YtabnlklkfgojgaaGreatDoor
