/- The walk of KioskLearns. -/
import Derived.Test.YtabnlklkfgojgaaGreatDoorGM
namespace Go.Proofs.YtabnlklkfgojgaaGreatDoor
open Go.RowKit
set_option maxRecDepth 100000

/-- The kiosk in KioskLearns' rounds, with the law's own output in a block. -/
structure LrnI (w0 : World) (kb b go : Nat) (m : KM) (n : Nat) (K : List Nat) (O : Array Value) (c : Nat) (wr : World) : Prop where
  k : KIn w0 kb b m n K wr
  o : Blk wr K go (.cells O 31 (0, 0))
  hg : w0.heap.size ≤ go
  eo : O = (byteVals m.out).toArray
  n : n ≤ 2 * c
  pb : 100 ≤ m.paper + c
  sb : m.rs.length ≤ c
set_option maxHeartbeats 4000000 in
theorem kioskLearns_walk (l : List (Int × Int)) (ao : Option Addr) (cap : Nat) (w : World) (hp : PrsIn .i64 (-9223372036854775808) 9223372036854775807 w ao l) (_hlc : l.length ≤ cap) (_hcm : cap ≤ 9223372036854775807) (htab : Tabs w) :
    Calls Tryz.prog 3 #[.slice ao l.length cap] w (TrueMk w) := by
  obtain ⟨H0, hH0⟩ : ∃ H, H = (byteVals zero32).toArray := ⟨_, rfl⟩
  have HB0 : Hid (Tryz.prog.built 31 [] = some H0) := by show _ = _; rw [hH0]; exact hash0_built
  have HH0 := Lib.hid hH0
  have HP := Lib.hid hp
  clear hp hH0
  go_enter Tryz.func3, Tryz.ntmps3
  go_wp2_with fail
  refine (sanity27_any _ htab).mono ?_
  rintro e w1 ⟨rfl, hu1⟩
  have HU1 := Lib.hid hu1
  clear hu1
  go_wp2_with fail
  refine (New_to w1).mono ?_
  rintro e w2 ⟨b, S2, rfl, hd2, hu2⟩
  have HD2 := Lib.hid hd2
  have HU2 := Lib.hid hu2
  clear hd2 hu2
  go_wp2_with fail
  refine (Open_in 3 4 100 (by unfold i64in; omega) (by unfold i64in; omega) (by decide) HU1.out HD2.out HU2.out htab).mono ?_
  rintro e w3 ⟨kb, K3, rfl, hk3, hu3⟩
  have K3I := Lib.hid hk3
  clear hk3 hu3 HD2 HU2
  go_wp2_with fail
  rw [show (#[.int .u8 0, .int .u8 0, .int .u8 0, .int .u8 0, .int .u8 0, .int .u8 0, .int .u8 0, .int .u8 0, .int .u8 0, .int .u8 0, .int .u8 0, .int .u8 0, .int .u8 0, .int .u8 0, .int .u8 0, .int .u8 0, .int .u8 0, .int .u8 0, .int .u8 0, .int .u8 0, .int .u8 0, .int .u8 0, .int .u8 0, .int .u8 0, .int .u8 0, .int .u8 0, .int .u8 0, .int .u8 0, .int .u8 0, .int .u8 0, .int .u8 0, .int .u8 0] : Array Value) = (byteVals zero32).toArray from rfl]
  obtain ⟨go, w4, hg, hw4, FO, hq⟩ := alloc_let w3 (.cells (byteVals zero32).toArray 31)
  rw [← hw4, ← hg]
  have I4 : Hid (LrnI w kb b go (KM.new 3 4 100) 0 K3 (byteVals zero32).toArray 0 w4) := ⟨K3I.out.quiet hq, ⟨FO.out, by rw [hg]; exact K3I.out.fresh (Nat.le_refl _)⟩, by rw [hg]; exact K3I.out.size, rfl, Nat.le_refl _, by decide, Nat.le_refl _⟩
  clear hg hw4 FO hq K3I
  go_loopw [6, 8] (fun r i wr => ∃ (k : Nat) (m : KM) (n : Nat) (K : List Nat) (O : Array Value), r = .int .i64 (m.round : Int) ∧ i = .int .i64 (k : Int) ∧ k ≤ 20 ∧ k ≤ l.length ∧ Hid (LrnI w kb b go m n K O k wr)) (fun _ i _ => 20 - (intOf i).toNat)
  case atStart => exact ⟨0, _, 0, K3, _, rfl, rfl, by omega, by omega, I4⟩
  case round =>
    clear I4
    obtain ⟨k, m, n, K, O, rfl, rfl, hk, hkl, HI⟩ := hrel
    by_cases hlt : k < l.length
    · by_cases h20 : k < 20
      · obtain ⟨q, hq⟩ : ∃ q, l[k]? = some q := ⟨_, List.getElem?_eq_getElem hlt⟩
        obtain ⟨q1, q2, g, o, hao, hg, _, _⟩ := HP.out k q hq
        have HPQ : Hid (∀ W, Upd [] [] w W → W.cell? ⟨g, o + k * 2, none⟩ = some (.int .i64 q.1) ∧ W.cell? ⟨g, o + k * 2 + 1, none⟩ = some (.int .i64 q.2)) := by
          intro W u
          obtain ⟨_, _, g', o', hao', _, c1, c2⟩ := (HP.out.upd u) k q hq
          rw [hao] at hao'
          cases hao'
          exact ⟨c1, c2⟩
        subst hao
        obtain ⟨a, b'⟩ := q
        simp only at q1 q2 HPQ
        have c1 := (HPQ.out wr HI.out.k.up).1
        have c2 := (HPQ.out wr HI.out.k.up).2
        have i0 : (0 : Int) ≤ (k : Int) := by omega
        have i1 : (k : Int) < (l.length : Int) := by omega
        have i2 : (k : Int) < 20 := by omega
        obtain ⟨d, hd⟩ := byte_of (b' % 4) (by omega) (by omega)
        have ha7 : bits .and .i64 a 7 = a % 8 := and7 a
        have hb3 : bits .and .i64 b' 3 = (d.toNat : Int) := (and3 b').trans hd.symm
        obtain ⟨nn, hnn⟩ : ∃ nn : Int, nn = if 0 < k % 3 then 1 + a % 8 else a := ⟨_, rfl⟩
        have HNN := Lib.hid hnn
        clear hq hnn hd
        go_upto_if 44 with (fail)
        go_cut [9] (fun v wx => v = .int .i64 nn ∧ wx = wr)
        case first =>
          clear HI c1 c2 ha7 hb3
          have ha7 : bits .and .i64 a 7 = a % 8 := and7 a
          by_cases h3 : 0 < k % 3
          · have e : (0 : Int) < (k : Int) % 3 := by omega
            have e2 : IntKind.i64.wrap (1 + a % 8) = nn := by rw [HNN.out, if_pos h3]; exact wrap_in (by omega) (by omega)
            go_wp2_with fail
            go_meet
            exact ⟨rfl, rfl⟩
          · have e : ¬ (0 : Int) < (k : Int) % 3 := by omega
            have e2 : a = nn := by rw [HNN.out, if_neg h3]
            go_wp2_with fail
            go_meet
            exact ⟨rfl, rfl⟩
        case rest =>
          obtain ⟨rfl, rfl⟩ := hcut
          have hni : i64in nn := by
            rw [HNN.out]
            unfold i64in
            split <;> omega
          have HNI := Lib.hid hni
          obtain ⟨hs, hhs⟩ : ∃ h, h = hashB [d] := ⟨_, rfl⟩
          have hsl : hs.length = 32 := by rw [hhs]; rfl
          obtain ⟨H, hH⟩ : ∃ H, H = (byteVals hs).toArray := ⟨_, rfl⟩
          have HB : Hid (Tryz.prog.built 31 [(0, .int .u8 (d.toNat : Int))] = some H) := by show _ = _; rw [hH, hhs]; exact hashI_built d
          obtain ⟨HI1, HO1, HZ1⟩ := hash_let hsl H hH
          have HSL := Lib.hid hsl
          have HH := Lib.hid hH
          have hd8 : IntKind.u8.wrap (d.toNat : Int) = (d.toNat : Int) := IntWalk.u8_in _ (by have := UInt8.toNat_lt d; omega)
          obtain ⟨w5, Z5, W5, R5, hq5⟩ := blk_new wc 31 (byteVals zero32).toArray H
          have K5 := Lib.hid (HI.out.k.quiet hq5)
          have O5 := Lib.hid (HI.out.o.quiet hq5)
          have G5 : Hid (Blk w5 K wc.heap.size (.cells H 31 (0, 0))) := ⟨R5.out, HI.out.k.fresh (Nat.le_refl _)⟩
          obtain ⟨gh, hgh⟩ : ∃ gh, gh = wc.heap.size := ⟨_, rfl⟩
          have hgo : go ≠ gh := by rw [hgh]; have := blk_lt HI.out.o.at_; omega
          have GNE := Lib.hid hgo
          have HGH := Lib.hid hgh
          clear hni hhs hsl hH hq5 R5 hgh hgo
          go_upto_region 13 with (fail)
          go_upto_region 14 with (first | (refine wpList_build_want (by rfl) 31 _ rfl H (Eq.trans (congrArg (fun z => Tryz.prog.built 31 z) (by kernel_rfl)) HB.out) ?_) | (refine wpList_store_rowAs rfl 31 _ _ rfl wc.heap.size H rfl rfl _ _ Z5.out HI1.out HZ1.out HO1.out w5 W5.out ?_))
          rw [← HGH.out] at G5 ⊢
          obtain ⟨mr, hmr⟩ : ∃ mr : Int, mr = ((lrnM m nn hs).round : Int) := ⟨_, rfl⟩
          obtain ⟨x, hx⟩ : ∃ x : Int, x = lrnR m nn hs := ⟨_, rfl⟩
          obtain ⟨O', hO'⟩ : ∃ O', O' = (byteVals (lrnM m nn hs).out).toArray := ⟨_, rfl⟩
          have HMR := Lib.hid hmr
          have HX := Lib.hid hx
          have HO' := Lib.hid hO'
          have hm0 : (m.round : Int) ≤ 1000000000 := by have := HI.out.k.ok.round; omega
          clear hmr hx hO' Z5 W5 c1 c2 hb3 ha7
          go_upto_block 2 with (fail)
          go_cut [6, 11] (fun r v wx => r = .int .i64 mr ∧ v = .int .i64 x ∧ Hid (KIn w kb b m n K wx ∧ Blk wx K go (.cells O' 31 (0, 0)) ∧ Blk wx K gh (.cells H 31 (0, 0))))
          case first =>
            have HLH : Hid ((Instr.loadAt 31 (.pointer (some ⟨gh, 0, none⟩))).run Tryz.prog w5 = .ok (.agg H) w5) := hash_load HSL.out H HH.out G5.out.at_
            have HLO : Hid ((Instr.loadAt 31 (.pointer (some ⟨go, 0, none⟩))).run Tryz.prog w5 = .ok (.agg O) w5) := hash_load HI.out.k.ok.out O HI.out.eo O5.out.at_
            have HEQ : Hid (∀ W : World, (Op.equalIn 10000 31 (.agg H) (.agg O)).run Tryz.prog W = .ok (decide (hs = m.out)) W) := by
              intro W
              rw [HH.out, HI.out.eo, show (10000 : Nat) = 9998 + 2 from rfl, eqHash_run 9998 _ _ W HSL.out HI.out.k.ok.out]
            have SAMEK : ∀ q : Int, lrnM m nn hs = m → lrnR m nn hs = q → mr = (m.round : Int) ∧ x = q ∧ O' = O := by
              intro q e1 e2
              exact ⟨by rw [HMR.out, e1], by rw [HX.out, e2], by rw [HO'.out, e1, HI.out.eo]⟩
            by_cases c1 : nn < 1
            · obtain ⟨e1, e2⟩ := lrn_bad (m := m) (hs := hs) (.inl c1)
              obtain ⟨rfl, rfl, rfl⟩ := SAMEK 15 e2 e1
              clear SAMEK HLH HLO HEQ
              go_wp2_with fail
              go_meet
              exact ⟨rfl, rfl, K5.out, O5.out, G5.out⟩
            by_cases c2 : 1000000000 < nn
            · obtain ⟨e1, e2⟩ := lrn_bad (m := m) (hs := hs) (.inr c2)
              obtain ⟨rfl, rfl, rfl⟩ := SAMEK 15 e2 e1
              clear SAMEK HLH HLO HEQ
              go_wp2_with fail
              go_meet
              exact ⟨rfl, rfl, K5.out, O5.out, G5.out⟩
            by_cases c3 : nn < (m.round : Int)
            · obtain ⟨e1, e2⟩ := lrn_old (m := m) (hs := hs) (by omega) (by omega) c3
              obtain ⟨rfl, rfl, rfl⟩ := SAMEK 32 e2 e1
              clear SAMEK HLH HLO HEQ
              go_wp2_with fail
              go_meet
              exact ⟨rfl, rfl, K5.out, O5.out, G5.out⟩
            by_cases c4 : nn = (m.round : Int)
            · by_cases ch : hs = m.out
              · obtain ⟨e1, e2⟩ := lrn_same (m := m) (hs := hs) (by omega) (by omega) c4 ch
                obtain ⟨rfl, rfl, rfl⟩ := SAMEK 0 e2 e1
                obtain rfl : H = O' := by rw [HI.out.eo, HH.out, ch]
                have heq : ∀ W : World, (Op.equalIn 10000 31 (.agg H) (.agg H)).run Tryz.prog W = .ok true W := fun W => eqH_self HH.out HSL.out W
                clear SAMEK ch e1 e2
                subst c4
                go_upto_region 15 with (first | (refine wpList_load_want (by rfl) 31 _ rfl gh rfl H HLH.out ?_) | (refine wpList_load_want (by rfl) 31 _ rfl go rfl H HLO.out ?_))
                have G5d : Hid (w5.drew.heap[gh]? = some (.cells H 31 (0, 0))) := row_updH G5.out.at_ ((Upd.refl _ _).drew)
                have O5d : Hid (w5.drew.heap[go]? = some (.cells H 31 (0, 0))) := row_updH O5.out.at_ ((Upd.refl _ _).drew)
                have HSZ : Hid (H.size = H.size) := by first | rfl | (show _ = _; rw [HI.out.eo, HH.out, hashSz HI.out.k.ok.out, hashSz HSL.out])
                have HLD : Hid (∀ W : World, W.heap[gh]? = some (.cells H 31 (0, 0)) → (Instr.loadAt 31 (.pointer (some ⟨gh, 0, none⟩))).run Tryz.prog W = .ok (.agg H) W) := fun W h => hash_load HSL.out H HH.out h
                have HREL : Hid (KIn w kb b m n K (w5.drew.setRow go H) ∧ Blk (w5.drew.setRow go H) K go (.cells H 31 (0, 0)) ∧ Blk (w5.drew.setRow go H) K gh (.cells H 31 (0, 0))) := by
                  have u : Upd [go] [go] w5 (w5.drew.setRow go H) := Upd.setRowIn ((Upd.refl [go] _).drew) (by simp) H
                  refine ⟨K5.out.other u (by intro q hq; simp at hq; rw [hq]; exact HI.out.hg) (fun q hq hm => ?_), ⟨setRow_heap _ _ _ _ _ _ O5d.out, O5.out.off⟩, ⟨row_setRowO G5d.out GNE.out.symm H, G5.out.off⟩⟩
                  simp at hm
                  exact O5.out.off (hm ▸ hq)
                clear HI HEQ HLH HLO K5 O5 G5
                refine wp_region_noPanic ?_
                refine wp_region_held_drew (S := fun wp => (Instr.loadAt 31 (.pointer (some ⟨gh, 0, none⟩))).run Tryz.prog wp = .ok (.agg H) wp) (by kernel_rfl) ?_ (fun hHeld => ?_)
                · exact HLD.out _ G5d.out
                refine wpAnyH_take (i := 0) (v := ?v1) (by simp only [List.getElem?_toArray, List.getElem?_cons_zero] <;> rfl) (by kernel_rfl) (by kernel_rfl) (by kernel_rfl) (fun _ _ _ h => h) (Or.inl ⟨by rfl, ?y1⟩) hHeld ?r1
                case y1 => (intro w hSw; (try dsimp only at hSw); go_simp; first | done | with_reducible rfl | rfl)
                try simp only [Act.put, List.setIfInBounds_toArray, List.set_cons_zero, List.set_cons_succ]
                refine wpAnyH_take (i := 1) (v := .agg H) (by simp only [List.getElem?_toArray, List.getElem?_cons_succ, List.getElem?_cons_zero] <;> rfl) (by kernel_rfl) (by kernel_rfl) (by kernel_rfl) (fun _ _ _ h => h) (yieldsIf_loadW (by rfl) _ _ rfl _ rfl H (fun w hSw => hSw)) hHeld ?_
                try simp only [Act.put, List.setIfInBounds_toArray, List.set_cons_zero, List.set_cons_succ]
                refine wpAnyH_take (i := 2) (v := ?v2) (by simp only [List.getElem?_toArray, List.getElem?_cons_succ, List.getElem?_cons_zero] <;> rfl) (by kernel_rfl) (by kernel_rfl) (by kernel_rfl) (fun _ _ _ h => h) (Or.inl ⟨by rfl, ?y2⟩) hHeld ?r2
                case y2 => (intro w hSw; (try dsimp only at hSw); go_simp; first | done | with_reducible rfl | rfl)
                try simp only [Act.put, List.setIfInBounds_toArray, List.set_cons_zero, List.set_cons_succ]
                refine wpAnyH_ready (rs := [3]) (by kernel_rfl) (by simp) ?_
                refine AllReadyH.cons (by simp only [List.getElem?_toArray, List.getElem?_cons_succ, List.getElem?_cons_zero] <;> rfl) (fun K hK => ?_) ?_
                · rw [if_pos (by rfl)]; refine wp_store_row 31 _ _ rfl go H rfl rfl _ _ O5d.out HI1.out HSZ.out HO1.out ?_
                  refine hK.out _ _ ?_ (fun hHeld => ?_)
                  · exact HLD.out _ (row_setRowO G5d.out GNE.out.symm H)
                  clear hK K
                  try simp only [Act.put]
                  refine wpAnyH_done (by kernel_rfl) ?_ _
                  refine NoPanic.normal ?_
                  go_wp2_with fail
                  go_meet
                  exact ⟨rfl, rfl, HREL.out⟩
                exact AllReadyH.nil
              · obtain ⟨e1, e2⟩ := lrn_fork (m := m) (hs := hs) (by omega) (by omega) c4 ch
                obtain ⟨rfl, rfl, rfl⟩ := SAMEK 42 e2 e1
                have heq : ∀ W : World, (Op.equalIn 10000 31 (.agg H) (.agg O')).run Tryz.prog W = .ok false W := fun W => by rw [HEQ.out W, decide_eq_false ch]
                clear SAMEK ch e1 e2
                subst c4
                go_wp2_with (first | (refine wpList_load_want (by rfl) 31 _ rfl gh rfl H HLH.out ?_) | (refine wpList_load_want (by rfl) 31 _ rfl go rfl O' HLO.out ?_))
                go_meet
                exact ⟨rfl, rfl, K5.out, O5.out, G5.out⟩
            · obtain ⟨_, e1, e2⟩ := lrn_new (m := m) (hs := hs) (by omega) (by omega) (by omega : (m.round : Int) < nn)
              obtain rfl : nn = mr := by rw [HMR.out, e2]; show nn = ((nn.toNat : Nat) : Int); omega
              obtain rfl : x = 0 := by rw [HX.out, e1]
              obtain rfl : H = O' := by rw [HO'.out, e2, HH.out]; rfl
              clear SAMEK e1 e2
              go_upto_region 15 with (fail)
              have G5d : Hid (w5.drew.heap[gh]? = some (.cells H 31 (0, 0))) := row_updH G5.out.at_ ((Upd.refl _ _).drew)
              have O5d : Hid (w5.drew.heap[go]? = some (.cells O 31 (0, 0))) := row_updH O5.out.at_ ((Upd.refl _ _).drew)
              have HSZ : Hid (O.size = H.size) := by first | rfl | (show _ = _; rw [HI.out.eo, HH.out, hashSz HI.out.k.ok.out, hashSz HSL.out])
              have HLD : Hid (∀ W : World, W.heap[gh]? = some (.cells H 31 (0, 0)) → (Instr.loadAt 31 (.pointer (some ⟨gh, 0, none⟩))).run Tryz.prog W = .ok (.agg H) W) := fun W h => hash_load HSL.out H HH.out h
              have HREL : Hid (KIn w kb b m n K (w5.drew.setRow go H) ∧ Blk (w5.drew.setRow go H) K go (.cells H 31 (0, 0)) ∧ Blk (w5.drew.setRow go H) K gh (.cells H 31 (0, 0))) := by
                have u : Upd [go] [go] w5 (w5.drew.setRow go H) := Upd.setRowIn ((Upd.refl [go] _).drew) (by simp) H
                refine ⟨K5.out.other u (by intro q hq; simp at hq; rw [hq]; exact HI.out.hg) (fun q hq hm => ?_), ⟨setRow_heap _ _ _ _ _ _ O5d.out, O5.out.off⟩, ⟨row_setRowO G5d.out GNE.out.symm H, G5.out.off⟩⟩
                simp at hm
                exact O5.out.off (hm ▸ hq)
              clear HI HEQ HLH HLO K5 O5 G5
              refine wp_region_noPanic ?_
              refine wp_region_held_drew (S := fun wp => (Instr.loadAt 31 (.pointer (some ⟨gh, 0, none⟩))).run Tryz.prog wp = .ok (.agg H) wp) (by kernel_rfl) ?_ (fun hHeld => ?_)
              · exact HLD.out _ G5d.out
              refine wpAnyH_take (i := 0) (v := ?v3) (by simp only [List.getElem?_toArray, List.getElem?_cons_zero] <;> rfl) (by kernel_rfl) (by kernel_rfl) (by kernel_rfl) (fun _ _ _ h => h) (Or.inl ⟨by rfl, ?y3⟩) hHeld ?r3
              case y3 => (intro w hSw; (try dsimp only at hSw); go_simp; first | done | with_reducible rfl | rfl)
              try simp only [Act.put, List.setIfInBounds_toArray, List.set_cons_zero, List.set_cons_succ]
              refine wpAnyH_take (i := 1) (v := .agg H) (by simp only [List.getElem?_toArray, List.getElem?_cons_succ, List.getElem?_cons_zero] <;> rfl) (by kernel_rfl) (by kernel_rfl) (by kernel_rfl) (fun _ _ _ h => h) (yieldsIf_loadW (by rfl) _ _ rfl _ rfl H (fun w hSw => hSw)) hHeld ?_
              try simp only [Act.put, List.setIfInBounds_toArray, List.set_cons_zero, List.set_cons_succ]
              refine wpAnyH_take (i := 2) (v := ?v4) (by simp only [List.getElem?_toArray, List.getElem?_cons_succ, List.getElem?_cons_zero] <;> rfl) (by kernel_rfl) (by kernel_rfl) (by kernel_rfl) (fun _ _ _ h => h) (Or.inl ⟨by rfl, ?y4⟩) hHeld ?r4
              case y4 => (intro w hSw; (try dsimp only at hSw); go_simp; first | done | with_reducible rfl | rfl)
              try simp only [Act.put, List.setIfInBounds_toArray, List.set_cons_zero, List.set_cons_succ]
              refine wpAnyH_ready (rs := [3]) (by kernel_rfl) (by simp) ?_
              refine AllReadyH.cons (by simp only [List.getElem?_toArray, List.getElem?_cons_succ, List.getElem?_cons_zero] <;> rfl) (fun K hK => ?_) ?_
              · rw [if_pos (by rfl)]; refine wp_store_row 31 _ _ rfl go H rfl rfl _ _ O5d.out HI1.out HSZ.out HO1.out ?_
                refine hK.out _ _ ?_ (fun hHeld => ?_)
                · exact HLD.out _ (row_setRowO G5d.out GNE.out.symm H)
                clear hK K
                try simp only [Act.put]
                refine wpAnyH_done (by kernel_rfl) ?_ _
                refine NoPanic.normal ?_
                go_wp2_with fail
                go_meet
                exact ⟨rfl, rfl, HREL.out⟩
              exact AllReadyH.nil
          case rest =>
            obtain ⟨rfl, rfl, HR⟩ := hcut
            have hn2 : n ≤ 40 := by have := HI.out.n; omega
            have CL : Hid (∀ W, W = wc → Calls Tryz.prog 12 #[.pointer (some ⟨kb, 0, none⟩), .int .i64 nn, .agg H] W (fun e w' => ∃ K' n', e = .returned (.int .i64 x) ∧ n' ≤ n + 1 ∧ KIn w kb b (lrnM m nn hs) n' K' w' ∧ Upd K K' W w')) := by
              rintro W rfl
              show Calls _ _ _ _ _
              rw [HX.out, HH.out]
              exact Learn_all HR.out.1 nn hs HNI.out HSL.out (by omega) htab
            have HLH : Hid ((Instr.loadAt 31 (.pointer (some ⟨gh, 0, none⟩))).run Tryz.prog wc = .ok (.agg H) wc) := hash_load HSL.out H HH.out HR.out.2.2.at_
            obtain ⟨m1, hm1⟩ : ∃ m1, m1 = lrnM m nn hs := ⟨_, rfl⟩
            rw [← hm1] at CL HMR HO'
            obtain ⟨ers, epp, _⟩ := lrnM_rs m nn hs
            rw [← hm1] at ers epp
            have r0 : refE m1 (bs lot) = 0 := by unfold refE; rw [lot_ok, if_neg (by decide), if_neg (by have := HI.out.pb; omega), if_neg (by rw [ers]; have := HI.out.sb; omega)]
            have HR0 := Lib.hid r0
            have HM1 : Hid (100 ≤ (m1.paper - 1) + (k + 1) ∧ m1.rs.length + 1 ≤ k + 1) := by
              refine ⟨?_, ?_⟩
              · rw [epp]; have := HI.out.pb; omega
              · rw [ers]; have := HI.out.sb; omega
            have HGO := Lib.hid HI.out.hg
            have HN := Lib.hid HI.out.n
            clear hm1 ers epp r0 HI K5 O5 G5
            go_wp2_with (first | (refine wpList_load_want (by rfl) 31 _ rfl gh rfl H HLH.out ?_))
            refine (CL.out _ rfl).mono ?_
            rintro e w6 ⟨K6, n6, rfl, hn6, hk6, hu6⟩
            have O6 := HR.out.2.1.upd hu6
            have hxo : (nextK m1 lot zero32).ok := nextK_ok hk6.ok rfl
            have CS := Lib.hid (Sell_in hk6 lot zero32 rfl HR0.out (by omega) htab)
            have hse : (nextK m1 lot zero32).seen = mr := by rw [HMR.out]; rfl
            have hou : (nextK m1 lot zero32).out = m1.out := rfl
            obtain ⟨X, hX⟩ : ∃ X, X = nextK m1 lot zero32 := ⟨_, rfl⟩
            rw [← hX] at hxo CS hse hou
            obtain ⟨R, hRR⟩ : ∃ R, R = (rcV X).toArray := ⟨_, rfl⟩
            obtain ⟨RI, RO, RZ⟩ := rcLet hxo R hRR
            rw [← hRR, ← HH0.out] at CS
            have HRR := Lib.hid hRR
            have HXX := Lib.hid (And.intro hxo (And.intro hse hou))
            have O6H := Lib.hid O6
            have hm1o := Lib.hid hk6.ok.out
            have HN6 : Hid (n6 ≤ n + 1) := hn6
            clear CL hk6 hu6 O6 hX hxo hse hou hRR hn6 hn2 HR HLH
            go_upto_region 23 with (fail)
            go_wp2_with (first | (refine wpList_build_want (by rfl) 31 _ rfl H0 (Eq.trans (congrArg (fun z => Tryz.prog.built 31 z) (by kernel_rfl)) HB0.out) ?_))
            refine CS.out.mono ?_
            rintro e w7 ⟨K7, rfl, hk7, hu7⟩
            have O7 := O6H.out.upd hu7
            obtain ⟨w8, Z8, W8, R8, hq⟩ := blk_new w7 37 Tryz.zeroCells37 R
            have O8 := O7.quiet hq
            have IN : Hid (LrnI w kb b go (m1.sold X) (n6 + 1) K7 O' (k + 1) w8) := ⟨hk7.quiet hq, O8, HGO.out, HO'.out, by have := HN6.out; have := HN.out; omega, HM1.out.1, by show (m1.rs ++ [_]).length ≤ _; rw [List.length_append]; exact HM1.out.2⟩
            have rr := row_range HRR.out R8.out
            have cse : w8.cell? ⟨w7.heap.size, 3, none⟩ = some (.int .i64 mr) := by rw [cell_of_row _ _ _ _ _ _ R8.out, HRR.out, (rc_parts HXX.out.1).2.2.2.2.2.2.2, HXX.out.2.1]
            have HL1 : Hid ((Instr.loadAt 31 (.pointer (some ⟨w7.heap.size, 4, none⟩))).run Tryz.prog w8 = .ok (.agg O') w8) := by
              have s1 := rc_sub_out rr HXX.out.1
              rw [HXX.out.2.2] at s1
              have p := run_loadAt_mid w8 _ _ _ _ _ s1 Tryz.underlying31 rfl (hashLen hm1o.out)
              rw [← HO'.out] at p
              exact p
            have HL2 : Hid ((Instr.loadAt 31 (.pointer (some ⟨go, 0, none⟩))).run Tryz.prog w8 = .ok (.agg O') w8) := hash_load hm1o.out O' HO'.out O8.at_
            have heq : ∀ W : World, (Op.equalIn 10000 31 (.agg O') (.agg O')).run Tryz.prog W = .ok true W := fun W => eqH_self HO'.out hm1o.out W
            have HMR' : Hid (mr = ((m1.sold X).round : Int)) := HMR.out
            clear CS hk7 hu7 O7 O8 R8 hq rr O6H HM1 HN HN6 HXX HRR
            go_upto_region 24 with (first | (refine wpList_store_rowAs rfl 37 _ _ rfl w7.heap.size R rfl rfl _ _ Z8.out RI.out RZ.out RO.out w8 W8.out ?_))
            clear Z8 W8
            go_wp2_with (first | (refine wpList_load_atW (by rfl) 31 _ rfl w7.heap.size 4 rfl O' HL1.out ?_) | (refine wpList_load_want (by rfl) 31 _ rfl go rfl O' HL2.out ?_))
            exact ⟨⟨k + 1, m1.sold X, n6 + 1, K7, O', by rw [HMR'.out], by go_num, by omega, by omega, IN⟩, by simp [intOf]; omega⟩
      · obtain rfl : k = 20 := by omega
        have hup := Lib.hid HI.out.k.up
        clear HI hk hkl h20
        go_wp2_with fail
        go_ret
        exact ⟨rfl, hup.out⟩
    · obtain rfl : k = l.length := by omega
      have hup := Lib.hid HI.out.k.up
      clear HI hlt
      go_wp2_with fail
      go_ret
      exact ⟨rfl, hup.out⟩
end Go.Proofs.YtabnlklkfgojgaaGreatDoor
