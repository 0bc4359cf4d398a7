/- sortesref30.Decode at any text. -/
import Derived.Test.YtcimcodljjcmgaaGreatDoorGAR
import Derived.Test.YtcimcodljjcmgaaGreatDoorGAZ
import Derived.Test.YtcimcodljjcmgaaGreatDoorGBA
import Derived.Test.YtcimcodljjcmgaaGreatDoorGBB
namespace Go.Proofs.YtcimcodljjcmgaaGreatDoor
open Go.RowKit
set_option maxRecDepth 100000

theorem StrRow.form {w : World} {v : Value} {P : List ByteArray} (h : StrRow w v (P.map bs)) : ∃ ao cap, v = .slice ao P.length cap ∧ P.length ≤ cap ∧ cap ≤ 9223372036854775807 := by
  have h := h
  unfold StrRow at h
  rw [List.length_map] at h
  obtain ⟨ao, cap, e, h1, h2⟩ := row_slice h
  exact ⟨ao, cap, e, h1, h2⟩
theorem wpList_load_rowG {P : Program} {ops : Array Oper} {rest : List Oper} {o : Oper} {a : Act} {w : World} {Q : Exit → Act → World → Prop} (hw : Region.wanted o (yielded ops a.tmps) = true) (ty : TypeId) (x : Operand) (ho : o.op = .load ty x)
    (g : Nat) (hx : a.eval x = .pointer (some ⟨g, 0, none⟩)) (t : TypeId) (cs : Array Value) (fr : Nat × Nat) (d : TypeDesc) (hg : w.heap[g]? = some (.cells cs t fr))
    (hu : P.underlying ty = some d) (hd : (match d with | .struct _ | .array _ _ => true | _ => false) = true) (hi : (P.info? ty).map (·.size) = some cs.size)
    (h : wpList P ops Q rest (a.put o.dst (.agg cs)) w) : wpList P ops Q (o :: rest) a w := by
  show (if _ then _ else _)
  rw [if_pos hw]
  exact Or.inl (wp_load_row ty x ho g hx t cs fr d hg hu hd hi h)
set_option maxHeartbeats 32000000 in
theorem decode30_any (s : ByteArray) (hs : s.size ≤ 1999990) (w : World) : Calls Tryz.prog 50 #[.string s] w (MkDec (bs s) w) := by
  obtain ⟨ZE, hZE⟩ : ∃ ZE, ZE = evZ.toArray := ⟨_, rfl⟩
  have HZB : Hid (Tryz.prog.built 33 [] = some ZE) := by rw [hZE]; exact zeroEv_built
  have HZEI : Hid ((Tryz.prog.info? 33).map (·.size) = some ZE.size) := by rw [hZE]; exact zeroEv_info
  have HZEO : Hid (ZE.all (·.oneCell') = true) := by rw [hZE]; exact zeroEv_one
  have HZEZ : Hid (evZ.toArray.size = ZE.size) := by rw [hZE]; rfl
  have HZEE := Lib.hid hZE
  clear hZE
  obtain ⟨g2, hg2⟩ : ∃ g, w.heap.size = g := ⟨_, rfl⟩
  obtain ⟨w1, hw1⟩ : ∃ W, w.alloc (.cells #[.int .i64 0, .int .i64 0, .int .i64 0, .int .i64 0, .int .i64 0, .string ⟨#[]⟩, .int .u8 0, .int .u8 0, .int .u8 0, .int .u8 0, .int .u8 0, .int .u8 0, .int .u8 0, .int .u8 0, .int .u8 0, .int .u8 0, .int .u8 0, .int .u8 0, .int .u8 0, .int .u8 0, .int .u8 0, .int .u8 0, .int .u8 0, .int .u8 0, .int .u8 0, .int .u8 0, .int .u8 0, .int .u8 0, .int .u8 0, .int .u8 0, .int .u8 0, .int .u8 0, .int .u8 0, .int .u8 0, .int .u8 0, .int .u8 0, .int .u8 0, .int .u8 0, .int .i64 0, .int .i64 0] 33) = W := ⟨_, rfl⟩
  have r1 := Lib.hid (show w1.heap[g2]? = some (.cells evZ.toArray 33 (0, 0)) by rw [← hg2, ← hw1, zero_ev]; exact heap_alloc_new _ _)
  have u1 := Lib.hid (show Upd [] [] w w1 by rw [← hw1]; exact (Upd.refl _ _).alloc _)
  have HG2 : Hid (w.heap.size ≤ g2) := Nat.le_of_eq hg2
  go_enter Tryz.func50, Tryz.ntmps50
  go_wp2_with fail
  clear hw1 hg2
  go_loopw [4, 5, 6] (fun o f i wr => ∃ (P : List ByteArray) (fr k : Nat), f = .int .i64 (fr : Int) ∧ i = .int .i64 (k : Int) ∧ k ≤ s.size ∧ fr ≤ k ∧ P.length ≤ 9 ∧ Hid (WInv (bs s) (P.map bs) fr k) ∧ Hid (∀ p ∈ P, p.size ≤ s.size) ∧ Hid (StrRow wr o (P.map bs)) ∧ Hid (Upd [] (foot o) w1 wr)) (fun _ _ i _ => s.size + 1 - (intOf i).toNat)
  case atStart => exact ⟨[], 0, 0, rfl, rfl, Nat.zero_le _, Nat.le_refl _, Nat.zero_le _, WInv.start _, (by intro p hp; cases hp), strRow_nil w1, Upd.refl _ _⟩
  case round =>
    obtain ⟨P, fr, k, rfl, rfl, hk, hfr, hP9, HW, HSZ, HR, HU⟩ := hrel
    obtain ⟨ao, cap, rfl, hc1, hcm⟩ := HR.out.form
    have f0 : (0 : Int) ≤ (fr : Int) := by omega
    have f1 : (fr : Int) ≤ (k : Int) := by omega
    have f2 : (k : Int) ≤ (s.size : Int) := by omega
    have f3 : (fr : Int) ≤ (s.size : Int) := by omega
    by_cases hgo : k < s.size ∧ P.length < 9
    · obtain ⟨hlt, hl9⟩ := hgo
      have hc := bs_get' s k hlt
      have i1 : (k : Int) < (s.size : Int) := by omega
      have i2 : (P.length : Int) < 9 := by omega
      have i0 : (0 : Int) ≤ (k : Int) := by omega
      obtain ⟨v', wn, hrun, hrow, hup⟩ := append_str wr _ (P.map bs) (s.extract fr k) HR.out (by rw [List.length_map]; omega)
      have hrow2 : StrRow wn v' ((P ++ [s.extract fr k]).map bs) := by
        rw [List.map_append]
        exact hrow
      have hsz2 : ∀ p ∈ P ++ [s.extract fr k], p.size ≤ s.size := by
        intro p hp
        rw [List.mem_append, List.mem_singleton] at hp
        rcases hp with hp | rfl
        · exact HSZ.out p hp
        · rw [ByteArray.size_extract]; omega
      have hl2 : (P ++ [s.extract fr k]).length ≤ 9 := by rw [List.length_append]; simp; omega
      have HRUN := Lib.hid hrun
      have HROW := Lib.hid hrow2
      have HSZ2 := Lib.hid hsz2
      have HUPP := Lib.hid (HU.out.trans hup)
      have HL2 := Lib.hid hl2
      clear hrun hrow hrow2 hsz2 hup hl2
      by_cases h32 : s[k] = 32
      · have e1 : ((s[k].toNat : Int) == 32) = true := by rw [h32]; rfl
        have HN : Hid (WInv (bs s) ((P ++ [s.extract fr k]).map bs) (k + 1) (k + 1)) := by
          show WInv _ _ _ _
          rw [List.map_append, show List.map bs [s.extract fr k] = [((bs s).drop fr).take (k - fr)] by rw [← ext_bs]; rfl]
          exact HW.out.blank (by rw [hc, h32])
        clear hc h32 HR HSZ HW HU
        go_wp2_with (refine wpList_append_run _ rfl _ _ _ _ rfl _ _ v' wn rfl rfl HRUN.out ?_)
        exact ⟨⟨P ++ [s.extract fr k], k + 1, k + 1, by go_num, by go_num, hlt, Nat.le_refl _, HL2.out, HN.out, HSZ2.out, HROW.out, HUPP.out⟩, by simp [intOf]; omega⟩
      · have e1 : ((s[k].toNat : Int) == 32) = false := by
          rw [beq_eq_false_iff_ne]
          exact fun h => h32 (UInt8.toNat_inj.1 (by have : (32 : UInt8).toNat = 32 := rfl; omega))
        have HN := Lib.hid (HW.out.other hc h32)
        clear hc h32 HRUN HROW HUPP HSZ2 HW HL2
        go_wp2_with fail
        exact ⟨⟨P, fr, k + 1, rfl, by go_num, hlt, by omega, hP9, HN.out, HSZ.out, HR.out, HU.out⟩, by simp [intOf]; omega⟩
    have hup0 : Upd [] [] w1 wr := HU.out.mono (fun _ h => h) (fun _ h => absurd h (by simp))
    have R1 := Lib.hid (heap_upd r1.out hup0)
    have UD := Lib.hid (u1.out.trans hup0)
    clear hup0 HU r1 u1
    by_cases h9 : P.length = 9
    case neg =>
      obtain rfl : k = s.size := by omega
      have i1 : ¬ (s.size : Int) < (s.size : Int) := by omega
      have i2 : (P.length : Int) < 9 := by omega
      clear hgo
      have HNO : Hid (∀ ev, ¬ IsCode (bs s) ev) := few_not (by rw [HW.out.count (by rw [bs_length]), List.length_map]; omega)
      have RX1 := R1
      have UX1 := UD
      obtain ⟨X, HX, RX, UX⟩ := ev_row w g2 ZE wr HG2.out RX1.out UX1.out
      go_wp2_with (first | (refine wpList_buildTo rfl 33 #[] rfl _ rfl ZE (Eq.trans (congrArg (fun z => Tryz.prog.built 33 z) (by kernel_rfl)) HZB.out) ?_) | (refine wpList_store_rowAs rfl 33 _ _ rfl g2 ZE rfl rfl _ _ RX1.out HZEI.out HZEZ.out HZEO.out X HX.out ?_))
      refine bodyPost_ret (results_row_tmp rfl _ _ g2 _ ZE _ _ rfl RX.out Tryz.underlying33 rfl HZEI.out) rfl ?_
      exact .inr ⟨ZE, HZEE, HNO, rfl, UX.out⟩
    have HWS := Lib.hid (WsAt.of_row HR.out)
    obtain ⟨p0, p1, p2, p3, p4, p5, p6, p7, p8, rfl⟩ := nine_of h9
    obtain ⟨gP, rfl, hgP, HCE⟩ : ∃ b, ao = some ⟨b, 0, none⟩ ∧ b < wr.heap.size ∧ ∀ (j : Nat) (p : ByteArray), [p0, p1, p2, p3, p4, p5, p6, p7, p8][j]? = some p → wr.cell? ⟨b, j, none⟩ = some (.string p) := by
      obtain ⟨ao', cap', he, _, _, h⟩ := HWS.out
      injection he with he1 he2 he3
      subst he1
      rcases h with h | h
      · cases h
      · exact h
    have HKP : Hid (∀ (W : World) (_ : Upd [] [] wr W) (j : Nat) (p : ByteArray), [p0, p1, p2, p3, p4, p5, p6, p7, p8][j]? = some p → W.cell? ⟨gP, j, none⟩ = some (.string p)) := fun W u j p h => (u.cell hgP (by simp)).trans (HCE j p h)
    have HC : Hid (∀ ev, IsCode (bs s) ev → bs p0 = Lib.itoa ev.r ∧ bs p1 = Lib.itoa ev.s ∧ bs p3 = Lib.itoa ev.q ∧ bs p4 = Lib.itoa ev.k ∧ bs p5 = Lib.itoa ev.h ∧ bs p6 = Lib.itoa ev.t ∧ bs p7 = Lib.itoa ev.n ∧ bs p8 = hexL ev.p ∧ (bs s).drop fr = wordG (bs ev.x)) := fun ev h => nine_parts HW.out h
    have hz : ∀ p ∈ [p0, p1, p2, p3, p4, p5, p6, p7, p8], p.size ≤ 1999990 := fun p hp => Nat.le_trans (HSZ.out p hp) hs
    have HZ := Lib.hid hz
    have hc9 : 9 ≤ cap := by simpa using hc1
    have i2 : ¬ ((9 : Int) < 9) := by omega
    rw [show [p0, p1, p2, p3, p4, p5, p6, p7, p8].length = 9 from rfl] at hc1 ⊢
    clear HWS HCE HR HW h9 hP9 hz HSZ
    obtain ⟨gN, hgN⟩ : ∃ g, wr.heap.size = g := ⟨_, rfl⟩
    obtain ⟨w4, hw4⟩ : ∃ W, wr.alloc (.cells #[.int .i64 0, .int .i64 0, .int .i64 0, .int .i64 0, .int .i64 0, .int .i64 0, .int .i64 0, .int .i64 0, .int .i64 0] 156) = W := ⟨_, rfl⟩
    have N0 := Lib.hid (show w4.heap[gN]? = some (.cells #[.int .i64 0, .int .i64 0, .int .i64 0, .int .i64 0, .int .i64 0, .int .i64 0, .int .i64 0, .int .i64 0, .int .i64 0] 156 (0, 0)) by rw [← hgN, ← hw4]; exact heap_alloc_new _ _)
    have U0 := Lib.hid (show Upd [] [] wr w4 by rw [← hw4]; exact (Upd.refl _ _).alloc _)
    have HGN : Hid (wr.heap.size ≤ gN) := Nat.le_of_eq hgN
    have hks : k < s.size ∨ k = s.size := by omega
    clear hgo
    rcases hks with hks | rfl
    · have i1 : (k : Int) < (s.size : Int) := by omega
      clear hks
      go_wp2_with fail
      clear hw4 hgN
      refine wp_loop_rounds 9 ?_
      rw [rounds_succ]
      have cp := HKP.out w4 U0.out 0 p0 rfl
      go_wp2_with fail
      refine (int11_any p0 _ (HZ.out p0 (by simp))).mono ?_
      rintro e y0 ⟨m0, ok, HO, hm0, rfl, hq⟩
      have I0 := Lib.hid hm0
      obtain ⟨hm0a, hm0b⟩ := hm0
      have u1 := U0.out.trans hq
      have Y0 := Lib.hid (heap_upd N0.out hq)
      clear cp hq N0 U0
      cases ok
      · have F1 := Lib.hid u1
        clear u1
        have HNO : Hid (∀ ev, ¬ IsCode (bs s) ev) := fun ev h => HO.out.2.2 rfl ⟨_, h.1.2.2.2.2.2.2.1, (HC.out ev h).1⟩
        have RX1 := Lib.hid (heap_upd R1.out F1.out)
        have UX1 := Lib.hid (UD.out.trans F1.out)
        obtain ⟨X, HX, RX, UX⟩ := ev_row w g2 ZE y0 HG2.out RX1.out UX1.out
        go_wp2_with (first | (refine wpList_buildTo rfl 33 #[] rfl _ rfl ZE (Eq.trans (congrArg (fun z => Tryz.prog.built 33 z) (by kernel_rfl)) HZB.out) ?_) | (refine wpList_store_rowAs rfl 33 _ _ rfl g2 ZE rfl rfl _ _ RX1.out HZEI.out HZEZ.out HZEO.out X HX.out ?_))
        refine bodyPost_ret (results_row_tmp rfl _ _ g2 _ ZE _ _ rfl RX.out Tryz.underlying33 rfl HZEI.out) rfl ?_
        exact .inr ⟨ZE, HZEE, HNO, rfl, UX.out⟩
      have M0 : Hid (bs p0 = Lib.itoa m0) := HO.out.2.1 rfl
      have cN := (cell_of_row _ gN 0 _ _ _ Y0.out).trans (show _ = some (Value.int .i64 0) from rfl)
      have fN := frozen_of_row _ gN 0 _ _ Y0.out
      obtain ⟨z0, hz⟩ : ∃ Z, y0.setCell ⟨gN, 0, none⟩ (.int .i64 m0) = Z := ⟨_, rfl⟩
      have N1 : Hid (z0.heap[gN]? = some (.cells #[.int .i64 m0, .int .i64 0, .int .i64 0, .int .i64 0, .int .i64 0, .int .i64 0, .int .i64 0, .int .i64 0, .int .i64 0] 156 (0, 0))) := (congrArg (fun W : World => W.heap[gN]?) hz.symm).trans (heap_setCell_same y0 gN 0 _ _ (.int .i64 m0) Y0.out)
      have U1 : Hid (Upd [] [] wr z0) := by have h := u1.setNew (p := ⟨gN, 0, none⟩) HGN.out (.int .i64 m0); rw [hz] at h; exact h
      clear HO Y0 u1
      go_wp2_with fail
      clear cN fN hz hm0a hm0b
      rw [rounds_succ]
      have cp := HKP.out z0 U1.out 1 p1 rfl
      go_wp2_with fail
      refine (int11_any p1 _ (HZ.out p1 (by simp))).mono ?_
      rintro e y1 ⟨m1, ok, HO, hm1, rfl, hq⟩
      have I1 := Lib.hid hm1
      obtain ⟨hm1a, hm1b⟩ := hm1
      have u2 := U1.out.trans hq
      have Y1 := Lib.hid (heap_upd N1.out hq)
      clear cp hq N1 U1
      cases ok
      · have F1 := Lib.hid u2
        clear u2
        have HNO : Hid (∀ ev, ¬ IsCode (bs s) ev) := fun ev h => HO.out.2.2 rfl ⟨_, h.1.2.2.2.2.2.2.2, (HC.out ev h).2.1⟩
        have RX1 := Lib.hid (heap_upd R1.out F1.out)
        have UX1 := Lib.hid (UD.out.trans F1.out)
        obtain ⟨X, HX, RX, UX⟩ := ev_row w g2 ZE y1 HG2.out RX1.out UX1.out
        go_wp2_with (first | (refine wpList_buildTo rfl 33 #[] rfl _ rfl ZE (Eq.trans (congrArg (fun z => Tryz.prog.built 33 z) (by kernel_rfl)) HZB.out) ?_) | (refine wpList_store_rowAs rfl 33 _ _ rfl g2 ZE rfl rfl _ _ RX1.out HZEI.out HZEZ.out HZEO.out X HX.out ?_))
        refine bodyPost_ret (results_row_tmp rfl _ _ g2 _ ZE _ _ rfl RX.out Tryz.underlying33 rfl HZEI.out) rfl ?_
        exact .inr ⟨ZE, HZEE, HNO, rfl, UX.out⟩
      have M1 : Hid (bs p1 = Lib.itoa m1) := HO.out.2.1 rfl
      have cN := (cell_of_row _ gN 1 _ _ _ Y1.out).trans (show _ = some (Value.int .i64 0) from rfl)
      have fN := frozen_of_row _ gN 1 _ _ Y1.out
      obtain ⟨z1, hz⟩ : ∃ Z, y1.setCell ⟨gN, 1, none⟩ (.int .i64 m1) = Z := ⟨_, rfl⟩
      have N2 : Hid (z1.heap[gN]? = some (.cells #[.int .i64 m0, .int .i64 m1, .int .i64 0, .int .i64 0, .int .i64 0, .int .i64 0, .int .i64 0, .int .i64 0, .int .i64 0] 156 (0, 0))) := (congrArg (fun W : World => W.heap[gN]?) hz.symm).trans (heap_setCell_same y1 gN 1 _ _ (.int .i64 m1) Y1.out)
      have U2 : Hid (Upd [] [] wr z1) := by have h := u2.setNew (p := ⟨gN, 1, none⟩) HGN.out (.int .i64 m1); rw [hz] at h; exact h
      clear HO Y1 u2
      go_wp2_with fail
      clear cN fN hz hm1a hm1b
      rw [rounds_succ]
      go_wp2_with fail
      rw [rounds_succ]
      have cp := HKP.out z1 U2.out 3 p3 rfl
      go_wp2_with fail
      refine (int11_any p3 _ (HZ.out p3 (by simp))).mono ?_
      rintro e y3 ⟨m3, ok, HO, hm3, rfl, hq⟩
      have I3 := Lib.hid hm3
      obtain ⟨hm3a, hm3b⟩ := hm3
      have u4 := U2.out.trans hq
      have Y3 := Lib.hid (heap_upd N2.out hq)
      clear cp hq N2 U2
      cases ok
      · have F1 := Lib.hid u4
        clear u4
        have HNO : Hid (∀ ev, ¬ IsCode (bs s) ev) := fun ev h => HO.out.2.2 rfl ⟨_, h.1.1, (HC.out ev h).2.2.1⟩
        have RX1 := Lib.hid (heap_upd R1.out F1.out)
        have UX1 := Lib.hid (UD.out.trans F1.out)
        obtain ⟨X, HX, RX, UX⟩ := ev_row w g2 ZE y3 HG2.out RX1.out UX1.out
        go_wp2_with (first | (refine wpList_buildTo rfl 33 #[] rfl _ rfl ZE (Eq.trans (congrArg (fun z => Tryz.prog.built 33 z) (by kernel_rfl)) HZB.out) ?_) | (refine wpList_store_rowAs rfl 33 _ _ rfl g2 ZE rfl rfl _ _ RX1.out HZEI.out HZEZ.out HZEO.out X HX.out ?_))
        refine bodyPost_ret (results_row_tmp rfl _ _ g2 _ ZE _ _ rfl RX.out Tryz.underlying33 rfl HZEI.out) rfl ?_
        exact .inr ⟨ZE, HZEE, HNO, rfl, UX.out⟩
      have M3 : Hid (bs p3 = Lib.itoa m3) := HO.out.2.1 rfl
      have cN := (cell_of_row _ gN 3 _ _ _ Y3.out).trans (show _ = some (Value.int .i64 0) from rfl)
      have fN := frozen_of_row _ gN 3 _ _ Y3.out
      obtain ⟨z3, hz⟩ : ∃ Z, y3.setCell ⟨gN, 3, none⟩ (.int .i64 m3) = Z := ⟨_, rfl⟩
      have N4 : Hid (z3.heap[gN]? = some (.cells #[.int .i64 m0, .int .i64 m1, .int .i64 0, .int .i64 m3, .int .i64 0, .int .i64 0, .int .i64 0, .int .i64 0, .int .i64 0] 156 (0, 0))) := (congrArg (fun W : World => W.heap[gN]?) hz.symm).trans (heap_setCell_same y3 gN 3 _ _ (.int .i64 m3) Y3.out)
      have U4 : Hid (Upd [] [] wr z3) := by have h := u4.setNew (p := ⟨gN, 3, none⟩) HGN.out (.int .i64 m3); rw [hz] at h; exact h
      clear HO Y3 u4
      go_wp2_with fail
      clear cN fN hz hm3a hm3b
      rw [rounds_succ]
      have cp := HKP.out z3 U4.out 4 p4 rfl
      go_wp2_with fail
      refine (int11_any p4 _ (HZ.out p4 (by simp))).mono ?_
      rintro e y4 ⟨m4, ok, HO, hm4, rfl, hq⟩
      have I4 := Lib.hid hm4
      obtain ⟨hm4a, hm4b⟩ := hm4
      have u5 := U4.out.trans hq
      have Y4 := Lib.hid (heap_upd N4.out hq)
      clear cp hq N4 U4
      cases ok
      · have F1 := Lib.hid u5
        clear u5
        have HNO : Hid (∀ ev, ¬ IsCode (bs s) ev) := fun ev h => HO.out.2.2 rfl ⟨_, h.1.2.1, (HC.out ev h).2.2.2.1⟩
        have RX1 := Lib.hid (heap_upd R1.out F1.out)
        have UX1 := Lib.hid (UD.out.trans F1.out)
        obtain ⟨X, HX, RX, UX⟩ := ev_row w g2 ZE y4 HG2.out RX1.out UX1.out
        go_wp2_with (first | (refine wpList_buildTo rfl 33 #[] rfl _ rfl ZE (Eq.trans (congrArg (fun z => Tryz.prog.built 33 z) (by kernel_rfl)) HZB.out) ?_) | (refine wpList_store_rowAs rfl 33 _ _ rfl g2 ZE rfl rfl _ _ RX1.out HZEI.out HZEZ.out HZEO.out X HX.out ?_))
        refine bodyPost_ret (results_row_tmp rfl _ _ g2 _ ZE _ _ rfl RX.out Tryz.underlying33 rfl HZEI.out) rfl ?_
        exact .inr ⟨ZE, HZEE, HNO, rfl, UX.out⟩
      have M4 : Hid (bs p4 = Lib.itoa m4) := HO.out.2.1 rfl
      have cN := (cell_of_row _ gN 4 _ _ _ Y4.out).trans (show _ = some (Value.int .i64 0) from rfl)
      have fN := frozen_of_row _ gN 4 _ _ Y4.out
      obtain ⟨z4, hz⟩ : ∃ Z, y4.setCell ⟨gN, 4, none⟩ (.int .i64 m4) = Z := ⟨_, rfl⟩
      have N5 : Hid (z4.heap[gN]? = some (.cells #[.int .i64 m0, .int .i64 m1, .int .i64 0, .int .i64 m3, .int .i64 m4, .int .i64 0, .int .i64 0, .int .i64 0, .int .i64 0] 156 (0, 0))) := (congrArg (fun W : World => W.heap[gN]?) hz.symm).trans (heap_setCell_same y4 gN 4 _ _ (.int .i64 m4) Y4.out)
      have U5 : Hid (Upd [] [] wr z4) := by have h := u5.setNew (p := ⟨gN, 4, none⟩) HGN.out (.int .i64 m4); rw [hz] at h; exact h
      clear HO Y4 u5
      go_wp2_with fail
      clear cN fN hz hm4a hm4b
      rw [rounds_succ]
      have cp := HKP.out z4 U5.out 5 p5 rfl
      go_wp2_with fail
      refine (int11_any p5 _ (HZ.out p5 (by simp))).mono ?_
      rintro e y5 ⟨m5, ok, HO, hm5, rfl, hq⟩
      have I5 := Lib.hid hm5
      obtain ⟨hm5a, hm5b⟩ := hm5
      have u6 := U5.out.trans hq
      have Y5 := Lib.hid (heap_upd N5.out hq)
      clear cp hq N5 U5
      cases ok
      · have F1 := Lib.hid u6
        clear u6
        have HNO : Hid (∀ ev, ¬ IsCode (bs s) ev) := fun ev h => HO.out.2.2 rfl ⟨_, h.1.2.2.1, (HC.out ev h).2.2.2.2.1⟩
        have RX1 := Lib.hid (heap_upd R1.out F1.out)
        have UX1 := Lib.hid (UD.out.trans F1.out)
        obtain ⟨X, HX, RX, UX⟩ := ev_row w g2 ZE y5 HG2.out RX1.out UX1.out
        go_wp2_with (first | (refine wpList_buildTo rfl 33 #[] rfl _ rfl ZE (Eq.trans (congrArg (fun z => Tryz.prog.built 33 z) (by kernel_rfl)) HZB.out) ?_) | (refine wpList_store_rowAs rfl 33 _ _ rfl g2 ZE rfl rfl _ _ RX1.out HZEI.out HZEZ.out HZEO.out X HX.out ?_))
        refine bodyPost_ret (results_row_tmp rfl _ _ g2 _ ZE _ _ rfl RX.out Tryz.underlying33 rfl HZEI.out) rfl ?_
        exact .inr ⟨ZE, HZEE, HNO, rfl, UX.out⟩
      have M5 : Hid (bs p5 = Lib.itoa m5) := HO.out.2.1 rfl
      have cN := (cell_of_row _ gN 5 _ _ _ Y5.out).trans (show _ = some (Value.int .i64 0) from rfl)
      have fN := frozen_of_row _ gN 5 _ _ Y5.out
      obtain ⟨z5, hz⟩ : ∃ Z, y5.setCell ⟨gN, 5, none⟩ (.int .i64 m5) = Z := ⟨_, rfl⟩
      have N6 : Hid (z5.heap[gN]? = some (.cells #[.int .i64 m0, .int .i64 m1, .int .i64 0, .int .i64 m3, .int .i64 m4, .int .i64 m5, .int .i64 0, .int .i64 0, .int .i64 0] 156 (0, 0))) := (congrArg (fun W : World => W.heap[gN]?) hz.symm).trans (heap_setCell_same y5 gN 5 _ _ (.int .i64 m5) Y5.out)
      have U6 : Hid (Upd [] [] wr z5) := by have h := u6.setNew (p := ⟨gN, 5, none⟩) HGN.out (.int .i64 m5); rw [hz] at h; exact h
      clear HO Y5 u6
      go_wp2_with fail
      clear cN fN hz hm5a hm5b
      rw [rounds_succ]
      have cp := HKP.out z5 U6.out 6 p6 rfl
      go_wp2_with fail
      refine (int11_any p6 _ (HZ.out p6 (by simp))).mono ?_
      rintro e y6 ⟨m6, ok, HO, hm6, rfl, hq⟩
      have I6 := Lib.hid hm6
      obtain ⟨hm6a, hm6b⟩ := hm6
      have u7 := U6.out.trans hq
      have Y6 := Lib.hid (heap_upd N6.out hq)
      clear cp hq N6 U6
      cases ok
      · have F1 := Lib.hid u7
        clear u7
        have HNO : Hid (∀ ev, ¬ IsCode (bs s) ev) := fun ev h => HO.out.2.2 rfl ⟨_, h.1.2.2.2.1, (HC.out ev h).2.2.2.2.2.1⟩
        have RX1 := Lib.hid (heap_upd R1.out F1.out)
        have UX1 := Lib.hid (UD.out.trans F1.out)
        obtain ⟨X, HX, RX, UX⟩ := ev_row w g2 ZE y6 HG2.out RX1.out UX1.out
        go_wp2_with (first | (refine wpList_buildTo rfl 33 #[] rfl _ rfl ZE (Eq.trans (congrArg (fun z => Tryz.prog.built 33 z) (by kernel_rfl)) HZB.out) ?_) | (refine wpList_store_rowAs rfl 33 _ _ rfl g2 ZE rfl rfl _ _ RX1.out HZEI.out HZEZ.out HZEO.out X HX.out ?_))
        refine bodyPost_ret (results_row_tmp rfl _ _ g2 _ ZE _ _ rfl RX.out Tryz.underlying33 rfl HZEI.out) rfl ?_
        exact .inr ⟨ZE, HZEE, HNO, rfl, UX.out⟩
      have M6 : Hid (bs p6 = Lib.itoa m6) := HO.out.2.1 rfl
      have cN := (cell_of_row _ gN 6 _ _ _ Y6.out).trans (show _ = some (Value.int .i64 0) from rfl)
      have fN := frozen_of_row _ gN 6 _ _ Y6.out
      obtain ⟨z6, hz⟩ : ∃ Z, y6.setCell ⟨gN, 6, none⟩ (.int .i64 m6) = Z := ⟨_, rfl⟩
      have N7 : Hid (z6.heap[gN]? = some (.cells #[.int .i64 m0, .int .i64 m1, .int .i64 0, .int .i64 m3, .int .i64 m4, .int .i64 m5, .int .i64 m6, .int .i64 0, .int .i64 0] 156 (0, 0))) := (congrArg (fun W : World => W.heap[gN]?) hz.symm).trans (heap_setCell_same y6 gN 6 _ _ (.int .i64 m6) Y6.out)
      have U7 : Hid (Upd [] [] wr z6) := by have h := u7.setNew (p := ⟨gN, 6, none⟩) HGN.out (.int .i64 m6); rw [hz] at h; exact h
      clear HO Y6 u7
      go_wp2_with fail
      clear cN fN hz hm6a hm6b
      rw [rounds_succ]
      have cp := HKP.out z6 U7.out 7 p7 rfl
      go_wp2_with fail
      refine (int11_any p7 _ (HZ.out p7 (by simp))).mono ?_
      rintro e y7 ⟨m7, ok, HO, hm7, rfl, hq⟩
      have I7 := Lib.hid hm7
      obtain ⟨hm7a, hm7b⟩ := hm7
      have u8 := U7.out.trans hq
      have Y7 := Lib.hid (heap_upd N7.out hq)
      clear cp hq N7 U7
      cases ok
      · have F1 := Lib.hid u8
        clear u8
        have HNO : Hid (∀ ev, ¬ IsCode (bs s) ev) := fun ev h => HO.out.2.2 rfl ⟨_, h.1.2.2.2.2.1, (HC.out ev h).2.2.2.2.2.2.1⟩
        have RX1 := Lib.hid (heap_upd R1.out F1.out)
        have UX1 := Lib.hid (UD.out.trans F1.out)
        obtain ⟨X, HX, RX, UX⟩ := ev_row w g2 ZE y7 HG2.out RX1.out UX1.out
        go_wp2_with (first | (refine wpList_buildTo rfl 33 #[] rfl _ rfl ZE (Eq.trans (congrArg (fun z => Tryz.prog.built 33 z) (by kernel_rfl)) HZB.out) ?_) | (refine wpList_store_rowAs rfl 33 _ _ rfl g2 ZE rfl rfl _ _ RX1.out HZEI.out HZEZ.out HZEO.out X HX.out ?_))
        refine bodyPost_ret (results_row_tmp rfl _ _ g2 _ ZE _ _ rfl RX.out Tryz.underlying33 rfl HZEI.out) rfl ?_
        exact .inr ⟨ZE, HZEE, HNO, rfl, UX.out⟩
      have M7 : Hid (bs p7 = Lib.itoa m7) := HO.out.2.1 rfl
      have cN := (cell_of_row _ gN 7 _ _ _ Y7.out).trans (show _ = some (Value.int .i64 0) from rfl)
      have fN := frozen_of_row _ gN 7 _ _ Y7.out
      obtain ⟨z7, hz⟩ : ∃ Z, y7.setCell ⟨gN, 7, none⟩ (.int .i64 m7) = Z := ⟨_, rfl⟩
      have N8 : Hid (z7.heap[gN]? = some (.cells #[.int .i64 m0, .int .i64 m1, .int .i64 0, .int .i64 m3, .int .i64 m4, .int .i64 m5, .int .i64 m6, .int .i64 m7, .int .i64 0] 156 (0, 0))) := (congrArg (fun W : World => W.heap[gN]?) hz.symm).trans (heap_setCell_same y7 gN 7 _ _ (.int .i64 m7) Y7.out)
      have U8 : Hid (Upd [] [] wr z7) := by have h := u8.setNew (p := ⟨gN, 7, none⟩) HGN.out (.int .i64 m7); rw [hz] at h; exact h
      clear HO Y7 u8
      go_wp2_with fail
      clear cN fN hz hm7a hm7b
      rw [rounds_succ]
      have cp8 := HKP.out z7 U8.out 8 p8 rfl
      go_wp2_with fail
      refine (rhexRead_any p8 z7).mono ?_
      rintro e y8 ⟨h', ok, HO, rfl, hq⟩
      obtain ⟨ZH, hZH⟩ : ∃ ZH, ZH = (byteVals h').toArray := ⟨_, rfl⟩
      rw [← hZH]
      have hl32 : h'.length = 32 := HO.out.1
      have HZI : Hid ((Tryz.prog.info? 29).map (·.size) = some ZH.size) := by rw [hZH]; exact hashInfo hl32
      have HZO : Hid (ZH.all (·.oneCell') = true) := by rw [hZH]; exact hashOne _
      have HZS : Hid (ZH.size = 32) := by show _ = _; rw [hZH]; simp [byteVals, hl32]
      have HZE := Lib.hid hZH
      have HL32 := Lib.hid hl32
      clear hl32 hZH cp8
      obtain ⟨y9, Z9, W9, R9, hq9⟩ := blk_new y8 29 (#[.int .u8 0, .int .u8 0, .int .u8 0, .int .u8 0, .int .u8 0, .int .u8 0, .int .u8 0, .int .u8 0, .int .u8 0, .int .u8 0, .int .u8 0, .int .u8 0, .int .u8 0, .int .u8 0, .int .u8 0, .int .u8 0, .int .u8 0, .int .u8 0, .int .u8 0, .int .u8 0, .int .u8 0, .int .u8 0, .int .u8 0, .int .u8 0, .int .u8 0, .int .u8 0, .int .u8 0, .int .u8 0, .int .u8 0, .int .u8 0, .int .u8 0, .int .u8 0] : Array Value) ZH
      have HZZ : Hid (((#[.int .u8 0, .int .u8 0, .int .u8 0, .int .u8 0, .int .u8 0, .int .u8 0, .int .u8 0, .int .u8 0, .int .u8 0, .int .u8 0, .int .u8 0, .int .u8 0, .int .u8 0, .int .u8 0, .int .u8 0, .int .u8 0, .int .u8 0, .int .u8 0, .int .u8 0, .int .u8 0, .int .u8 0, .int .u8 0, .int .u8 0, .int .u8 0, .int .u8 0, .int .u8 0, .int .u8 0, .int .u8 0, .int .u8 0, .int .u8 0, .int .u8 0, .int .u8 0] : Array Value) : Array Value).size = ZH.size) := by show _ = _; rw [HZS.out]; rfl
      obtain ⟨gH, hgH⟩ : ∃ g, y8.heap.size = g := ⟨_, rfl⟩
      rw [hgH] at R9 Z9 W9
      have U9 := Lib.hid ((U8.out.trans hq).trans hq9)
      have N9 := Lib.hid (heap_upd (heap_upd N8.out hq) hq9)
      have M8 : Hid (ok = true → bs p8 = hexL h') := HO.out.2.1
      have G8 : Hid (ok = false → ∀ ev, ¬ IsCode (bs s) ev) := fun hf ev h => (HO.out.2.2 hf).2 ev.p h.1.2.2.2.2.2.1 (HC.out ev h).2.2.2.2.2.2.2.1
      have hDz : (s.extract fr s.size).size ≤ 1999990 := by rw [ByteArray.size_extract]; omega
      have HDZ := Lib.hid hDz
      clear HO hq hq9 N8 U8 hDz
      go_wp2_with (first | (refine wpList_store_rowAs rfl 29 _ _ rfl gH ZH rfl rfl _ _ Z9.out HZI.out HZZ.out HZO.out y9 W9.out ?_))
      refine (cut30_any _ HDZ.out y9).mono ?_
      rintro e x1 ⟨t, r, fine, HO, ht, hr, rfl, hq⟩
      rw [bs_right] at HO
      have UX := Lib.hid (U9.out.trans hq)
      have H1 := Lib.hid (heap_upd R9.out hq)
      have NX := Lib.hid (heap_upd N9.out hq)
      have htz : t.size ≤ 1999990 := Nat.le_trans ht HDZ.out
      clear hq U9 R9 N9 Z9 W9 ht hr hgH
      obtain ⟨ev, hev⟩ : ∃ ev : EvG, ev = ⟨m3, m4, m5, m6, m7, t, h', m0, m1⟩ := ⟨_, rfl⟩
      have HOKV : Hid (ev.ok) := by rw [hev]; exact ⟨I3.out, I4.out, I5.out, I6.out, I7.out, HL32.out, I0.out, I1.out⟩
      have HXS : Hid (ev.x.size ≤ 10000000) := by rw [hev]; exact Nat.le_trans htz (by omega)
      have hp32 : ev.p.length = 32 := HOKV.out.2.2.2.2.2.1
      obtain ⟨EV, hEV⟩ : ∃ EV, EV = ev.V.toArray := ⟨_, rfl⟩
      have HEVI : Hid ((Tryz.prog.info? 33).map (·.size) = some EV.size) := by rw [hEV]; exact EvG.info hp32
      have HEVO : Hid (EV.all (·.oneCell') = true) := by rw [hEV]; exact ev.one
      have HEVZ : Hid (evZ.toArray.size = EV.size) := by show _ = _; rw [hEV, evZ_len]; exact (EvG.V_len hp32).symm
      have HBD : Hid (Tryz.prog.built 33 [(0, .int .i64 m3), (1, .int .i64 m4), (2, .int .i64 m5), (3, .int .i64 m6), (4, .int .i64 m7), (5, .string t), (6, .agg ZH), (7, .agg #[.int .i64 m0, .int .i64 m1])] = some EV) := by
        show _ = _
        rw [hEV, hev, HZE.out]
        exact built_event _ _ _ _ _ _ _ _ _ HL32.out
      have HCODE : Hid (ok = true → fine = true → ∀ ev', IsCode (bs s) ev' → bs s = ev.code) := by
        intro ho hf ev' h
        rw [hev]
        obtain ⟨c0, c1, c3, c4, c5, c6, c7, c8, c9⟩ := HC.out ev' h
        have hw := HO.out.1 hf
        rw [c9] at hw
        have hxz : ev'.x.size ≤ 1999990 := by
          have := h.size
          rw [bs_length] at this
          omega
        have e2 := word_inj (a := bs ev'.x) (b := bs t) (A := []) (B := bs r) (by rw [bs_length]; omega) (by rw [bs_length]; omega) (by rw [List.append_nil]; exact hw)
        exact h.2.trans (code_same (c0.symm.trans M0.out) (c1.symm.trans M1.out) (c3.symm.trans M3.out) (c4.symm.trans M4.out) (c5.symm.trans M5.out) (c6.symm.trans M6.out) (c7.symm.trans M7.out) (c8.symm.trans (M8.out ho)) (by rw [e2.1]))
      have GC : Hid (fine = false → ∀ ev, ¬ IsCode (bs s) ev) := by
        intro hf ev' h
        have hxz : ev'.x.size ≤ 1999990 := by
          have := h.size
          rw [bs_length] at this
          omega
        exact HO.out.2 hf (bs ev'.x) [] (by rw [bs_length]; omega) (by rw [List.append_nil]; exact (HC.out ev' h).2.2.2.2.2.2.2.2)
      have HEVE := Lib.hid hEV
      have HT := Lib.hid (fun W => encode30_any ev HOKV.out HXS.out W)
      have n0 := (cell_of_row _ gN 0 _ _ _ NX.out).trans (show _ = some (Value.int .i64 m0) from rfl)
      have n1 := (cell_of_row _ gN 1 _ _ _ NX.out).trans (show _ = some (Value.int .i64 m1) from rfl)
      have n3 := (cell_of_row _ gN 3 _ _ _ NX.out).trans (show _ = some (Value.int .i64 m3) from rfl)
      have n4 := (cell_of_row _ gN 4 _ _ _ NX.out).trans (show _ = some (Value.int .i64 m4) from rfl)
      have n5 := (cell_of_row _ gN 5 _ _ _ NX.out).trans (show _ = some (Value.int .i64 m5) from rfl)
      have n6 := (cell_of_row _ gN 6 _ _ _ NX.out).trans (show _ = some (Value.int .i64 m6) from rfl)
      have n7 := (cell_of_row _ gN 7 _ _ _ NX.out).trans (show _ = some (Value.int .i64 m7) from rfl)
      obtain ⟨x2, ZX, WX, RE, hqx⟩ := blk_new x1 33 #[.int .i64 0, .int .i64 0, .int .i64 0, .int .i64 0, .int .i64 0, .string ⟨#[]⟩, .int .u8 0, .int .u8 0, .int .u8 0, .int .u8 0, .int .u8 0, .int .u8 0, .int .u8 0, .int .u8 0, .int .u8 0, .int .u8 0, .int .u8 0, .int .u8 0, .int .u8 0, .int .u8 0, .int .u8 0, .int .u8 0, .int .u8 0, .int .u8 0, .int .u8 0, .int .u8 0, .int .u8 0, .int .u8 0, .int .u8 0, .int .u8 0, .int .u8 0, .int .u8 0, .int .u8 0, .int .u8 0, .int .u8 0, .int .u8 0, .int .u8 0, .int .u8 0, .int .i64 0, .int .i64 0] EV
      have HEVZ2 : Hid ((#[.int .i64 0, .int .i64 0, .int .i64 0, .int .i64 0, .int .i64 0, .string ⟨#[]⟩, .int .u8 0, .int .u8 0, .int .u8 0, .int .u8 0, .int .u8 0, .int .u8 0, .int .u8 0, .int .u8 0, .int .u8 0, .int .u8 0, .int .u8 0, .int .u8 0, .int .u8 0, .int .u8 0, .int .u8 0, .int .u8 0, .int .u8 0, .int .u8 0, .int .u8 0, .int .u8 0, .int .u8 0, .int .u8 0, .int .u8 0, .int .u8 0, .int .u8 0, .int .u8 0, .int .u8 0, .int .u8 0, .int .u8 0, .int .u8 0, .int .u8 0, .int .u8 0, .int .i64 0, .int .i64 0] : Array Value).size = EV.size) := by show _ = _; rw [zero_ev]; exact HEVZ.out
      obtain ⟨gE, hgE⟩ : ∃ g, x1.heap.size = g := ⟨_, rfl⟩
      rw [hgE] at ZX WX RE
      have UE := Lib.hid (UX.out.trans hqx)
      clear hEV hev hp32 hqx UX M0 M1 M3 M4 M5 M6 M7 M8 HO HC NX
      go_upto_region 23 with (first | (refine wpList_load_row rfl 29 _ rfl gH rfl _ ZH _ _ H1.out Tryz.underlying29 rfl HZI.out ?_) | (refine wpList_buildTo rfl 33 _ rfl _ rfl EV (Eq.trans (congrArg (fun z => Tryz.prog.built 33 z) (by kernel_rfl)) HBD.out) ?_) | (refine wpList_store_rowAs rfl 33 _ _ rfl gE EV rfl rfl _ _ ZX.out HEVI.out HEVZ2.out HEVO.out x2 WX.out ?_))
      clear n0 n1 n3 n4 n5 n6 n7 ZX WX H1 hgE
      cases ok
      · clear HT RE
        have HNO : Hid (∀ ev, ¬ IsCode (bs s) ev) := G8.out rfl
        have RX1 := Lib.hid (heap_upd R1.out UE.out)
        have UX1 := Lib.hid (UD.out.trans UE.out)
        obtain ⟨X, HX, RX, UX⟩ := ev_row w g2 ZE x2 HG2.out RX1.out UX1.out
        go_wp2_with (first | (refine wpList_buildTo rfl 33 #[] rfl _ rfl ZE (Eq.trans (congrArg (fun z => Tryz.prog.built 33 z) (by kernel_rfl)) HZB.out) ?_) | (refine wpList_store_rowAs rfl 33 _ _ rfl g2 ZE rfl rfl _ _ RX1.out HZEI.out HZEZ.out HZEO.out X HX.out ?_))
        refine bodyPost_ret (results_row_tmp rfl _ _ g2 _ ZE _ _ rfl RX.out Tryz.underlying33 rfl HZEI.out) rfl ?_
        exact .inr ⟨ZE, HZEE, HNO, rfl, UX.out⟩
      cases fine
      · clear HT RE
        have HNO : Hid (∀ ev, ¬ IsCode (bs s) ev) := GC.out rfl
        have RX1 := Lib.hid (heap_upd R1.out UE.out)
        have UX1 := Lib.hid (UD.out.trans UE.out)
        obtain ⟨X, HX, RX, UX⟩ := ev_row w g2 ZE x2 HG2.out RX1.out UX1.out
        go_wp2_with (first | (refine wpList_buildTo rfl 33 #[] rfl _ rfl ZE (Eq.trans (congrArg (fun z => Tryz.prog.built 33 z) (by kernel_rfl)) HZB.out) ?_) | (refine wpList_store_rowAs rfl 33 _ _ rfl g2 ZE rfl rfl _ _ RX1.out HZEI.out HZEZ.out HZEO.out X HX.out ?_))
        refine bodyPost_ret (results_row_tmp rfl _ _ g2 _ ZE _ _ rfl RX.out Tryz.underlying33 rfl HZEI.out) rfl ?_
        exact .inr ⟨ZE, HZEE, HNO, rfl, UX.out⟩
      go_wp2_with (first | (refine wpList_load_rowG (by rfl) 33 _ rfl gE rfl _ EV _ _ RE.out Tryz.underlying33 rfl HEVI.out ?_))
      rw [HEVE.out]
      refine (HT.out x2).mono ?_
      rintro e x4 ⟨y, HY, _, rfl, hq⟩
      have E4 := Lib.hid (heap_upd RE.out hq)
      have UX4 := Lib.hid (UE.out.trans hq)
      clear hq RE UE
      by_cases hys : y = s
      case neg =>
        have g1 : (y.toList == s.toList) = false := by rw [← Bool.not_eq_true]; exact fun h => hys (bs_inj (eq_beq.1 h))
        clear E4
        have HNO : Hid (∀ ev, ¬ IsCode (bs s) ev) := fun ev' h => hys (bs_inj (HY.out.trans (HCODE.out (by first | rfl | trivial) (by first | rfl | trivial) ev' h).symm))
        have RX1 := Lib.hid (heap_upd R1.out UX4.out)
        have UX1 := Lib.hid (UD.out.trans UX4.out)
        obtain ⟨X, HX, RX, UX⟩ := ev_row w g2 ZE x4 HG2.out RX1.out UX1.out
        go_wp2_with (first | (refine wpList_buildTo rfl 33 #[] rfl _ rfl ZE (Eq.trans (congrArg (fun z => Tryz.prog.built 33 z) (by kernel_rfl)) HZB.out) ?_) | (refine wpList_store_rowAs rfl 33 _ _ rfl g2 ZE rfl rfl _ _ RX1.out HZEI.out HZEZ.out HZEO.out X HX.out ?_))
        refine bodyPost_ret (results_row_tmp rfl _ _ g2 _ ZE _ _ rfl RX.out Tryz.underlying33 rfl HZEI.out) rfl ?_
        exact .inr ⟨ZE, HZEE, HNO, rfl, UX.out⟩
      have g1 : (y.toList == s.toList) = true := eq_beq.2 (by rw [hys])
      have HIS : Hid (IsCode (bs s) ev) := ⟨HOKV.out, by rw [← hys]; exact HY.out⟩
      have Q4 := Lib.hid (heap_upd R1.out UX4.out)
      have UW := UD.out.trans UX4.out
      obtain ⟨x5, hx5⟩ : ∃ X, x4.setRow g2 EV = X := ⟨_, rfl⟩
      have R5 : (x4.setRow g2 EV).heap[g2]? = some (.cells EV 33 (0, 0)) := setRow_heap _ _ _ _ _ _ Q4.out
      rw [hx5] at R5
      have UX5 := UW.setRowNew HG2.out EV
      rw [hx5] at UX5
      have HX5 := Lib.hid hx5
      have HR5 := Lib.hid R5
      have HUX5 := Lib.hid UX5
      clear HY UW UX4 hx5 R5 UX5 hys
      go_wp2_with (first | (refine wpList_load_row rfl 33 _ rfl gE rfl _ EV _ _ E4.out Tryz.underlying33 rfl HEVI.out ?_) | (refine wpList_store_rowAs rfl 33 _ _ rfl g2 EV rfl rfl _ _ Q4.out HEVI.out HEVZ.out HEVO.out x5 HX5.out ?_))
      refine bodyPost_ret (results_row_tmp rfl _ _ g2 _ EV _ _ rfl HR5.out Tryz.underlying33 rfl HEVI.out) rfl ?_
      exact .inl ⟨ev, HIS, by rw [HEVE.out]; rfl, HUX5.out⟩
    · have i1 : ¬ (s.size : Int) < (s.size : Int) := by omega
      go_wp2_with fail
      clear hw4 hgN
      refine wp_loop_rounds 9 ?_
      rw [rounds_succ]
      have cp := HKP.out w4 U0.out 0 p0 rfl
      go_wp2_with fail
      refine (int11_any p0 _ (HZ.out p0 (by simp))).mono ?_
      rintro e y0 ⟨m0, ok, HO, hm0, rfl, hq⟩
      have I0 := Lib.hid hm0
      obtain ⟨hm0a, hm0b⟩ := hm0
      have u1 := U0.out.trans hq
      have Y0 := Lib.hid (heap_upd N0.out hq)
      clear cp hq N0 U0
      cases ok
      · have F1 := Lib.hid u1
        clear u1
        have HNO : Hid (∀ ev, ¬ IsCode (bs s) ev) := fun ev h => HO.out.2.2 rfl ⟨_, h.1.2.2.2.2.2.2.1, (HC.out ev h).1⟩
        have RX1 := Lib.hid (heap_upd R1.out F1.out)
        have UX1 := Lib.hid (UD.out.trans F1.out)
        obtain ⟨X, HX, RX, UX⟩ := ev_row w g2 ZE y0 HG2.out RX1.out UX1.out
        go_wp2_with (first | (refine wpList_buildTo rfl 33 #[] rfl _ rfl ZE (Eq.trans (congrArg (fun z => Tryz.prog.built 33 z) (by kernel_rfl)) HZB.out) ?_) | (refine wpList_store_rowAs rfl 33 _ _ rfl g2 ZE rfl rfl _ _ RX1.out HZEI.out HZEZ.out HZEO.out X HX.out ?_))
        refine bodyPost_ret (results_row_tmp rfl _ _ g2 _ ZE _ _ rfl RX.out Tryz.underlying33 rfl HZEI.out) rfl ?_
        exact .inr ⟨ZE, HZEE, HNO, rfl, UX.out⟩
      have M0 : Hid (bs p0 = Lib.itoa m0) := HO.out.2.1 rfl
      have cN := (cell_of_row _ gN 0 _ _ _ Y0.out).trans (show _ = some (Value.int .i64 0) from rfl)
      have fN := frozen_of_row _ gN 0 _ _ Y0.out
      obtain ⟨z0, hz⟩ : ∃ Z, y0.setCell ⟨gN, 0, none⟩ (.int .i64 m0) = Z := ⟨_, rfl⟩
      have N1 : Hid (z0.heap[gN]? = some (.cells #[.int .i64 m0, .int .i64 0, .int .i64 0, .int .i64 0, .int .i64 0, .int .i64 0, .int .i64 0, .int .i64 0, .int .i64 0] 156 (0, 0))) := (congrArg (fun W : World => W.heap[gN]?) hz.symm).trans (heap_setCell_same y0 gN 0 _ _ (.int .i64 m0) Y0.out)
      have U1 : Hid (Upd [] [] wr z0) := by have h := u1.setNew (p := ⟨gN, 0, none⟩) HGN.out (.int .i64 m0); rw [hz] at h; exact h
      clear HO Y0 u1
      go_wp2_with fail
      clear cN fN hz hm0a hm0b
      rw [rounds_succ]
      have cp := HKP.out z0 U1.out 1 p1 rfl
      go_wp2_with fail
      refine (int11_any p1 _ (HZ.out p1 (by simp))).mono ?_
      rintro e y1 ⟨m1, ok, HO, hm1, rfl, hq⟩
      have I1 := Lib.hid hm1
      obtain ⟨hm1a, hm1b⟩ := hm1
      have u2 := U1.out.trans hq
      have Y1 := Lib.hid (heap_upd N1.out hq)
      clear cp hq N1 U1
      cases ok
      · have F1 := Lib.hid u2
        clear u2
        have HNO : Hid (∀ ev, ¬ IsCode (bs s) ev) := fun ev h => HO.out.2.2 rfl ⟨_, h.1.2.2.2.2.2.2.2, (HC.out ev h).2.1⟩
        have RX1 := Lib.hid (heap_upd R1.out F1.out)
        have UX1 := Lib.hid (UD.out.trans F1.out)
        obtain ⟨X, HX, RX, UX⟩ := ev_row w g2 ZE y1 HG2.out RX1.out UX1.out
        go_wp2_with (first | (refine wpList_buildTo rfl 33 #[] rfl _ rfl ZE (Eq.trans (congrArg (fun z => Tryz.prog.built 33 z) (by kernel_rfl)) HZB.out) ?_) | (refine wpList_store_rowAs rfl 33 _ _ rfl g2 ZE rfl rfl _ _ RX1.out HZEI.out HZEZ.out HZEO.out X HX.out ?_))
        refine bodyPost_ret (results_row_tmp rfl _ _ g2 _ ZE _ _ rfl RX.out Tryz.underlying33 rfl HZEI.out) rfl ?_
        exact .inr ⟨ZE, HZEE, HNO, rfl, UX.out⟩
      have M1 : Hid (bs p1 = Lib.itoa m1) := HO.out.2.1 rfl
      have cN := (cell_of_row _ gN 1 _ _ _ Y1.out).trans (show _ = some (Value.int .i64 0) from rfl)
      have fN := frozen_of_row _ gN 1 _ _ Y1.out
      obtain ⟨z1, hz⟩ : ∃ Z, y1.setCell ⟨gN, 1, none⟩ (.int .i64 m1) = Z := ⟨_, rfl⟩
      have N2 : Hid (z1.heap[gN]? = some (.cells #[.int .i64 m0, .int .i64 m1, .int .i64 0, .int .i64 0, .int .i64 0, .int .i64 0, .int .i64 0, .int .i64 0, .int .i64 0] 156 (0, 0))) := (congrArg (fun W : World => W.heap[gN]?) hz.symm).trans (heap_setCell_same y1 gN 1 _ _ (.int .i64 m1) Y1.out)
      have U2 : Hid (Upd [] [] wr z1) := by have h := u2.setNew (p := ⟨gN, 1, none⟩) HGN.out (.int .i64 m1); rw [hz] at h; exact h
      clear HO Y1 u2
      go_wp2_with fail
      clear cN fN hz hm1a hm1b
      rw [rounds_succ]
      go_wp2_with fail
      rw [rounds_succ]
      have cp := HKP.out z1 U2.out 3 p3 rfl
      go_wp2_with fail
      refine (int11_any p3 _ (HZ.out p3 (by simp))).mono ?_
      rintro e y3 ⟨m3, ok, HO, hm3, rfl, hq⟩
      have I3 := Lib.hid hm3
      obtain ⟨hm3a, hm3b⟩ := hm3
      have u4 := U2.out.trans hq
      have Y3 := Lib.hid (heap_upd N2.out hq)
      clear cp hq N2 U2
      cases ok
      · have F1 := Lib.hid u4
        clear u4
        have HNO : Hid (∀ ev, ¬ IsCode (bs s) ev) := fun ev h => HO.out.2.2 rfl ⟨_, h.1.1, (HC.out ev h).2.2.1⟩
        have RX1 := Lib.hid (heap_upd R1.out F1.out)
        have UX1 := Lib.hid (UD.out.trans F1.out)
        obtain ⟨X, HX, RX, UX⟩ := ev_row w g2 ZE y3 HG2.out RX1.out UX1.out
        go_wp2_with (first | (refine wpList_buildTo rfl 33 #[] rfl _ rfl ZE (Eq.trans (congrArg (fun z => Tryz.prog.built 33 z) (by kernel_rfl)) HZB.out) ?_) | (refine wpList_store_rowAs rfl 33 _ _ rfl g2 ZE rfl rfl _ _ RX1.out HZEI.out HZEZ.out HZEO.out X HX.out ?_))
        refine bodyPost_ret (results_row_tmp rfl _ _ g2 _ ZE _ _ rfl RX.out Tryz.underlying33 rfl HZEI.out) rfl ?_
        exact .inr ⟨ZE, HZEE, HNO, rfl, UX.out⟩
      have M3 : Hid (bs p3 = Lib.itoa m3) := HO.out.2.1 rfl
      have cN := (cell_of_row _ gN 3 _ _ _ Y3.out).trans (show _ = some (Value.int .i64 0) from rfl)
      have fN := frozen_of_row _ gN 3 _ _ Y3.out
      obtain ⟨z3, hz⟩ : ∃ Z, y3.setCell ⟨gN, 3, none⟩ (.int .i64 m3) = Z := ⟨_, rfl⟩
      have N4 : Hid (z3.heap[gN]? = some (.cells #[.int .i64 m0, .int .i64 m1, .int .i64 0, .int .i64 m3, .int .i64 0, .int .i64 0, .int .i64 0, .int .i64 0, .int .i64 0] 156 (0, 0))) := (congrArg (fun W : World => W.heap[gN]?) hz.symm).trans (heap_setCell_same y3 gN 3 _ _ (.int .i64 m3) Y3.out)
      have U4 : Hid (Upd [] [] wr z3) := by have h := u4.setNew (p := ⟨gN, 3, none⟩) HGN.out (.int .i64 m3); rw [hz] at h; exact h
      clear HO Y3 u4
      go_wp2_with fail
      clear cN fN hz hm3a hm3b
      rw [rounds_succ]
      have cp := HKP.out z3 U4.out 4 p4 rfl
      go_wp2_with fail
      refine (int11_any p4 _ (HZ.out p4 (by simp))).mono ?_
      rintro e y4 ⟨m4, ok, HO, hm4, rfl, hq⟩
      have I4 := Lib.hid hm4
      obtain ⟨hm4a, hm4b⟩ := hm4
      have u5 := U4.out.trans hq
      have Y4 := Lib.hid (heap_upd N4.out hq)
      clear cp hq N4 U4
      cases ok
      · have F1 := Lib.hid u5
        clear u5
        have HNO : Hid (∀ ev, ¬ IsCode (bs s) ev) := fun ev h => HO.out.2.2 rfl ⟨_, h.1.2.1, (HC.out ev h).2.2.2.1⟩
        have RX1 := Lib.hid (heap_upd R1.out F1.out)
        have UX1 := Lib.hid (UD.out.trans F1.out)
        obtain ⟨X, HX, RX, UX⟩ := ev_row w g2 ZE y4 HG2.out RX1.out UX1.out
        go_wp2_with (first | (refine wpList_buildTo rfl 33 #[] rfl _ rfl ZE (Eq.trans (congrArg (fun z => Tryz.prog.built 33 z) (by kernel_rfl)) HZB.out) ?_) | (refine wpList_store_rowAs rfl 33 _ _ rfl g2 ZE rfl rfl _ _ RX1.out HZEI.out HZEZ.out HZEO.out X HX.out ?_))
        refine bodyPost_ret (results_row_tmp rfl _ _ g2 _ ZE _ _ rfl RX.out Tryz.underlying33 rfl HZEI.out) rfl ?_
        exact .inr ⟨ZE, HZEE, HNO, rfl, UX.out⟩
      have M4 : Hid (bs p4 = Lib.itoa m4) := HO.out.2.1 rfl
      have cN := (cell_of_row _ gN 4 _ _ _ Y4.out).trans (show _ = some (Value.int .i64 0) from rfl)
      have fN := frozen_of_row _ gN 4 _ _ Y4.out
      obtain ⟨z4, hz⟩ : ∃ Z, y4.setCell ⟨gN, 4, none⟩ (.int .i64 m4) = Z := ⟨_, rfl⟩
      have N5 : Hid (z4.heap[gN]? = some (.cells #[.int .i64 m0, .int .i64 m1, .int .i64 0, .int .i64 m3, .int .i64 m4, .int .i64 0, .int .i64 0, .int .i64 0, .int .i64 0] 156 (0, 0))) := (congrArg (fun W : World => W.heap[gN]?) hz.symm).trans (heap_setCell_same y4 gN 4 _ _ (.int .i64 m4) Y4.out)
      have U5 : Hid (Upd [] [] wr z4) := by have h := u5.setNew (p := ⟨gN, 4, none⟩) HGN.out (.int .i64 m4); rw [hz] at h; exact h
      clear HO Y4 u5
      go_wp2_with fail
      clear cN fN hz hm4a hm4b
      rw [rounds_succ]
      have cp := HKP.out z4 U5.out 5 p5 rfl
      go_wp2_with fail
      refine (int11_any p5 _ (HZ.out p5 (by simp))).mono ?_
      rintro e y5 ⟨m5, ok, HO, hm5, rfl, hq⟩
      have I5 := Lib.hid hm5
      obtain ⟨hm5a, hm5b⟩ := hm5
      have u6 := U5.out.trans hq
      have Y5 := Lib.hid (heap_upd N5.out hq)
      clear cp hq N5 U5
      cases ok
      · have F1 := Lib.hid u6
        clear u6
        have HNO : Hid (∀ ev, ¬ IsCode (bs s) ev) := fun ev h => HO.out.2.2 rfl ⟨_, h.1.2.2.1, (HC.out ev h).2.2.2.2.1⟩
        have RX1 := Lib.hid (heap_upd R1.out F1.out)
        have UX1 := Lib.hid (UD.out.trans F1.out)
        obtain ⟨X, HX, RX, UX⟩ := ev_row w g2 ZE y5 HG2.out RX1.out UX1.out
        go_wp2_with (first | (refine wpList_buildTo rfl 33 #[] rfl _ rfl ZE (Eq.trans (congrArg (fun z => Tryz.prog.built 33 z) (by kernel_rfl)) HZB.out) ?_) | (refine wpList_store_rowAs rfl 33 _ _ rfl g2 ZE rfl rfl _ _ RX1.out HZEI.out HZEZ.out HZEO.out X HX.out ?_))
        refine bodyPost_ret (results_row_tmp rfl _ _ g2 _ ZE _ _ rfl RX.out Tryz.underlying33 rfl HZEI.out) rfl ?_
        exact .inr ⟨ZE, HZEE, HNO, rfl, UX.out⟩
      have M5 : Hid (bs p5 = Lib.itoa m5) := HO.out.2.1 rfl
      have cN := (cell_of_row _ gN 5 _ _ _ Y5.out).trans (show _ = some (Value.int .i64 0) from rfl)
      have fN := frozen_of_row _ gN 5 _ _ Y5.out
      obtain ⟨z5, hz⟩ : ∃ Z, y5.setCell ⟨gN, 5, none⟩ (.int .i64 m5) = Z := ⟨_, rfl⟩
      have N6 : Hid (z5.heap[gN]? = some (.cells #[.int .i64 m0, .int .i64 m1, .int .i64 0, .int .i64 m3, .int .i64 m4, .int .i64 m5, .int .i64 0, .int .i64 0, .int .i64 0] 156 (0, 0))) := (congrArg (fun W : World => W.heap[gN]?) hz.symm).trans (heap_setCell_same y5 gN 5 _ _ (.int .i64 m5) Y5.out)
      have U6 : Hid (Upd [] [] wr z5) := by have h := u6.setNew (p := ⟨gN, 5, none⟩) HGN.out (.int .i64 m5); rw [hz] at h; exact h
      clear HO Y5 u6
      go_wp2_with fail
      clear cN fN hz hm5a hm5b
      rw [rounds_succ]
      have cp := HKP.out z5 U6.out 6 p6 rfl
      go_wp2_with fail
      refine (int11_any p6 _ (HZ.out p6 (by simp))).mono ?_
      rintro e y6 ⟨m6, ok, HO, hm6, rfl, hq⟩
      have I6 := Lib.hid hm6
      obtain ⟨hm6a, hm6b⟩ := hm6
      have u7 := U6.out.trans hq
      have Y6 := Lib.hid (heap_upd N6.out hq)
      clear cp hq N6 U6
      cases ok
      · have F1 := Lib.hid u7
        clear u7
        have HNO : Hid (∀ ev, ¬ IsCode (bs s) ev) := fun ev h => HO.out.2.2 rfl ⟨_, h.1.2.2.2.1, (HC.out ev h).2.2.2.2.2.1⟩
        have RX1 := Lib.hid (heap_upd R1.out F1.out)
        have UX1 := Lib.hid (UD.out.trans F1.out)
        obtain ⟨X, HX, RX, UX⟩ := ev_row w g2 ZE y6 HG2.out RX1.out UX1.out
        go_wp2_with (first | (refine wpList_buildTo rfl 33 #[] rfl _ rfl ZE (Eq.trans (congrArg (fun z => Tryz.prog.built 33 z) (by kernel_rfl)) HZB.out) ?_) | (refine wpList_store_rowAs rfl 33 _ _ rfl g2 ZE rfl rfl _ _ RX1.out HZEI.out HZEZ.out HZEO.out X HX.out ?_))
        refine bodyPost_ret (results_row_tmp rfl _ _ g2 _ ZE _ _ rfl RX.out Tryz.underlying33 rfl HZEI.out) rfl ?_
        exact .inr ⟨ZE, HZEE, HNO, rfl, UX.out⟩
      have M6 : Hid (bs p6 = Lib.itoa m6) := HO.out.2.1 rfl
      have cN := (cell_of_row _ gN 6 _ _ _ Y6.out).trans (show _ = some (Value.int .i64 0) from rfl)
      have fN := frozen_of_row _ gN 6 _ _ Y6.out
      obtain ⟨z6, hz⟩ : ∃ Z, y6.setCell ⟨gN, 6, none⟩ (.int .i64 m6) = Z := ⟨_, rfl⟩
      have N7 : Hid (z6.heap[gN]? = some (.cells #[.int .i64 m0, .int .i64 m1, .int .i64 0, .int .i64 m3, .int .i64 m4, .int .i64 m5, .int .i64 m6, .int .i64 0, .int .i64 0] 156 (0, 0))) := (congrArg (fun W : World => W.heap[gN]?) hz.symm).trans (heap_setCell_same y6 gN 6 _ _ (.int .i64 m6) Y6.out)
      have U7 : Hid (Upd [] [] wr z6) := by have h := u7.setNew (p := ⟨gN, 6, none⟩) HGN.out (.int .i64 m6); rw [hz] at h; exact h
      clear HO Y6 u7
      go_wp2_with fail
      clear cN fN hz hm6a hm6b
      rw [rounds_succ]
      have cp := HKP.out z6 U7.out 7 p7 rfl
      go_wp2_with fail
      refine (int11_any p7 _ (HZ.out p7 (by simp))).mono ?_
      rintro e y7 ⟨m7, ok, HO, hm7, rfl, hq⟩
      have I7 := Lib.hid hm7
      obtain ⟨hm7a, hm7b⟩ := hm7
      have u8 := U7.out.trans hq
      have Y7 := Lib.hid (heap_upd N7.out hq)
      clear cp hq N7 U7
      cases ok
      · have F1 := Lib.hid u8
        clear u8
        have HNO : Hid (∀ ev, ¬ IsCode (bs s) ev) := fun ev h => HO.out.2.2 rfl ⟨_, h.1.2.2.2.2.1, (HC.out ev h).2.2.2.2.2.2.1⟩
        have RX1 := Lib.hid (heap_upd R1.out F1.out)
        have UX1 := Lib.hid (UD.out.trans F1.out)
        obtain ⟨X, HX, RX, UX⟩ := ev_row w g2 ZE y7 HG2.out RX1.out UX1.out
        go_wp2_with (first | (refine wpList_buildTo rfl 33 #[] rfl _ rfl ZE (Eq.trans (congrArg (fun z => Tryz.prog.built 33 z) (by kernel_rfl)) HZB.out) ?_) | (refine wpList_store_rowAs rfl 33 _ _ rfl g2 ZE rfl rfl _ _ RX1.out HZEI.out HZEZ.out HZEO.out X HX.out ?_))
        refine bodyPost_ret (results_row_tmp rfl _ _ g2 _ ZE _ _ rfl RX.out Tryz.underlying33 rfl HZEI.out) rfl ?_
        exact .inr ⟨ZE, HZEE, HNO, rfl, UX.out⟩
      have M7 : Hid (bs p7 = Lib.itoa m7) := HO.out.2.1 rfl
      have cN := (cell_of_row _ gN 7 _ _ _ Y7.out).trans (show _ = some (Value.int .i64 0) from rfl)
      have fN := frozen_of_row _ gN 7 _ _ Y7.out
      obtain ⟨z7, hz⟩ : ∃ Z, y7.setCell ⟨gN, 7, none⟩ (.int .i64 m7) = Z := ⟨_, rfl⟩
      have N8 : Hid (z7.heap[gN]? = some (.cells #[.int .i64 m0, .int .i64 m1, .int .i64 0, .int .i64 m3, .int .i64 m4, .int .i64 m5, .int .i64 m6, .int .i64 m7, .int .i64 0] 156 (0, 0))) := (congrArg (fun W : World => W.heap[gN]?) hz.symm).trans (heap_setCell_same y7 gN 7 _ _ (.int .i64 m7) Y7.out)
      have U8 : Hid (Upd [] [] wr z7) := by have h := u8.setNew (p := ⟨gN, 7, none⟩) HGN.out (.int .i64 m7); rw [hz] at h; exact h
      clear HO Y7 u8
      go_wp2_with fail
      clear cN fN hz hm7a hm7b
      rw [rounds_succ]
      have cp8 := HKP.out z7 U8.out 8 p8 rfl
      go_wp2_with fail
      refine (rhexRead_any p8 z7).mono ?_
      rintro e y8 ⟨h', ok, HO, rfl, hq⟩
      obtain ⟨ZH, hZH⟩ : ∃ ZH, ZH = (byteVals h').toArray := ⟨_, rfl⟩
      rw [← hZH]
      have hl32 : h'.length = 32 := HO.out.1
      have HZI : Hid ((Tryz.prog.info? 29).map (·.size) = some ZH.size) := by rw [hZH]; exact hashInfo hl32
      have HZO : Hid (ZH.all (·.oneCell') = true) := by rw [hZH]; exact hashOne _
      have HZS : Hid (ZH.size = 32) := by show _ = _; rw [hZH]; simp [byteVals, hl32]
      have HZE := Lib.hid hZH
      have HL32 := Lib.hid hl32
      clear hl32 hZH cp8
      obtain ⟨y9, Z9, W9, R9, hq9⟩ := blk_new y8 29 (#[.int .u8 0, .int .u8 0, .int .u8 0, .int .u8 0, .int .u8 0, .int .u8 0, .int .u8 0, .int .u8 0, .int .u8 0, .int .u8 0, .int .u8 0, .int .u8 0, .int .u8 0, .int .u8 0, .int .u8 0, .int .u8 0, .int .u8 0, .int .u8 0, .int .u8 0, .int .u8 0, .int .u8 0, .int .u8 0, .int .u8 0, .int .u8 0, .int .u8 0, .int .u8 0, .int .u8 0, .int .u8 0, .int .u8 0, .int .u8 0, .int .u8 0, .int .u8 0] : Array Value) ZH
      have HZZ : Hid (((#[.int .u8 0, .int .u8 0, .int .u8 0, .int .u8 0, .int .u8 0, .int .u8 0, .int .u8 0, .int .u8 0, .int .u8 0, .int .u8 0, .int .u8 0, .int .u8 0, .int .u8 0, .int .u8 0, .int .u8 0, .int .u8 0, .int .u8 0, .int .u8 0, .int .u8 0, .int .u8 0, .int .u8 0, .int .u8 0, .int .u8 0, .int .u8 0, .int .u8 0, .int .u8 0, .int .u8 0, .int .u8 0, .int .u8 0, .int .u8 0, .int .u8 0, .int .u8 0] : Array Value) : Array Value).size = ZH.size) := by show _ = _; rw [HZS.out]; rfl
      obtain ⟨gH, hgH⟩ : ∃ g, y8.heap.size = g := ⟨_, rfl⟩
      rw [hgH] at R9 Z9 W9
      have U9 := Lib.hid ((U8.out.trans hq).trans hq9)
      have N9 := Lib.hid (heap_upd (heap_upd N8.out hq) hq9)
      have M8 : Hid (ok = true → bs p8 = hexL h') := HO.out.2.1
      have G8 : Hid (ok = false → ∀ ev, ¬ IsCode (bs s) ev) := fun hf ev h => (HO.out.2.2 hf).2 ev.p h.1.2.2.2.2.2.1 (HC.out ev h).2.2.2.2.2.2.2.1
      have hDz : (s.extract fr s.size).size ≤ 1999990 := by rw [ByteArray.size_extract]; omega
      have HDZ := Lib.hid hDz
      clear HO hq hq9 N8 U8 hDz
      go_wp2_with (first | (refine wpList_store_rowAs rfl 29 _ _ rfl gH ZH rfl rfl _ _ Z9.out HZI.out HZZ.out HZO.out y9 W9.out ?_))
      refine (cut30_any _ HDZ.out y9).mono ?_
      rintro e x1 ⟨t, r, fine, HO, ht, hr, rfl, hq⟩
      rw [bs_right] at HO
      have UX := Lib.hid (U9.out.trans hq)
      have H1 := Lib.hid (heap_upd R9.out hq)
      have NX := Lib.hid (heap_upd N9.out hq)
      have htz : t.size ≤ 1999990 := Nat.le_trans ht HDZ.out
      clear hq U9 R9 N9 Z9 W9 ht hr hgH
      obtain ⟨ev, hev⟩ : ∃ ev : EvG, ev = ⟨m3, m4, m5, m6, m7, t, h', m0, m1⟩ := ⟨_, rfl⟩
      have HOKV : Hid (ev.ok) := by rw [hev]; exact ⟨I3.out, I4.out, I5.out, I6.out, I7.out, HL32.out, I0.out, I1.out⟩
      have HXS : Hid (ev.x.size ≤ 10000000) := by rw [hev]; exact Nat.le_trans htz (by omega)
      have hp32 : ev.p.length = 32 := HOKV.out.2.2.2.2.2.1
      obtain ⟨EV, hEV⟩ : ∃ EV, EV = ev.V.toArray := ⟨_, rfl⟩
      have HEVI : Hid ((Tryz.prog.info? 33).map (·.size) = some EV.size) := by rw [hEV]; exact EvG.info hp32
      have HEVO : Hid (EV.all (·.oneCell') = true) := by rw [hEV]; exact ev.one
      have HEVZ : Hid (evZ.toArray.size = EV.size) := by show _ = _; rw [hEV, evZ_len]; exact (EvG.V_len hp32).symm
      have HBD : Hid (Tryz.prog.built 33 [(0, .int .i64 m3), (1, .int .i64 m4), (2, .int .i64 m5), (3, .int .i64 m6), (4, .int .i64 m7), (5, .string t), (6, .agg ZH), (7, .agg #[.int .i64 m0, .int .i64 m1])] = some EV) := by
        show _ = _
        rw [hEV, hev, HZE.out]
        exact built_event _ _ _ _ _ _ _ _ _ HL32.out
      have HCODE : Hid (ok = true → fine = true → ∀ ev', IsCode (bs s) ev' → bs s = ev.code) := by
        intro ho hf ev' h
        rw [hev]
        obtain ⟨c0, c1, c3, c4, c5, c6, c7, c8, c9⟩ := HC.out ev' h
        have hw := HO.out.1 hf
        rw [c9] at hw
        have hxz : ev'.x.size ≤ 1999990 := by
          have := h.size
          rw [bs_length] at this
          omega
        have e2 := word_inj (a := bs ev'.x) (b := bs t) (A := []) (B := bs r) (by rw [bs_length]; omega) (by rw [bs_length]; omega) (by rw [List.append_nil]; exact hw)
        exact h.2.trans (code_same (c0.symm.trans M0.out) (c1.symm.trans M1.out) (c3.symm.trans M3.out) (c4.symm.trans M4.out) (c5.symm.trans M5.out) (c6.symm.trans M6.out) (c7.symm.trans M7.out) (c8.symm.trans (M8.out ho)) (by rw [e2.1]))
      have GC : Hid (fine = false → ∀ ev, ¬ IsCode (bs s) ev) := by
        intro hf ev' h
        have hxz : ev'.x.size ≤ 1999990 := by
          have := h.size
          rw [bs_length] at this
          omega
        exact HO.out.2 hf (bs ev'.x) [] (by rw [bs_length]; omega) (by rw [List.append_nil]; exact (HC.out ev' h).2.2.2.2.2.2.2.2)
      have HEVE := Lib.hid hEV
      have HT := Lib.hid (fun W => encode30_any ev HOKV.out HXS.out W)
      have n0 := (cell_of_row _ gN 0 _ _ _ NX.out).trans (show _ = some (Value.int .i64 m0) from rfl)
      have n1 := (cell_of_row _ gN 1 _ _ _ NX.out).trans (show _ = some (Value.int .i64 m1) from rfl)
      have n3 := (cell_of_row _ gN 3 _ _ _ NX.out).trans (show _ = some (Value.int .i64 m3) from rfl)
      have n4 := (cell_of_row _ gN 4 _ _ _ NX.out).trans (show _ = some (Value.int .i64 m4) from rfl)
      have n5 := (cell_of_row _ gN 5 _ _ _ NX.out).trans (show _ = some (Value.int .i64 m5) from rfl)
      have n6 := (cell_of_row _ gN 6 _ _ _ NX.out).trans (show _ = some (Value.int .i64 m6) from rfl)
      have n7 := (cell_of_row _ gN 7 _ _ _ NX.out).trans (show _ = some (Value.int .i64 m7) from rfl)
      obtain ⟨x2, ZX, WX, RE, hqx⟩ := blk_new x1 33 #[.int .i64 0, .int .i64 0, .int .i64 0, .int .i64 0, .int .i64 0, .string ⟨#[]⟩, .int .u8 0, .int .u8 0, .int .u8 0, .int .u8 0, .int .u8 0, .int .u8 0, .int .u8 0, .int .u8 0, .int .u8 0, .int .u8 0, .int .u8 0, .int .u8 0, .int .u8 0, .int .u8 0, .int .u8 0, .int .u8 0, .int .u8 0, .int .u8 0, .int .u8 0, .int .u8 0, .int .u8 0, .int .u8 0, .int .u8 0, .int .u8 0, .int .u8 0, .int .u8 0, .int .u8 0, .int .u8 0, .int .u8 0, .int .u8 0, .int .u8 0, .int .u8 0, .int .i64 0, .int .i64 0] EV
      have HEVZ2 : Hid ((#[.int .i64 0, .int .i64 0, .int .i64 0, .int .i64 0, .int .i64 0, .string ⟨#[]⟩, .int .u8 0, .int .u8 0, .int .u8 0, .int .u8 0, .int .u8 0, .int .u8 0, .int .u8 0, .int .u8 0, .int .u8 0, .int .u8 0, .int .u8 0, .int .u8 0, .int .u8 0, .int .u8 0, .int .u8 0, .int .u8 0, .int .u8 0, .int .u8 0, .int .u8 0, .int .u8 0, .int .u8 0, .int .u8 0, .int .u8 0, .int .u8 0, .int .u8 0, .int .u8 0, .int .u8 0, .int .u8 0, .int .u8 0, .int .u8 0, .int .u8 0, .int .u8 0, .int .i64 0, .int .i64 0] : Array Value).size = EV.size) := by show _ = _; rw [zero_ev]; exact HEVZ.out
      obtain ⟨gE, hgE⟩ : ∃ g, x1.heap.size = g := ⟨_, rfl⟩
      rw [hgE] at ZX WX RE
      have UE := Lib.hid (UX.out.trans hqx)
      clear hEV hev hp32 hqx UX M0 M1 M3 M4 M5 M6 M7 M8 HO HC NX
      go_upto_region 23 with (first | (refine wpList_load_row rfl 29 _ rfl gH rfl _ ZH _ _ H1.out Tryz.underlying29 rfl HZI.out ?_) | (refine wpList_buildTo rfl 33 _ rfl _ rfl EV (Eq.trans (congrArg (fun z => Tryz.prog.built 33 z) (by kernel_rfl)) HBD.out) ?_) | (refine wpList_store_rowAs rfl 33 _ _ rfl gE EV rfl rfl _ _ ZX.out HEVI.out HEVZ2.out HEVO.out x2 WX.out ?_))
      clear n0 n1 n3 n4 n5 n6 n7 ZX WX H1 hgE
      cases ok
      · clear HT RE
        have HNO : Hid (∀ ev, ¬ IsCode (bs s) ev) := G8.out rfl
        have RX1 := Lib.hid (heap_upd R1.out UE.out)
        have UX1 := Lib.hid (UD.out.trans UE.out)
        obtain ⟨X, HX, RX, UX⟩ := ev_row w g2 ZE x2 HG2.out RX1.out UX1.out
        go_wp2_with (first | (refine wpList_buildTo rfl 33 #[] rfl _ rfl ZE (Eq.trans (congrArg (fun z => Tryz.prog.built 33 z) (by kernel_rfl)) HZB.out) ?_) | (refine wpList_store_rowAs rfl 33 _ _ rfl g2 ZE rfl rfl _ _ RX1.out HZEI.out HZEZ.out HZEO.out X HX.out ?_))
        refine bodyPost_ret (results_row_tmp rfl _ _ g2 _ ZE _ _ rfl RX.out Tryz.underlying33 rfl HZEI.out) rfl ?_
        exact .inr ⟨ZE, HZEE, HNO, rfl, UX.out⟩
      cases fine
      · clear HT RE
        have HNO : Hid (∀ ev, ¬ IsCode (bs s) ev) := GC.out rfl
        have RX1 := Lib.hid (heap_upd R1.out UE.out)
        have UX1 := Lib.hid (UD.out.trans UE.out)
        obtain ⟨X, HX, RX, UX⟩ := ev_row w g2 ZE x2 HG2.out RX1.out UX1.out
        go_wp2_with (first | (refine wpList_buildTo rfl 33 #[] rfl _ rfl ZE (Eq.trans (congrArg (fun z => Tryz.prog.built 33 z) (by kernel_rfl)) HZB.out) ?_) | (refine wpList_store_rowAs rfl 33 _ _ rfl g2 ZE rfl rfl _ _ RX1.out HZEI.out HZEZ.out HZEO.out X HX.out ?_))
        refine bodyPost_ret (results_row_tmp rfl _ _ g2 _ ZE _ _ rfl RX.out Tryz.underlying33 rfl HZEI.out) rfl ?_
        exact .inr ⟨ZE, HZEE, HNO, rfl, UX.out⟩
      go_wp2_with (first | (refine wpList_load_rowG (by rfl) 33 _ rfl gE rfl _ EV _ _ RE.out Tryz.underlying33 rfl HEVI.out ?_))
      rw [HEVE.out]
      refine (HT.out x2).mono ?_
      rintro e x4 ⟨y, HY, _, rfl, hq⟩
      have E4 := Lib.hid (heap_upd RE.out hq)
      have UX4 := Lib.hid (UE.out.trans hq)
      clear hq RE UE
      by_cases hys : y = s
      case neg =>
        have g1 : (y.toList == s.toList) = false := by rw [← Bool.not_eq_true]; exact fun h => hys (bs_inj (eq_beq.1 h))
        clear E4
        have HNO : Hid (∀ ev, ¬ IsCode (bs s) ev) := fun ev' h => hys (bs_inj (HY.out.trans (HCODE.out (by first | rfl | trivial) (by first | rfl | trivial) ev' h).symm))
        have RX1 := Lib.hid (heap_upd R1.out UX4.out)
        have UX1 := Lib.hid (UD.out.trans UX4.out)
        obtain ⟨X, HX, RX, UX⟩ := ev_row w g2 ZE x4 HG2.out RX1.out UX1.out
        go_wp2_with (first | (refine wpList_buildTo rfl 33 #[] rfl _ rfl ZE (Eq.trans (congrArg (fun z => Tryz.prog.built 33 z) (by kernel_rfl)) HZB.out) ?_) | (refine wpList_store_rowAs rfl 33 _ _ rfl g2 ZE rfl rfl _ _ RX1.out HZEI.out HZEZ.out HZEO.out X HX.out ?_))
        refine bodyPost_ret (results_row_tmp rfl _ _ g2 _ ZE _ _ rfl RX.out Tryz.underlying33 rfl HZEI.out) rfl ?_
        exact .inr ⟨ZE, HZEE, HNO, rfl, UX.out⟩
      have g1 : (y.toList == s.toList) = true := eq_beq.2 (by rw [hys])
      have HIS : Hid (IsCode (bs s) ev) := ⟨HOKV.out, by rw [← hys]; exact HY.out⟩
      have Q4 := Lib.hid (heap_upd R1.out UX4.out)
      have UW := UD.out.trans UX4.out
      obtain ⟨x5, hx5⟩ : ∃ X, x4.setRow g2 EV = X := ⟨_, rfl⟩
      have R5 : (x4.setRow g2 EV).heap[g2]? = some (.cells EV 33 (0, 0)) := setRow_heap _ _ _ _ _ _ Q4.out
      rw [hx5] at R5
      have UX5 := UW.setRowNew HG2.out EV
      rw [hx5] at UX5
      have HX5 := Lib.hid hx5
      have HR5 := Lib.hid R5
      have HUX5 := Lib.hid UX5
      clear HY UW UX4 hx5 R5 UX5 hys
      go_wp2_with (first | (refine wpList_load_row rfl 33 _ rfl gE rfl _ EV _ _ E4.out Tryz.underlying33 rfl HEVI.out ?_) | (refine wpList_store_rowAs rfl 33 _ _ rfl g2 EV rfl rfl _ _ Q4.out HEVI.out HEVZ.out HEVO.out x5 HX5.out ?_))
      refine bodyPost_ret (results_row_tmp rfl _ _ g2 _ EV _ _ rfl HR5.out Tryz.underlying33 rfl HEVI.out) rfl ?_
      exact .inl ⟨ev, HIS, by rw [HEVE.out]; rfl, HUX5.out⟩
end Go.Proofs.YtcimcodljjcmgaaGreatDoor
