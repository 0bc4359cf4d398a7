/- The walk of EntrySeals. -/
import Derived.Test.YtmnmhhbldbdpfaaGreatDoorXSealG
import Derived.Test.YtmnmhhbldbdpfaaGreatDoorGK
import Derived.Test.YtmnmhhbldbdpfaaGreatDoorXClash
namespace Go.Proofs.YtmnmhhbldbdpfaaGreatDoor
open Go.RowKit
set_option maxRecDepth 100000

/-- A person. -/
structure Psn where
  a : Int
  b : Int
  c : Int
  l : List Int
  ao : Option Addr
  cap : Nat
  s : ByteArray
def Psn.V (p : Psn) : Array Value := psnV p.a p.b p.c (.slice p.ao p.l.length p.cap) p.s
def Psn.ok (w : World) (p : Psn) : Prop := i64in p.a ∧ i64in p.b ∧ i64in p.c ∧ p.l.length ≤ p.cap ∧ p.cap ≤ 9223372036854775807 ∧ IntsSl w p.ao p.l ∧ p.s.size ≤ 9223372036854775807
theorem Psn.ok.upd {w w' : World} {p : Psn} (h : p.ok w) (u : Upd [] [] w w') : p.ok w' := ⟨h.1, h.2.1, h.2.2.1, h.2.2.2.1, h.2.2.2.2.1, h.2.2.2.2.2.1.upd u, h.2.2.2.2.2.2⟩
def Psn.ls (p : Psn) : List Int := p.l.take 61
def Psn.salt (p : Psn) : ByteArray := p.s.extract 0 (min (p.s.size : Int) 100).toNat
theorem Psn.salt_le (p : Psn) : p.salt.size ≤ 100 := by unfold Psn.salt; rw [ByteArray.size_extract]; omega
def Psn.txt (p : Psn) : List UInt8 := entL p.a p.b p.c p.ls
def Psn.sl (p : Psn) : List UInt8 := sealL (bs p.salt) p.txt
theorem psn_ls (p : Psn) : p.ls.length ≤ 1000 := by unfold Psn.ls; rw [List.length_take]; omega
theorem psn_entrant (p : Psn) (w : World) (h : p.ok w) : Calls Tryz.prog 33 #[.agg p.V] w (MkEnt p.a p.b p.c p.ls p.salt w) :=
  entrant22_any p.a p.b p.c p.l p.ao p.cap p.s w h.1 h.2.1 h.2.2.1 h.2.2.2.1 h.2.2.2.2.1 h.2.2.2.2.2.1 h.2.2.2.2.2.2
/-- An entrant in a new block. -/
theorem ent_new (wB : World) (a b c : Int) (ao : Option Addr) (n k : Nat) : ∃ (C : Array Value) (wC : World), Hid (C = entV a b c (.slice ao n k)) ∧ Hid ((wB.alloc (.cells (entV 0 0 0 (.slice none 0 0)) 71)).heap[wB.heap.size]? = some (.cells (entV 0 0 0 (.slice none 0 0)) 71 (0, 0))) ∧
    Hid ((Tryz.prog.info? 71).map (·.size) = some C.size) ∧ Hid ((entV 0 0 0 (.slice none 0 0)).size = C.size) ∧ Hid (C.all (·.oneCell') = true) ∧ Hid ((wB.alloc (.cells (entV 0 0 0 (.slice none 0 0)) 71)).setRow wB.heap.size C = wC) ∧
    Hid (wC.heap[wB.heap.size]? = some (.cells C 71 (0, 0))) ∧ Upd [] [] wB wC := by
  have hz5 := heap_alloc_new wB (.cells (entV 0 0 0 (.slice none 0 0)) 71)
  exact ⟨entV a b c (.slice ao n k), _, rfl, hz5, (by show _ = _; kernel_rfl), rfl, (by show _ = _; kernel_rfl), rfl, setRow_heap _ _ _ _ _ _ hz5, ((Upd.refl _ _).alloc _).setRowNew (Nat.le_refl _) _⟩
theorem ent_load {w : World} {g : Nat} {C : Array Value} (h : w.heap[g]? = some (.cells C 71 (0, 0))) (hi : Hid ((Tryz.prog.info? 71).map (·.size) = some C.size)) : (Instr.loadAt 71 (.pointer (some ⟨g, 0, none⟩))).run Tryz.prog w = .ok (.agg C) w := by
  obtain ⟨l⟩ := C
  refine run_loadAt_mid w g 0 _ l _ (fun j v hv => ?_) Tryz.underlying71 rfl (by rw [hi.out]; simp)
  rw [Nat.zero_add, cell_of_row _ _ _ _ _ _ h, List.getElem?_toArray]
  exact hv
theorem hash_load {w : World} {g : Nat} {l : List UInt8} (hl : l.length = 32) (H : Array Value) (hH : H = (byteVals l).toArray) (h : w.heap[g]? = some (.cells H 24 (0, 0))) : (Instr.loadAt 24 (.pointer (some ⟨g, 0, none⟩))).run Tryz.prog w = .ok (.agg H) w := by
  subst hH
  refine run_loadAt_mid w g 0 _ _ _ (fun j v hv => ?_) Tryz.underlying24 rfl (hashLen hl)
  rw [Nat.zero_add, cell_of_row _ _ _ _ _ _ h, List.getElem?_toArray]
  exact hv

set_option maxHeartbeats 4000000 in
theorem entrySeals_walk (p q : Psn) (w : World) (hp : p.ok w) (hq : q.ok w) (htab : Tabs w) : Calls Tryz.prog 9 #[.agg p.V, .agg q.V] w (TrueMk w) := by
  have uu1 : Upd [] [] (w.alloc (.cells p.V 69)) ((w.alloc (.cells p.V 69)).alloc (.cells q.V 69)) := (Upd.refl _ _).alloc _
  have a0 : PsnAt ((w.alloc (.cells p.V 69)).alloc (.cells q.V 69)) w.heap.size p.a p.b p.c (.slice p.ao p.l.length p.cap) p.s := row_updH (heap_alloc_new w _) uu1
  have b0 := heap_alloc_new (w.alloc (.cells p.V 69)) (.cells q.V 69)
  rw [World.size_alloc] at b0
  have u0 : Upd [] [] w ((w.alloc (.cells p.V 69)).alloc (.cells q.V 69)) := ((Upd.refl _ _).alloc _).trans uu1
  obtain ⟨w0, hw0⟩ : ∃ w0, (w.alloc (.cells p.V 69)).alloc (.cells q.V 69) = w0 := ⟨_, rfl⟩
  rw [hw0] at a0 b0 u0
  have A0 := Lib.hid a0
  have B0 : Hid (PsnAt w0 (w.heap.size + 1) q.a q.b q.c (.slice q.ao q.l.length q.cap) q.s) := b0
  have HW := Lib.hid hw0
  have HP := Lib.hid (hp.upd u0)
  have HQ := Lib.hid (hq.upd u0)
  have hpa := hp.1
  have hpb := hp.2.1
  have hpc := hp.2.2.1
  clear hw0 a0 b0 uu1 hp hq
  go_enter Tryz.func9, Tryz.ntmps9
  go_upto_region 1 with (fail)
  rw [HW.out]
  clear HW
  go_wp2_with fail
  refine (sanity22_any _ (htab.upd u0)).mono ?_
  rintro e w1 ⟨rfl, hu⟩
  have u1 := u0.trans hu
  have A1 := Lib.hid (A0.out.upd hu)
  have B1 := Lib.hid (B0.out.upd hu)
  have HP1 := Lib.hid (HP.out.upd hu)
  have HQ1 := Lib.hid (HQ.out.upd hu)
  clear hu A0 B0 u0 HP HQ
  obtain ⟨k0, k1, k2, k3, k4⟩ := A1.out.cells
  go_wp2_with fail
  refine (psn_entrant p w1 HP1.out).mono ?_
  rintro e w2 ⟨ao2, cap2, rfl, HI2, hc2, hu⟩
  obtain ⟨E1, w3, HE1, HZ3, EI1, EZ1, EO1, HW3, F3, hu'⟩ := ent_new w2 p.a p.b p.c ao2 p.ls.length cap2
  rw [← HE1.out]
  have HI3 := Lib.hid (HI2.out.upd hu')
  have u3 := u1.trans (hu.trans hu')
  have B3 := Lib.hid (B1.out.upd (hu.trans hu'))
  have HQ3 := Lib.hid (HQ1.out.upd (hu.trans hu'))
  clear k0 k1 k2 k3 k4 hu hu' A1 B1 HP1 HQ1 HI2
  obtain ⟨k0, k1, k2, k3, k4⟩ := B3.out.cells
  go_upto_region 3 with (first | (refine wpList_store_rowAs rfl 71 _ _ rfl w2.heap.size E1 rfl rfl _ _ HZ3.out EI1.out EZ1.out EO1.out w3 HW3.out ?_))
  clear HZ3 EZ1 EO1 HW3
  obtain ⟨G1, hG1⟩ : ∃ G, G = w2.heap.size := ⟨_, rfl⟩
  rw [← hG1] at F3 ⊢
  clear hG1
  go_wp2_with fail
  refine (psn_entrant q w3 HQ3.out).mono ?_
  rintro e w4 ⟨ao4, cap4, rfl, HI4, hc4, hu⟩
  obtain ⟨E2, w5, HE2, HZ5, EI2, EZ2, EO2, HW5, F5, hu'⟩ := ent_new w4 q.a q.b q.c ao4 q.ls.length cap4
  rw [← HE2.out]
  have HJ5 := Lib.hid (HI4.out.upd hu')
  have HI5 := Lib.hid (HI3.out.upd (hu.trans hu'))
  have u5 := u3.trans (hu.trans hu')
  have F5' := Lib.hid (row_updH F3.out (hu.trans hu'))
  have HPQ : Hid ((i64in p.a ∧ i64in p.b ∧ i64in p.c) ∧ (i64in q.a ∧ i64in q.b ∧ i64in q.c)) := ⟨⟨hpa, hpb, hpc⟩, ⟨HQ3.out.1, HQ3.out.2.1, HQ3.out.2.2.1⟩⟩
  clear k0 k1 k2 k3 k4 hu hu' B3 HQ3 HI4 HI3 F3
  go_upto_region 4 with (first | (refine wpList_store_rowAs rfl 71 _ _ rfl w4.heap.size E2 rfl rfl _ _ HZ5.out EI2.out EZ2.out EO2.out w5 HW5.out ?_))
  clear HZ5 EZ2 EO2 HW5
  obtain ⟨G2, hG2⟩ : ∃ G, G = w4.heap.size := ⟨_, rfl⟩
  rw [← hG2] at F5 ⊢
  clear hG2
  obtain ⟨S1, hS1⟩ : ∃ S1, S1 = p.salt := ⟨_, rfl⟩
  obtain ⟨S2, hS2⟩ : ∃ S2, S2 = q.salt := ⟨_, rfl⟩
  have hs1 : S1.size ≤ 100 := by rw [hS1]; exact p.salt_le
  have hs2 : S2.size ≤ 100 := by rw [hS2]; exact q.salt_le
  obtain ⟨H1, hH1⟩ : ∃ H, H = (byteVals (sha p.sl)).toArray := ⟨_, rfl⟩
  obtain ⟨H2, hH2⟩ : ∃ H, H = (byteVals (sha q.sl)).toArray := ⟨_, rfl⟩
  have CS1 : Hid (∀ W, Upd [] [] w5 W → Calls Tryz.prog 34 #[.agg E1, .string S1] W (Mk (.agg H1) W)) := by
    intro W u
    rw [HE1.out, hS1, hH1]
    exact seal22_any p.a p.b p.c p.ls ao2 cap2 p.salt W HPQ.out.1.1 HPQ.out.1.2.1 HPQ.out.1.2.2 (psn_ls p) (HI5.out.upd u) (Nat.le_trans p.salt_le (by omega)) (htab.upd (u5.trans u))
  have CS2 : Hid (∀ W, Upd [] [] w5 W → Calls Tryz.prog 34 #[.agg E2, .string S2] W (Mk (.agg H2) W)) := by
    intro W u
    rw [HE2.out, hS2, hH2]
    exact seal22_any q.a q.b q.c q.ls ao4 cap4 q.salt W HPQ.out.2.1 HPQ.out.2.2.1 HPQ.out.2.2.2 (psn_ls q) (HJ5.out.upd u) (Nat.le_trans q.salt_le (by omega)) (htab.upd (u5.trans u))
  have RS1 : Hid (∀ W, Upd [] [] w5 W → Calls Tryz.prog 35 #[.agg E1, .string S1] W (Mk (.agg H1) W)) := by
    intro W u
    rw [HE1.out, hS1, hH1]
    exact rseal22_any p.a p.b p.c p.ls ao2 cap2 p.salt W HPQ.out.1.1 HPQ.out.1.2.1 HPQ.out.1.2.2 (psn_ls p) (HI5.out.upd u) (Nat.le_trans p.salt_le (by omega))
  have RS2 : Hid (∀ W, Upd [] [] w5 W → Calls Tryz.prog 35 #[.agg E2, .string S2] W (Mk (.agg H2) W)) := by
    intro W u
    rw [HE2.out, hS2, hH2]
    exact rseal22_any q.a q.b q.c q.ls ao4 cap4 q.salt W HPQ.out.2.1 HPQ.out.2.2.1 HPQ.out.2.2.2 (psn_ls q) (HJ5.out.upd u) (Nat.le_trans q.salt_le (by omega))
  have PS1 : Hid (∀ W, Upd [] [] w5 W → Calls Tryz.prog 36 #[.agg E1] W (MkS p.txt W)) := by
    intro W u
    rw [HE1.out]
    exact rprintEnt_any p.a p.b p.c p.ls ao2 cap2 W HPQ.out.1.1 HPQ.out.1.2.1 HPQ.out.1.2.2 (psn_ls p) (HI5.out.upd u)
  have PS2 : Hid (∀ W, Upd [] [] w5 W → Calls Tryz.prog 36 #[.agg E2] W (MkS q.txt W)) := by
    intro W u
    rw [HE2.out]
    exact rprintEnt_any q.a q.b q.c q.ls ao4 cap4 W HPQ.out.2.1 HPQ.out.2.2.1 HPQ.out.2.2.2 (psn_ls q) (HJ5.out.upd u)
  have SS1 : Hid (∀ W, Upd [] [] w5 W → Calls Tryz.prog 37 #[.agg E1, .string S1] W (MkS p.sl W)) := by
    intro W u
    rw [HE1.out, hS1]
    exact sealed22_any p.a p.b p.c p.ls ao2 cap2 p.salt W HPQ.out.1.1 HPQ.out.1.2.1 HPQ.out.1.2.2 (psn_ls p) (HI5.out.upd u) (Nat.le_trans p.salt_le (by omega))
  have SS2 : Hid (∀ W, Upd [] [] w5 W → Calls Tryz.prog 37 #[.agg E2, .string S2] W (MkS q.sl W)) := by
    intro W u
    rw [HE2.out, hS2]
    exact sealed22_any q.a q.b q.c q.ls ao4 cap4 q.salt W HPQ.out.2.1 HPQ.out.2.2.1 HPQ.out.2.2.2 (psn_ls q) (HJ5.out.upd u) (Nat.le_trans q.salt_le (by omega))
  obtain ⟨hb, hhb⟩ : ∃ hb, decide (sha p.sl = sha q.sl) = hb := ⟨_, rfl⟩
  have HEQ : Hid ((∀ W : World, (Op.equalIn 10000 24 (.agg H1) (.agg H1)).run Tryz.prog W = .ok true W) ∧ (∀ W : World, (Op.equalIn 10000 24 (.agg H2) (.agg H2)).run Tryz.prog W = .ok true W) ∧ (∀ W : World, (Op.equalIn 10000 24 (.agg H1) (.agg H2)).run Tryz.prog W = .ok hb W)) := by
    rw [hH1, hH2, ← hhb]
    refine ⟨fun W => ?_, fun W => ?_, fun W => ?_⟩
    · rw [show (10000 : Nat) = 9998 + 2 from rfl, eqHash_run 9998 _ _ W (sha_len _) (sha_len _)]; simp
    · rw [show (10000 : Nat) = 9998 + 2 from rfl, eqHash_run 9998 _ _ W (sha_len _) (sha_len _)]; simp
    · rw [show (10000 : Nat) = 9998 + 2 from rfl, eqHash_run 9998 _ _ W (sha_len _) (sha_len _)]
  have HTL : Hid (p.txt.length ≤ 1400 ∧ q.txt.length ≤ 1400) := ⟨entL_len HPQ.out.1.1 HPQ.out.1.2.1 HPQ.out.1.2.2 HI5.out.mem, entL_len HPQ.out.2.1 HPQ.out.2.2.1 HPQ.out.2.2.2 HJ5.out.mem⟩
  have HKE : Hid (∀ W, Upd [] [] w5 W → (Instr.loadAt 71 (.pointer (some ⟨G1, 0, none⟩))).run Tryz.prog W = .ok (.agg E1) W ∧ (Instr.loadAt 71 (.pointer (some ⟨G2, 0, none⟩))).run Tryz.prog W = .ok (.agg E2) W) := fun W u => ⟨ent_load (row_updH F5'.out u) EI1, ent_load (row_updH F5.out u) EI2⟩
  have XI : Hid ((Tryz.prog.info? 24).map (·.size) = some H1.size) := by show _ = _; rw [hH1]; exact hashInfo (sha_len _)
  have YI : Hid ((Tryz.prog.info? 24).map (·.size) = some H2.size) := by show _ = _; rw [hH2]; exact hashInfo (sha_len _)
  have XO : Hid (H1.all (·.oneCell') = true) := by show _ = _; rw [hH1]; exact hashOne _
  have YO : Hid (H2.all (·.oneCell') = true) := by show _ = _; rw [hH2]; exact hashOne _
  have XZ : Hid ((byteVals zero32).toArray.size = H1.size) := by show _ = _; rw [hH1, hashSz (sha_len _)]; rfl
  have YZ : Hid ((byteVals zero32).toArray.size = H2.size) := by show _ = _; rw [hH2, hashSz (sha_len _)]; rfl
  have HH1 := Lib.hid hH1
  have HH2 := Lib.hid hH2
  have HHB := Lib.hid hhb
  have HS1 := Lib.hid hS1
  have HS2 := Lib.hid hS2
  rw [← hS1, ← hS2]
  have ud0 : Upd [] [] w5 w5.drew := (Upd.refl _ _).drew
  have HU5 := Lib.hid u5
  clear hS1 hS2 hH1 hH2 hhb EI1 EI2 HI5 HJ5 HPQ HE1 HE2 F5 F5' u1 u3 u5 hc2 hc4 hpa hpb hpc
  refine @id ((∀ (gX gY : Nat) (W : World), Hid (W.heap[gX]? = some (.cells H1 24 (0, 0))) → Hid (W.heap[gY]? = some (.cells H2 24 (0, 0))) → Upd [] [] w5 W → (?pj1 : Nat → Nat → World → Prop) gX gY W) → _) (fun hJ => ?mj1) ?jj1
  case mj1 =>
    refine wp_region_noPanic ?_
    refine wp_region_held_drew (S := fun wp => (Instr.loadAt 71 (.pointer (some ⟨G1, 0, none⟩))).run Tryz.prog wp = .ok (.agg E1) wp ∧ (Instr.loadAt 71 (.pointer (some ⟨G2, 0, none⟩))).run Tryz.prog wp = .ok (.agg E2) wp) (by kernel_rfl) ?_ (fun hHeld => ?_)
    · exact HKE.out _ ud0
    refine wpAnyH_take (i := 0) (v := .agg E1) (by simp only [List.getElem?_toArray, List.getElem?_cons_zero] <;> rfl) (by kernel_rfl) (by kernel_rfl) (by kernel_rfl) (fun _ _ _ h => h) (yieldsIf_loadW (by rfl) _ _ rfl _ rfl E1 (fun w hSw => hSw.1)) hHeld ?_
    try simp only [Act.put, List.setIfInBounds_toArray, List.set_cons_zero, List.set_cons_succ]
    refine wpAnyH_take (i := 1) (v := ?v2) (by simp only [List.getElem?_toArray, List.getElem?_cons_succ, List.getElem?_cons_zero] <;> rfl) (by kernel_rfl) (by kernel_rfl) (by kernel_rfl) (fun _ _ _ h => h) (Or.inl ⟨by rfl, ?y2⟩) hHeld ?r2
    case y2 => (intro w hSw; (try dsimp only at hSw); go_simp; first | done | with_reducible rfl | rfl)
    try simp only [Act.put, List.setIfInBounds_toArray, List.set_cons_zero, List.set_cons_succ]
    refine wpAnyH_take (i := 3) (v := .agg E2) (by simp only [List.getElem?_toArray, List.getElem?_cons_succ, List.getElem?_cons_zero] <;> rfl) (by kernel_rfl) (by kernel_rfl) (by kernel_rfl) (fun _ _ _ h => h) (yieldsIf_loadW (by rfl) _ _ rfl _ rfl E2 (fun w hSw => hSw.2)) hHeld ?_
    try simp only [Act.put, List.setIfInBounds_toArray, List.set_cons_zero, List.set_cons_succ]
    refine wpAnyH_take (i := 4) (v := ?v3) (by simp only [List.getElem?_toArray, List.getElem?_cons_succ, List.getElem?_cons_zero] <;> rfl) (by kernel_rfl) (by kernel_rfl) (by kernel_rfl) (fun _ _ _ h => h) (Or.inl ⟨by rfl, ?y3⟩) hHeld ?r3
    case y3 => (intro w hSw; (try dsimp only at hSw); go_simp; first | done | with_reducible rfl | rfl)
    try simp only [Act.put, List.setIfInBounds_toArray, List.set_cons_zero, List.set_cons_succ]
    refine wpAnyH_ready (rs := [2, 6, 7]) (by kernel_rfl) (by simp) ?_
    refine AllReadyH.cons (by simp only [List.getElem?_toArray, List.getElem?_cons_succ, List.getElem?_cons_zero] <;> rfl) (fun K hK => ?_) ?_
    · go_simp; refine (CS1.out _ ud0).mono ?_; rintro e wv1 ⟨rfl, hq⟩; have ud1 := ud0.trans hq; clear hq; go_wp2_with fail
      refine hK.out _ _ ?_ (fun hHeld => ?_)
      · exact HKE.out _ ud1
      clear hK K
      try simp only [Act.put, List.setIfInBounds_toArray, List.set_cons_zero, List.set_cons_succ]
      refine wpAnyH_ready (rs := [5, 6, 7]) (by kernel_rfl) (by simp) ?_
      refine AllReadyH.cons (by simp only [List.getElem?_toArray, List.getElem?_cons_succ, List.getElem?_cons_zero] <;> rfl) (fun K hK => ?_) ?_
      · go_simp; refine (CS2.out _ ud1).mono ?_; rintro e wv2 ⟨rfl, hq⟩; have ud2 := ud1.trans hq; clear hq; go_wp2_with fail
        refine hK.out _ _ ?_ (fun hHeld => ?_)
        · exact HKE.out _ ud2
        clear hK K
        try simp only [Act.put, List.setIfInBounds_toArray, List.set_cons_zero, List.set_cons_succ]
        refine wpAnyH_ready (rs := [6, 7]) (by kernel_rfl) (by simp) ?_
        refine AllReadyH.cons (by simp only [List.getElem?_toArray, List.getElem?_cons_succ, List.getElem?_cons_zero] <;> rfl) (fun K hK => ?_) ?_
        · go_simp; rw [show (#[.int .u8 0, .int .u8 0, .int .u8 0, .int .u8 0, .int .u8 0, .int .u8 0, .int .u8 0, .int .u8 0, .int .u8 0, .int .u8 0, .int .u8 0, .int .u8 0, .int .u8 0, .int .u8 0, .int .u8 0, .int .u8 0, .int .u8 0, .int .u8 0, .int .u8 0, .int .u8 0, .int .u8 0, .int .u8 0, .int .u8 0, .int .u8 0, .int .u8 0, .int .u8 0, .int .u8 0, .int .u8 0, .int .u8 0, .int .u8 0, .int .u8 0, .int .u8 0] : Array Value) = (byteVals zero32).toArray from rfl]; obtain ⟨gX, wv3, hgx, hwx, fX_3, hq⟩ := alloc_let (wv2) (.cells (byteVals zero32).toArray 24); rw [← hgx, ← hwx]; have bX : w5.heap.size ≤ gX := (by have := ud2.size; omega); have ud3 := ud2.trans hq; clear hgx hwx hq
          refine hK.out _ _ ?_ (fun hHeld => ?_)
          · exact HKE.out _ ud3
          clear hK K
          try simp only [Act.put, List.setIfInBounds_toArray, List.set_cons_zero, List.set_cons_succ]
          refine wpAnyH_ready (rs := [7]) (by kernel_rfl) (by simp) ?_
          refine AllReadyH.cons (by simp only [List.getElem?_toArray, List.getElem?_cons_succ, List.getElem?_cons_zero] <;> rfl) (fun K hK => ?_) ?_
          · go_simp; rw [show (#[.int .u8 0, .int .u8 0, .int .u8 0, .int .u8 0, .int .u8 0, .int .u8 0, .int .u8 0, .int .u8 0, .int .u8 0, .int .u8 0, .int .u8 0, .int .u8 0, .int .u8 0, .int .u8 0, .int .u8 0, .int .u8 0, .int .u8 0, .int .u8 0, .int .u8 0, .int .u8 0, .int .u8 0, .int .u8 0, .int .u8 0, .int .u8 0, .int .u8 0, .int .u8 0, .int .u8 0, .int .u8 0, .int .u8 0, .int .u8 0, .int .u8 0, .int .u8 0] : Array Value) = (byteVals zero32).toArray from rfl]; obtain ⟨gY, wv4, hgx, hwx, fY_4, hq⟩ := alloc_let (wv3) (.cells (byteVals zero32).toArray 24); rw [← hgx, ← hwx]; have bY : w5.heap.size ≤ gY := (by have := ud3.size; omega); have ud4 := ud3.trans hq; have fX_4 := Lib.hid (row_updH fX_3.out hq); have ne_X_Y : gX ≠ gY := (by have := (Array.getElem?_eq_some_iff.1 fX_3.out).1; omega); clear hgx hwx hq
            refine hK.out _ _ ?_ (fun hHeld => ?_)
            · exact HKE.out _ ud4
            clear hK K
            try simp only [Act.put, List.setIfInBounds_toArray, List.set_cons_zero, List.set_cons_succ]
            refine wpAnyH_ready (rs := [8]) (by kernel_rfl) (by simp) ?_
            refine AllReadyH.cons (by simp only [List.getElem?_toArray, List.getElem?_cons_succ, List.getElem?_cons_zero] <;> rfl) (fun K hK => ?_) ?_
            · rw [if_pos (by rfl)]; refine wp_store_row 24 _ _ rfl gX H1 rfl rfl _ _ fX_4.out XI.out XZ.out XO.out ?_; obtain ⟨wv5, hwx⟩ : ∃ W' : World, W' = wv4.setRow gX H1 := ⟨_, rfl⟩; have fX_5 : Hid (wv5.heap[gX]? = some (.cells H1 24 (0, 0))) := (by show _ = _; rw [hwx]; exact setRow_heap _ _ _ _ _ _ fX_4.out); have fY_5 := Lib.hid (row_setRowO fY_4.out ne_X_Y.symm H1); rw [← hwx] at fY_5; have ud5 := ud4.setRowNew bX H1; rw [← hwx] at ud5 ⊢; clear hwx
              refine hK.out _ _ ?_ (fun hHeld => ?_)
              · exact HKE.out _ ud5
              clear hK K
              try simp only [Act.put]
              refine wpAnyH_ready (rs := [9]) (by kernel_rfl) (by simp) ?_
              refine AllReadyH.cons (by simp only [List.getElem?_toArray, List.getElem?_cons_succ, List.getElem?_cons_zero] <;> rfl) (fun K hK => ?_) ?_
              · rw [if_pos (by rfl)]; refine wp_store_row 24 _ _ rfl gY H2 rfl rfl _ _ fY_5.out YI.out YZ.out YO.out ?_; obtain ⟨wv6, hwx⟩ : ∃ W' : World, W' = wv5.setRow gY H2 := ⟨_, rfl⟩; have fY_6 : Hid (wv6.heap[gY]? = some (.cells H2 24 (0, 0))) := (by show _ = _; rw [hwx]; exact setRow_heap _ _ _ _ _ _ fY_5.out); have fX_6 := Lib.hid (row_setRowO fX_5.out ne_X_Y H2); rw [← hwx] at fX_6; have ud6 := ud5.setRowNew bY H2; rw [← hwx] at ud6 ⊢; clear hwx
                refine hK.out _ _ ?_ (fun hHeld => ?_)
                · exact HKE.out _ ud6
                clear hK K
                try simp only [Act.put]
                refine wpAnyH_done (by kernel_rfl) ?_ _
                refine NoPanic.normal ?_
                exact hJ gX gY wv6 fX_6 fY_6 ud6
              exact AllReadyH.nil
            exact AllReadyH.nil
          exact AllReadyH.nil
        refine AllReadyH.cons (by simp only [List.getElem?_toArray, List.getElem?_cons_succ, List.getElem?_cons_zero] <;> rfl) (fun K hK => ?_) ?_
        · go_simp; rw [show (#[.int .u8 0, .int .u8 0, .int .u8 0, .int .u8 0, .int .u8 0, .int .u8 0, .int .u8 0, .int .u8 0, .int .u8 0, .int .u8 0, .int .u8 0, .int .u8 0, .int .u8 0, .int .u8 0, .int .u8 0, .int .u8 0, .int .u8 0, .int .u8 0, .int .u8 0, .int .u8 0, .int .u8 0, .int .u8 0, .int .u8 0, .int .u8 0, .int .u8 0, .int .u8 0, .int .u8 0, .int .u8 0, .int .u8 0, .int .u8 0, .int .u8 0, .int .u8 0] : Array Value) = (byteVals zero32).toArray from rfl]; obtain ⟨gY, wv3, hgx, hwx, fY_3, hq⟩ := alloc_let (wv2) (.cells (byteVals zero32).toArray 24); rw [← hgx, ← hwx]; have bY : w5.heap.size ≤ gY := (by have := ud2.size; omega); have ud3 := ud2.trans hq; clear hgx hwx hq
          refine hK.out _ _ ?_ (fun hHeld => ?_)
          · exact HKE.out _ ud3
          clear hK K
          try simp only [Act.put, List.setIfInBounds_toArray, List.set_cons_zero, List.set_cons_succ]
          refine wpAnyH_ready (rs := [6]) (by kernel_rfl) (by simp) ?_
          refine AllReadyH.cons (by simp only [List.getElem?_toArray, List.getElem?_cons_succ, List.getElem?_cons_zero] <;> rfl) (fun K hK => ?_) ?_
          · go_simp; rw [show (#[.int .u8 0, .int .u8 0, .int .u8 0, .int .u8 0, .int .u8 0, .int .u8 0, .int .u8 0, .int .u8 0, .int .u8 0, .int .u8 0, .int .u8 0, .int .u8 0, .int .u8 0, .int .u8 0, .int .u8 0, .int .u8 0, .int .u8 0, .int .u8 0, .int .u8 0, .int .u8 0, .int .u8 0, .int .u8 0, .int .u8 0, .int .u8 0, .int .u8 0, .int .u8 0, .int .u8 0, .int .u8 0, .int .u8 0, .int .u8 0, .int .u8 0, .int .u8 0] : Array Value) = (byteVals zero32).toArray from rfl]; obtain ⟨gX, wv4, hgx, hwx, fX_4, hq⟩ := alloc_let (wv3) (.cells (byteVals zero32).toArray 24); rw [← hgx, ← hwx]; have bX : w5.heap.size ≤ gX := (by have := ud3.size; omega); have ud4 := ud3.trans hq; have fY_4 := Lib.hid (row_updH fY_3.out hq); have ne_Y_X : gY ≠ gX := (by have := (Array.getElem?_eq_some_iff.1 fY_3.out).1; omega); clear hgx hwx hq
            refine hK.out _ _ ?_ (fun hHeld => ?_)
            · exact HKE.out _ ud4
            clear hK K
            try simp only [Act.put, List.setIfInBounds_toArray, List.set_cons_zero, List.set_cons_succ]
            refine wpAnyH_ready (rs := [8]) (by kernel_rfl) (by simp) ?_
            refine AllReadyH.cons (by simp only [List.getElem?_toArray, List.getElem?_cons_succ, List.getElem?_cons_zero] <;> rfl) (fun K hK => ?_) ?_
            · rw [if_pos (by rfl)]; refine wp_store_row 24 _ _ rfl gX H1 rfl rfl _ _ fX_4.out XI.out XZ.out XO.out ?_; obtain ⟨wv5, hwx⟩ : ∃ W' : World, W' = wv4.setRow gX H1 := ⟨_, rfl⟩; have fX_5 : Hid (wv5.heap[gX]? = some (.cells H1 24 (0, 0))) := (by show _ = _; rw [hwx]; exact setRow_heap _ _ _ _ _ _ fX_4.out); have fY_5 := Lib.hid (row_setRowO fY_4.out ne_Y_X H1); rw [← hwx] at fY_5; have ud5 := ud4.setRowNew bX H1; rw [← hwx] at ud5 ⊢; clear hwx
              refine hK.out _ _ ?_ (fun hHeld => ?_)
              · exact HKE.out _ ud5
              clear hK K
              try simp only [Act.put]
              refine wpAnyH_ready (rs := [9]) (by kernel_rfl) (by simp) ?_
              refine AllReadyH.cons (by simp only [List.getElem?_toArray, List.getElem?_cons_succ, List.getElem?_cons_zero] <;> rfl) (fun K hK => ?_) ?_
              · rw [if_pos (by rfl)]; refine wp_store_row 24 _ _ rfl gY H2 rfl rfl _ _ fY_5.out YI.out YZ.out YO.out ?_; obtain ⟨wv6, hwx⟩ : ∃ W' : World, W' = wv5.setRow gY H2 := ⟨_, rfl⟩; have fY_6 : Hid (wv6.heap[gY]? = some (.cells H2 24 (0, 0))) := (by show _ = _; rw [hwx]; exact setRow_heap _ _ _ _ _ _ fY_5.out); have fX_6 := Lib.hid (row_setRowO fX_5.out ne_Y_X.symm H2); rw [← hwx] at fX_6; have ud6 := ud5.setRowNew bY H2; rw [← hwx] at ud6 ⊢; clear hwx
                refine hK.out _ _ ?_ (fun hHeld => ?_)
                · exact HKE.out _ ud6
                clear hK K
                try simp only [Act.put]
                refine wpAnyH_done (by kernel_rfl) ?_ _
                refine NoPanic.normal ?_
                exact hJ gX gY wv6 fX_6 fY_6 ud6
              exact AllReadyH.nil
            exact AllReadyH.nil
          exact AllReadyH.nil
        exact AllReadyH.nil
      refine AllReadyH.cons (by simp only [List.getElem?_toArray, List.getElem?_cons_succ, List.getElem?_cons_zero] <;> rfl) (fun K hK => ?_) ?_
      · go_simp; rw [show (#[.int .u8 0, .int .u8 0, .int .u8 0, .int .u8 0, .int .u8 0, .int .u8 0, .int .u8 0, .int .u8 0, .int .u8 0, .int .u8 0, .int .u8 0, .int .u8 0, .int .u8 0, .int .u8 0, .int .u8 0, .int .u8 0, .int .u8 0, .int .u8 0, .int .u8 0, .int .u8 0, .int .u8 0, .int .u8 0, .int .u8 0, .int .u8 0, .int .u8 0, .int .u8 0, .int .u8 0, .int .u8 0, .int .u8 0, .int .u8 0, .int .u8 0, .int .u8 0] : Array Value) = (byteVals zero32).toArray from rfl]; obtain ⟨gX, wv2, hgx, hwx, fX_2, hq⟩ := alloc_let (wv1) (.cells (byteVals zero32).toArray 24); rw [← hgx, ← hwx]; have bX : w5.heap.size ≤ gX := (by have := ud1.size; omega); have ud2 := ud1.trans hq; clear hgx hwx hq
        refine hK.out _ _ ?_ (fun hHeld => ?_)
        · exact HKE.out _ ud2
        clear hK K
        try simp only [Act.put, List.setIfInBounds_toArray, List.set_cons_zero, List.set_cons_succ]
        refine wpAnyH_ready (rs := [5, 7]) (by kernel_rfl) (by simp) ?_
        refine AllReadyH.cons (by simp only [List.getElem?_toArray, List.getElem?_cons_succ, List.getElem?_cons_zero] <;> rfl) (fun K hK => ?_) ?_
        · go_simp; refine (CS2.out _ ud2).mono ?_; rintro e wv3 ⟨rfl, hq⟩; have ud3 := ud2.trans hq; have fX_3 := Lib.hid (row_updH fX_2.out hq); clear hq; go_wp2_with fail
          refine hK.out _ _ ?_ (fun hHeld => ?_)
          · exact HKE.out _ ud3
          clear hK K
          try simp only [Act.put, List.setIfInBounds_toArray, List.set_cons_zero, List.set_cons_succ]
          refine wpAnyH_ready (rs := [7]) (by kernel_rfl) (by simp) ?_
          refine AllReadyH.cons (by simp only [List.getElem?_toArray, List.getElem?_cons_succ, List.getElem?_cons_zero] <;> rfl) (fun K hK => ?_) ?_
          · go_simp; rw [show (#[.int .u8 0, .int .u8 0, .int .u8 0, .int .u8 0, .int .u8 0, .int .u8 0, .int .u8 0, .int .u8 0, .int .u8 0, .int .u8 0, .int .u8 0, .int .u8 0, .int .u8 0, .int .u8 0, .int .u8 0, .int .u8 0, .int .u8 0, .int .u8 0, .int .u8 0, .int .u8 0, .int .u8 0, .int .u8 0, .int .u8 0, .int .u8 0, .int .u8 0, .int .u8 0, .int .u8 0, .int .u8 0, .int .u8 0, .int .u8 0, .int .u8 0, .int .u8 0] : Array Value) = (byteVals zero32).toArray from rfl]; obtain ⟨gY, wv4, hgx, hwx, fY_4, hq⟩ := alloc_let (wv3) (.cells (byteVals zero32).toArray 24); rw [← hgx, ← hwx]; have bY : w5.heap.size ≤ gY := (by have := ud3.size; omega); have ud4 := ud3.trans hq; have fX_4 := Lib.hid (row_updH fX_3.out hq); have ne_X_Y : gX ≠ gY := (by have := (Array.getElem?_eq_some_iff.1 fX_3.out).1; omega); clear hgx hwx hq
            refine hK.out _ _ ?_ (fun hHeld => ?_)
            · exact HKE.out _ ud4
            clear hK K
            try simp only [Act.put, List.setIfInBounds_toArray, List.set_cons_zero, List.set_cons_succ]
            refine wpAnyH_ready (rs := [8]) (by kernel_rfl) (by simp) ?_
            refine AllReadyH.cons (by simp only [List.getElem?_toArray, List.getElem?_cons_succ, List.getElem?_cons_zero] <;> rfl) (fun K hK => ?_) ?_
            · rw [if_pos (by rfl)]; refine wp_store_row 24 _ _ rfl gX H1 rfl rfl _ _ fX_4.out XI.out XZ.out XO.out ?_; obtain ⟨wv5, hwx⟩ : ∃ W' : World, W' = wv4.setRow gX H1 := ⟨_, rfl⟩; have fX_5 : Hid (wv5.heap[gX]? = some (.cells H1 24 (0, 0))) := (by show _ = _; rw [hwx]; exact setRow_heap _ _ _ _ _ _ fX_4.out); have fY_5 := Lib.hid (row_setRowO fY_4.out ne_X_Y.symm H1); rw [← hwx] at fY_5; have ud5 := ud4.setRowNew bX H1; rw [← hwx] at ud5 ⊢; clear hwx
              refine hK.out _ _ ?_ (fun hHeld => ?_)
              · exact HKE.out _ ud5
              clear hK K
              try simp only [Act.put]
              refine wpAnyH_ready (rs := [9]) (by kernel_rfl) (by simp) ?_
              refine AllReadyH.cons (by simp only [List.getElem?_toArray, List.getElem?_cons_succ, List.getElem?_cons_zero] <;> rfl) (fun K hK => ?_) ?_
              · rw [if_pos (by rfl)]; refine wp_store_row 24 _ _ rfl gY H2 rfl rfl _ _ fY_5.out YI.out YZ.out YO.out ?_; obtain ⟨wv6, hwx⟩ : ∃ W' : World, W' = wv5.setRow gY H2 := ⟨_, rfl⟩; have fY_6 : Hid (wv6.heap[gY]? = some (.cells H2 24 (0, 0))) := (by show _ = _; rw [hwx]; exact setRow_heap _ _ _ _ _ _ fY_5.out); have fX_6 := Lib.hid (row_setRowO fX_5.out ne_X_Y H2); rw [← hwx] at fX_6; have ud6 := ud5.setRowNew bY H2; rw [← hwx] at ud6 ⊢; clear hwx
                refine hK.out _ _ ?_ (fun hHeld => ?_)
                · exact HKE.out _ ud6
                clear hK K
                try simp only [Act.put]
                refine wpAnyH_done (by kernel_rfl) ?_ _
                refine NoPanic.normal ?_
                exact hJ gX gY wv6 fX_6 fY_6 ud6
              exact AllReadyH.nil
            exact AllReadyH.nil
          exact AllReadyH.nil
        refine AllReadyH.cons (by simp only [List.getElem?_toArray, List.getElem?_cons_succ, List.getElem?_cons_zero] <;> rfl) (fun K hK => ?_) ?_
        · go_simp; rw [show (#[.int .u8 0, .int .u8 0, .int .u8 0, .int .u8 0, .int .u8 0, .int .u8 0, .int .u8 0, .int .u8 0, .int .u8 0, .int .u8 0, .int .u8 0, .int .u8 0, .int .u8 0, .int .u8 0, .int .u8 0, .int .u8 0, .int .u8 0, .int .u8 0, .int .u8 0, .int .u8 0, .int .u8 0, .int .u8 0, .int .u8 0, .int .u8 0, .int .u8 0, .int .u8 0, .int .u8 0, .int .u8 0, .int .u8 0, .int .u8 0, .int .u8 0, .int .u8 0] : Array Value) = (byteVals zero32).toArray from rfl]; obtain ⟨gY, wv3, hgx, hwx, fY_3, hq⟩ := alloc_let (wv2) (.cells (byteVals zero32).toArray 24); rw [← hgx, ← hwx]; have bY : w5.heap.size ≤ gY := (by have := ud2.size; omega); have ud3 := ud2.trans hq; have fX_3 := Lib.hid (row_updH fX_2.out hq); have ne_X_Y : gX ≠ gY := (by have := (Array.getElem?_eq_some_iff.1 fX_2.out).1; omega); clear hgx hwx hq
          refine hK.out _ _ ?_ (fun hHeld => ?_)
          · exact HKE.out _ ud3
          clear hK K
          try simp only [Act.put, List.setIfInBounds_toArray, List.set_cons_zero, List.set_cons_succ]
          refine wpAnyH_ready (rs := [5]) (by kernel_rfl) (by simp) ?_
          refine AllReadyH.cons (by simp only [List.getElem?_toArray, List.getElem?_cons_succ, List.getElem?_cons_zero] <;> rfl) (fun K hK => ?_) ?_
          · go_simp; refine (CS2.out _ ud3).mono ?_; rintro e wv4 ⟨rfl, hq⟩; have ud4 := ud3.trans hq; have fX_4 := Lib.hid (row_updH fX_3.out hq); have fY_4 := Lib.hid (row_updH fY_3.out hq); clear hq; go_wp2_with fail
            refine hK.out _ _ ?_ (fun hHeld => ?_)
            · exact HKE.out _ ud4
            clear hK K
            try simp only [Act.put, List.setIfInBounds_toArray, List.set_cons_zero, List.set_cons_succ]
            refine wpAnyH_ready (rs := [8]) (by kernel_rfl) (by simp) ?_
            refine AllReadyH.cons (by simp only [List.getElem?_toArray, List.getElem?_cons_succ, List.getElem?_cons_zero] <;> rfl) (fun K hK => ?_) ?_
            · rw [if_pos (by rfl)]; refine wp_store_row 24 _ _ rfl gX H1 rfl rfl _ _ fX_4.out XI.out XZ.out XO.out ?_; obtain ⟨wv5, hwx⟩ : ∃ W' : World, W' = wv4.setRow gX H1 := ⟨_, rfl⟩; have fX_5 : Hid (wv5.heap[gX]? = some (.cells H1 24 (0, 0))) := (by show _ = _; rw [hwx]; exact setRow_heap _ _ _ _ _ _ fX_4.out); have fY_5 := Lib.hid (row_setRowO fY_4.out ne_X_Y.symm H1); rw [← hwx] at fY_5; have ud5 := ud4.setRowNew bX H1; rw [← hwx] at ud5 ⊢; clear hwx
              refine hK.out _ _ ?_ (fun hHeld => ?_)
              · exact HKE.out _ ud5
              clear hK K
              try simp only [Act.put]
              refine wpAnyH_ready (rs := [9]) (by kernel_rfl) (by simp) ?_
              refine AllReadyH.cons (by simp only [List.getElem?_toArray, List.getElem?_cons_succ, List.getElem?_cons_zero] <;> rfl) (fun K hK => ?_) ?_
              · rw [if_pos (by rfl)]; refine wp_store_row 24 _ _ rfl gY H2 rfl rfl _ _ fY_5.out YI.out YZ.out YO.out ?_; obtain ⟨wv6, hwx⟩ : ∃ W' : World, W' = wv5.setRow gY H2 := ⟨_, rfl⟩; have fY_6 : Hid (wv6.heap[gY]? = some (.cells H2 24 (0, 0))) := (by show _ = _; rw [hwx]; exact setRow_heap _ _ _ _ _ _ fY_5.out); have fX_6 := Lib.hid (row_setRowO fX_5.out ne_X_Y H2); rw [← hwx] at fX_6; have ud6 := ud5.setRowNew bY H2; rw [← hwx] at ud6 ⊢; clear hwx
                refine hK.out _ _ ?_ (fun hHeld => ?_)
                · exact HKE.out _ ud6
                clear hK K
                try simp only [Act.put]
                refine wpAnyH_done (by kernel_rfl) ?_ _
                refine NoPanic.normal ?_
                exact hJ gX gY wv6 fX_6 fY_6 ud6
              exact AllReadyH.nil
            exact AllReadyH.nil
          exact AllReadyH.nil
        exact AllReadyH.nil
      refine AllReadyH.cons (by simp only [List.getElem?_toArray, List.getElem?_cons_succ, List.getElem?_cons_zero] <;> rfl) (fun K hK => ?_) ?_
      · go_simp; rw [show (#[.int .u8 0, .int .u8 0, .int .u8 0, .int .u8 0, .int .u8 0, .int .u8 0, .int .u8 0, .int .u8 0, .int .u8 0, .int .u8 0, .int .u8 0, .int .u8 0, .int .u8 0, .int .u8 0, .int .u8 0, .int .u8 0, .int .u8 0, .int .u8 0, .int .u8 0, .int .u8 0, .int .u8 0, .int .u8 0, .int .u8 0, .int .u8 0, .int .u8 0, .int .u8 0, .int .u8 0, .int .u8 0, .int .u8 0, .int .u8 0, .int .u8 0, .int .u8 0] : Array Value) = (byteVals zero32).toArray from rfl]; obtain ⟨gY, wv2, hgx, hwx, fY_2, hq⟩ := alloc_let (wv1) (.cells (byteVals zero32).toArray 24); rw [← hgx, ← hwx]; have bY : w5.heap.size ≤ gY := (by have := ud1.size; omega); have ud2 := ud1.trans hq; clear hgx hwx hq
        refine hK.out _ _ ?_ (fun hHeld => ?_)
        · exact HKE.out _ ud2
        clear hK K
        try simp only [Act.put, List.setIfInBounds_toArray, List.set_cons_zero, List.set_cons_succ]
        refine wpAnyH_ready (rs := [5, 6]) (by kernel_rfl) (by simp) ?_
        refine AllReadyH.cons (by simp only [List.getElem?_toArray, List.getElem?_cons_succ, List.getElem?_cons_zero] <;> rfl) (fun K hK => ?_) ?_
        · go_simp; refine (CS2.out _ ud2).mono ?_; rintro e wv3 ⟨rfl, hq⟩; have ud3 := ud2.trans hq; have fY_3 := Lib.hid (row_updH fY_2.out hq); clear hq; go_wp2_with fail
          refine hK.out _ _ ?_ (fun hHeld => ?_)
          · exact HKE.out _ ud3
          clear hK K
          try simp only [Act.put, List.setIfInBounds_toArray, List.set_cons_zero, List.set_cons_succ]
          refine wpAnyH_ready (rs := [6]) (by kernel_rfl) (by simp) ?_
          refine AllReadyH.cons (by simp only [List.getElem?_toArray, List.getElem?_cons_succ, List.getElem?_cons_zero] <;> rfl) (fun K hK => ?_) ?_
          · go_simp; rw [show (#[.int .u8 0, .int .u8 0, .int .u8 0, .int .u8 0, .int .u8 0, .int .u8 0, .int .u8 0, .int .u8 0, .int .u8 0, .int .u8 0, .int .u8 0, .int .u8 0, .int .u8 0, .int .u8 0, .int .u8 0, .int .u8 0, .int .u8 0, .int .u8 0, .int .u8 0, .int .u8 0, .int .u8 0, .int .u8 0, .int .u8 0, .int .u8 0, .int .u8 0, .int .u8 0, .int .u8 0, .int .u8 0, .int .u8 0, .int .u8 0, .int .u8 0, .int .u8 0] : Array Value) = (byteVals zero32).toArray from rfl]; obtain ⟨gX, wv4, hgx, hwx, fX_4, hq⟩ := alloc_let (wv3) (.cells (byteVals zero32).toArray 24); rw [← hgx, ← hwx]; have bX : w5.heap.size ≤ gX := (by have := ud3.size; omega); have ud4 := ud3.trans hq; have fY_4 := Lib.hid (row_updH fY_3.out hq); have ne_Y_X : gY ≠ gX := (by have := (Array.getElem?_eq_some_iff.1 fY_3.out).1; omega); clear hgx hwx hq
            refine hK.out _ _ ?_ (fun hHeld => ?_)
            · exact HKE.out _ ud4
            clear hK K
            try simp only [Act.put, List.setIfInBounds_toArray, List.set_cons_zero, List.set_cons_succ]
            refine wpAnyH_ready (rs := [8]) (by kernel_rfl) (by simp) ?_
            refine AllReadyH.cons (by simp only [List.getElem?_toArray, List.getElem?_cons_succ, List.getElem?_cons_zero] <;> rfl) (fun K hK => ?_) ?_
            · rw [if_pos (by rfl)]; refine wp_store_row 24 _ _ rfl gX H1 rfl rfl _ _ fX_4.out XI.out XZ.out XO.out ?_; obtain ⟨wv5, hwx⟩ : ∃ W' : World, W' = wv4.setRow gX H1 := ⟨_, rfl⟩; have fX_5 : Hid (wv5.heap[gX]? = some (.cells H1 24 (0, 0))) := (by show _ = _; rw [hwx]; exact setRow_heap _ _ _ _ _ _ fX_4.out); have fY_5 := Lib.hid (row_setRowO fY_4.out ne_Y_X H1); rw [← hwx] at fY_5; have ud5 := ud4.setRowNew bX H1; rw [← hwx] at ud5 ⊢; clear hwx
              refine hK.out _ _ ?_ (fun hHeld => ?_)
              · exact HKE.out _ ud5
              clear hK K
              try simp only [Act.put]
              refine wpAnyH_ready (rs := [9]) (by kernel_rfl) (by simp) ?_
              refine AllReadyH.cons (by simp only [List.getElem?_toArray, List.getElem?_cons_succ, List.getElem?_cons_zero] <;> rfl) (fun K hK => ?_) ?_
              · rw [if_pos (by rfl)]; refine wp_store_row 24 _ _ rfl gY H2 rfl rfl _ _ fY_5.out YI.out YZ.out YO.out ?_; obtain ⟨wv6, hwx⟩ : ∃ W' : World, W' = wv5.setRow gY H2 := ⟨_, rfl⟩; have fY_6 : Hid (wv6.heap[gY]? = some (.cells H2 24 (0, 0))) := (by show _ = _; rw [hwx]; exact setRow_heap _ _ _ _ _ _ fY_5.out); have fX_6 := Lib.hid (row_setRowO fX_5.out ne_Y_X.symm H2); rw [← hwx] at fX_6; have ud6 := ud5.setRowNew bY H2; rw [← hwx] at ud6 ⊢; clear hwx
                refine hK.out _ _ ?_ (fun hHeld => ?_)
                · exact HKE.out _ ud6
                clear hK K
                try simp only [Act.put]
                refine wpAnyH_done (by kernel_rfl) ?_ _
                refine NoPanic.normal ?_
                exact hJ gX gY wv6 fX_6 fY_6 ud6
              exact AllReadyH.nil
            exact AllReadyH.nil
          exact AllReadyH.nil
        refine AllReadyH.cons (by simp only [List.getElem?_toArray, List.getElem?_cons_succ, List.getElem?_cons_zero] <;> rfl) (fun K hK => ?_) ?_
        · go_simp; rw [show (#[.int .u8 0, .int .u8 0, .int .u8 0, .int .u8 0, .int .u8 0, .int .u8 0, .int .u8 0, .int .u8 0, .int .u8 0, .int .u8 0, .int .u8 0, .int .u8 0, .int .u8 0, .int .u8 0, .int .u8 0, .int .u8 0, .int .u8 0, .int .u8 0, .int .u8 0, .int .u8 0, .int .u8 0, .int .u8 0, .int .u8 0, .int .u8 0, .int .u8 0, .int .u8 0, .int .u8 0, .int .u8 0, .int .u8 0, .int .u8 0, .int .u8 0, .int .u8 0] : Array Value) = (byteVals zero32).toArray from rfl]; obtain ⟨gX, wv3, hgx, hwx, fX_3, hq⟩ := alloc_let (wv2) (.cells (byteVals zero32).toArray 24); rw [← hgx, ← hwx]; have bX : w5.heap.size ≤ gX := (by have := ud2.size; omega); have ud3 := ud2.trans hq; have fY_3 := Lib.hid (row_updH fY_2.out hq); have ne_Y_X : gY ≠ gX := (by have := (Array.getElem?_eq_some_iff.1 fY_2.out).1; omega); clear hgx hwx hq
          refine hK.out _ _ ?_ (fun hHeld => ?_)
          · exact HKE.out _ ud3
          clear hK K
          try simp only [Act.put, List.setIfInBounds_toArray, List.set_cons_zero, List.set_cons_succ]
          refine wpAnyH_ready (rs := [5]) (by kernel_rfl) (by simp) ?_
          refine AllReadyH.cons (by simp only [List.getElem?_toArray, List.getElem?_cons_succ, List.getElem?_cons_zero] <;> rfl) (fun K hK => ?_) ?_
          · go_simp; refine (CS2.out _ ud3).mono ?_; rintro e wv4 ⟨rfl, hq⟩; have ud4 := ud3.trans hq; have fX_4 := Lib.hid (row_updH fX_3.out hq); have fY_4 := Lib.hid (row_updH fY_3.out hq); clear hq; go_wp2_with fail
            refine hK.out _ _ ?_ (fun hHeld => ?_)
            · exact HKE.out _ ud4
            clear hK K
            try simp only [Act.put, List.setIfInBounds_toArray, List.set_cons_zero, List.set_cons_succ]
            refine wpAnyH_ready (rs := [8]) (by kernel_rfl) (by simp) ?_
            refine AllReadyH.cons (by simp only [List.getElem?_toArray, List.getElem?_cons_succ, List.getElem?_cons_zero] <;> rfl) (fun K hK => ?_) ?_
            · rw [if_pos (by rfl)]; refine wp_store_row 24 _ _ rfl gX H1 rfl rfl _ _ fX_4.out XI.out XZ.out XO.out ?_; obtain ⟨wv5, hwx⟩ : ∃ W' : World, W' = wv4.setRow gX H1 := ⟨_, rfl⟩; have fX_5 : Hid (wv5.heap[gX]? = some (.cells H1 24 (0, 0))) := (by show _ = _; rw [hwx]; exact setRow_heap _ _ _ _ _ _ fX_4.out); have fY_5 := Lib.hid (row_setRowO fY_4.out ne_Y_X H1); rw [← hwx] at fY_5; have ud5 := ud4.setRowNew bX H1; rw [← hwx] at ud5 ⊢; clear hwx
              refine hK.out _ _ ?_ (fun hHeld => ?_)
              · exact HKE.out _ ud5
              clear hK K
              try simp only [Act.put]
              refine wpAnyH_ready (rs := [9]) (by kernel_rfl) (by simp) ?_
              refine AllReadyH.cons (by simp only [List.getElem?_toArray, List.getElem?_cons_succ, List.getElem?_cons_zero] <;> rfl) (fun K hK => ?_) ?_
              · rw [if_pos (by rfl)]; refine wp_store_row 24 _ _ rfl gY H2 rfl rfl _ _ fY_5.out YI.out YZ.out YO.out ?_; obtain ⟨wv6, hwx⟩ : ∃ W' : World, W' = wv5.setRow gY H2 := ⟨_, rfl⟩; have fY_6 : Hid (wv6.heap[gY]? = some (.cells H2 24 (0, 0))) := (by show _ = _; rw [hwx]; exact setRow_heap _ _ _ _ _ _ fY_5.out); have fX_6 := Lib.hid (row_setRowO fX_5.out ne_Y_X.symm H2); rw [← hwx] at fX_6; have ud6 := ud5.setRowNew bY H2; rw [← hwx] at ud6 ⊢; clear hwx
                refine hK.out _ _ ?_ (fun hHeld => ?_)
                · exact HKE.out _ ud6
                clear hK K
                try simp only [Act.put]
                refine wpAnyH_done (by kernel_rfl) ?_ _
                refine NoPanic.normal ?_
                exact hJ gX gY wv6 fX_6 fY_6 ud6
              exact AllReadyH.nil
            exact AllReadyH.nil
          exact AllReadyH.nil
        exact AllReadyH.nil
      exact AllReadyH.nil
    refine AllReadyH.cons (by simp only [List.getElem?_toArray, List.getElem?_cons_succ, List.getElem?_cons_zero] <;> rfl) (fun K hK => ?_) ?_
    · go_simp; rw [show (#[.int .u8 0, .int .u8 0, .int .u8 0, .int .u8 0, .int .u8 0, .int .u8 0, .int .u8 0, .int .u8 0, .int .u8 0, .int .u8 0, .int .u8 0, .int .u8 0, .int .u8 0, .int .u8 0, .int .u8 0, .int .u8 0, .int .u8 0, .int .u8 0, .int .u8 0, .int .u8 0, .int .u8 0, .int .u8 0, .int .u8 0, .int .u8 0, .int .u8 0, .int .u8 0, .int .u8 0, .int .u8 0, .int .u8 0, .int .u8 0, .int .u8 0, .int .u8 0] : Array Value) = (byteVals zero32).toArray from rfl]; obtain ⟨gX, wv1, hgx, hwx, fX_1, hq⟩ := alloc_letD w5 (.cells (byteVals zero32).toArray 24); rw [← hgx, ← hwx]; have bX : w5.heap.size ≤ gX := (by omega); have ud1 := hq; clear hgx hwx hq
      refine hK.out _ _ ?_ (fun hHeld => ?_)
      · exact HKE.out _ ud1
      clear hK K
      try simp only [Act.put, List.setIfInBounds_toArray, List.set_cons_zero, List.set_cons_succ]
      refine wpAnyH_ready (rs := [2, 7]) (by kernel_rfl) (by simp) ?_
      refine AllReadyH.cons (by simp only [List.getElem?_toArray, List.getElem?_cons_succ, List.getElem?_cons_zero] <;> rfl) (fun K hK => ?_) ?_
      · go_simp; refine (CS1.out _ ud1).mono ?_; rintro e wv2 ⟨rfl, hq⟩; have ud2 := ud1.trans hq; have fX_2 := Lib.hid (row_updH fX_1.out hq); clear hq; go_wp2_with fail
        refine hK.out _ _ ?_ (fun hHeld => ?_)
        · exact HKE.out _ ud2
        clear hK K
        try simp only [Act.put, List.setIfInBounds_toArray, List.set_cons_zero, List.set_cons_succ]
        refine wpAnyH_ready (rs := [5, 7]) (by kernel_rfl) (by simp) ?_
        refine AllReadyH.cons (by simp only [List.getElem?_toArray, List.getElem?_cons_succ, List.getElem?_cons_zero] <;> rfl) (fun K hK => ?_) ?_
        · go_simp; refine (CS2.out _ ud2).mono ?_; rintro e wv3 ⟨rfl, hq⟩; have ud3 := ud2.trans hq; have fX_3 := Lib.hid (row_updH fX_2.out hq); clear hq; go_wp2_with fail
          refine hK.out _ _ ?_ (fun hHeld => ?_)
          · exact HKE.out _ ud3
          clear hK K
          try simp only [Act.put, List.setIfInBounds_toArray, List.set_cons_zero, List.set_cons_succ]
          refine wpAnyH_ready (rs := [7]) (by kernel_rfl) (by simp) ?_
          refine AllReadyH.cons (by simp only [List.getElem?_toArray, List.getElem?_cons_succ, List.getElem?_cons_zero] <;> rfl) (fun K hK => ?_) ?_
          · go_simp; rw [show (#[.int .u8 0, .int .u8 0, .int .u8 0, .int .u8 0, .int .u8 0, .int .u8 0, .int .u8 0, .int .u8 0, .int .u8 0, .int .u8 0, .int .u8 0, .int .u8 0, .int .u8 0, .int .u8 0, .int .u8 0, .int .u8 0, .int .u8 0, .int .u8 0, .int .u8 0, .int .u8 0, .int .u8 0, .int .u8 0, .int .u8 0, .int .u8 0, .int .u8 0, .int .u8 0, .int .u8 0, .int .u8 0, .int .u8 0, .int .u8 0, .int .u8 0, .int .u8 0] : Array Value) = (byteVals zero32).toArray from rfl]; obtain ⟨gY, wv4, hgx, hwx, fY_4, hq⟩ := alloc_let (wv3) (.cells (byteVals zero32).toArray 24); rw [← hgx, ← hwx]; have bY : w5.heap.size ≤ gY := (by have := ud3.size; omega); have ud4 := ud3.trans hq; have fX_4 := Lib.hid (row_updH fX_3.out hq); have ne_X_Y : gX ≠ gY := (by have := (Array.getElem?_eq_some_iff.1 fX_3.out).1; omega); clear hgx hwx hq
            refine hK.out _ _ ?_ (fun hHeld => ?_)
            · exact HKE.out _ ud4
            clear hK K
            try simp only [Act.put, List.setIfInBounds_toArray, List.set_cons_zero, List.set_cons_succ]
            refine wpAnyH_ready (rs := [8]) (by kernel_rfl) (by simp) ?_
            refine AllReadyH.cons (by simp only [List.getElem?_toArray, List.getElem?_cons_succ, List.getElem?_cons_zero] <;> rfl) (fun K hK => ?_) ?_
            · rw [if_pos (by rfl)]; refine wp_store_row 24 _ _ rfl gX H1 rfl rfl _ _ fX_4.out XI.out XZ.out XO.out ?_; obtain ⟨wv5, hwx⟩ : ∃ W' : World, W' = wv4.setRow gX H1 := ⟨_, rfl⟩; have fX_5 : Hid (wv5.heap[gX]? = some (.cells H1 24 (0, 0))) := (by show _ = _; rw [hwx]; exact setRow_heap _ _ _ _ _ _ fX_4.out); have fY_5 := Lib.hid (row_setRowO fY_4.out ne_X_Y.symm H1); rw [← hwx] at fY_5; have ud5 := ud4.setRowNew bX H1; rw [← hwx] at ud5 ⊢; clear hwx
              refine hK.out _ _ ?_ (fun hHeld => ?_)
              · exact HKE.out _ ud5
              clear hK K
              try simp only [Act.put]
              refine wpAnyH_ready (rs := [9]) (by kernel_rfl) (by simp) ?_
              refine AllReadyH.cons (by simp only [List.getElem?_toArray, List.getElem?_cons_succ, List.getElem?_cons_zero] <;> rfl) (fun K hK => ?_) ?_
              · rw [if_pos (by rfl)]; refine wp_store_row 24 _ _ rfl gY H2 rfl rfl _ _ fY_5.out YI.out YZ.out YO.out ?_; obtain ⟨wv6, hwx⟩ : ∃ W' : World, W' = wv5.setRow gY H2 := ⟨_, rfl⟩; have fY_6 : Hid (wv6.heap[gY]? = some (.cells H2 24 (0, 0))) := (by show _ = _; rw [hwx]; exact setRow_heap _ _ _ _ _ _ fY_5.out); have fX_6 := Lib.hid (row_setRowO fX_5.out ne_X_Y H2); rw [← hwx] at fX_6; have ud6 := ud5.setRowNew bY H2; rw [← hwx] at ud6 ⊢; clear hwx
                refine hK.out _ _ ?_ (fun hHeld => ?_)
                · exact HKE.out _ ud6
                clear hK K
                try simp only [Act.put]
                refine wpAnyH_done (by kernel_rfl) ?_ _
                refine NoPanic.normal ?_
                exact hJ gX gY wv6 fX_6 fY_6 ud6
              exact AllReadyH.nil
            exact AllReadyH.nil
          exact AllReadyH.nil
        refine AllReadyH.cons (by simp only [List.getElem?_toArray, List.getElem?_cons_succ, List.getElem?_cons_zero] <;> rfl) (fun K hK => ?_) ?_
        · go_simp; rw [show (#[.int .u8 0, .int .u8 0, .int .u8 0, .int .u8 0, .int .u8 0, .int .u8 0, .int .u8 0, .int .u8 0, .int .u8 0, .int .u8 0, .int .u8 0, .int .u8 0, .int .u8 0, .int .u8 0, .int .u8 0, .int .u8 0, .int .u8 0, .int .u8 0, .int .u8 0, .int .u8 0, .int .u8 0, .int .u8 0, .int .u8 0, .int .u8 0, .int .u8 0, .int .u8 0, .int .u8 0, .int .u8 0, .int .u8 0, .int .u8 0, .int .u8 0, .int .u8 0] : Array Value) = (byteVals zero32).toArray from rfl]; obtain ⟨gY, wv3, hgx, hwx, fY_3, hq⟩ := alloc_let (wv2) (.cells (byteVals zero32).toArray 24); rw [← hgx, ← hwx]; have bY : w5.heap.size ≤ gY := (by have := ud2.size; omega); have ud3 := ud2.trans hq; have fX_3 := Lib.hid (row_updH fX_2.out hq); have ne_X_Y : gX ≠ gY := (by have := (Array.getElem?_eq_some_iff.1 fX_2.out).1; omega); clear hgx hwx hq
          refine hK.out _ _ ?_ (fun hHeld => ?_)
          · exact HKE.out _ ud3
          clear hK K
          try simp only [Act.put, List.setIfInBounds_toArray, List.set_cons_zero, List.set_cons_succ]
          refine wpAnyH_ready (rs := [5]) (by kernel_rfl) (by simp) ?_
          refine AllReadyH.cons (by simp only [List.getElem?_toArray, List.getElem?_cons_succ, List.getElem?_cons_zero] <;> rfl) (fun K hK => ?_) ?_
          · go_simp; refine (CS2.out _ ud3).mono ?_; rintro e wv4 ⟨rfl, hq⟩; have ud4 := ud3.trans hq; have fX_4 := Lib.hid (row_updH fX_3.out hq); have fY_4 := Lib.hid (row_updH fY_3.out hq); clear hq; go_wp2_with fail
            refine hK.out _ _ ?_ (fun hHeld => ?_)
            · exact HKE.out _ ud4
            clear hK K
            try simp only [Act.put, List.setIfInBounds_toArray, List.set_cons_zero, List.set_cons_succ]
            refine wpAnyH_ready (rs := [8]) (by kernel_rfl) (by simp) ?_
            refine AllReadyH.cons (by simp only [List.getElem?_toArray, List.getElem?_cons_succ, List.getElem?_cons_zero] <;> rfl) (fun K hK => ?_) ?_
            · rw [if_pos (by rfl)]; refine wp_store_row 24 _ _ rfl gX H1 rfl rfl _ _ fX_4.out XI.out XZ.out XO.out ?_; obtain ⟨wv5, hwx⟩ : ∃ W' : World, W' = wv4.setRow gX H1 := ⟨_, rfl⟩; have fX_5 : Hid (wv5.heap[gX]? = some (.cells H1 24 (0, 0))) := (by show _ = _; rw [hwx]; exact setRow_heap _ _ _ _ _ _ fX_4.out); have fY_5 := Lib.hid (row_setRowO fY_4.out ne_X_Y.symm H1); rw [← hwx] at fY_5; have ud5 := ud4.setRowNew bX H1; rw [← hwx] at ud5 ⊢; clear hwx
              refine hK.out _ _ ?_ (fun hHeld => ?_)
              · exact HKE.out _ ud5
              clear hK K
              try simp only [Act.put]
              refine wpAnyH_ready (rs := [9]) (by kernel_rfl) (by simp) ?_
              refine AllReadyH.cons (by simp only [List.getElem?_toArray, List.getElem?_cons_succ, List.getElem?_cons_zero] <;> rfl) (fun K hK => ?_) ?_
              · rw [if_pos (by rfl)]; refine wp_store_row 24 _ _ rfl gY H2 rfl rfl _ _ fY_5.out YI.out YZ.out YO.out ?_; obtain ⟨wv6, hwx⟩ : ∃ W' : World, W' = wv5.setRow gY H2 := ⟨_, rfl⟩; have fY_6 : Hid (wv6.heap[gY]? = some (.cells H2 24 (0, 0))) := (by show _ = _; rw [hwx]; exact setRow_heap _ _ _ _ _ _ fY_5.out); have fX_6 := Lib.hid (row_setRowO fX_5.out ne_X_Y H2); rw [← hwx] at fX_6; have ud6 := ud5.setRowNew bY H2; rw [← hwx] at ud6 ⊢; clear hwx
                refine hK.out _ _ ?_ (fun hHeld => ?_)
                · exact HKE.out _ ud6
                clear hK K
                try simp only [Act.put]
                refine wpAnyH_done (by kernel_rfl) ?_ _
                refine NoPanic.normal ?_
                exact hJ gX gY wv6 fX_6 fY_6 ud6
              exact AllReadyH.nil
            exact AllReadyH.nil
          exact AllReadyH.nil
        exact AllReadyH.nil
      refine AllReadyH.cons (by simp only [List.getElem?_toArray, List.getElem?_cons_succ, List.getElem?_cons_zero] <;> rfl) (fun K hK => ?_) ?_
      · go_simp; rw [show (#[.int .u8 0, .int .u8 0, .int .u8 0, .int .u8 0, .int .u8 0, .int .u8 0, .int .u8 0, .int .u8 0, .int .u8 0, .int .u8 0, .int .u8 0, .int .u8 0, .int .u8 0, .int .u8 0, .int .u8 0, .int .u8 0, .int .u8 0, .int .u8 0, .int .u8 0, .int .u8 0, .int .u8 0, .int .u8 0, .int .u8 0, .int .u8 0, .int .u8 0, .int .u8 0, .int .u8 0, .int .u8 0, .int .u8 0, .int .u8 0, .int .u8 0, .int .u8 0] : Array Value) = (byteVals zero32).toArray from rfl]; obtain ⟨gY, wv2, hgx, hwx, fY_2, hq⟩ := alloc_let (wv1) (.cells (byteVals zero32).toArray 24); rw [← hgx, ← hwx]; have bY : w5.heap.size ≤ gY := (by have := ud1.size; omega); have ud2 := ud1.trans hq; have fX_2 := Lib.hid (row_updH fX_1.out hq); have ne_X_Y : gX ≠ gY := (by have := (Array.getElem?_eq_some_iff.1 fX_1.out).1; omega); clear hgx hwx hq
        refine hK.out _ _ ?_ (fun hHeld => ?_)
        · exact HKE.out _ ud2
        clear hK K
        try simp only [Act.put, List.setIfInBounds_toArray, List.set_cons_zero, List.set_cons_succ]
        refine wpAnyH_ready (rs := [2]) (by kernel_rfl) (by simp) ?_
        refine AllReadyH.cons (by simp only [List.getElem?_toArray, List.getElem?_cons_succ, List.getElem?_cons_zero] <;> rfl) (fun K hK => ?_) ?_
        · go_simp; refine (CS1.out _ ud2).mono ?_; rintro e wv3 ⟨rfl, hq⟩; have ud3 := ud2.trans hq; have fX_3 := Lib.hid (row_updH fX_2.out hq); have fY_3 := Lib.hid (row_updH fY_2.out hq); clear hq; go_wp2_with fail
          refine hK.out _ _ ?_ (fun hHeld => ?_)
          · exact HKE.out _ ud3
          clear hK K
          try simp only [Act.put, List.setIfInBounds_toArray, List.set_cons_zero, List.set_cons_succ]
          refine wpAnyH_ready (rs := [5]) (by kernel_rfl) (by simp) ?_
          refine AllReadyH.cons (by simp only [List.getElem?_toArray, List.getElem?_cons_succ, List.getElem?_cons_zero] <;> rfl) (fun K hK => ?_) ?_
          · go_simp; refine (CS2.out _ ud3).mono ?_; rintro e wv4 ⟨rfl, hq⟩; have ud4 := ud3.trans hq; have fX_4 := Lib.hid (row_updH fX_3.out hq); have fY_4 := Lib.hid (row_updH fY_3.out hq); clear hq; go_wp2_with fail
            refine hK.out _ _ ?_ (fun hHeld => ?_)
            · exact HKE.out _ ud4
            clear hK K
            try simp only [Act.put, List.setIfInBounds_toArray, List.set_cons_zero, List.set_cons_succ]
            refine wpAnyH_ready (rs := [8]) (by kernel_rfl) (by simp) ?_
            refine AllReadyH.cons (by simp only [List.getElem?_toArray, List.getElem?_cons_succ, List.getElem?_cons_zero] <;> rfl) (fun K hK => ?_) ?_
            · rw [if_pos (by rfl)]; refine wp_store_row 24 _ _ rfl gX H1 rfl rfl _ _ fX_4.out XI.out XZ.out XO.out ?_; obtain ⟨wv5, hwx⟩ : ∃ W' : World, W' = wv4.setRow gX H1 := ⟨_, rfl⟩; have fX_5 : Hid (wv5.heap[gX]? = some (.cells H1 24 (0, 0))) := (by show _ = _; rw [hwx]; exact setRow_heap _ _ _ _ _ _ fX_4.out); have fY_5 := Lib.hid (row_setRowO fY_4.out ne_X_Y.symm H1); rw [← hwx] at fY_5; have ud5 := ud4.setRowNew bX H1; rw [← hwx] at ud5 ⊢; clear hwx
              refine hK.out _ _ ?_ (fun hHeld => ?_)
              · exact HKE.out _ ud5
              clear hK K
              try simp only [Act.put]
              refine wpAnyH_ready (rs := [9]) (by kernel_rfl) (by simp) ?_
              refine AllReadyH.cons (by simp only [List.getElem?_toArray, List.getElem?_cons_succ, List.getElem?_cons_zero] <;> rfl) (fun K hK => ?_) ?_
              · rw [if_pos (by rfl)]; refine wp_store_row 24 _ _ rfl gY H2 rfl rfl _ _ fY_5.out YI.out YZ.out YO.out ?_; obtain ⟨wv6, hwx⟩ : ∃ W' : World, W' = wv5.setRow gY H2 := ⟨_, rfl⟩; have fY_6 : Hid (wv6.heap[gY]? = some (.cells H2 24 (0, 0))) := (by show _ = _; rw [hwx]; exact setRow_heap _ _ _ _ _ _ fY_5.out); have fX_6 := Lib.hid (row_setRowO fX_5.out ne_X_Y H2); rw [← hwx] at fX_6; have ud6 := ud5.setRowNew bY H2; rw [← hwx] at ud6 ⊢; clear hwx
                refine hK.out _ _ ?_ (fun hHeld => ?_)
                · exact HKE.out _ ud6
                clear hK K
                try simp only [Act.put]
                refine wpAnyH_done (by kernel_rfl) ?_ _
                refine NoPanic.normal ?_
                exact hJ gX gY wv6 fX_6 fY_6 ud6
              exact AllReadyH.nil
            exact AllReadyH.nil
          exact AllReadyH.nil
        exact AllReadyH.nil
      exact AllReadyH.nil
    refine AllReadyH.cons (by simp only [List.getElem?_toArray, List.getElem?_cons_succ, List.getElem?_cons_zero] <;> rfl) (fun K hK => ?_) ?_
    · go_simp; rw [show (#[.int .u8 0, .int .u8 0, .int .u8 0, .int .u8 0, .int .u8 0, .int .u8 0, .int .u8 0, .int .u8 0, .int .u8 0, .int .u8 0, .int .u8 0, .int .u8 0, .int .u8 0, .int .u8 0, .int .u8 0, .int .u8 0, .int .u8 0, .int .u8 0, .int .u8 0, .int .u8 0, .int .u8 0, .int .u8 0, .int .u8 0, .int .u8 0, .int .u8 0, .int .u8 0, .int .u8 0, .int .u8 0, .int .u8 0, .int .u8 0, .int .u8 0, .int .u8 0] : Array Value) = (byteVals zero32).toArray from rfl]; obtain ⟨gY, wv1, hgx, hwx, fY_1, hq⟩ := alloc_letD w5 (.cells (byteVals zero32).toArray 24); rw [← hgx, ← hwx]; have bY : w5.heap.size ≤ gY := (by omega); have ud1 := hq; clear hgx hwx hq
      refine hK.out _ _ ?_ (fun hHeld => ?_)
      · exact HKE.out _ ud1
      clear hK K
      try simp only [Act.put, List.setIfInBounds_toArray, List.set_cons_zero, List.set_cons_succ]
      refine wpAnyH_ready (rs := [2, 6]) (by kernel_rfl) (by simp) ?_
      refine AllReadyH.cons (by simp only [List.getElem?_toArray, List.getElem?_cons_succ, List.getElem?_cons_zero] <;> rfl) (fun K hK => ?_) ?_
      · go_simp; refine (CS1.out _ ud1).mono ?_; rintro e wv2 ⟨rfl, hq⟩; have ud2 := ud1.trans hq; have fY_2 := Lib.hid (row_updH fY_1.out hq); clear hq; go_wp2_with fail
        refine hK.out _ _ ?_ (fun hHeld => ?_)
        · exact HKE.out _ ud2
        clear hK K
        try simp only [Act.put, List.setIfInBounds_toArray, List.set_cons_zero, List.set_cons_succ]
        refine wpAnyH_ready (rs := [5, 6]) (by kernel_rfl) (by simp) ?_
        refine AllReadyH.cons (by simp only [List.getElem?_toArray, List.getElem?_cons_succ, List.getElem?_cons_zero] <;> rfl) (fun K hK => ?_) ?_
        · go_simp; refine (CS2.out _ ud2).mono ?_; rintro e wv3 ⟨rfl, hq⟩; have ud3 := ud2.trans hq; have fY_3 := Lib.hid (row_updH fY_2.out hq); clear hq; go_wp2_with fail
          refine hK.out _ _ ?_ (fun hHeld => ?_)
          · exact HKE.out _ ud3
          clear hK K
          try simp only [Act.put, List.setIfInBounds_toArray, List.set_cons_zero, List.set_cons_succ]
          refine wpAnyH_ready (rs := [6]) (by kernel_rfl) (by simp) ?_
          refine AllReadyH.cons (by simp only [List.getElem?_toArray, List.getElem?_cons_succ, List.getElem?_cons_zero] <;> rfl) (fun K hK => ?_) ?_
          · go_simp; rw [show (#[.int .u8 0, .int .u8 0, .int .u8 0, .int .u8 0, .int .u8 0, .int .u8 0, .int .u8 0, .int .u8 0, .int .u8 0, .int .u8 0, .int .u8 0, .int .u8 0, .int .u8 0, .int .u8 0, .int .u8 0, .int .u8 0, .int .u8 0, .int .u8 0, .int .u8 0, .int .u8 0, .int .u8 0, .int .u8 0, .int .u8 0, .int .u8 0, .int .u8 0, .int .u8 0, .int .u8 0, .int .u8 0, .int .u8 0, .int .u8 0, .int .u8 0, .int .u8 0] : Array Value) = (byteVals zero32).toArray from rfl]; obtain ⟨gX, wv4, hgx, hwx, fX_4, hq⟩ := alloc_let (wv3) (.cells (byteVals zero32).toArray 24); rw [← hgx, ← hwx]; have bX : w5.heap.size ≤ gX := (by have := ud3.size; omega); have ud4 := ud3.trans hq; have fY_4 := Lib.hid (row_updH fY_3.out hq); have ne_Y_X : gY ≠ gX := (by have := (Array.getElem?_eq_some_iff.1 fY_3.out).1; omega); clear hgx hwx hq
            refine hK.out _ _ ?_ (fun hHeld => ?_)
            · exact HKE.out _ ud4
            clear hK K
            try simp only [Act.put, List.setIfInBounds_toArray, List.set_cons_zero, List.set_cons_succ]
            refine wpAnyH_ready (rs := [8]) (by kernel_rfl) (by simp) ?_
            refine AllReadyH.cons (by simp only [List.getElem?_toArray, List.getElem?_cons_succ, List.getElem?_cons_zero] <;> rfl) (fun K hK => ?_) ?_
            · rw [if_pos (by rfl)]; refine wp_store_row 24 _ _ rfl gX H1 rfl rfl _ _ fX_4.out XI.out XZ.out XO.out ?_; obtain ⟨wv5, hwx⟩ : ∃ W' : World, W' = wv4.setRow gX H1 := ⟨_, rfl⟩; have fX_5 : Hid (wv5.heap[gX]? = some (.cells H1 24 (0, 0))) := (by show _ = _; rw [hwx]; exact setRow_heap _ _ _ _ _ _ fX_4.out); have fY_5 := Lib.hid (row_setRowO fY_4.out ne_Y_X H1); rw [← hwx] at fY_5; have ud5 := ud4.setRowNew bX H1; rw [← hwx] at ud5 ⊢; clear hwx
              refine hK.out _ _ ?_ (fun hHeld => ?_)
              · exact HKE.out _ ud5
              clear hK K
              try simp only [Act.put]
              refine wpAnyH_ready (rs := [9]) (by kernel_rfl) (by simp) ?_
              refine AllReadyH.cons (by simp only [List.getElem?_toArray, List.getElem?_cons_succ, List.getElem?_cons_zero] <;> rfl) (fun K hK => ?_) ?_
              · rw [if_pos (by rfl)]; refine wp_store_row 24 _ _ rfl gY H2 rfl rfl _ _ fY_5.out YI.out YZ.out YO.out ?_; obtain ⟨wv6, hwx⟩ : ∃ W' : World, W' = wv5.setRow gY H2 := ⟨_, rfl⟩; have fY_6 : Hid (wv6.heap[gY]? = some (.cells H2 24 (0, 0))) := (by show _ = _; rw [hwx]; exact setRow_heap _ _ _ _ _ _ fY_5.out); have fX_6 := Lib.hid (row_setRowO fX_5.out ne_Y_X.symm H2); rw [← hwx] at fX_6; have ud6 := ud5.setRowNew bY H2; rw [← hwx] at ud6 ⊢; clear hwx
                refine hK.out _ _ ?_ (fun hHeld => ?_)
                · exact HKE.out _ ud6
                clear hK K
                try simp only [Act.put]
                refine wpAnyH_done (by kernel_rfl) ?_ _
                refine NoPanic.normal ?_
                exact hJ gX gY wv6 fX_6 fY_6 ud6
              exact AllReadyH.nil
            exact AllReadyH.nil
          exact AllReadyH.nil
        refine AllReadyH.cons (by simp only [List.getElem?_toArray, List.getElem?_cons_succ, List.getElem?_cons_zero] <;> rfl) (fun K hK => ?_) ?_
        · go_simp; rw [show (#[.int .u8 0, .int .u8 0, .int .u8 0, .int .u8 0, .int .u8 0, .int .u8 0, .int .u8 0, .int .u8 0, .int .u8 0, .int .u8 0, .int .u8 0, .int .u8 0, .int .u8 0, .int .u8 0, .int .u8 0, .int .u8 0, .int .u8 0, .int .u8 0, .int .u8 0, .int .u8 0, .int .u8 0, .int .u8 0, .int .u8 0, .int .u8 0, .int .u8 0, .int .u8 0, .int .u8 0, .int .u8 0, .int .u8 0, .int .u8 0, .int .u8 0, .int .u8 0] : Array Value) = (byteVals zero32).toArray from rfl]; obtain ⟨gX, wv3, hgx, hwx, fX_3, hq⟩ := alloc_let (wv2) (.cells (byteVals zero32).toArray 24); rw [← hgx, ← hwx]; have bX : w5.heap.size ≤ gX := (by have := ud2.size; omega); have ud3 := ud2.trans hq; have fY_3 := Lib.hid (row_updH fY_2.out hq); have ne_Y_X : gY ≠ gX := (by have := (Array.getElem?_eq_some_iff.1 fY_2.out).1; omega); clear hgx hwx hq
          refine hK.out _ _ ?_ (fun hHeld => ?_)
          · exact HKE.out _ ud3
          clear hK K
          try simp only [Act.put, List.setIfInBounds_toArray, List.set_cons_zero, List.set_cons_succ]
          refine wpAnyH_ready (rs := [5]) (by kernel_rfl) (by simp) ?_
          refine AllReadyH.cons (by simp only [List.getElem?_toArray, List.getElem?_cons_succ, List.getElem?_cons_zero] <;> rfl) (fun K hK => ?_) ?_
          · go_simp; refine (CS2.out _ ud3).mono ?_; rintro e wv4 ⟨rfl, hq⟩; have ud4 := ud3.trans hq; have fX_4 := Lib.hid (row_updH fX_3.out hq); have fY_4 := Lib.hid (row_updH fY_3.out hq); clear hq; go_wp2_with fail
            refine hK.out _ _ ?_ (fun hHeld => ?_)
            · exact HKE.out _ ud4
            clear hK K
            try simp only [Act.put, List.setIfInBounds_toArray, List.set_cons_zero, List.set_cons_succ]
            refine wpAnyH_ready (rs := [8]) (by kernel_rfl) (by simp) ?_
            refine AllReadyH.cons (by simp only [List.getElem?_toArray, List.getElem?_cons_succ, List.getElem?_cons_zero] <;> rfl) (fun K hK => ?_) ?_
            · rw [if_pos (by rfl)]; refine wp_store_row 24 _ _ rfl gX H1 rfl rfl _ _ fX_4.out XI.out XZ.out XO.out ?_; obtain ⟨wv5, hwx⟩ : ∃ W' : World, W' = wv4.setRow gX H1 := ⟨_, rfl⟩; have fX_5 : Hid (wv5.heap[gX]? = some (.cells H1 24 (0, 0))) := (by show _ = _; rw [hwx]; exact setRow_heap _ _ _ _ _ _ fX_4.out); have fY_5 := Lib.hid (row_setRowO fY_4.out ne_Y_X H1); rw [← hwx] at fY_5; have ud5 := ud4.setRowNew bX H1; rw [← hwx] at ud5 ⊢; clear hwx
              refine hK.out _ _ ?_ (fun hHeld => ?_)
              · exact HKE.out _ ud5
              clear hK K
              try simp only [Act.put]
              refine wpAnyH_ready (rs := [9]) (by kernel_rfl) (by simp) ?_
              refine AllReadyH.cons (by simp only [List.getElem?_toArray, List.getElem?_cons_succ, List.getElem?_cons_zero] <;> rfl) (fun K hK => ?_) ?_
              · rw [if_pos (by rfl)]; refine wp_store_row 24 _ _ rfl gY H2 rfl rfl _ _ fY_5.out YI.out YZ.out YO.out ?_; obtain ⟨wv6, hwx⟩ : ∃ W' : World, W' = wv5.setRow gY H2 := ⟨_, rfl⟩; have fY_6 : Hid (wv6.heap[gY]? = some (.cells H2 24 (0, 0))) := (by show _ = _; rw [hwx]; exact setRow_heap _ _ _ _ _ _ fY_5.out); have fX_6 := Lib.hid (row_setRowO fX_5.out ne_Y_X.symm H2); rw [← hwx] at fX_6; have ud6 := ud5.setRowNew bY H2; rw [← hwx] at ud6 ⊢; clear hwx
                refine hK.out _ _ ?_ (fun hHeld => ?_)
                · exact HKE.out _ ud6
                clear hK K
                try simp only [Act.put]
                refine wpAnyH_done (by kernel_rfl) ?_ _
                refine NoPanic.normal ?_
                exact hJ gX gY wv6 fX_6 fY_6 ud6
              exact AllReadyH.nil
            exact AllReadyH.nil
          exact AllReadyH.nil
        exact AllReadyH.nil
      refine AllReadyH.cons (by simp only [List.getElem?_toArray, List.getElem?_cons_succ, List.getElem?_cons_zero] <;> rfl) (fun K hK => ?_) ?_
      · go_simp; rw [show (#[.int .u8 0, .int .u8 0, .int .u8 0, .int .u8 0, .int .u8 0, .int .u8 0, .int .u8 0, .int .u8 0, .int .u8 0, .int .u8 0, .int .u8 0, .int .u8 0, .int .u8 0, .int .u8 0, .int .u8 0, .int .u8 0, .int .u8 0, .int .u8 0, .int .u8 0, .int .u8 0, .int .u8 0, .int .u8 0, .int .u8 0, .int .u8 0, .int .u8 0, .int .u8 0, .int .u8 0, .int .u8 0, .int .u8 0, .int .u8 0, .int .u8 0, .int .u8 0] : Array Value) = (byteVals zero32).toArray from rfl]; obtain ⟨gX, wv2, hgx, hwx, fX_2, hq⟩ := alloc_let (wv1) (.cells (byteVals zero32).toArray 24); rw [← hgx, ← hwx]; have bX : w5.heap.size ≤ gX := (by have := ud1.size; omega); have ud2 := ud1.trans hq; have fY_2 := Lib.hid (row_updH fY_1.out hq); have ne_Y_X : gY ≠ gX := (by have := (Array.getElem?_eq_some_iff.1 fY_1.out).1; omega); clear hgx hwx hq
        refine hK.out _ _ ?_ (fun hHeld => ?_)
        · exact HKE.out _ ud2
        clear hK K
        try simp only [Act.put, List.setIfInBounds_toArray, List.set_cons_zero, List.set_cons_succ]
        refine wpAnyH_ready (rs := [2]) (by kernel_rfl) (by simp) ?_
        refine AllReadyH.cons (by simp only [List.getElem?_toArray, List.getElem?_cons_succ, List.getElem?_cons_zero] <;> rfl) (fun K hK => ?_) ?_
        · go_simp; refine (CS1.out _ ud2).mono ?_; rintro e wv3 ⟨rfl, hq⟩; have ud3 := ud2.trans hq; have fX_3 := Lib.hid (row_updH fX_2.out hq); have fY_3 := Lib.hid (row_updH fY_2.out hq); clear hq; go_wp2_with fail
          refine hK.out _ _ ?_ (fun hHeld => ?_)
          · exact HKE.out _ ud3
          clear hK K
          try simp only [Act.put, List.setIfInBounds_toArray, List.set_cons_zero, List.set_cons_succ]
          refine wpAnyH_ready (rs := [5]) (by kernel_rfl) (by simp) ?_
          refine AllReadyH.cons (by simp only [List.getElem?_toArray, List.getElem?_cons_succ, List.getElem?_cons_zero] <;> rfl) (fun K hK => ?_) ?_
          · go_simp; refine (CS2.out _ ud3).mono ?_; rintro e wv4 ⟨rfl, hq⟩; have ud4 := ud3.trans hq; have fX_4 := Lib.hid (row_updH fX_3.out hq); have fY_4 := Lib.hid (row_updH fY_3.out hq); clear hq; go_wp2_with fail
            refine hK.out _ _ ?_ (fun hHeld => ?_)
            · exact HKE.out _ ud4
            clear hK K
            try simp only [Act.put, List.setIfInBounds_toArray, List.set_cons_zero, List.set_cons_succ]
            refine wpAnyH_ready (rs := [8]) (by kernel_rfl) (by simp) ?_
            refine AllReadyH.cons (by simp only [List.getElem?_toArray, List.getElem?_cons_succ, List.getElem?_cons_zero] <;> rfl) (fun K hK => ?_) ?_
            · rw [if_pos (by rfl)]; refine wp_store_row 24 _ _ rfl gX H1 rfl rfl _ _ fX_4.out XI.out XZ.out XO.out ?_; obtain ⟨wv5, hwx⟩ : ∃ W' : World, W' = wv4.setRow gX H1 := ⟨_, rfl⟩; have fX_5 : Hid (wv5.heap[gX]? = some (.cells H1 24 (0, 0))) := (by show _ = _; rw [hwx]; exact setRow_heap _ _ _ _ _ _ fX_4.out); have fY_5 := Lib.hid (row_setRowO fY_4.out ne_Y_X H1); rw [← hwx] at fY_5; have ud5 := ud4.setRowNew bX H1; rw [← hwx] at ud5 ⊢; clear hwx
              refine hK.out _ _ ?_ (fun hHeld => ?_)
              · exact HKE.out _ ud5
              clear hK K
              try simp only [Act.put]
              refine wpAnyH_ready (rs := [9]) (by kernel_rfl) (by simp) ?_
              refine AllReadyH.cons (by simp only [List.getElem?_toArray, List.getElem?_cons_succ, List.getElem?_cons_zero] <;> rfl) (fun K hK => ?_) ?_
              · rw [if_pos (by rfl)]; refine wp_store_row 24 _ _ rfl gY H2 rfl rfl _ _ fY_5.out YI.out YZ.out YO.out ?_; obtain ⟨wv6, hwx⟩ : ∃ W' : World, W' = wv5.setRow gY H2 := ⟨_, rfl⟩; have fY_6 : Hid (wv6.heap[gY]? = some (.cells H2 24 (0, 0))) := (by show _ = _; rw [hwx]; exact setRow_heap _ _ _ _ _ _ fY_5.out); have fX_6 := Lib.hid (row_setRowO fX_5.out ne_Y_X.symm H2); rw [← hwx] at fX_6; have ud6 := ud5.setRowNew bY H2; rw [← hwx] at ud6 ⊢; clear hwx
                refine hK.out _ _ ?_ (fun hHeld => ?_)
                · exact HKE.out _ ud6
                clear hK K
                try simp only [Act.put]
                refine wpAnyH_done (by kernel_rfl) ?_ _
                refine NoPanic.normal ?_
                exact hJ gX gY wv6 fX_6 fY_6 ud6
              exact AllReadyH.nil
            exact AllReadyH.nil
          exact AllReadyH.nil
        exact AllReadyH.nil
      exact AllReadyH.nil
    exact AllReadyH.nil
  intro gX gY wA FX FY uA
  clear ud0 XI YI XO YO XZ YZ CS1 CS2
  have HKX : Hid (∀ W, Upd [] [] wA W → (Instr.loadAt 71 (.pointer (some ⟨G1, 0, none⟩))).run Tryz.prog W = .ok (.agg E1) W ∧ (Instr.loadAt 71 (.pointer (some ⟨G2, 0, none⟩))).run Tryz.prog W = .ok (.agg E2) W ∧ (Instr.loadAt 24 (.pointer (some ⟨gX, 0, none⟩))).run Tryz.prog W = .ok (.agg H1) W ∧ (Instr.loadAt 24 (.pointer (some ⟨gY, 0, none⟩))).run Tryz.prog W = .ok (.agg H2) W) := by
    intro W u
    obtain ⟨h1, h2⟩ := HKE.out W (uA.trans u)
    exact ⟨h1, h2, hash_load (sha_len _) H1 HH1.out (row_updH FX.out u), hash_load (sha_len _) H2 HH2.out (row_updH FY.out u)⟩
  clear HKE FX FY HH1 HH2
  go_upto_region 5 with (fail)
  have ue0 : Upd [] [] wA wA.drew := (Upd.refl _ _).drew
  obtain ⟨heq1, heq2, heq3⟩ := HEQ.out
  refine @id ((∀ W : World, Upd [] [] wA W → (?pj4 : World → Prop) W) → _) (fun hJ => ?mj4) ?jj4
  case mj4 =>
    refine wp_region_noPanic ?_
    refine wp_region_held_drew (S := fun wp => (Instr.loadAt 71 (.pointer (some ⟨G1, 0, none⟩))).run Tryz.prog wp = .ok (.agg E1) wp ∧ (Instr.loadAt 71 (.pointer (some ⟨G2, 0, none⟩))).run Tryz.prog wp = .ok (.agg E2) wp ∧ (Instr.loadAt 24 (.pointer (some ⟨gX, 0, none⟩))).run Tryz.prog wp = .ok (.agg H1) wp ∧ (Instr.loadAt 24 (.pointer (some ⟨gY, 0, none⟩))).run Tryz.prog wp = .ok (.agg H2) wp) (by kernel_rfl) ?_ (fun hHeld => ?_)
    · exact HKX.out _ ue0
    refine wpAnyH_take (i := 0) (v := .agg H1) (by simp only [List.getElem?_toArray, List.getElem?_cons_zero] <;> rfl) (by kernel_rfl) (by kernel_rfl) (by kernel_rfl) (fun _ _ _ h => h) (yieldsIf_loadW (by rfl) _ _ rfl _ rfl H1 (fun w hSw => hSw.2.2.1)) hHeld ?_
    try simp only [Act.put, List.setIfInBounds_toArray, List.set_cons_zero, List.set_cons_succ]
    refine wpAnyH_take (i := 1) (v := .agg E1) (by simp only [List.getElem?_toArray, List.getElem?_cons_succ, List.getElem?_cons_zero] <;> rfl) (by kernel_rfl) (by kernel_rfl) (by kernel_rfl) (fun _ _ _ h => h) (yieldsIf_loadW (by rfl) _ _ rfl _ rfl E1 (fun w hSw => hSw.1)) hHeld ?_
    try simp only [Act.put, List.setIfInBounds_toArray, List.set_cons_zero, List.set_cons_succ]
    refine wpAnyH_take (i := 2) (v := ?v5) (by simp only [List.getElem?_toArray, List.getElem?_cons_succ, List.getElem?_cons_zero] <;> rfl) (by kernel_rfl) (by kernel_rfl) (by kernel_rfl) (fun _ _ _ h => h) (Or.inl ⟨by rfl, ?y5⟩) hHeld ?r5
    case y5 => (intro w hSw; (try dsimp only at hSw); go_simp; first | done | with_reducible rfl | rfl)
    try simp only [Act.put, List.setIfInBounds_toArray, List.set_cons_zero, List.set_cons_succ]
    refine wpAnyH_ready (rs := [3]) (by kernel_rfl) (by simp) ?_
    refine AllReadyH.cons (by simp only [List.getElem?_toArray, List.getElem?_cons_succ, List.getElem?_cons_zero] <;> rfl) (fun K hK => ?_) ?_
    · go_simp; refine (RS1.out _ (uA.trans ue0)).mono ?_; rintro e wv1 ⟨rfl, hq⟩; have ue1 := ue0.trans hq; clear hq; go_wp2_with fail
      refine hK.out _ _ ?_ (fun hHeld => ?_)
      · exact HKX.out _ ue1
      clear hK K
      try simp only [Act.put, List.setIfInBounds_toArray, List.set_cons_zero, List.set_cons_succ]
      refine wpAnyH_take (i := 4) (v := ?v6) (by simp only [List.getElem?_toArray, List.getElem?_cons_succ, List.getElem?_cons_zero] <;> rfl) (by kernel_rfl) (by kernel_rfl) (by kernel_rfl) (fun _ _ _ h => h) (Or.inl ⟨by rfl, ?y6⟩) hHeld ?r6
      case y6 => (intro w hSw; (try dsimp only at hSw); go_simp; first | done | with_reducible rfl | rfl)
      try simp only [Act.put, List.setIfInBounds_toArray, List.set_cons_zero, List.set_cons_succ]
      refine wpAnyH_take (i := 5) (v := ?v7) (by simp only [List.getElem?_toArray, List.getElem?_cons_succ, List.getElem?_cons_zero] <;> rfl) (by kernel_rfl) (by kernel_rfl) (by kernel_rfl) (fun _ _ _ h => h) (Or.inl ⟨by rfl, ?y7⟩) hHeld ?r7
      case y7 => (intro w hSw; (try dsimp only at hSw); go_simp; first | done | with_reducible rfl | rfl)
      try simp only [Act.put, List.setIfInBounds_toArray, List.set_cons_zero, List.set_cons_succ]
      refine wpAnyH_take (i := 6) (v := .agg H2) (by simp only [List.getElem?_toArray, List.getElem?_cons_succ, List.getElem?_cons_zero] <;> rfl) (by kernel_rfl) (by kernel_rfl) (by kernel_rfl) (fun _ _ _ h => h) (yieldsIf_loadW (by rfl) _ _ rfl _ rfl H2 (fun w hSw => hSw.2.2.2)) hHeld ?_
      try simp only [Act.put, List.setIfInBounds_toArray, List.set_cons_zero, List.set_cons_succ]
      refine wpAnyH_take (i := 7) (v := .agg E2) (by simp only [List.getElem?_toArray, List.getElem?_cons_succ, List.getElem?_cons_zero] <;> rfl) (by kernel_rfl) (by kernel_rfl) (by kernel_rfl) (fun _ _ _ h => h) (yieldsIf_loadW (by rfl) _ _ rfl _ rfl E2 (fun w hSw => hSw.2.1)) hHeld ?_
      try simp only [Act.put, List.setIfInBounds_toArray, List.set_cons_zero, List.set_cons_succ]
      refine wpAnyH_take (i := 8) (v := ?v8) (by simp only [List.getElem?_toArray, List.getElem?_cons_succ, List.getElem?_cons_zero] <;> rfl) (by kernel_rfl) (by kernel_rfl) (by kernel_rfl) (fun _ _ _ h => h) (Or.inl ⟨by rfl, ?y8⟩) hHeld ?r8
      case y8 => (intro w hSw; (try dsimp only at hSw); go_simp; first | done | with_reducible rfl | rfl)
      try simp only [Act.put, List.setIfInBounds_toArray, List.set_cons_zero, List.set_cons_succ]
      refine wpAnyH_ready (rs := [9]) (by kernel_rfl) (by simp) ?_
      refine AllReadyH.cons (by simp only [List.getElem?_toArray, List.getElem?_cons_succ, List.getElem?_cons_zero] <;> rfl) (fun K hK => ?_) ?_
      · go_simp; refine (RS2.out _ (uA.trans ue1)).mono ?_; rintro e wv2 ⟨rfl, hq⟩; have ue2 := ue1.trans hq; clear hq; go_wp2_with fail
        refine hK.out _ _ ?_ (fun hHeld => ?_)
        · exact HKX.out _ ue2
        clear hK K
        try simp only [Act.put, List.setIfInBounds_toArray, List.set_cons_zero, List.set_cons_succ]
        refine wpAnyH_take (i := 10) (v := ?v9) (by simp only [List.getElem?_toArray, List.getElem?_cons_succ, List.getElem?_cons_zero] <;> rfl) (by kernel_rfl) (by kernel_rfl) (by kernel_rfl) (fun _ _ _ h => h) (Or.inl ⟨by rfl, ?y9⟩) hHeld ?r9
        case y9 => (intro w hSw; (try dsimp only at hSw); go_simp; first | done | with_reducible rfl | rfl)
        try simp only [Act.put, List.setIfInBounds_toArray, List.set_cons_zero, List.set_cons_succ]
        refine wpAnyH_take (i := 11) (v := ?v10) (by simp only [List.getElem?_toArray, List.getElem?_cons_succ, List.getElem?_cons_zero] <;> rfl) (by kernel_rfl) (by kernel_rfl) (by kernel_rfl) (fun _ _ _ h => h) (Or.inl ⟨by rfl, ?y10⟩) hHeld ?r10
        case y10 => (intro w hSw; (try dsimp only at hSw); go_simp; first | done | with_reducible rfl | rfl)
        try simp only [Act.put, List.setIfInBounds_toArray, List.set_cons_zero, List.set_cons_succ]
        refine wpAnyH_done (by kernel_rfl) ?_ _
        refine NoPanic.normal ?_
        exact hJ wv2 ue2
      exact AllReadyH.nil
    exact AllReadyH.nil
  intro wB uB
  clear ue0 RS1 RS2
  have hlen : Hid (p.sl.length ≤ 100000 ∧ q.sl.length ≤ 100000) := by
    have e1 := sealL_len (bs p.salt) p.txt (by rw [bs_length]; have := p.salt_le; omega)
    have e2 := sealL_len (bs q.salt) q.txt (by rw [bs_length]; have := q.salt_le; omega)
    rw [bs_length] at e1 e2
    have e3 := p.salt_le
    have e4 := q.salt_le
    have e5 := HTL.out
    unfold Psn.sl
    exact ⟨by omega, by omega⟩
  have HCL : Hid (¬ (S1 = S2 ∧ p.txt = q.txt) → ∀ s1 s2 : ByteArray, bs s1 = p.sl → bs s2 = q.sl → clashB s1 s2 = hb) := by
    intro hn s1 s2 h1 h2
    have hne : p.sl ≠ q.sl := by
      intro e
      have l1 := p.salt_le
      have l2 := q.salt_le
      obtain ⟨e1, e2⟩ := sealL_inj (by rw [bs_length]; omega) (by rw [bs_length]; omega) e
      exact hn ⟨by rw [HS1.out, HS2.out]; exact bs_injE e1, e2⟩
    rw [← HHB.out]
    unfold clashB
    rw [h1, h2]
    have : (s2.toList == s1.toList) = false := by
      rw [beq_eq_false_iff_ne]
      intro e
      have e' : bs s2 = bs s1 := by rw [ByteArray.toList_eq, ByteArray.toList_eq] at e; exact e
      rw [h1, h2] at e'
      exact hne e'.symm
    rw [this]
    simp only [Bool.not_false, Bool.true_and, decide_eq_decide]
    exact ⟨fun h => h.symm, fun h => h.symm⟩
  have HBT : Hid (S1 = S2 ∧ p.txt = q.txt → hb = true) := by
    rintro ⟨e1, e2⟩
    rw [← HHB.out, decide_eq_true_eq]
    unfold Psn.sl
    rw [← HS1.out, ← HS2.out, e1, e2]
  have HUA := Lib.hid (HU5.out.trans uA)
  clear HHB HS1 HS2 HEQ heq1 heq2
  by_cases hst : S1 = S2
  case neg =>
    have hsb : (S1.toList == S2.toList) = false := by
      rw [beq_eq_false_iff_ne]
      intro e
      exact hst (bs_injE (by rw [ByteArray.toList_eq, ByteArray.toList_eq] at e; exact e))
    have HCT := Lib.hid (HCL.out (fun h => hst h.1))
    clear hst HCL HBT
    go_upto_region 7 with (fail)
    have ue0 : Upd [] [] wA wB.drew := uB.drew
    refine @id ((?pj11 : Prop) → _) (fun hJ => ?mj11) ?jj11
    case mj11 =>
      refine wp_region_noPanic ?_
      refine wp_region_held_drew (S := fun wp => (Instr.loadAt 71 (.pointer (some ⟨G1, 0, none⟩))).run Tryz.prog wp = .ok (.agg E1) wp ∧ (Instr.loadAt 71 (.pointer (some ⟨G2, 0, none⟩))).run Tryz.prog wp = .ok (.agg E2) wp ∧ (Instr.loadAt 24 (.pointer (some ⟨gX, 0, none⟩))).run Tryz.prog wp = .ok (.agg H1) wp ∧ (Instr.loadAt 24 (.pointer (some ⟨gY, 0, none⟩))).run Tryz.prog wp = .ok (.agg H2) wp) (by kernel_rfl) ?_ (fun hHeld => ?_)
      · exact HKX.out _ ue0
      refine wpAnyH_take (i := 0) (v := ?v12) (by simp only [List.getElem?_toArray, List.getElem?_cons_zero] <;> rfl) (by kernel_rfl) (by kernel_rfl) (by kernel_rfl) (fun _ _ _ h => h) (Or.inl ⟨by rfl, ?y12⟩) hHeld ?r12
      case y12 => (intro w hSw; (try dsimp only at hSw); go_simp; first | done | with_reducible rfl | rfl)
      try simp only [Act.put, List.setIfInBounds_toArray, List.set_cons_zero, List.set_cons_succ]
      refine wpAnyH_take (i := 1) (v := ?v13) (by simp only [List.getElem?_toArray, List.getElem?_cons_succ, List.getElem?_cons_zero] <;> rfl) (by kernel_rfl) (by kernel_rfl) (by kernel_rfl) (fun _ _ _ h => h) (Or.inl ⟨by rfl, ?y13⟩) hHeld ?r13
      case y13 => (intro w hSw; (try dsimp only at hSw); go_simp; first | done | with_reducible rfl | rfl)
      try simp only [Act.put, List.setIfInBounds_toArray, List.set_cons_zero, List.set_cons_succ]
      refine wpAnyH_take (i := 2) (v := ?v14) (by simp only [List.getElem?_toArray, List.getElem?_cons_succ, List.getElem?_cons_zero] <;> rfl) (by kernel_rfl) (by kernel_rfl) (by kernel_rfl) (fun _ _ _ h => h) (Or.inl ⟨by rfl, ?y14⟩) hHeld ?r14
      case y14 => (intro w hSw; (try dsimp only at hSw); go_simp; first | done | with_reducible rfl | rfl)
      try simp only [Act.put, List.setIfInBounds_toArray, List.set_cons_zero, List.set_cons_succ]
      refine wpAnyH_take (i := 3) (v := ?v15) (by simp only [List.getElem?_toArray, List.getElem?_cons_succ, List.getElem?_cons_zero] <;> rfl) (by kernel_rfl) (by kernel_rfl) (by kernel_rfl) (fun _ _ _ h => h) (Or.inl ⟨by rfl, ?y15⟩) hHeld ?r15
      case y15 => (intro w hSw; (try dsimp only at hSw); go_simp; first | done | with_reducible rfl | rfl)
      try simp only [Act.put, List.setIfInBounds_toArray, List.set_cons_zero, List.set_cons_succ]
      refine wpAnyH_take (i := 4) (v := undef) (by simp only [List.getElem?_toArray, List.getElem?_cons_succ, List.getElem?_cons_zero] <;> rfl) (by kernel_rfl) (by kernel_rfl) (by kernel_rfl) (fun _ _ _ h => h) (Or.inr ⟨by rfl, rfl⟩) hHeld ?_
      try simp only [Act.put, List.setIfInBounds_toArray, List.set_cons_zero, List.set_cons_succ]
      refine wpAnyH_take (i := 5) (v := undef) (by simp only [List.getElem?_toArray, List.getElem?_cons_succ, List.getElem?_cons_zero] <;> rfl) (by kernel_rfl) (by kernel_rfl) (by kernel_rfl) (fun _ _ _ h => h) (Or.inr ⟨by rfl, rfl⟩) hHeld ?_
      try simp only [Act.put, List.setIfInBounds_toArray, List.set_cons_zero, List.set_cons_succ]
      refine wpAnyH_take (i := 6) (v := undef) (by simp only [List.getElem?_toArray, List.getElem?_cons_succ, List.getElem?_cons_zero] <;> rfl) (by kernel_rfl) (by kernel_rfl) (by kernel_rfl) (fun _ _ _ h => h) (Or.inr ⟨by rfl, rfl⟩) hHeld ?_
      try simp only [Act.put, List.setIfInBounds_toArray, List.set_cons_zero, List.set_cons_succ]
      refine wpAnyH_take (i := 7) (v := undef) (by simp only [List.getElem?_toArray, List.getElem?_cons_succ, List.getElem?_cons_zero] <;> rfl) (by kernel_rfl) (by kernel_rfl) (by kernel_rfl) (fun _ _ _ h => h) (Or.inr ⟨by rfl, rfl⟩) hHeld ?_
      try simp only [Act.put, List.setIfInBounds_toArray, List.set_cons_zero, List.set_cons_succ]
      refine wpAnyH_take (i := 8) (v := undef) (by simp only [List.getElem?_toArray, List.getElem?_cons_succ, List.getElem?_cons_zero] <;> rfl) (by kernel_rfl) (by kernel_rfl) (by kernel_rfl) (fun _ _ _ h => h) (Or.inr ⟨by rfl, rfl⟩) hHeld ?_
      try simp only [Act.put, List.setIfInBounds_toArray, List.set_cons_zero, List.set_cons_succ]
      refine wpAnyH_take (i := 9) (v := ?v16) (by simp only [List.getElem?_toArray, List.getElem?_cons_succ, List.getElem?_cons_zero] <;> rfl) (by kernel_rfl) (by kernel_rfl) (by kernel_rfl) (fun _ _ _ h => h) (Or.inl ⟨by rfl, ?y16⟩) hHeld ?r16
      case y16 => (intro w hSw; (try dsimp only at hSw); go_simp; first | done | with_reducible rfl | rfl)
      try simp only [Act.put, List.setIfInBounds_toArray, List.set_cons_zero, List.set_cons_succ]
      refine wpAnyH_take (i := 10) (v := ?v17) (by simp only [List.getElem?_toArray, List.getElem?_cons_succ, List.getElem?_cons_zero] <;> rfl) (by kernel_rfl) (by kernel_rfl) (by kernel_rfl) (fun _ _ _ h => h) (Or.inl ⟨by rfl, ?y17⟩) hHeld ?r17
      case y17 => (intro w hSw; (try dsimp only at hSw); go_simp; first | done | with_reducible rfl | rfl)
      try simp only [Act.put, List.setIfInBounds_toArray, List.set_cons_zero, List.set_cons_succ]
      refine wpAnyH_done (by kernel_rfl) ?_ _
      refine NoPanic.normal ?_
      exact hJ
    go_upto_region 8 with (fail)
    obtain ⟨wC, hwC⟩ : ∃ wC, wB.drew = wC := ⟨_, rfl⟩
    rw [hwC] at ue0 ⊢
    clear hwC
    have ue0 := ue0.drew
    refine wp_region_noPanic ?_
    refine wp_region_held_drew (S := fun wp => (Instr.loadAt 71 (.pointer (some ⟨G1, 0, none⟩))).run Tryz.prog wp = .ok (.agg E1) wp ∧ (Instr.loadAt 71 (.pointer (some ⟨G2, 0, none⟩))).run Tryz.prog wp = .ok (.agg E2) wp ∧ (Instr.loadAt 24 (.pointer (some ⟨gX, 0, none⟩))).run Tryz.prog wp = .ok (.agg H1) wp ∧ (Instr.loadAt 24 (.pointer (some ⟨gY, 0, none⟩))).run Tryz.prog wp = .ok (.agg H2) wp) (by kernel_rfl) ?_ (fun hHeld => ?_)
    · exact HKX.out _ ue0
    refine wpAnyH_take (i := 0) (v := ?v18) (by simp only [List.getElem?_toArray, List.getElem?_cons_zero] <;> rfl) (by kernel_rfl) (by kernel_rfl) (by kernel_rfl) (fun _ _ _ h => h) (Or.inl ⟨by rfl, ?y18⟩) hHeld ?r18
    case y18 => (intro w hSw; (try dsimp only at hSw); go_simp; first | done | with_reducible rfl | rfl)
    try simp only [Act.put, List.setIfInBounds_toArray, List.set_cons_zero, List.set_cons_succ]
    refine wpAnyH_take (i := 1) (v := ?v19) (by simp only [List.getElem?_toArray, List.getElem?_cons_succ, List.getElem?_cons_zero] <;> rfl) (by kernel_rfl) (by kernel_rfl) (by kernel_rfl) (fun _ _ _ h => h) (Or.inl ⟨by rfl, ?y19⟩) hHeld ?r19
    case y19 => (intro w hSw; (try dsimp only at hSw); go_simp; first | done | with_reducible rfl | rfl)
    try simp only [Act.put, List.setIfInBounds_toArray, List.set_cons_zero, List.set_cons_succ]
    refine wpAnyH_take (i := 2) (v := .agg H1) (by simp only [List.getElem?_toArray, List.getElem?_cons_succ, List.getElem?_cons_zero] <;> rfl) (by kernel_rfl) (by kernel_rfl) (by kernel_rfl) (fun _ _ _ h => h) (yieldsIf_loadW (by rfl) _ _ rfl _ rfl H1 (fun w hSw => hSw.2.2.1)) hHeld ?_
    try simp only [Act.put, List.setIfInBounds_toArray, List.set_cons_zero, List.set_cons_succ]
    refine wpAnyH_take (i := 3) (v := .agg H2) (by simp only [List.getElem?_toArray, List.getElem?_cons_succ, List.getElem?_cons_zero] <;> rfl) (by kernel_rfl) (by kernel_rfl) (by kernel_rfl) (fun _ _ _ h => h) (yieldsIf_loadW (by rfl) _ _ rfl _ rfl H2 (fun w hSw => hSw.2.2.2)) hHeld ?_
    try simp only [Act.put, List.setIfInBounds_toArray, List.set_cons_zero, List.set_cons_succ]
    refine wpAnyH_take (i := 4) (v := ?v20) (by simp only [List.getElem?_toArray, List.getElem?_cons_succ, List.getElem?_cons_zero] <;> rfl) (by kernel_rfl) (by kernel_rfl) (by kernel_rfl) (fun _ _ _ h => h) (Or.inl ⟨by rfl, ?y20⟩) hHeld ?r20
    case y20 => (intro w hSw; (try dsimp only at hSw); go_simp; first | done | with_reducible rfl | rfl)
    try simp only [Act.put, List.setIfInBounds_toArray, List.set_cons_zero, List.set_cons_succ]
    refine wpAnyH_take (i := 5) (v := ?v21) (by simp only [List.getElem?_toArray, List.getElem?_cons_succ, List.getElem?_cons_zero] <;> rfl) (by kernel_rfl) (by kernel_rfl) (by kernel_rfl) (fun _ _ _ h => h) (Or.inl ⟨by rfl, ?y21⟩) hHeld ?r21
    case y21 => (intro w hSw; (try dsimp only at hSw); go_simp; first | done | with_reducible rfl | rfl)
    try simp only [Act.put, List.setIfInBounds_toArray, List.set_cons_zero, List.set_cons_succ]
    refine wpAnyH_take (i := 6) (v := ?v22) (by simp only [List.getElem?_toArray, List.getElem?_cons_succ, List.getElem?_cons_zero] <;> rfl) (by kernel_rfl) (by kernel_rfl) (by kernel_rfl) (fun _ _ _ h => h) (Or.inl ⟨by rfl, ?y22⟩) hHeld ?r22
    case y22 => (intro w hSw; (try dsimp only at hSw); go_simp; first | done | with_reducible rfl | rfl)
    try simp only [Act.put, List.setIfInBounds_toArray, List.set_cons_zero, List.set_cons_succ]
    refine wpAnyH_take (i := 7) (v := .agg E1) (by simp only [List.getElem?_toArray, List.getElem?_cons_succ, List.getElem?_cons_zero] <;> rfl) (by kernel_rfl) (by kernel_rfl) (by kernel_rfl) (fun _ _ _ h => h) (yieldsIf_loadW (by rfl) _ _ rfl _ rfl E1 (fun w hSw => hSw.1)) hHeld ?_
    try simp only [Act.put, List.setIfInBounds_toArray, List.set_cons_zero, List.set_cons_succ]
    refine wpAnyH_take (i := 8) (v := ?v23) (by simp only [List.getElem?_toArray, List.getElem?_cons_succ, List.getElem?_cons_zero] <;> rfl) (by kernel_rfl) (by kernel_rfl) (by kernel_rfl) (fun _ _ _ h => h) (Or.inl ⟨by rfl, ?y23⟩) hHeld ?r23
    case y23 => (intro w hSw; (try dsimp only at hSw); go_simp; first | done | with_reducible rfl | rfl)
    try simp only [Act.put, List.setIfInBounds_toArray, List.set_cons_zero, List.set_cons_succ]
    refine wpAnyH_take (i := 10) (v := .agg E2) (by simp only [List.getElem?_toArray, List.getElem?_cons_succ, List.getElem?_cons_zero] <;> rfl) (by kernel_rfl) (by kernel_rfl) (by kernel_rfl) (fun _ _ _ h => h) (yieldsIf_loadW (by rfl) _ _ rfl _ rfl E2 (fun w hSw => hSw.2.1)) hHeld ?_
    try simp only [Act.put, List.setIfInBounds_toArray, List.set_cons_zero, List.set_cons_succ]
    refine wpAnyH_take (i := 11) (v := ?v24) (by simp only [List.getElem?_toArray, List.getElem?_cons_succ, List.getElem?_cons_zero] <;> rfl) (by kernel_rfl) (by kernel_rfl) (by kernel_rfl) (fun _ _ _ h => h) (Or.inl ⟨by rfl, ?y24⟩) hHeld ?r24
    case y24 => (intro w hSw; (try dsimp only at hSw); go_simp; first | done | with_reducible rfl | rfl)
    try simp only [Act.put, List.setIfInBounds_toArray, List.set_cons_zero, List.set_cons_succ]
    refine wpAnyH_ready (rs := [9]) (by kernel_rfl) (by simp) ?_
    refine AllReadyH.cons (by simp only [List.getElem?_toArray, List.getElem?_cons_succ, List.getElem?_cons_zero] <;> rfl) (fun K hK => ?_) ?_
    · go_simp; refine (SS1.out _ (uA.trans ue0)).mono ?_; rintro e wx1 ⟨s1, Hs1, hh, rfl, hq⟩; have ue1 := ue0.trans hq; clear hh hq; go_wp2_with fail
      refine hK.out _ _ ?_ (fun hHeld => ?_)
      · exact HKX.out _ ue1
      clear hK K
      try simp only [Act.put, List.setIfInBounds_toArray, List.set_cons_zero, List.set_cons_succ]
      refine wpAnyH_ready (rs := [12]) (by kernel_rfl) (by simp) ?_
      refine AllReadyH.cons (by simp only [List.getElem?_toArray, List.getElem?_cons_succ, List.getElem?_cons_zero] <;> rfl) (fun K hK => ?_) ?_
      · go_simp; refine (SS2.out _ (uA.trans ue1)).mono ?_; rintro e wx2 ⟨s2, Hs2, hh, rfl, hq⟩; have ue2 := ue1.trans hq; clear hh hq; go_wp2_with fail
        refine hK.out _ _ ?_ (fun hHeld => ?_)
        · exact HKX.out _ ue2
        clear hK K
        try simp only [Act.put, List.setIfInBounds_toArray, List.set_cons_zero, List.set_cons_succ]
        refine wpAnyH_ready (rs := [13]) (by kernel_rfl) (by simp) ?_
        refine AllReadyH.cons (by simp only [List.getElem?_toArray, List.getElem?_cons_succ, List.getElem?_cons_zero] <;> rfl) (fun K hK => ?_) ?_
        · go_simp; obtain ⟨gS, wx3, hgx, hwx, fs, hq⟩ := alloc_let wx2 (.cells #[.string s1, .string s2] 9); rw [← hgx, ← hwx]; have ue3 := ue2.trans hq; clear hgx hwx hq
          refine hK.out _ _ ?_ (fun hHeld => ?_)
          · exact HKX.out _ ue3
          clear hK K
          try simp only [Act.put, List.setIfInBounds_toArray, List.set_cons_zero, List.set_cons_succ]
          refine wpAnyH_ready (rs := [14]) (by kernel_rfl) (by simp) ?_
          refine AllReadyH.cons (by simp only [List.getElem?_toArray, List.getElem?_cons_succ, List.getElem?_cons_zero] <;> rfl) (fun K hK => ?_) ?_
          · have l1 := hlen.out; have hz1 := bs_size Hs1.out; have hz2 := bs_size Hs2.out; have hct := HCT.out s1 s2 Hs1.out Hs2.out; go_simp; refine (clash_any s1 s2 gS _ (by omega) (by omega) fs.out).mono ?_; rintro e wx4 ⟨rfl, hq⟩; rw [hct]; have ue4 := ue3.trans hq; clear hq hct l1 hz1 hz2; go_wp2_with fail
            refine hK.out _ _ ?_ (fun hHeld => ?_)
            · exact HKX.out _ ue4
            clear hK K
            try simp only [Act.put, List.setIfInBounds_toArray, List.set_cons_zero, List.set_cons_succ]
            refine wpAnyH_take (i := 15) (v := ?v25) (by simp only [List.getElem?_toArray, List.getElem?_cons_succ, List.getElem?_cons_zero] <;> rfl) (by kernel_rfl) (by kernel_rfl) (by kernel_rfl) (fun _ _ _ h => h) (Or.inl ⟨by rfl, ?y25⟩) hHeld ?r25
            case y25 => (intro w hSw; (try dsimp only at hSw); go_simp; first | done | with_reducible rfl | rfl)
            try simp only [Act.put, List.setIfInBounds_toArray, List.set_cons_zero, List.set_cons_succ]
            refine wpAnyH_take (i := 16) (v := ?v26) (by simp only [List.getElem?_toArray, List.getElem?_cons_succ, List.getElem?_cons_zero] <;> rfl) (by kernel_rfl) (by kernel_rfl) (by kernel_rfl) (fun _ _ _ h => h) (Or.inl ⟨by rfl, ?y26⟩) hHeld ?r26
            case y26 => (intro w hSw; (try dsimp only at hSw); go_simp; first | done | with_reducible rfl | rfl)
            try simp only [Act.put, List.setIfInBounds_toArray, List.set_cons_zero, List.set_cons_succ]
            refine wpAnyH_take (i := 17) (v := ?v27) (by simp only [List.getElem?_toArray, List.getElem?_cons_succ, List.getElem?_cons_zero] <;> rfl) (by kernel_rfl) (by kernel_rfl) (by kernel_rfl) (fun _ _ _ h => h) (Or.inl ⟨by rfl, ?y27⟩) hHeld ?r27
            case y27 => (intro w hSw; (try dsimp only at hSw); go_simp; first | done | with_reducible rfl | rfl)
            try simp only [Act.put, List.setIfInBounds_toArray, List.set_cons_zero, List.set_cons_succ]
            refine wpAnyH_take (i := 18) (v := ?v28) (by simp only [List.getElem?_toArray, List.getElem?_cons_succ, List.getElem?_cons_zero] <;> rfl) (by kernel_rfl) (by kernel_rfl) (by kernel_rfl) (fun _ _ _ h => h) (Or.inl ⟨by rfl, ?y28⟩) hHeld ?r28
            case y28 => (intro w hSw; (try dsimp only at hSw); go_simp; first | done | with_reducible rfl | rfl)
            try simp only [Act.put, List.setIfInBounds_toArray, List.set_cons_zero, List.set_cons_succ]
            refine wpAnyH_done (by kernel_rfl) ?_ _
            refine NoPanic.normal ?_
            go_wp2_with fail
            go_ret
            exact ⟨by first | rfl | simp, HU5.out.trans (uA.trans ue4)⟩
          exact AllReadyH.nil
        exact AllReadyH.nil
      exact AllReadyH.nil
    exact AllReadyH.nil
  case pos =>
    subst hst
    have hsb : (S1.toList == S1.toList) = true := by simp
    by_cases htx : p.txt = q.txt
    case neg =>
      have HPE : Hid (∀ t1 t2 : ByteArray, bs t1 = p.txt → bs t2 = q.txt → (t1.toList == t2.toList) = false) := by
        intro t1 t2 h1 h2
        rw [beq_eq_false_iff_ne]
        intro e
        have e' : bs t1 = bs t2 := by rw [ByteArray.toList_eq, ByteArray.toList_eq] at e; exact e
        rw [h1, h2] at e'
        exact htx e'
      have HCT := Lib.hid (HCL.out (fun h => htx h.2))
      clear htx HCL HBT
      go_upto_region 7 with (fail)
      have ue0 : Upd [] [] wA wB.drew := uB.drew
      refine @id ((∀ (t1 t2 : ByteArray) (W : World), Upd [] [] wA W → (?pj29 : ByteArray → ByteArray → World → Prop) t1 t2 W) → _) (fun hJ => ?mj29) ?jj29
      case mj29 =>
        refine wp_region_noPanic ?_
        refine wp_region_held_drew (S := fun wp => (Instr.loadAt 71 (.pointer (some ⟨G1, 0, none⟩))).run Tryz.prog wp = .ok (.agg E1) wp ∧ (Instr.loadAt 71 (.pointer (some ⟨G2, 0, none⟩))).run Tryz.prog wp = .ok (.agg E2) wp ∧ (Instr.loadAt 24 (.pointer (some ⟨gX, 0, none⟩))).run Tryz.prog wp = .ok (.agg H1) wp ∧ (Instr.loadAt 24 (.pointer (some ⟨gY, 0, none⟩))).run Tryz.prog wp = .ok (.agg H2) wp) (by kernel_rfl) ?_ (fun hHeld => ?_)
        · exact HKX.out _ ue0
        refine wpAnyH_take (i := 0) (v := ?v30) (by simp only [List.getElem?_toArray, List.getElem?_cons_zero] <;> rfl) (by kernel_rfl) (by kernel_rfl) (by kernel_rfl) (fun _ _ _ h => h) (Or.inl ⟨by rfl, ?y30⟩) hHeld ?r30
        case y30 => (intro w hSw; (try dsimp only at hSw); go_simp; first | done | with_reducible rfl | rfl)
        try simp only [Act.put, List.setIfInBounds_toArray, List.set_cons_zero, List.set_cons_succ]
        refine wpAnyH_take (i := 1) (v := ?v31) (by simp only [List.getElem?_toArray, List.getElem?_cons_succ, List.getElem?_cons_zero] <;> rfl) (by kernel_rfl) (by kernel_rfl) (by kernel_rfl) (fun _ _ _ h => h) (Or.inl ⟨by rfl, ?y31⟩) hHeld ?r31
        case y31 => (intro w hSw; (try dsimp only at hSw); go_simp; first | done | with_reducible rfl | rfl)
        try simp only [Act.put, List.setIfInBounds_toArray, List.set_cons_zero, List.set_cons_succ]
        refine wpAnyH_take (i := 2) (v := ?v32) (by simp only [List.getElem?_toArray, List.getElem?_cons_succ, List.getElem?_cons_zero] <;> rfl) (by kernel_rfl) (by kernel_rfl) (by kernel_rfl) (fun _ _ _ h => h) (Or.inl ⟨by rfl, ?y32⟩) hHeld ?r32
        case y32 => (intro w hSw; (try dsimp only at hSw); go_simp; first | done | with_reducible rfl | rfl)
        try simp only [Act.put, List.setIfInBounds_toArray, List.set_cons_zero, List.set_cons_succ]
        refine wpAnyH_take (i := 3) (v := ?v33) (by simp only [List.getElem?_toArray, List.getElem?_cons_succ, List.getElem?_cons_zero] <;> rfl) (by kernel_rfl) (by kernel_rfl) (by kernel_rfl) (fun _ _ _ h => h) (Or.inl ⟨by rfl, ?y33⟩) hHeld ?r33
        case y33 => (intro w hSw; (try dsimp only at hSw); go_simp; first | done | with_reducible rfl | rfl)
        try simp only [Act.put, List.setIfInBounds_toArray, List.set_cons_zero, List.set_cons_succ]
        refine wpAnyH_take (i := 4) (v := .agg E1) (by simp only [List.getElem?_toArray, List.getElem?_cons_succ, List.getElem?_cons_zero] <;> rfl) (by kernel_rfl) (by kernel_rfl) (by kernel_rfl) (fun _ _ _ h => h) (yieldsIf_loadW (by rfl) _ _ rfl _ rfl E1 (fun w hSw => hSw.1)) hHeld ?_
        try simp only [Act.put, List.setIfInBounds_toArray, List.set_cons_zero, List.set_cons_succ]
        refine wpAnyH_take (i := 6) (v := .agg E2) (by simp only [List.getElem?_toArray, List.getElem?_cons_succ, List.getElem?_cons_zero] <;> rfl) (by kernel_rfl) (by kernel_rfl) (by kernel_rfl) (fun _ _ _ h => h) (yieldsIf_loadW (by rfl) _ _ rfl _ rfl E2 (fun w hSw => hSw.2.1)) hHeld ?_
        try simp only [Act.put, List.setIfInBounds_toArray, List.set_cons_zero, List.set_cons_succ]
        refine wpAnyH_ready (rs := [5]) (by kernel_rfl) (by simp) ?_
        refine AllReadyH.cons (by simp only [List.getElem?_toArray, List.getElem?_cons_succ, List.getElem?_cons_zero] <;> rfl) (fun K hK => ?_) ?_
        · go_simp; refine (PS1.out _ (uA.trans ue0)).mono ?_; rintro e wx1 ⟨t1, Ht1, hh, rfl, hq⟩; have ue1 := ue0.trans hq; clear hh hq; go_wp2_with fail
          refine hK.out _ _ ?_ (fun hHeld => ?_)
          · exact HKX.out _ ue1
          clear hK K
          try simp only [Act.put, List.setIfInBounds_toArray, List.set_cons_zero, List.set_cons_succ]
          refine wpAnyH_ready (rs := [7]) (by kernel_rfl) (by simp) ?_
          refine AllReadyH.cons (by simp only [List.getElem?_toArray, List.getElem?_cons_succ, List.getElem?_cons_zero] <;> rfl) (fun K hK => ?_) ?_
          · go_simp; refine (PS2.out _ (uA.trans ue1)).mono ?_; rintro e wx2 ⟨t2, Ht2, hh, rfl, hq⟩; have ue2 := ue1.trans hq; have hpe := HPE.out t1 t2 Ht1.out Ht2.out; clear hh hq; go_wp2_with fail
            refine hK.out _ _ ?_ (fun hHeld => ?_)
            · exact HKX.out _ ue2
            clear hK K
            try simp only [Act.put, List.setIfInBounds_toArray, List.set_cons_zero, List.set_cons_succ]
            refine wpAnyH_take (i := 8) (v := ?v34) (by simp only [List.getElem?_toArray, List.getElem?_cons_succ, List.getElem?_cons_zero] <;> rfl) (by kernel_rfl) (by kernel_rfl) (by kernel_rfl) (fun _ _ _ h => h) (Or.inl ⟨by rfl, ?y34⟩) hHeld ?r34
            case y34 => (intro w hSw; (try dsimp only at hSw); go_simp; first | done | with_reducible rfl | rfl)
            try simp only [Act.put, List.setIfInBounds_toArray, List.set_cons_zero, List.set_cons_succ]
            refine wpAnyH_take (i := 9) (v := ?v35) (by simp only [List.getElem?_toArray, List.getElem?_cons_succ, List.getElem?_cons_zero] <;> rfl) (by kernel_rfl) (by kernel_rfl) (by kernel_rfl) (fun _ _ _ h => h) (Or.inl ⟨by rfl, ?y35⟩) hHeld ?r35
            case y35 => (intro w hSw; (try dsimp only at hSw); go_simp; first | done | with_reducible rfl | rfl)
            try simp only [Act.put, List.setIfInBounds_toArray, List.set_cons_zero, List.set_cons_succ]
            refine wpAnyH_take (i := 10) (v := ?v36) (by simp only [List.getElem?_toArray, List.getElem?_cons_succ, List.getElem?_cons_zero] <;> rfl) (by kernel_rfl) (by kernel_rfl) (by kernel_rfl) (fun _ _ _ h => h) (Or.inl ⟨by rfl, ?y36⟩) hHeld ?r36
            case y36 => (intro w hSw; (try dsimp only at hSw); go_simp; first | done | with_reducible rfl | rfl)
            try simp only [Act.put, List.setIfInBounds_toArray, List.set_cons_zero, List.set_cons_succ]
            refine wpAnyH_done (by kernel_rfl) ?_ _
            refine NoPanic.normal ?_
            exact hJ t1 t2 wx2 ue2
          exact AllReadyH.nil
        exact AllReadyH.nil
      intro t1 t2 wC uC
      clear ue0
      go_upto_region 8 with (fail)
      have ue0 : Upd [] [] wA wC.drew := uC.drew
      refine wp_region_noPanic ?_
      refine wp_region_held_drew (S := fun wp => (Instr.loadAt 71 (.pointer (some ⟨G1, 0, none⟩))).run Tryz.prog wp = .ok (.agg E1) wp ∧ (Instr.loadAt 71 (.pointer (some ⟨G2, 0, none⟩))).run Tryz.prog wp = .ok (.agg E2) wp ∧ (Instr.loadAt 24 (.pointer (some ⟨gX, 0, none⟩))).run Tryz.prog wp = .ok (.agg H1) wp ∧ (Instr.loadAt 24 (.pointer (some ⟨gY, 0, none⟩))).run Tryz.prog wp = .ok (.agg H2) wp) (by kernel_rfl) ?_ (fun hHeld => ?_)
      · exact HKX.out _ ue0
      refine wpAnyH_take (i := 0) (v := ?v37) (by simp only [List.getElem?_toArray, List.getElem?_cons_zero] <;> rfl) (by kernel_rfl) (by kernel_rfl) (by kernel_rfl) (fun _ _ _ h => h) (Or.inl ⟨by rfl, ?y37⟩) hHeld ?r37
      case y37 => (intro w hSw; (try dsimp only at hSw); go_simp; first | done | with_reducible rfl | rfl)
      try simp only [Act.put, List.setIfInBounds_toArray, List.set_cons_zero, List.set_cons_succ]
      refine wpAnyH_take (i := 1) (v := ?v38) (by simp only [List.getElem?_toArray, List.getElem?_cons_succ, List.getElem?_cons_zero] <;> rfl) (by kernel_rfl) (by kernel_rfl) (by kernel_rfl) (fun _ _ _ h => h) (Or.inl ⟨by rfl, ?y38⟩) hHeld ?r38
      case y38 => (intro w hSw; (try dsimp only at hSw); go_simp; first | done | with_reducible rfl | rfl)
      try simp only [Act.put, List.setIfInBounds_toArray, List.set_cons_zero, List.set_cons_succ]
      refine wpAnyH_take (i := 2) (v := .agg H1) (by simp only [List.getElem?_toArray, List.getElem?_cons_succ, List.getElem?_cons_zero] <;> rfl) (by kernel_rfl) (by kernel_rfl) (by kernel_rfl) (fun _ _ _ h => h) (yieldsIf_loadW (by rfl) _ _ rfl _ rfl H1 (fun w hSw => hSw.2.2.1)) hHeld ?_
      try simp only [Act.put, List.setIfInBounds_toArray, List.set_cons_zero, List.set_cons_succ]
      refine wpAnyH_take (i := 3) (v := .agg H2) (by simp only [List.getElem?_toArray, List.getElem?_cons_succ, List.getElem?_cons_zero] <;> rfl) (by kernel_rfl) (by kernel_rfl) (by kernel_rfl) (fun _ _ _ h => h) (yieldsIf_loadW (by rfl) _ _ rfl _ rfl H2 (fun w hSw => hSw.2.2.2)) hHeld ?_
      try simp only [Act.put, List.setIfInBounds_toArray, List.set_cons_zero, List.set_cons_succ]
      refine wpAnyH_take (i := 4) (v := ?v39) (by simp only [List.getElem?_toArray, List.getElem?_cons_succ, List.getElem?_cons_zero] <;> rfl) (by kernel_rfl) (by kernel_rfl) (by kernel_rfl) (fun _ _ _ h => h) (Or.inl ⟨by rfl, ?y39⟩) hHeld ?r39
      case y39 => (intro w hSw; (try dsimp only at hSw); go_simp; first | done | with_reducible rfl | rfl)
      try simp only [Act.put, List.setIfInBounds_toArray, List.set_cons_zero, List.set_cons_succ]
      refine wpAnyH_take (i := 5) (v := ?v40) (by simp only [List.getElem?_toArray, List.getElem?_cons_succ, List.getElem?_cons_zero] <;> rfl) (by kernel_rfl) (by kernel_rfl) (by kernel_rfl) (fun _ _ _ h => h) (Or.inl ⟨by rfl, ?y40⟩) hHeld ?r40
      case y40 => (intro w hSw; (try dsimp only at hSw); go_simp; first | done | with_reducible rfl | rfl)
      try simp only [Act.put, List.setIfInBounds_toArray, List.set_cons_zero, List.set_cons_succ]
      refine wpAnyH_take (i := 6) (v := ?v41) (by simp only [List.getElem?_toArray, List.getElem?_cons_succ, List.getElem?_cons_zero] <;> rfl) (by kernel_rfl) (by kernel_rfl) (by kernel_rfl) (fun _ _ _ h => h) (Or.inl ⟨by rfl, ?y41⟩) hHeld ?r41
      case y41 => (intro w hSw; (try dsimp only at hSw); go_simp; first | done | with_reducible rfl | rfl)
      try simp only [Act.put, List.setIfInBounds_toArray, List.set_cons_zero, List.set_cons_succ]
      refine wpAnyH_take (i := 7) (v := .agg E1) (by simp only [List.getElem?_toArray, List.getElem?_cons_succ, List.getElem?_cons_zero] <;> rfl) (by kernel_rfl) (by kernel_rfl) (by kernel_rfl) (fun _ _ _ h => h) (yieldsIf_loadW (by rfl) _ _ rfl _ rfl E1 (fun w hSw => hSw.1)) hHeld ?_
      try simp only [Act.put, List.setIfInBounds_toArray, List.set_cons_zero, List.set_cons_succ]
      refine wpAnyH_take (i := 8) (v := ?v42) (by simp only [List.getElem?_toArray, List.getElem?_cons_succ, List.getElem?_cons_zero] <;> rfl) (by kernel_rfl) (by kernel_rfl) (by kernel_rfl) (fun _ _ _ h => h) (Or.inl ⟨by rfl, ?y42⟩) hHeld ?r42
      case y42 => (intro w hSw; (try dsimp only at hSw); go_simp; first | done | with_reducible rfl | rfl)
      try simp only [Act.put, List.setIfInBounds_toArray, List.set_cons_zero, List.set_cons_succ]
      refine wpAnyH_take (i := 10) (v := .agg E2) (by simp only [List.getElem?_toArray, List.getElem?_cons_succ, List.getElem?_cons_zero] <;> rfl) (by kernel_rfl) (by kernel_rfl) (by kernel_rfl) (fun _ _ _ h => h) (yieldsIf_loadW (by rfl) _ _ rfl _ rfl E2 (fun w hSw => hSw.2.1)) hHeld ?_
      try simp only [Act.put, List.setIfInBounds_toArray, List.set_cons_zero, List.set_cons_succ]
      refine wpAnyH_take (i := 11) (v := ?v43) (by simp only [List.getElem?_toArray, List.getElem?_cons_succ, List.getElem?_cons_zero] <;> rfl) (by kernel_rfl) (by kernel_rfl) (by kernel_rfl) (fun _ _ _ h => h) (Or.inl ⟨by rfl, ?y43⟩) hHeld ?r43
      case y43 => (intro w hSw; (try dsimp only at hSw); go_simp; first | done | with_reducible rfl | rfl)
      try simp only [Act.put, List.setIfInBounds_toArray, List.set_cons_zero, List.set_cons_succ]
      refine wpAnyH_ready (rs := [9]) (by kernel_rfl) (by simp) ?_
      refine AllReadyH.cons (by simp only [List.getElem?_toArray, List.getElem?_cons_succ, List.getElem?_cons_zero] <;> rfl) (fun K hK => ?_) ?_
      · go_simp; refine (SS1.out _ (uA.trans ue0)).mono ?_; rintro e wx1 ⟨s1, Hs1, hh, rfl, hq⟩; have ue1 := ue0.trans hq; clear hh hq; go_wp2_with fail
        refine hK.out _ _ ?_ (fun hHeld => ?_)
        · exact HKX.out _ ue1
        clear hK K
        try simp only [Act.put, List.setIfInBounds_toArray, List.set_cons_zero, List.set_cons_succ]
        refine wpAnyH_ready (rs := [12]) (by kernel_rfl) (by simp) ?_
        refine AllReadyH.cons (by simp only [List.getElem?_toArray, List.getElem?_cons_succ, List.getElem?_cons_zero] <;> rfl) (fun K hK => ?_) ?_
        · go_simp; refine (SS2.out _ (uA.trans ue1)).mono ?_; rintro e wx2 ⟨s2, Hs2, hh, rfl, hq⟩; have ue2 := ue1.trans hq; clear hh hq; go_wp2_with fail
          refine hK.out _ _ ?_ (fun hHeld => ?_)
          · exact HKX.out _ ue2
          clear hK K
          try simp only [Act.put, List.setIfInBounds_toArray, List.set_cons_zero, List.set_cons_succ]
          refine wpAnyH_ready (rs := [13]) (by kernel_rfl) (by simp) ?_
          refine AllReadyH.cons (by simp only [List.getElem?_toArray, List.getElem?_cons_succ, List.getElem?_cons_zero] <;> rfl) (fun K hK => ?_) ?_
          · go_simp; obtain ⟨gS, wx3, hgx, hwx, fs, hq⟩ := alloc_let wx2 (.cells #[.string s1, .string s2] 9); rw [← hgx, ← hwx]; have ue3 := ue2.trans hq; clear hgx hwx hq
            refine hK.out _ _ ?_ (fun hHeld => ?_)
            · exact HKX.out _ ue3
            clear hK K
            try simp only [Act.put, List.setIfInBounds_toArray, List.set_cons_zero, List.set_cons_succ]
            refine wpAnyH_ready (rs := [14]) (by kernel_rfl) (by simp) ?_
            refine AllReadyH.cons (by simp only [List.getElem?_toArray, List.getElem?_cons_succ, List.getElem?_cons_zero] <;> rfl) (fun K hK => ?_) ?_
            · have l1 := hlen.out; have hz1 := bs_size Hs1.out; have hz2 := bs_size Hs2.out; have hct := HCT.out s1 s2 Hs1.out Hs2.out; go_simp; refine (clash_any s1 s2 gS _ (by omega) (by omega) fs.out).mono ?_; rintro e wx4 ⟨rfl, hq⟩; rw [hct]; have ue4 := ue3.trans hq; clear hq hct l1 hz1 hz2; go_wp2_with fail
              refine hK.out _ _ ?_ (fun hHeld => ?_)
              · exact HKX.out _ ue4
              clear hK K
              try simp only [Act.put, List.setIfInBounds_toArray, List.set_cons_zero, List.set_cons_succ]
              refine wpAnyH_take (i := 15) (v := ?v44) (by simp only [List.getElem?_toArray, List.getElem?_cons_succ, List.getElem?_cons_zero] <;> rfl) (by kernel_rfl) (by kernel_rfl) (by kernel_rfl) (fun _ _ _ h => h) (Or.inl ⟨by rfl, ?y44⟩) hHeld ?r44
              case y44 => (intro w hSw; (try dsimp only at hSw); go_simp; first | done | with_reducible rfl | rfl)
              try simp only [Act.put, List.setIfInBounds_toArray, List.set_cons_zero, List.set_cons_succ]
              refine wpAnyH_take (i := 16) (v := ?v45) (by simp only [List.getElem?_toArray, List.getElem?_cons_succ, List.getElem?_cons_zero] <;> rfl) (by kernel_rfl) (by kernel_rfl) (by kernel_rfl) (fun _ _ _ h => h) (Or.inl ⟨by rfl, ?y45⟩) hHeld ?r45
              case y45 => (intro w hSw; (try dsimp only at hSw); go_simp; first | done | with_reducible rfl | rfl)
              try simp only [Act.put, List.setIfInBounds_toArray, List.set_cons_zero, List.set_cons_succ]
              refine wpAnyH_take (i := 17) (v := ?v46) (by simp only [List.getElem?_toArray, List.getElem?_cons_succ, List.getElem?_cons_zero] <;> rfl) (by kernel_rfl) (by kernel_rfl) (by kernel_rfl) (fun _ _ _ h => h) (Or.inl ⟨by rfl, ?y46⟩) hHeld ?r46
              case y46 => (intro w hSw; (try dsimp only at hSw); go_simp; first | done | with_reducible rfl | rfl)
              try simp only [Act.put, List.setIfInBounds_toArray, List.set_cons_zero, List.set_cons_succ]
              refine wpAnyH_take (i := 18) (v := ?v47) (by simp only [List.getElem?_toArray, List.getElem?_cons_succ, List.getElem?_cons_zero] <;> rfl) (by kernel_rfl) (by kernel_rfl) (by kernel_rfl) (fun _ _ _ h => h) (Or.inl ⟨by rfl, ?y47⟩) hHeld ?r47
              case y47 => (intro w hSw; (try dsimp only at hSw); go_simp; first | done | with_reducible rfl | rfl)
              try simp only [Act.put, List.setIfInBounds_toArray, List.set_cons_zero, List.set_cons_succ]
              refine wpAnyH_done (by kernel_rfl) ?_ _
              refine NoPanic.normal ?_
              go_wp2_with fail
              go_ret
              exact ⟨by first | rfl | simp, HU5.out.trans (uA.trans ue4)⟩
            exact AllReadyH.nil
          exact AllReadyH.nil
        exact AllReadyH.nil
      exact AllReadyH.nil
    case pos =>
      have hbt := HBT.out ⟨rfl, htx⟩
      subst hbt
      have HPE : Hid (∀ t1 t2 : ByteArray, bs t1 = p.txt → bs t2 = q.txt → (t1.toList == t2.toList) = true) := by
        intro t1 t2 h1 h2
        rw [bs_injE (show bs t1 = bs t2 by rw [h1, h2, htx]), beq_self_eq_true]
      clear htx HCL HBT
      go_upto_region 7 with (fail)
      have ue0 : Upd [] [] wA wB.drew := uB.drew
      refine @id ((∀ (t1 t2 : ByteArray) (W : World), Upd [] [] wA W → (?pj48 : ByteArray → ByteArray → World → Prop) t1 t2 W) → _) (fun hJ => ?mj48) ?jj48
      case mj48 =>
        refine wp_region_noPanic ?_
        refine wp_region_held_drew (S := fun wp => (Instr.loadAt 71 (.pointer (some ⟨G1, 0, none⟩))).run Tryz.prog wp = .ok (.agg E1) wp ∧ (Instr.loadAt 71 (.pointer (some ⟨G2, 0, none⟩))).run Tryz.prog wp = .ok (.agg E2) wp ∧ (Instr.loadAt 24 (.pointer (some ⟨gX, 0, none⟩))).run Tryz.prog wp = .ok (.agg H1) wp ∧ (Instr.loadAt 24 (.pointer (some ⟨gY, 0, none⟩))).run Tryz.prog wp = .ok (.agg H2) wp) (by kernel_rfl) ?_ (fun hHeld => ?_)
        · exact HKX.out _ ue0
        refine wpAnyH_take (i := 0) (v := ?v49) (by simp only [List.getElem?_toArray, List.getElem?_cons_zero] <;> rfl) (by kernel_rfl) (by kernel_rfl) (by kernel_rfl) (fun _ _ _ h => h) (Or.inl ⟨by rfl, ?y49⟩) hHeld ?r49
        case y49 => (intro w hSw; (try dsimp only at hSw); go_simp; first | done | with_reducible rfl | rfl)
        try simp only [Act.put, List.setIfInBounds_toArray, List.set_cons_zero, List.set_cons_succ]
        refine wpAnyH_take (i := 1) (v := ?v50) (by simp only [List.getElem?_toArray, List.getElem?_cons_succ, List.getElem?_cons_zero] <;> rfl) (by kernel_rfl) (by kernel_rfl) (by kernel_rfl) (fun _ _ _ h => h) (Or.inl ⟨by rfl, ?y50⟩) hHeld ?r50
        case y50 => (intro w hSw; (try dsimp only at hSw); go_simp; first | done | with_reducible rfl | rfl)
        try simp only [Act.put, List.setIfInBounds_toArray, List.set_cons_zero, List.set_cons_succ]
        refine wpAnyH_take (i := 2) (v := ?v51) (by simp only [List.getElem?_toArray, List.getElem?_cons_succ, List.getElem?_cons_zero] <;> rfl) (by kernel_rfl) (by kernel_rfl) (by kernel_rfl) (fun _ _ _ h => h) (Or.inl ⟨by rfl, ?y51⟩) hHeld ?r51
        case y51 => (intro w hSw; (try dsimp only at hSw); go_simp; first | done | with_reducible rfl | rfl)
        try simp only [Act.put, List.setIfInBounds_toArray, List.set_cons_zero, List.set_cons_succ]
        refine wpAnyH_take (i := 3) (v := ?v52) (by simp only [List.getElem?_toArray, List.getElem?_cons_succ, List.getElem?_cons_zero] <;> rfl) (by kernel_rfl) (by kernel_rfl) (by kernel_rfl) (fun _ _ _ h => h) (Or.inl ⟨by rfl, ?y52⟩) hHeld ?r52
        case y52 => (intro w hSw; (try dsimp only at hSw); go_simp; first | done | with_reducible rfl | rfl)
        try simp only [Act.put, List.setIfInBounds_toArray, List.set_cons_zero, List.set_cons_succ]
        refine wpAnyH_take (i := 4) (v := .agg E1) (by simp only [List.getElem?_toArray, List.getElem?_cons_succ, List.getElem?_cons_zero] <;> rfl) (by kernel_rfl) (by kernel_rfl) (by kernel_rfl) (fun _ _ _ h => h) (yieldsIf_loadW (by rfl) _ _ rfl _ rfl E1 (fun w hSw => hSw.1)) hHeld ?_
        try simp only [Act.put, List.setIfInBounds_toArray, List.set_cons_zero, List.set_cons_succ]
        refine wpAnyH_take (i := 6) (v := .agg E2) (by simp only [List.getElem?_toArray, List.getElem?_cons_succ, List.getElem?_cons_zero] <;> rfl) (by kernel_rfl) (by kernel_rfl) (by kernel_rfl) (fun _ _ _ h => h) (yieldsIf_loadW (by rfl) _ _ rfl _ rfl E2 (fun w hSw => hSw.2.1)) hHeld ?_
        try simp only [Act.put, List.setIfInBounds_toArray, List.set_cons_zero, List.set_cons_succ]
        refine wpAnyH_ready (rs := [5]) (by kernel_rfl) (by simp) ?_
        refine AllReadyH.cons (by simp only [List.getElem?_toArray, List.getElem?_cons_succ, List.getElem?_cons_zero] <;> rfl) (fun K hK => ?_) ?_
        · go_simp; refine (PS1.out _ (uA.trans ue0)).mono ?_; rintro e wx1 ⟨t1, Ht1, hh, rfl, hq⟩; have ue1 := ue0.trans hq; clear hh hq; go_wp2_with fail
          refine hK.out _ _ ?_ (fun hHeld => ?_)
          · exact HKX.out _ ue1
          clear hK K
          try simp only [Act.put, List.setIfInBounds_toArray, List.set_cons_zero, List.set_cons_succ]
          refine wpAnyH_ready (rs := [7]) (by kernel_rfl) (by simp) ?_
          refine AllReadyH.cons (by simp only [List.getElem?_toArray, List.getElem?_cons_succ, List.getElem?_cons_zero] <;> rfl) (fun K hK => ?_) ?_
          · go_simp; refine (PS2.out _ (uA.trans ue1)).mono ?_; rintro e wx2 ⟨t2, Ht2, hh, rfl, hq⟩; have ue2 := ue1.trans hq; have hpe := HPE.out t1 t2 Ht1.out Ht2.out; clear hh hq; go_wp2_with fail
            refine hK.out _ _ ?_ (fun hHeld => ?_)
            · exact HKX.out _ ue2
            clear hK K
            try simp only [Act.put, List.setIfInBounds_toArray, List.set_cons_zero, List.set_cons_succ]
            refine wpAnyH_take (i := 8) (v := ?v53) (by simp only [List.getElem?_toArray, List.getElem?_cons_succ, List.getElem?_cons_zero] <;> rfl) (by kernel_rfl) (by kernel_rfl) (by kernel_rfl) (fun _ _ _ h => h) (Or.inl ⟨by rfl, ?y53⟩) hHeld ?r53
            case y53 => (intro w hSw; (try dsimp only at hSw); go_simp; first | done | with_reducible rfl | rfl)
            try simp only [Act.put, List.setIfInBounds_toArray, List.set_cons_zero, List.set_cons_succ]
            refine wpAnyH_take (i := 9) (v := ?v54) (by simp only [List.getElem?_toArray, List.getElem?_cons_succ, List.getElem?_cons_zero] <;> rfl) (by kernel_rfl) (by kernel_rfl) (by kernel_rfl) (fun _ _ _ h => h) (Or.inl ⟨by rfl, ?y54⟩) hHeld ?r54
            case y54 => (intro w hSw; (try dsimp only at hSw); go_simp; first | done | with_reducible rfl | rfl)
            try simp only [Act.put, List.setIfInBounds_toArray, List.set_cons_zero, List.set_cons_succ]
            refine wpAnyH_take (i := 10) (v := ?v55) (by simp only [List.getElem?_toArray, List.getElem?_cons_succ, List.getElem?_cons_zero] <;> rfl) (by kernel_rfl) (by kernel_rfl) (by kernel_rfl) (fun _ _ _ h => h) (Or.inl ⟨by rfl, ?y55⟩) hHeld ?r55
            case y55 => (intro w hSw; (try dsimp only at hSw); go_simp; first | done | with_reducible rfl | rfl)
            try simp only [Act.put, List.setIfInBounds_toArray, List.set_cons_zero, List.set_cons_succ]
            refine wpAnyH_done (by kernel_rfl) ?_ _
            refine NoPanic.normal ?_
            exact hJ t1 t2 wx2 ue2
          exact AllReadyH.nil
        exact AllReadyH.nil
      intro t1 t2 wC uC
      clear ue0
      go_upto_region 8 with (fail)
      have ue0 : Upd [] [] wA wC.drew := uC.drew
      refine wp_region_noPanic ?_
      refine wp_region_held_drew (S := fun wp => (Instr.loadAt 71 (.pointer (some ⟨G1, 0, none⟩))).run Tryz.prog wp = .ok (.agg E1) wp ∧ (Instr.loadAt 71 (.pointer (some ⟨G2, 0, none⟩))).run Tryz.prog wp = .ok (.agg E2) wp ∧ (Instr.loadAt 24 (.pointer (some ⟨gX, 0, none⟩))).run Tryz.prog wp = .ok (.agg H1) wp ∧ (Instr.loadAt 24 (.pointer (some ⟨gY, 0, none⟩))).run Tryz.prog wp = .ok (.agg H2) wp) (by kernel_rfl) ?_ (fun hHeld => ?_)
      · exact HKX.out _ ue0
      refine wpAnyH_take (i := 0) (v := ?v56) (by simp only [List.getElem?_toArray, List.getElem?_cons_zero] <;> rfl) (by kernel_rfl) (by kernel_rfl) (by kernel_rfl) (fun _ _ _ h => h) (Or.inl ⟨by rfl, ?y56⟩) hHeld ?r56
      case y56 => (intro w hSw; (try dsimp only at hSw); go_simp; first | done | with_reducible rfl | rfl)
      try simp only [Act.put, List.setIfInBounds_toArray, List.set_cons_zero, List.set_cons_succ]
      refine wpAnyH_take (i := 1) (v := ?v57) (by simp only [List.getElem?_toArray, List.getElem?_cons_succ, List.getElem?_cons_zero] <;> rfl) (by kernel_rfl) (by kernel_rfl) (by kernel_rfl) (fun _ _ _ h => h) (Or.inl ⟨by rfl, ?y57⟩) hHeld ?r57
      case y57 => (intro w hSw; (try dsimp only at hSw); go_simp; first | done | with_reducible rfl | rfl)
      try simp only [Act.put, List.setIfInBounds_toArray, List.set_cons_zero, List.set_cons_succ]
      refine wpAnyH_take (i := 2) (v := .agg H1) (by simp only [List.getElem?_toArray, List.getElem?_cons_succ, List.getElem?_cons_zero] <;> rfl) (by kernel_rfl) (by kernel_rfl) (by kernel_rfl) (fun _ _ _ h => h) (yieldsIf_loadW (by rfl) _ _ rfl _ rfl H1 (fun w hSw => hSw.2.2.1)) hHeld ?_
      try simp only [Act.put, List.setIfInBounds_toArray, List.set_cons_zero, List.set_cons_succ]
      refine wpAnyH_take (i := 3) (v := .agg H2) (by simp only [List.getElem?_toArray, List.getElem?_cons_succ, List.getElem?_cons_zero] <;> rfl) (by kernel_rfl) (by kernel_rfl) (by kernel_rfl) (fun _ _ _ h => h) (yieldsIf_loadW (by rfl) _ _ rfl _ rfl H2 (fun w hSw => hSw.2.2.2)) hHeld ?_
      try simp only [Act.put, List.setIfInBounds_toArray, List.set_cons_zero, List.set_cons_succ]
      refine wpAnyH_take (i := 4) (v := ?v58) (by simp only [List.getElem?_toArray, List.getElem?_cons_succ, List.getElem?_cons_zero] <;> rfl) (by kernel_rfl) (by kernel_rfl) (by kernel_rfl) (fun _ _ _ h => h) (Or.inl ⟨by rfl, ?y58⟩) hHeld ?r58
      case y58 => (intro w hSw; (try dsimp only at hSw); go_simp; first | done | with_reducible rfl | rfl)
      try simp only [Act.put, List.setIfInBounds_toArray, List.set_cons_zero, List.set_cons_succ]
      refine wpAnyH_take (i := 5) (v := ?v59) (by simp only [List.getElem?_toArray, List.getElem?_cons_succ, List.getElem?_cons_zero] <;> rfl) (by kernel_rfl) (by kernel_rfl) (by kernel_rfl) (fun _ _ _ h => h) (Or.inl ⟨by rfl, ?y59⟩) hHeld ?r59
      case y59 => (intro w hSw; (try dsimp only at hSw); go_simp; first | done | with_reducible rfl | rfl)
      try simp only [Act.put, List.setIfInBounds_toArray, List.set_cons_zero, List.set_cons_succ]
      refine wpAnyH_take (i := 6) (v := ?v60) (by simp only [List.getElem?_toArray, List.getElem?_cons_succ, List.getElem?_cons_zero] <;> rfl) (by kernel_rfl) (by kernel_rfl) (by kernel_rfl) (fun _ _ _ h => h) (Or.inl ⟨by rfl, ?y60⟩) hHeld ?r60
      case y60 => (intro w hSw; (try dsimp only at hSw); go_simp; first | done | with_reducible rfl | rfl)
      try simp only [Act.put, List.setIfInBounds_toArray, List.set_cons_zero, List.set_cons_succ]
      refine wpAnyH_take (i := 7) (v := undef) (by simp only [List.getElem?_toArray, List.getElem?_cons_succ, List.getElem?_cons_zero] <;> rfl) (by kernel_rfl) (by kernel_rfl) (by kernel_rfl) (fun _ _ _ h => h) (Or.inr ⟨by rfl, rfl⟩) hHeld ?_
      try simp only [Act.put, List.setIfInBounds_toArray, List.set_cons_zero, List.set_cons_succ]
      refine wpAnyH_take (i := 8) (v := undef) (by simp only [List.getElem?_toArray, List.getElem?_cons_succ, List.getElem?_cons_zero] <;> rfl) (by kernel_rfl) (by kernel_rfl) (by kernel_rfl) (fun _ _ _ h => h) (Or.inr ⟨by rfl, rfl⟩) hHeld ?_
      try simp only [Act.put, List.setIfInBounds_toArray, List.set_cons_zero, List.set_cons_succ]
      refine wpAnyH_take (i := 9) (v := undef) (by simp only [List.getElem?_toArray, List.getElem?_cons_succ, List.getElem?_cons_zero] <;> rfl) (by kernel_rfl) (by kernel_rfl) (by kernel_rfl) (fun _ _ _ h => h) (Or.inr ⟨by rfl, rfl⟩) hHeld ?_
      try simp only [Act.put, List.setIfInBounds_toArray, List.set_cons_zero, List.set_cons_succ]
      refine wpAnyH_take (i := 10) (v := undef) (by simp only [List.getElem?_toArray, List.getElem?_cons_succ, List.getElem?_cons_zero] <;> rfl) (by kernel_rfl) (by kernel_rfl) (by kernel_rfl) (fun _ _ _ h => h) (Or.inr ⟨by rfl, rfl⟩) hHeld ?_
      try simp only [Act.put, List.setIfInBounds_toArray, List.set_cons_zero, List.set_cons_succ]
      refine wpAnyH_take (i := 11) (v := undef) (by simp only [List.getElem?_toArray, List.getElem?_cons_succ, List.getElem?_cons_zero] <;> rfl) (by kernel_rfl) (by kernel_rfl) (by kernel_rfl) (fun _ _ _ h => h) (Or.inr ⟨by rfl, rfl⟩) hHeld ?_
      try simp only [Act.put, List.setIfInBounds_toArray, List.set_cons_zero, List.set_cons_succ]
      refine wpAnyH_take (i := 12) (v := undef) (by simp only [List.getElem?_toArray, List.getElem?_cons_succ, List.getElem?_cons_zero] <;> rfl) (by kernel_rfl) (by kernel_rfl) (by kernel_rfl) (fun _ _ _ h => h) (Or.inr ⟨by rfl, rfl⟩) hHeld ?_
      try simp only [Act.put, List.setIfInBounds_toArray, List.set_cons_zero, List.set_cons_succ]
      refine wpAnyH_take (i := 13) (v := undef) (by simp only [List.getElem?_toArray, List.getElem?_cons_succ, List.getElem?_cons_zero] <;> rfl) (by kernel_rfl) (by kernel_rfl) (by kernel_rfl) (fun _ _ _ h => h) (Or.inr ⟨by rfl, rfl⟩) hHeld ?_
      try simp only [Act.put, List.setIfInBounds_toArray, List.set_cons_zero, List.set_cons_succ]
      refine wpAnyH_take (i := 14) (v := undef) (by simp only [List.getElem?_toArray, List.getElem?_cons_succ, List.getElem?_cons_zero] <;> rfl) (by kernel_rfl) (by kernel_rfl) (by kernel_rfl) (fun _ _ _ h => h) (Or.inr ⟨by rfl, rfl⟩) hHeld ?_
      try simp only [Act.put, List.setIfInBounds_toArray, List.set_cons_zero, List.set_cons_succ]
      refine wpAnyH_take (i := 15) (v := ?v61) (by simp only [List.getElem?_toArray, List.getElem?_cons_succ, List.getElem?_cons_zero] <;> rfl) (by kernel_rfl) (by kernel_rfl) (by kernel_rfl) (fun _ _ _ h => h) (Or.inl ⟨by rfl, ?y61⟩) hHeld ?r61
      case y61 => (intro w hSw; (try dsimp only at hSw); go_simp; first | done | with_reducible rfl | rfl)
      try simp only [Act.put, List.setIfInBounds_toArray, List.set_cons_zero, List.set_cons_succ]
      refine wpAnyH_take (i := 16) (v := ?v62) (by simp only [List.getElem?_toArray, List.getElem?_cons_succ, List.getElem?_cons_zero] <;> rfl) (by kernel_rfl) (by kernel_rfl) (by kernel_rfl) (fun _ _ _ h => h) (Or.inl ⟨by rfl, ?y62⟩) hHeld ?r62
      case y62 => (intro w hSw; (try dsimp only at hSw); go_simp; first | done | with_reducible rfl | rfl)
      try simp only [Act.put, List.setIfInBounds_toArray, List.set_cons_zero, List.set_cons_succ]
      refine wpAnyH_take (i := 17) (v := ?v63) (by simp only [List.getElem?_toArray, List.getElem?_cons_succ, List.getElem?_cons_zero] <;> rfl) (by kernel_rfl) (by kernel_rfl) (by kernel_rfl) (fun _ _ _ h => h) (Or.inl ⟨by rfl, ?y63⟩) hHeld ?r63
      case y63 => (intro w hSw; (try dsimp only at hSw); go_simp; first | done | with_reducible rfl | rfl)
      try simp only [Act.put, List.setIfInBounds_toArray, List.set_cons_zero, List.set_cons_succ]
      refine wpAnyH_take (i := 18) (v := ?v64) (by simp only [List.getElem?_toArray, List.getElem?_cons_succ, List.getElem?_cons_zero] <;> rfl) (by kernel_rfl) (by kernel_rfl) (by kernel_rfl) (fun _ _ _ h => h) (Or.inl ⟨by rfl, ?y64⟩) hHeld ?r64
      case y64 => (intro w hSw; (try dsimp only at hSw); go_simp; first | done | with_reducible rfl | rfl)
      try simp only [Act.put, List.setIfInBounds_toArray, List.set_cons_zero, List.set_cons_succ]
      refine wpAnyH_done (by kernel_rfl) ?_ _
      refine NoPanic.normal ?_
      go_wp2_with fail
      go_ret
      exact ⟨rfl, HU5.out.trans (uA.trans ue0)⟩
end Go.Proofs.YtmnmhhbldbdpfaaGreatDoor
