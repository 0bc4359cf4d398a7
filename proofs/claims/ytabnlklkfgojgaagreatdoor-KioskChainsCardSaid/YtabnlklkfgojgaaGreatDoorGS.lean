/- sorteslaw27.machine.open: a kiosk with its model, opened again on a crash of its disk. A machine with its models: what its acts keep. sorteslaw27.machine.do. sorteslaw27.machine.do: the calls of the kiosk. sorteslaw27.newMachine with its model. What a kiosk's receipts are, plainly: each is signed, and follows the one before. -/
import Derived.Test.YtabnlklkfgojgaaGreatDoorGZ
import Derived.Test.YtabnlklkfgojgaaGreatDoorGR
namespace Go.Proofs.YtabnlklkfgojgaaGreatDoor
open Go.RowKit
set_option maxRecDepth 100000

structure ChF (w0 : World) (xb : Nat) (id sec : Int) (m : KM) (n kb mb : Nat) (K : List Nat) (v : Value) (w : World) : Prop where
  mach : Mach w0 xb mb id sec m n kb K w
  md : Mdl w mb m v
  vK : ∀ x, x ∈ foot v → x ∉ K
  xv : xb ∉ foot v
  gm : w0.heap.size ≤ mb
  gv : ∀ x, x ∈ foot v → w0.heap.size ≤ x
  len : m.rs.length ≤ n
structure OpK (w0 wr : World) (xb b kb : Nat) (id sec : Int) (z : KM) (n : Nat) (K : List Nat) (q2 q3 : Option Addr) (w : World) : Prop where
  x : w.heap[xb]? = some (.cells #[.pointer (some ⟨b, 0, none⟩), .pointer (some ⟨kb, 0, none⟩), .pointer q2, .pointer q3] 69 (0, 0))
  st : ∃ jb D F rs S v, K = kF kb jb v S ∧ KSt w0 w0.heap.size kb jb b D F rs S z v w ∧ Hist id sec rs z ∧ D.calls ≤ 10 + 4 * n ∧ spaceL rs ≤ 500 * (n + 1)
  fresh : ∀ k, k ∈ K → wr.heap.size ≤ k
  xl : xb < wr.heap.size
  xg : w0.heap.size ≤ xb
  up : Upd [xb] [xb] wr w
structure MdS (w0 wr : World) (xb mb : Nat) (m : KM) (v : Value) (w : World) : Prop where
  md : Mdl w mb m v
  ml : mb < wr.heap.size
  vl : ∀ x, x ∈ foot v → x < wr.heap.size
  xm : xb ≠ mb
  xv : xb ∉ foot v
  gm : w0.heap.size ≤ mb
  gv : ∀ x, x ∈ foot v → w0.heap.size ≤ x
section
variable {w0 wr w w1 : World} {xb b kb mb : Nat} {id sec : Int} {z m m2 : KM} {n : Nat} {K : List Nat} {q2 q3 : Option Addr} {v : Value}
theorem OpK.up0 (h : OpK w0 wr xb b kb id sec z n K q2 q3 w) : Upd [] [] w0 w := by
  obtain ⟨_, _, _, _, _, _, _, hs, _⟩ := h.st
  exact hs.up
theorem OpK.quiet (h : OpK w0 wr xb b kb id sec z n K q2 q3 w) (u : Upd [] [] w w1) : OpK w0 wr xb b kb id sec z n K q2 q3 w1 := by
  obtain ⟨jb, D, F, rs, S, v, hK, hs, r⟩ := h.st
  exact ⟨row_updH h.x u, ⟨jb, D, F, rs, S, v, hK, hs.quiet u, r⟩, h.fresh, h.xl, h.xg, h.up.trans u.quietTo⟩
theorem MdS.quiet (h : MdS w0 wr xb mb m v w) (u : Upd [] [] w w1) : MdS w0 wr xb mb m v w1 := ⟨h.md.quiet u, h.ml, h.vl, h.xm, h.xv, h.gm, h.gv⟩
theorem MdS.setX (h : MdS w0 wr xb mb m v w) (u : Upd [xb] [xb] w w1) : MdS w0 wr xb mb m v w1 :=
  ⟨h.md.kept u (by simp; exact fun e => h.xm e.symm) (fun x hx hm => by simp at hm; exact h.xv (hm ▸ hx)), h.ml, h.vl, h.xm, h.xv, h.gm, h.gv⟩
theorem OpK.setX (h : OpK w0 wr xb b kb id sec z n K q2 q3 w) (i : Nat) (y : Value) (p2 p3 : Option Addr) (e : (#[.pointer (some ⟨b, 0, none⟩), .pointer (some ⟨kb, 0, none⟩), .pointer q2, .pointer q3] : Array Value).setIfInBounds i y = #[.pointer (some ⟨b, 0, none⟩), .pointer (some ⟨kb, 0, none⟩), .pointer p2, .pointer p3]) :
    OpK w0 wr xb b kb id sec z n K p2 p3 (w.setCell ⟨xb, i, none⟩ y) := by
  have u : Upd [xb] [xb] w (w.setCell ⟨xb, i, none⟩ y) := (Upd.refl _ _).setCell (p := ⟨xb, i, none⟩) (by simp) _
  obtain ⟨jb, D, F, rs, S, v, hK, hs, r⟩ := h.st
  refine ⟨?_, ⟨jb, D, F, rs, S, v, hK, hs.other u (fun k hk => by simp at hk; rw [hk]; exact h.xg) (fun k hk hm => ?_), r⟩, h.fresh, h.xl, h.xg, h.up.trans u⟩
  · rw [heap_setCell_same _ _ _ _ _ _ h.x, e]
  · simp at hm
    have := h.fresh k (hK ▸ hk)
    have := h.xl
    omega
theorem OpK.body (h : OpK w0 wr xb b kb id sec z n K q2 q3 w) : ∃ jb v, KBody w kb jb z v false := by
  obtain ⟨jb, D, F, rs, S, v, hK, hs, _⟩ := h.st
  exact ⟨jb, v, hs.body⟩
theorem OpK.hist (h : OpK w0 wr xb b kb id sec z n K q2 q3 w) : z.id = id ∧ z.sec = sec ∧ z.ok := by
  obtain ⟨jb, D, F, rs, S, v, hK, hs, hh, _⟩ := h.st
  exact ⟨hh.ids.1, hh.ids.2, hs.body.ok⟩
theorem OpK.dk (h : OpK w0 wr xb b kb id sec z n K q2 q3 w) : DkIs w b id sec z n := by
  obtain ⟨jb, D, F, rs, S, v, hK, hs, hh, _, hsp⟩ := h.st
  exact ⟨D, S, F, rs, hs.j.d, hs.j.clean.ok, fun sv => hs.j.clean.crashed sv, hs.j.recs, hh, hsp⟩
theorem OpK.chF (h : OpK w0 wr xb b kb id sec z n K (some ⟨mb, 0, none⟩) none w) (hm : MdS w0 wr xb mb z v w) (i1 : i64in id) (i2 : i64in sec) (hl : z.rs.length ≤ n) : ChF w0 xb id sec z n kb mb K v w := by
  obtain ⟨jb, D, F, rs, S, u, hK, hs, hh, hc, hsp⟩ := h.st
  have hf : ∀ k, k < wr.heap.size → k ∉ K := fun k hk hm => by have := h.fresh k hm; omega
  exact ⟨⟨⟨jb, b, D, F, rs, S, u, hK, hs, hh, ⟨h.x, ⟨_, hm.md.k, by rw [← hh.ids.1]; rfl, by rw [← hh.ids.2]; rfl⟩, hf _ h.xl, hf _ hm.ml, hm.xm⟩, hc, hsp⟩, h.xg, i1, i2⟩, hm.md, fun x hx => hf x (hm.vl x hx), hm.xv, hm.gm, hm.gv, hl⟩
theorem KM.same {a c : KM} (h1 : a.id = c.id) (h2 : a.sec = c.sec) (h3 : a.paper = c.paper) (h4 : a.rs = c.rs) (h5 : a.round = c.round) (h6 : a.out = c.out) : a = c := by
  cases a
  cases c
  simp only at h1 h2 h3 h4 h5 h6
  subst h1 h2 h3 h4 h5 h6
  rfl
def OpTo (w0 : World) (xb : Nat) (id sec : Int) (A : KM → Prop) (n : Nat) (w : World) (e : Ending) (w' : World) : Prop :=
  ∃ z kb mb K v, A z ∧ e = .returned (.bool true) ∧ ChF w0 xb id sec z n kb mb K v w' ∧ Upd [xb] [xb] w w'
def OthM (w0 wr : World) (xb : Nat) (A : KM → Prop) (m : KM) (n : Nat) (o : Option Addr) (w : World) : Prop :=
  (o = none ∧ ∀ z, A z → z = m) ∨ ∃ ob m2 vo, o = some ⟨ob, 0, none⟩ ∧ MdS w0 wr xb ob m2 vo w ∧ (∀ z, A z → z = m ∨ z = m2) ∧ m2.rs.length ≤ n ∧ m2.id = m.id ∧ m2.sec = m.sec
theorem OthM.quiet {A : KM → Prop} {o : Option Addr} (h : OthM w0 wr xb A m n o w) (u : Upd [] [] w w1) : OthM w0 wr xb A m n o w1 := by
  rcases h with h | ⟨ob, m2, vo, h1, h2, h3⟩
  · exact .inl h
  · exact .inr ⟨ob, m2, vo, h1, h2.quiet u, h3⟩
theorem OthM.setX {A : KM → Prop} {o : Option Addr} (h : OthM w0 wr xb A m n o w) (u : Upd [xb] [xb] w w1) : OthM w0 wr xb A m n o w1 := by
  rcases h with h | ⟨ob, m2, vo, h1, h2, h3⟩
  · exact .inl h
  · exact .inr ⟨ob, m2, vo, h1, h2.setX u, h3⟩
set_option maxHeartbeats 8000000 in
theorem openM_any {S : List Nat} {D : DiskM} {A : KM → Prop} {kq o : Option Addr} (hx : wr.heap[xb]? = some (.cells #[.pointer (some ⟨b, 0, none⟩), .pointer kq, .pointer (some ⟨mb, 0, none⟩), .pointer o] 69 (0, 0))) (hd : DiskAt wr b D S) (hok : CrashOk D id sec n A) (hm : MdS w0 wr xb mb m v wr) (ho : OthM w0 wr xb A m n o wr)
    (hup : Upd [] [] w0 wr) (hxg : w0.heap.size ≤ xb) (im : m.id = id) (is : m.sec = sec) (hlm : m.rs.length ≤ n) (i1 : i64in id) (i2 : i64in sec) (hn : n ≤ 900) (q : Value) (sv : List Int) (hI : IntsAt wr q sv) (htab : Tabs w0) : Calls Tryz.prog 48 #[.pointer (some ⟨xb, 0, none⟩), q] wr (OpTo w0 xb id sec A n wr) := by
  obtain ⟨F, rs, z, hA, hcl, hrec, hh, hsp⟩ := hok.all sv
  have hxl := blk_lt hx
  have x0 : wr.cell? ⟨xb, 0, none⟩ = some (.pointer (some ⟨b, 0, none⟩)) := by rw [cell_of_row _ _ _ _ _ _ hx]; rfl
  have HC := Lib.hid (Crash_to b D S q sv wr hd hI hok.ok)
  have HX := Lib.hid hx
  have HM := Lib.hid hm
  have HO := Lib.hid ho
  have HA := Lib.hid hA
  have HCL := Lib.hid (And.intro hcl (And.intro hrec (And.intro hh hsp)))
  have HXL := Lib.hid hxl
  have HUP := Lib.hid hup
  have HXG := Lib.hid (And.intro hxg (And.intro i1 i2))
  have HIM := Lib.hid (And.intro im (And.intro is hlm))
  clear hd hok hx hA hcl hrec hh hsp hI hxl hm ho im is hlm hup hxg
  go_enter Tryz.func48, Tryz.ntmps48
  go_wp2_with fail
  refine HC.out.mono ?_
  rintro e w1 ⟨b1, S1, rfl, hd1, hu1⟩
  have hn1 : ∀ k, k ∈ S1 → wr.heap.size ≤ k := fun k hk => by
    rcases hu1.new k hk with g | g
    · simp at g
    · exact g
  have X1 : Hid (w1.heap[xb]? = some (.cells #[.pointer (some ⟨b, 0, none⟩), .pointer kq, .pointer (some ⟨mb, 0, none⟩), .pointer o] 69 (0, 0))) := row_updH HX.out hu1.dropS
  have c1 : ∃ cv, w1.cell? ⟨xb, 0, none⟩ = some cv := ⟨_, by rw [cell_of_row _ _ _ _ _ _ X1.out]; rfl⟩
  obtain ⟨cv, c1⟩ := c1
  have f1 : w1.frozen? ⟨xb, 0, none⟩ = false := frozen_of_row _ _ _ _ _ X1.out
  obtain ⟨w2, hw2⟩ : ∃ w2, w2 = w1.setCell ⟨xb, 0, none⟩ (.pointer (some ⟨b1, 0, none⟩)) := ⟨_, rfl⟩
  have X2 : Hid (w2.heap[xb]? = some (.cells #[.pointer (some ⟨b1, 0, none⟩), .pointer kq, .pointer (some ⟨mb, 0, none⟩), .pointer o] 69 (0, 0))) := by
    show _ = _
    rw [hw2, heap_setCell_same _ _ _ _ _ _ X1.out]
    rfl
  have u2 : Upd [xb] [xb] w1 w2 := by rw [hw2]; exact (Upd.refl _ _).setCell (p := ⟨xb, 0, none⟩) (by simp) _
  have hxS : ∀ k, k ∈ S1 → k ∉ [xb] := fun k hk hm => by
    simp at hm
    have := hn1 k hk
    have := HXL.out
    omega
  have hbelow : Below w0.heap.size w0 wr := ⟨HUP.out.os, HUP.out.tape, HUP.out.output, HUP.out.size, fun k hk => HUP.out.block k hk (by simp)⟩
  have d2 := (DiskOk.start hbelow HUP.out.size hd1 hu1).other u2 (fun k hk => by simp at hk; rw [hk]; exact HXG.out.1) hxS
  have M2 := Lib.hid ((HM.out.quiet hu1.dropS).setX u2)
  have O2 := Lib.hid ((HO.out.quiet hu1.dropS).setX u2)
  have U2 : Hid (Upd [xb] [xb] wr w2) := (hu1.dropS.quietTo (K := [xb])).trans u2
  have hdr : Upd [] [] w2 w2.drew := (Upd.refl _ _).drew
  have HOp := Lib.hid (Open_old id sec 3 HXG.out.2.1 HXG.out.2.2 (by decide) (by decide) (d2.quiet hdr) HCL.out.1 HCL.out.2.1 HCL.out.2.2.1 rfl (by show 0 + 6 ≤ 65536; decide) htab rfl)
  have HN1 := Lib.hid hn1
  have HSZ : Hid (wr.heap.size ≤ w2.heap.size) := U2.out.size
  have HW2 := Lib.hid hw2
  clear d2 u2 hu1 hd1 hn1 hxS hbelow HC hw2
  go_upto_region 2 with (fail)
  rw [← HW2.out]
  clear HW2 c1 f1 x0
  have HCS : Hid (∀ W : World, W.heap[xb]? = some (.cells #[.pointer (some ⟨b1, 0, none⟩), .pointer kq, .pointer (some ⟨mb, 0, none⟩), .pointer o] 69 (0, 0)) → Mdl W mb m v → W.cell? ⟨xb, 2, none⟩ = some (.pointer (some ⟨mb, 0, none⟩)) ∧ W.cell? ⟨xb, 0, none⟩ = some (.pointer (some ⟨b1, 0, none⟩)) ∧ W.cell? ⟨mb, 0, none⟩ = some (.int .i64 id) ∧ W.cell? ⟨mb, 1, none⟩ = some (.int .i64 sec)) := by
    intro W h1 h2
    exact ⟨by rw [cell_of_row _ _ _ _ _ _ h1]; rfl, by rw [cell_of_row _ _ _ _ _ _ h1]; rfl, by rw [← HIM.out.1]; exact h2.c0, by rw [← HIM.out.2.1]; exact h2.c1⟩
  have HMK : Hid (∀ (W : World) (K' : List Nat), Upd S1 K' w2.drew W → MdS w0 wr xb mb m v W ∧ OthM w0 wr xb A m n o W ∧ W.heap[xb]? = some (.cells #[.pointer (some ⟨b1, 0, none⟩), .pointer kq, .pointer (some ⟨mb, 0, none⟩), .pointer o] 69 (0, 0))) := by
    intro W K' u
    have hk : ∀ (mb : Nat) (m : KM) (v : Value), MdS w0 wr xb mb m v w2 → MdS w0 wr xb mb m v W := by
      intro mb m v h
      exact ⟨(h.md.quiet hdr).kept u (fun hm => by have := HN1.out _ hm; have := h.ml; omega) (fun x hx hm => by have := HN1.out _ hm; have := h.vl x hx; omega), h.ml, h.vl, h.xm, h.xv, h.gm, h.gv⟩
    refine ⟨hk _ _ _ M2.out, ?_, ?_⟩
    · rcases O2.out with h | ⟨ob, m2, vo, h1, h2, h3⟩
      · exact .inl h
      · exact .inr ⟨ob, m2, vo, h1, hk _ _ _ h2, h3⟩
    · have k := X2.out
      rw [← k]
      exact u.block xb (blk_lt k) (fun hm => by have := HN1.out _ hm; have := HXL.out; omega)
  refine @_root_.id ((∀ (kb2 jb2 : Nat) (S3 : List Nat) (v3 : Value) (D3 : DiskM) (w3 : World), Hid (Upd S1 (kF kb2 jb2 v3 S3) w2.drew w3) → Hid (KSt w0 w0.heap.size kb2 jb2 b1 D3 F rs S3 z v3 w3 ∧ D3.calls ≤ (D.crash sv).calls + 1) → (?pj1 : Nat → Nat → List Nat → Value → DiskM → World → Prop) kb2 jb2 S3 v3 D3 w3) → _) (fun hJ => ?mj1) ?jj1
  case mj1 =>
    refine wp_region_noPanic ?_
    refine wp_region_held_drew (S := fun wp => wp.cell? ⟨xb, 2, none⟩ = some (.pointer (some ⟨mb, 0, none⟩)) ∧ wp.cell? ⟨xb, 0, none⟩ = some (.pointer (some ⟨b1, 0, none⟩)) ∧ wp.cell? ⟨mb, 0, none⟩ = some (.int .i64 id) ∧ wp.cell? ⟨mb, 1, none⟩ = some (.int .i64 sec)) (by kernel_rfl) ?_ (fun hHeld => ?_)
    · exact HCS.out _ X2.out (M2.out.md.quiet hdr)
    refine tkY 0 hHeld ?_
    refine tkY 1 hHeld ?_
    refine tkY 2 hHeld ?_
    refine tkY 3 hHeld ?_
    refine tkY 4 hHeld ?_
    refine tkY 5 hHeld ?_
    refine tkY 6 hHeld ?_
    refine tkY 7 hHeld ?_
    refine tkY 8 hHeld ?_
    refine tkY 9 hHeld ?_
    refine tkY 10 hHeld ?_
    refine tkY 11 hHeld ?_
    refine tkY 12 hHeld ?_
    refine tkY 13 hHeld ?_
    refine tkY 14 hHeld ?_
    refine tkY 15 hHeld ?_
    refine tkY 16 hHeld ?_
    refine tkY 17 hHeld ?_
    refine wpAnyH_ready (rs := [18]) (by kernel_rfl) (by simp) ?_
    refine AllReadyH.cons (by simp only [List.getElem?_toArray, List.getElem?_cons_succ, List.getElem?_cons_zero] <;> rfl) (fun K hK => ?_) ?_
    · go_simp; refine HOp.out.mono ?_; rintro e w3 ⟨kb2, jb2, S3, v3, D3, rfl, st3, hu3, hf3, hc3⟩; have HU3 := Lib.hid hu3; have ST3 := Lib.hid (And.intro st3 hc3); clear hu3 st3 hf3 hc3; go_wp2_with fail
      refine hK.out _ _ ?_ (fun hHeld => ?_)
      · exact HCS.out _ (HMK.out _ _ HU3.out).2.2 (HMK.out _ _ HU3.out).1.md
      clear hK K
      try simp only [Act.put, List.setIfInBounds_toArray, List.set_cons_zero, List.set_cons_succ]
      refine tkY 19 hHeld ?_
      refine tkY 20 hHeld ?_
      refine tkY 21 hHeld ?_
      refine tkY 22 hHeld ?_
      refine tkY 23 hHeld ?_
      refine wpAnyH_done (by kernel_rfl) ?_ _
      refine NoPanic.normal ?_
      exact hJ kb2 jb2 S3 v3 D3 w3 HU3 ST3
    exact AllReadyH.nil
  intro kb2 jb2 S3 v3 D3 w3 HU3 ST3
  have fresh : ∀ k, k ∈ kF kb2 jb2 v3 S3 → wr.heap.size ≤ k := fun k hk => by
    rcases HU3.out.new k hk with g | g
    · exact HN1.out k g
    · exact Nat.le_trans HSZ.out g
  obtain ⟨hm3, ho3, hx3⟩ := HMK.out _ _ HU3.out
  have c3 : w3.cell? ⟨xb, 1, none⟩ = some (.pointer kq) := by rw [cell_of_row _ _ _ _ _ _ hx3]; rfl
  have f3 : w3.frozen? ⟨xb, 1, none⟩ = false := frozen_of_row _ _ _ _ _ hx3
  obtain ⟨K, hK⟩ : ∃ K, K = kF kb2 jb2 v3 S3 := ⟨_, rfl⟩
  obtain ⟨w4, hw4⟩ : ∃ w4, w3.setCell ⟨xb, 1, none⟩ (.pointer (some ⟨kb2, 0, none⟩)) = w4 := ⟨_, rfl⟩
  have u4 : Upd [xb] [xb] w3 w4 := by rw [← hw4]; exact (Upd.refl _ _).setCell (p := ⟨xb, 1, none⟩) (by simp) _
  have HK4 : Hid (OpK w0 wr xb b1 kb2 id sec z n K (some ⟨mb, 0, none⟩) o w4) := by
    refine ⟨?_, ⟨jb2, D3, F, rs, S3, v3, hK, ST3.out.1.other u4 (fun k hk => by simp at hk; rw [hk]; exact HXG.out.1) (fun k hk hm => ?_), HCL.out.2.2.1, ?_, HCL.out.2.2.2⟩, by rw [hK]; exact fresh, HXL.out, HXG.out.1, ?_⟩
    · rw [← hw4, heap_setCell_same _ _ _ _ _ _ hx3]; rfl
    · simp at hm
      have := fresh k hk
      have := HXL.out
      omega
    · have h1 := ST3.out.2
      have h2 : (D.crash sv).calls = 0 := rfl
      omega
    · exact ((U2.out.trans ((Upd.refl [] w2).drew.quietTo (K := [xb]))).past HU3.out HN1.out).trans u4
  have HM4 := Lib.hid (hm3.setX u4)
  have HO4 := Lib.hid (ho3.setX u4)
  have HW4 := Lib.hid hw4
  clear fresh ST3 HU3 HMK HCS X2 M2 O2 U2 HN1 HSZ HOp HM HO HX X1 hm3 ho3 hx3 hK hw4 u4 HCL hdr
  go_upto_region 6 with (fail)
  rw [HW4.out]
  clear HW4 c3 f3
  have cO : w4.cell? ⟨xb, 3, none⟩ = some (.pointer o) := by rw [cell_of_row _ _ _ _ _ _ HK4.out.x]; rfl
  rcases HO4.out with ⟨rfl, hz⟩ | ⟨ob, m2, vo, rfl, hm2, hz, hl2, i2a, i2b⟩
  · have hzm : z = m := hz z HA.out
    have HM5 : Hid (MdS w0 wr xb mb z v w4) := by rw [hzm]; exact HM4.out
    have HLz : Hid (z.rs.length ≤ n) := by rw [hzm]; exact HIM.out.2.2
    clear HO4 hz hzm HM4
    go_upto_region 10 with (fail)
    clear cO
    have x3c : w4.cell? ⟨xb, 3, none⟩ = some (.pointer none) := by rw [cell_of_row _ _ _ _ _ _ HK4.out.x]; rfl
    have x3f : w4.frozen? ⟨xb, 3, none⟩ = false := frozen_of_row _ _ _ _ _ HK4.out.x
    obtain ⟨wz, hwz⟩ : ∃ wz, w4.setCell ⟨xb, 3, none⟩ (.pointer none) = wz := ⟨_, rfl⟩
    have HKz : Hid (OpK w0 wr xb b1 kb2 id sec z n K (some ⟨mb, 0, none⟩) none wz) := by
      show OpK _ _ _ _ _ _ _ _ _ _ _ _ _
      rw [← hwz]
      exact HK4.out.setX 3 _ _ _ rfl
    have HMz : Hid (MdS w0 wr xb mb z v wz) := by
      show MdS _ _ _ _ _ _ _
      rw [← hwz]
      exact HM5.out.setX ((Upd.refl _ _).setCell (p := ⟨xb, 3, none⟩) (by simp) _)
    have hHis := HKz.out.hist
    have HIs : Hid (Calls Tryz.prog 77 #[.pointer (some ⟨kb2, 0, none⟩), .pointer (some ⟨mb, 0, none⟩)] wz (MkP (z.paper = z.paper ∧ z.rs = z.rs) wz)) := by
      obtain ⟨jbz, vz, hbz⟩ := HKz.out.body
      exact is_any hbz HMz.out.md rfl
    have HKn : Hid (∀ W, Upd [] [] wz W → Calls Tryz.prog 78 #[.pointer (some ⟨xb, 0, none⟩)] W (MkP (z.round = z.round ∧ z.out = z.out) W)) := fun W u => knows_any ⟨_, _, (HKz.out.quiet u).x⟩ (HKz.out.quiet u).dk (HMz.out.quiet u).md hHis.1 hHis.2.1 rfl rfl (by have := HLz.out; omega) HXG.out.2.1 HXG.out.2.2 (by omega) (htab.upd (HKz.out.quiet u).up0)
    have x2c : wz.cell? ⟨xb, 2, none⟩ = some (.pointer (some ⟨mb, 0, none⟩)) := by rw [cell_of_row _ _ _ _ _ _ HKz.out.x]; rfl
    have HFIN : Hid (∀ W, Upd [] [] wz W → OpTo w0 xb id sec A n wr (.returned (.bool true)) W) := fun W u => ⟨z, kb2, mb, K, v, HA.out, rfl, (HKz.out.quiet u).chF (HMz.out.quiet u) HXG.out.2.1 HXG.out.2.2 HLz.out, (HKz.out.quiet u).up⟩
    have HWZ := Lib.hid hwz
    clear hwz hHis
    go_upto_region 11 with (fail)
    rw [HWZ.out]
    clear x3c x3f HWZ
    go_wp2_with fail
    refine HIs.out.mono ?_
    rintro e wi ⟨bI, hbI, rfl, hqi⟩
    have hbt : bI = true := hbI.out.2 (by simp)
    subst hbt
    go_wp2_with fail
    refine (HKn.out wi hqi).mono ?_
    rintro e wj ⟨bJ, hbJ, rfl, hqj⟩
    have hbt : bJ = true := hbJ.out.2 (by simp)
    subst hbt
    have FIN := Lib.hid (HFIN.out wj (hqi.trans hqj))
    clear hqi hqj hbI hbJ HFIN HIs HKn
    go_wp2_with fail
    go_ret
    exact FIN.out
  · have HM2 := Lib.hid hm2
    have HZ2 := Lib.hid (And.intro (hz z HA.out) (And.intro hl2 (And.intro i2a i2b)))
    obtain ⟨gy, w5, hgy, hw5, FY, hq5⟩ := alloc_letD w4 (.cells #[.pointer (some ⟨b1, 0, none⟩), .pointer (some ⟨kb2, 0, none⟩), .pointer (some ⟨ob, 0, none⟩), .pointer none] 69)
    have HGY := Lib.hid hgy
    have HW5 := Lib.hid hw5
    have HQ5 := Lib.hid hq5
    have HSY : Hid (∀ W, Upd [] [] w4 W → W.cell? ⟨xb, 0, none⟩ = some (.pointer (some ⟨b1, 0, none⟩)) ∧ W.cell? ⟨xb, 3, none⟩ = some (.pointer (some ⟨ob, 0, none⟩))) := by
      intro W u
      have h1 := row_updH HK4.out.x u
      exact ⟨by rw [cell_of_row _ _ _ _ _ _ h1]; rfl, by rw [cell_of_row _ _ _ _ _ _ h1]; rfl⟩
    have ud0 : Upd [] [] w4 w4.drew := (Upd.refl _ _).drew
    clear HO4 hz hm2 hl2 i2a i2b hgy hw5 hq5
    go_upto_region 7 with (fail)
    refine @_root_.id ((?pj25 : Prop) → _) (fun hJ => ?mj25) ?jj25
    case mj25 =>
      refine wp_region_noPanic ?_
      refine wp_region_held_drew (S := fun wp => wp.cell? ⟨xb, 0, none⟩ = some (.pointer (some ⟨b1, 0, none⟩)) ∧ wp.cell? ⟨xb, 3, none⟩ = some (.pointer (some ⟨ob, 0, none⟩))) (by kernel_rfl) ?_ (fun hHeld => ?_)
      · exact HSY.out _ ud0
      refine tkY 0 hHeld ?_
      refine tkY 1 hHeld ?_
      refine tkY 2 hHeld ?_
      refine tkY 3 hHeld ?_
      refine tkY 4 hHeld ?_
      refine tkY 5 hHeld ?_
      refine tkY 6 hHeld ?_
      refine tkY 7 hHeld ?_
      refine tkY 8 hHeld ?_
      refine tkY 9 hHeld ?_
      refine wpAnyH_ready (rs := [10]) (by kernel_rfl) (by simp) ?_
      refine AllReadyH.cons (by simp only [List.getElem?_toArray, List.getElem?_cons_succ, List.getElem?_cons_zero] <;> rfl) (fun K hK => ?_) ?_
      · go_simp; rw [← HGY.out, ← HW5.out]
        refine hK.out _ _ ?_ (fun hHeld => ?_)
        · exact HSY.out _ HQ5.out
        clear hK K
        try simp only [Act.put, List.setIfInBounds_toArray, List.set_cons_zero, List.set_cons_succ]
        refine tkY 11 hHeld ?_
        refine wpAnyH_done (by kernel_rfl) ?_ _
        refine NoPanic.normal ?_
        exact hJ
      exact AllReadyH.nil
    clear cO HGY HW5
    have HK5 := Lib.hid (HK4.out.quiet HQ5.out)
    have HM5 := Lib.hid (HM4.out.quiet HQ5.out)
    have HM25 := Lib.hid (HM2.out.quiet HQ5.out)
    have cO5 : w5.cell? ⟨xb, 3, none⟩ = some (.pointer (some ⟨ob, 0, none⟩)) := (HSY.out _ HQ5.out).2
    have HZI : Hid (z.id = m2.id ∧ z.sec = m2.sec) := by
      obtain ⟨a1, a2, _⟩ := HK5.out.hist
      exact ⟨by rw [a1, HZ2.out.2.2.1, HIM.out.1], by rw [a2, HZ2.out.2.2.2, HIM.out.2.1]⟩
    have HIo : Hid (Calls Tryz.prog 77 #[.pointer (some ⟨kb2, 0, none⟩), .pointer (some ⟨ob, 0, none⟩)] w5 (MkP (z.paper = m2.paper ∧ z.rs = m2.rs) w5)) := by
      obtain ⟨jbz, vz, hbz⟩ := HK5.out.body
      exact is_any hbz HM25.out.md HZI.out.1
    clear HQ5 HSY HK4 HM4 HM2 ud0
    go_wp2_with fail
    refine HIo.out.mono ?_
    rintro e w6 ⟨bI, hbI, rfl, hq6⟩
    have HK6 := Lib.hid (HK5.out.quiet hq6)
    have HM6 := Lib.hid (HM5.out.quiet hq6)
    have HM26 := Lib.hid (HM25.out.quiet hq6)
    have FY6 := Lib.hid (row_updH FY.out hq6)
    have HBI := Lib.hid hbI.out
    clear hq6 hbI HIo HK5 HM5 HM25 FY cO5
    cases bI with
    | false =>
      have hzm : z = m := by
        rcases HZ2.out.1 with h | h
        · exact h
        · have := HBI.out.2 (by rw [h]; exact ⟨rfl, rfl⟩)
          cases this
      have HM7 : Hid (MdS w0 wr xb mb z v w6) := by rw [hzm]; exact HM6.out
      have HLz : Hid (z.rs.length ≤ n) := by rw [hzm]; exact HIM.out.2.2
      clear hzm HM6
      go_upto_region 10 with (fail)
      have x3c : w6.cell? ⟨xb, 3, none⟩ = some (.pointer (some ⟨ob, 0, none⟩)) := by rw [cell_of_row _ _ _ _ _ _ HK6.out.x]; rfl
      have x3f : w6.frozen? ⟨xb, 3, none⟩ = false := frozen_of_row _ _ _ _ _ HK6.out.x
      obtain ⟨wz, hwz⟩ : ∃ wz, w6.setCell ⟨xb, 3, none⟩ (.pointer none) = wz := ⟨_, rfl⟩
      have HKz : Hid (OpK w0 wr xb b1 kb2 id sec z n K (some ⟨mb, 0, none⟩) none wz) := by
        show OpK _ _ _ _ _ _ _ _ _ _ _ _ _
        rw [← hwz]
        exact HK6.out.setX 3 _ _ _ rfl
      have HMz : Hid (MdS w0 wr xb mb z v wz) := by
        show MdS _ _ _ _ _ _ _
        rw [← hwz]
        exact HM7.out.setX ((Upd.refl _ _).setCell (p := ⟨xb, 3, none⟩) (by simp) _)
      have hHis := HKz.out.hist
      have HIs : Hid (Calls Tryz.prog 77 #[.pointer (some ⟨kb2, 0, none⟩), .pointer (some ⟨mb, 0, none⟩)] wz (MkP (z.paper = z.paper ∧ z.rs = z.rs) wz)) := by
        obtain ⟨jbz, vz, hbz⟩ := HKz.out.body
        exact is_any hbz HMz.out.md rfl
      have HKn : Hid (∀ W, Upd [] [] wz W → Calls Tryz.prog 78 #[.pointer (some ⟨xb, 0, none⟩)] W (MkP (z.round = z.round ∧ z.out = z.out) W)) := fun W u => knows_any ⟨_, _, (HKz.out.quiet u).x⟩ (HKz.out.quiet u).dk (HMz.out.quiet u).md hHis.1 hHis.2.1 rfl rfl (by have := HLz.out; omega) HXG.out.2.1 HXG.out.2.2 (by omega) (htab.upd (HKz.out.quiet u).up0)
      have x2c : wz.cell? ⟨xb, 2, none⟩ = some (.pointer (some ⟨mb, 0, none⟩)) := by rw [cell_of_row _ _ _ _ _ _ HKz.out.x]; rfl
      have HFIN : Hid (∀ W, Upd [] [] wz W → OpTo w0 xb id sec A n wr (.returned (.bool true)) W) := fun W u => ⟨z, kb2, mb, K, v, HA.out, rfl, (HKz.out.quiet u).chF (HMz.out.quiet u) HXG.out.2.1 HXG.out.2.2 HLz.out, (HKz.out.quiet u).up⟩
      have HWZ := Lib.hid hwz
      clear hwz hHis
      go_upto_region 11 with (fail)
      rw [HWZ.out]
      clear x3c x3f HWZ
      go_wp2_with fail
      refine HIs.out.mono ?_
      rintro e wi ⟨bI, hbI, rfl, hqi⟩
      have hbt : bI = true := hbI.out.2 (by simp)
      subst hbt
      go_wp2_with fail
      refine (HKn.out wi hqi).mono ?_
      rintro e wj ⟨bJ, hbJ, rfl, hqj⟩
      have hbt : bJ = true := hbJ.out.2 (by simp)
      subst hbt
      have FIN := Lib.hid (HFIN.out wj (hqi.trans hqj))
      clear hqi hqj hbI hbJ HFIN HIs HKn
      go_wp2_with fail
      go_ret
      exact FIN.out
    | true =>
      obtain ⟨ep, er⟩ := HBI.out.1 rfl
      have HKy : Hid (Calls Tryz.prog 78 #[.pointer (some ⟨gy, 0, none⟩)] w6 (MkP (z.round = m2.round ∧ z.out = m2.out) w6)) := knows_any ⟨_, _, FY6.out⟩ HK6.out.dk HM26.out.md (by rw [HZ2.out.2.2.1, HIM.out.1]) (by rw [HZ2.out.2.2.2, HIM.out.2.1]) ep er (by rw [er]; have := HZ2.out.2.1; omega) HXG.out.2.1 HXG.out.2.2 (by omega) (htab.upd HK6.out.up0)
      have HEP := Lib.hid (And.intro ep er)
      clear ep er
      go_wp2_with fail
      refine HKy.out.mono ?_
      rintro e w7 ⟨bJ, hbJ, rfl, hq7⟩
      have HK7 := Lib.hid (HK6.out.quiet hq7)
      have HM7 := Lib.hid (HM6.out.quiet hq7)
      have HM27 := Lib.hid (HM26.out.quiet hq7)
      have HBJ := Lib.hid hbJ.out
      clear hq7 hbJ HKy HK6 HM6 HM26 FY6
      cases bJ with
      | false =>
        have hzm : z = m := by
          rcases HZ2.out.1 with h | h
          · exact h
          · have := HBJ.out.2 (by rw [h]; exact ⟨rfl, rfl⟩)
            cases this
        have HM8 : Hid (MdS w0 wr xb mb z v w7) := by rw [hzm]; exact HM7.out
        have HLz : Hid (z.rs.length ≤ n) := by rw [hzm]; exact HIM.out.2.2
        clear hzm HM7
        go_upto_region 10 with (fail)
        have x3c : w7.cell? ⟨xb, 3, none⟩ = some (.pointer (some ⟨ob, 0, none⟩)) := by rw [cell_of_row _ _ _ _ _ _ HK7.out.x]; rfl
        have x3f : w7.frozen? ⟨xb, 3, none⟩ = false := frozen_of_row _ _ _ _ _ HK7.out.x
        obtain ⟨wz, hwz⟩ : ∃ wz, w7.setCell ⟨xb, 3, none⟩ (.pointer none) = wz := ⟨_, rfl⟩
        have HKz : Hid (OpK w0 wr xb b1 kb2 id sec z n K (some ⟨mb, 0, none⟩) none wz) := by
          show OpK _ _ _ _ _ _ _ _ _ _ _ _ _
          rw [← hwz]
          exact HK7.out.setX 3 _ _ _ rfl
        have HMz : Hid (MdS w0 wr xb mb z v wz) := by
          show MdS _ _ _ _ _ _ _
          rw [← hwz]
          exact HM8.out.setX ((Upd.refl _ _).setCell (p := ⟨xb, 3, none⟩) (by simp) _)
        have hHis := HKz.out.hist
        have HIs : Hid (Calls Tryz.prog 77 #[.pointer (some ⟨kb2, 0, none⟩), .pointer (some ⟨mb, 0, none⟩)] wz (MkP (z.paper = z.paper ∧ z.rs = z.rs) wz)) := by
          obtain ⟨jbz, vz, hbz⟩ := HKz.out.body
          exact is_any hbz HMz.out.md rfl
        have HKn : Hid (∀ W, Upd [] [] wz W → Calls Tryz.prog 78 #[.pointer (some ⟨xb, 0, none⟩)] W (MkP (z.round = z.round ∧ z.out = z.out) W)) := fun W u => knows_any ⟨_, _, (HKz.out.quiet u).x⟩ (HKz.out.quiet u).dk (HMz.out.quiet u).md hHis.1 hHis.2.1 rfl rfl (by have := HLz.out; omega) HXG.out.2.1 HXG.out.2.2 (by omega) (htab.upd (HKz.out.quiet u).up0)
        have x2c : wz.cell? ⟨xb, 2, none⟩ = some (.pointer (some ⟨mb, 0, none⟩)) := by rw [cell_of_row _ _ _ _ _ _ HKz.out.x]; rfl
        have HFIN : Hid (∀ W, Upd [] [] wz W → OpTo w0 xb id sec A n wr (.returned (.bool true)) W) := fun W u => ⟨z, kb2, mb, K, v, HA.out, rfl, (HKz.out.quiet u).chF (HMz.out.quiet u) HXG.out.2.1 HXG.out.2.2 HLz.out, (HKz.out.quiet u).up⟩
        have HWZ := Lib.hid hwz
        clear hwz hHis
        go_upto_region 11 with (fail)
        rw [HWZ.out]
        clear x3c x3f HWZ
        go_wp2_with fail
        refine HIs.out.mono ?_
        rintro e wi ⟨bI, hbI, rfl, hqi⟩
        have hbt : bI = true := hbI.out.2 (by simp)
        subst hbt
        go_wp2_with fail
        refine (HKn.out wi hqi).mono ?_
        rintro e wj ⟨bJ, hbJ, rfl, hqj⟩
        have hbt : bJ = true := hbJ.out.2 (by simp)
        subst hbt
        have FIN := Lib.hid (HFIN.out wj (hqi.trans hqj))
        clear hqi hqj hbI hbJ HFIN HIs HKn
        go_wp2_with fail
        go_ret
        exact FIN.out
      | true =>
        obtain ⟨e5, e6⟩ := HBJ.out.1 rfl
        have hzm : z = m2 := KM.same HZI.out.1 HZI.out.2 HEP.out.1 HEP.out.2 e5 e6
        have HLz : Hid (z.rs.length ≤ n) := by rw [hzm]; exact HZ2.out.2.1
        have x2c0 : w7.cell? ⟨xb, 2, none⟩ = some (.pointer (some ⟨mb, 0, none⟩)) := by rw [cell_of_row _ _ _ _ _ _ HK7.out.x]; rfl
        have x3c0 : w7.cell? ⟨xb, 3, none⟩ = some (.pointer (some ⟨ob, 0, none⟩)) := by rw [cell_of_row _ _ _ _ _ _ HK7.out.x]; rfl
        have x2f0 : w7.frozen? ⟨xb, 2, none⟩ = false := frozen_of_row _ _ _ _ _ HK7.out.x
        obtain ⟨w8, hw8⟩ : ∃ wz, w7.setCell ⟨xb, 2, none⟩ (.pointer (some ⟨ob, 0, none⟩)) = wz := ⟨_, rfl⟩
        have HK8 : Hid (OpK w0 wr xb b1 kb2 id sec z n K (some ⟨ob, 0, none⟩) (some ⟨ob, 0, none⟩) w8) := by
          show OpK _ _ _ _ _ _ _ _ _ _ _ _ _
          rw [← hw8]
          exact HK7.out.setX 2 _ _ _ rfl
        have HM8 : Hid (MdS w0 wr xb ob z vo w8) := by
          show MdS _ _ _ _ _ _ _
          rw [← hw8, hzm]
          exact HM27.out.setX ((Upd.refl _ _).setCell (p := ⟨xb, 2, none⟩) (by simp) _)
        have HW8 := Lib.hid hw8
        clear hzm hw8 e5 e6 HK7 HM7 HM27
        go_upto_region 10 with (fail)
        rw [HW8.out]
        clear x2c0 x3c0 x2f0 HW8
        have x3c : w8.cell? ⟨xb, 3, none⟩ = some (.pointer (some ⟨ob, 0, none⟩)) := by rw [cell_of_row _ _ _ _ _ _ HK8.out.x]; rfl
        have x3f : w8.frozen? ⟨xb, 3, none⟩ = false := frozen_of_row _ _ _ _ _ HK8.out.x
        obtain ⟨wz, hwz⟩ : ∃ wz, w8.setCell ⟨xb, 3, none⟩ (.pointer none) = wz := ⟨_, rfl⟩
        have HKz : Hid (OpK w0 wr xb b1 kb2 id sec z n K (some ⟨ob, 0, none⟩) none wz) := by
          show OpK _ _ _ _ _ _ _ _ _ _ _ _ _
          rw [← hwz]
          exact HK8.out.setX 3 _ _ _ rfl
        have HMz : Hid (MdS w0 wr xb ob z vo wz) := by
          show MdS _ _ _ _ _ _ _
          rw [← hwz]
          exact HM8.out.setX ((Upd.refl _ _).setCell (p := ⟨xb, 3, none⟩) (by simp) _)
        have hHis := HKz.out.hist
        have HIs : Hid (Calls Tryz.prog 77 #[.pointer (some ⟨kb2, 0, none⟩), .pointer (some ⟨ob, 0, none⟩)] wz (MkP (z.paper = z.paper ∧ z.rs = z.rs) wz)) := by
          obtain ⟨jbz, vz, hbz⟩ := HKz.out.body
          exact is_any hbz HMz.out.md rfl
        have HKn : Hid (∀ W, Upd [] [] wz W → Calls Tryz.prog 78 #[.pointer (some ⟨xb, 0, none⟩)] W (MkP (z.round = z.round ∧ z.out = z.out) W)) := fun W u => knows_any ⟨_, _, (HKz.out.quiet u).x⟩ (HKz.out.quiet u).dk (HMz.out.quiet u).md hHis.1 hHis.2.1 rfl rfl (by have := HLz.out; omega) HXG.out.2.1 HXG.out.2.2 (by omega) (htab.upd (HKz.out.quiet u).up0)
        have x2c : wz.cell? ⟨xb, 2, none⟩ = some (.pointer (some ⟨ob, 0, none⟩)) := by rw [cell_of_row _ _ _ _ _ _ HKz.out.x]; rfl
        have HFIN : Hid (∀ W, Upd [] [] wz W → OpTo w0 xb id sec A n wr (.returned (.bool true)) W) := fun W u => ⟨z, kb2, ob, K, vo, HA.out, rfl, (HKz.out.quiet u).chF (HMz.out.quiet u) HXG.out.2.1 HXG.out.2.2 HLz.out, (HKz.out.quiet u).up⟩
        have HWZ := Lib.hid hwz
        clear hwz hHis
        go_upto_region 11 with (fail)
        rw [HWZ.out]
        clear x3c x3f HWZ
        go_wp2_with fail
        refine HIs.out.mono ?_
        rintro e wi ⟨bI, hbI, rfl, hqi⟩
        have hbt : bI = true := hbI.out.2 (by simp)
        subst hbt
        go_wp2_with fail
        refine (HKn.out wi hqi).mono ?_
        rintro e wj ⟨bJ, hbJ, rfl, hqj⟩
        have hbt : bJ = true := hbJ.out.2 (by simp)
        subst hbt
        have FIN := Lib.hid (HFIN.out wj (hqi.trans hqj))
        clear hqi hqj hbI hbJ HFIN HIs HKn
        go_wp2_with fail
        go_ret
        exact FIN.out
end
end Go.Proofs.YtabnlklkfgojgaaGreatDoor

namespace Go.Proofs.YtabnlklkfgojgaaGreatDoor
open Go.RowKit
set_option maxRecDepth 100000

structure ChB (w0 : World) (xb : Nat) (id sec : Int) (m m2 : KM) (n kb mb ob : Nat) (K : List Nat) (v vo : Value) (w : World) : Prop where
  br : ∃ b, BrD id sec n kb m (fun z => z = m ∨ z = m2) K b w ∧ w.heap[xb]? = some (.cells #[.pointer (some ⟨b, 0, none⟩), .pointer (some ⟨kb, 0, none⟩), .pointer (some ⟨mb, 0, none⟩), .pointer (some ⟨ob, 0, none⟩)] 69 (0, 0))
  md : Mdl w mb m v
  mo : Mdl w ob m2 vo
  xK : xb ∉ K
  mK : mb ∉ K
  oK : ob ∉ K
  vK : ∀ x, x ∈ foot v → x ∉ K
  voK : ∀ x, x ∈ foot vo → x ∉ K
  xm : xb ≠ mb
  xo : xb ≠ ob
  xv : xb ∉ foot v
  xvo : xb ∉ foot vo
  gm : w0.heap.size ≤ mb
  go : w0.heap.size ≤ ob
  gv : ∀ x, x ∈ foot v → w0.heap.size ≤ x
  gvo : ∀ x, x ∈ foot vo → w0.heap.size ≤ x
  gK : Above w0.heap.size K
  up : Upd [] [] w0 w
  xg : w0.heap.size ≤ xb
  i1 : i64in id
  i2 : i64in sec
  l1 : m.rs.length ≤ n
  l2 : m2.rs.length ≤ n
  ids : m.id = id ∧ m.sec = sec ∧ m2.id = id ∧ m2.sec = sec
  hs : ∃ rs, Hist id sec rs m
def ChI (w0 : World) (xb : Nat) (id sec : Int) (n : Nat) (w : World) : Prop :=
  (∃ m kb mb K v, ChF w0 xb id sec m n kb mb K v w) ∨ ∃ m m2 kb mb ob K v vo, ChB w0 xb id sec m m2 n kb mb ob K v vo w
def DoTo (w0 : World) (xb : Nat) (id sec : Int) (n : Nat) (e : Ending) (w' : World) : Prop := e = .returned (.bool true) ∧ ChI w0 xb id sec n w'
section
variable {w0 wr w w1 : World} {xb b kb mb ob nb : Nat} {id sec : Int} {m m2 : KM} {n : Nat} {K T T' : List Nat} {v vo u : Value} {A : KM → Prop}
theorem ChF.quiet (h : ChF w0 xb id sec m n kb mb K v w) (u : Upd [] [] w w1) : ChF w0 xb id sec m n kb mb K v w1 := ⟨h.mach.quiet u, h.md.quiet u, h.vK, h.xv, h.gm, h.gv, h.len⟩
theorem ChF.mono (h : ChF w0 xb id sec m n kb mb K v w) {n' : Nat} (hn : n ≤ n') : ChF w0 xb id sec m n' kb mb K v w := ⟨h.mach.mono hn, h.md, h.vK, h.xv, h.gm, h.gv, by have := h.len; omega⟩
theorem ChB.quiet (h : ChB w0 xb id sec m m2 n kb mb ob K v vo w) (u : Upd [] [] w w1) : ChB w0 xb id sec m m2 n kb mb ob K v vo w1 := by
  obtain ⟨b, h1, h2⟩ := h.br
  exact ⟨⟨b, h1.quiet u, row_updH h2 u⟩, h.md.quiet u, h.mo.quiet u, h.xK, h.mK, h.oK, h.vK, h.voK, h.xm, h.xo, h.xv, h.xvo, h.gm, h.go, h.gv, h.gvo, h.gK, h.up.trans u, h.xg, h.i1, h.i2, h.l1, h.l2, h.ids, h.hs⟩
theorem CrashOk.mono {D : DiskM} (h : CrashOk D id sec n A) {n' : Nat} (hn : n ≤ n') : CrashOk D id sec n' A :=
  ⟨h.ok, fun sv => by obtain ⟨F, rs, m, a1, a2, a3, a4, a5⟩ := h.all sv; exact ⟨F, rs, m, a1, a2, a3, a4, by omega⟩⟩
theorem ChB.mono (h : ChB w0 xb id sec m m2 n kb mb ob K v vo w) {n' : Nat} (hn : n ≤ n') : ChB w0 xb id sec m m2 n' kb mb ob K v vo w := by
  obtain ⟨b, hb, h2⟩ := h.br
  obtain ⟨jb, u, D, S, a1, a2, a3, a4, a5⟩ := hb.ex
  exact ⟨⟨b, ⟨⟨jb, u, D, S, a1, a2, a3, a4, a5.mono hn⟩, hb.lt⟩, h2⟩, h.md, h.mo, h.xK, h.mK, h.oK, h.vK, h.voK, h.xm, h.xo, h.xv, h.xvo, h.gm, h.go, h.gv, h.gvo, h.gK, h.up, h.xg, h.i1, h.i2, by have := h.l1; omega, by have := h.l2; omega, h.ids, h.hs⟩
theorem Mach.ids (h : Mach w0 xb mb id sec m n kb K w) : m.id = id ∧ m.sec = sec := by
  obtain ⟨_, _, _, _, _, _, _, _, _, hh, _⟩ := h.ex
  exact hh.ids
theorem Mach.hist (h : Mach w0 xb mb id sec m n kb K w) : ∃ rs, Hist id sec rs m := by
  obtain ⟨_, _, _, _, rs, _, _, _, _, hh, _⟩ := h.ex
  exact ⟨rs, hh⟩
theorem Mach.above (h : Mach w0 xb mb id sec m n kb K w) : Above w0.heap.size K := by
  obtain ⟨_, _, _, _, _, _, _, rfl, hs, _⟩ := h.ex
  exact hs.above
theorem Mach.off (h : Mach w0 xb mb id sec m n kb K w) : xb ∉ K ∧ mb ∉ K ∧ xb ≠ mb := by
  obtain ⟨_, _, _, _, _, _, _, _, _, _, hx, _⟩ := h.ex
  exact ⟨hx.xK, hx.mK, hx.ne⟩
theorem Mach.kept (h : Mach w0 xb mb id sec m n kb K w) (u : Upd T T' w w1) (hT : Above w0.heap.size T) (hK : ∀ k, k ∈ K → k ∉ T) (hx : xb ∉ T) (hm : mb ∉ T) : Mach w0 xb mb id sec m n kb K w1 := by
  obtain ⟨jb, b, D, F, rs, S, v, rfl, hs, hh, ⟨x, ⟨M, m0, m1, m2⟩, xK, mK, ne⟩, r⟩ := h.ex
  exact ⟨⟨jb, b, D, F, rs, S, v, rfl, hs.other u hT hK, hh, ⟨(u.block xb (blk_lt x) hx).trans x, ⟨M, (u.block mb (blk_lt m0) hm).trans m0, m1, m2⟩, xK, mK, ne⟩, r⟩, h.xg, h.i1, h.i2⟩
theorem Mach.take (h : Mach w0 xb mb id sec m n kb K w) (hm : Mdl w nb m u) (nK : nb ∉ K) (xn : xb ≠ nb) : Mach w0 xb nb id sec m n kb K (w.setCell ⟨xb, 2, none⟩ (.pointer (some ⟨nb, 0, none⟩))) := by
  have uc : Upd [xb] [xb] w (w.setCell ⟨xb, 2, none⟩ (.pointer (some ⟨nb, 0, none⟩))) := (Upd.refl _ _).setCell (p := ⟨xb, 2, none⟩) (by simp) _
  obtain ⟨jb, b, D, F, rs, S, v, rfl, hs, hh, ⟨x, _, xK, mK, ne⟩, r⟩ := h.ex
  refine ⟨⟨jb, b, D, F, rs, S, v, rfl, hs.other uc (fun k hk => by simp at hk; rw [hk]; exact h.xg) (fun k hk hm => by simp at hm; exact xK (hm ▸ hk)), hh, ⟨?_, ⟨_, (uc.block nb hm.lt (by simp; exact fun e => xn e.symm)).trans hm.k, by rw [← hh.ids.1]; rfl, by rw [← hh.ids.2]; rfl⟩, xK, nK, xn⟩, r⟩, h.xg, h.i1, h.i2⟩
  rw [heap_setCell_same _ _ _ _ _ _ x]
  rfl
theorem Mach.row (h : Mach w0 xb mb id sec m n kb K w) : ∃ b, w.heap[xb]? = some (.cells #[.pointer (some ⟨b, 0, none⟩), .pointer (some ⟨kb, 0, none⟩), .pointer (some ⟨mb, 0, none⟩), .pointer none] 69 (0, 0)) := by
  obtain ⟨_, b, _, _, _, _, _, _, _, _, hx, _⟩ := h.ex
  exact ⟨b, hx.x⟩
theorem BrD.fail (h : BrD id sec n kb m A K b w) (z : Int) (hz : z ≤ 1000) : Calls Tryz.prog 19 #[.pointer (some ⟨b, 0, none⟩), .int .i64 z] w (fun e w' => e = .returned (.tuple #[]) ∧ BrD id sec n kb m A K b w' ∧ Upd K K w w') := by
  obtain ⟨jb, u, D, S, a1, a2, a3, a4, a5⟩ := h.ex
  refine (Fail_any b D S z w a3).mono ?_
  rintro e w' ⟨rfl, hd, hu⟩
  have ho := a5.ok
  refine ⟨rfl, ⟨⟨jb, u, D.fail z, S, a1.kept hu (fun k => (a4 _ k).2 (by simp)) (fun x hx k => (a4 _ k).2 (by simp [hx])), a2, hd, a4, ⟨⟨ho.now, ho.synced, ho.parts, ho.many, ho.calls, ?_⟩, fun sv => a5.all sv⟩⟩, fun k hk => Nat.lt_of_lt_of_le (h.lt k hk) hu.size⟩, hu.widen (fun k hk => (a4 k hk).1)⟩
  show z.toNat ≤ 9223372036854775807
  omega
theorem ChF.open_any (h : ChF w0 xb id sec m n kb mb K v w) (hn : n ≤ 900) (q : Value) (sv : List Int) (hI : IntsAt w q sv) (htab : Tabs w0) : Calls Tryz.prog 48 #[.pointer (some ⟨xb, 0, none⟩), q] w (DoTo w0 xb id sec n) := by
  obtain ⟨b, hx⟩ := h.mach.row
  obtain ⟨jb, b', D, F, rs, S, u, rfl, hs, hh, hmb, hc, hsp⟩ := h.mach.ex
  have hbb : b' = b := by
    have e := hmb.x
    rw [hx] at e
    simpa using e.symm
  subst hbb
  obtain ⟨o1, o2, o3⟩ := h.mach.off
  refine (openM_any hx hs.j.d (A := fun z => z = m) ⟨hs.j.clean.ok, fun sv => ⟨F, rs, m, rfl, hs.j.clean.crashed sv, hs.j.recs, hh, hsp⟩⟩ ⟨h.md, h.md.lt, h.md.vlt, o3, h.xv, h.gm, h.gv⟩ (.inl ⟨rfl, fun z hz => hz⟩) h.mach.up h.mach.xg hh.ids.1 hh.ids.2 h.len h.mach.i1 h.mach.i2 hn q sv hI htab).mono ?_
  rintro e w' ⟨z, kb', mb', K', v', _, rfl, hF, _⟩
  exact ⟨rfl, .inl ⟨z, kb', mb', K', v', hF⟩⟩
theorem ChB.open_any (h : ChB w0 xb id sec m m2 n kb mb ob K v vo w) (hn : n ≤ 900) (q : Value) (sv : List Int) (hI : IntsAt w q sv) (htab : Tabs w0) : Calls Tryz.prog 48 #[.pointer (some ⟨xb, 0, none⟩), q] w (DoTo w0 xb id sec n) := by
  obtain ⟨b, hb, hx⟩ := h.br
  obtain ⟨jb, u, D, S, a1, a2, a3, a4, a5⟩ := hb.ex
  refine (openM_any hx a3 a5 ⟨h.md, h.md.lt, h.md.vlt, h.xm, h.xv, h.gm, h.gv⟩ (.inr ⟨ob, m2, vo, rfl, ⟨h.mo, h.mo.lt, h.mo.vlt, h.xo, h.xvo, h.go, h.gvo⟩, fun z hz => hz, h.l2, by rw [h.ids.1, h.ids.2.2.1], by rw [h.ids.2.1, h.ids.2.2.2]⟩) h.up h.xg h.ids.1 h.ids.2.1 h.l1 h.i1 h.i2 hn q sv hI htab).mono ?_
  rintro e w' ⟨z, kb', mb', K', v', _, rfl, hF, _⟩
  exact ⟨rfl, .inl ⟨z, kb', mb', K', v', hF⟩⟩
theorem ChF.fail_any (h : ChF w0 xb id sec m n kb mb K v wr) : ∃ b, wr.heap[xb]? = some (.cells #[.pointer (some ⟨b, 0, none⟩), .pointer (some ⟨kb, 0, none⟩), .pointer (some ⟨mb, 0, none⟩), .pointer none] 69 (0, 0)) ∧ ∀ (z : Int) (W : World), z ≤ 1000 → Upd [] [] wr W →
    Calls Tryz.prog 19 #[.pointer (some ⟨b, 0, none⟩), .int .i64 z] W (fun e w' => e = .returned (.tuple #[]) ∧ ChI w0 xb id sec n w' ∧ Upd K K W w') := by
  obtain ⟨b, ⟨o, hx⟩, hF⟩ := Fail_m h.mach
  obtain ⟨b', hx'⟩ := h.mach.row
  obtain ⟨o1, o2, o3⟩ := h.mach.off
  have hbb : b' = b := by
    rw [hx] at hx'
    have e : b' = b ∧ Value.pointer none = o := by simpa using hx'.symm
    exact e.1
  subst hbb
  refine ⟨b', hx', fun z W hz u => (hF z W hz u).mono ?_⟩
  rintro e w' ⟨rfl, hm', hu'⟩
  exact ⟨rfl, .inl ⟨m, kb, mb, K, v, hm', (h.md.quiet u).kept hu' o2 h.vK, h.vK, h.xv, h.gm, h.gv, h.len⟩, hu'⟩
theorem ChB.fail_any (h : ChB w0 xb id sec m m2 n kb mb ob K v vo wr) : ∃ b, wr.heap[xb]? = some (.cells #[.pointer (some ⟨b, 0, none⟩), .pointer (some ⟨kb, 0, none⟩), .pointer (some ⟨mb, 0, none⟩), .pointer (some ⟨ob, 0, none⟩)] 69 (0, 0)) ∧ ∀ (z : Int) (W : World), z ≤ 1000 → Upd [] [] wr W →
    Calls Tryz.prog 19 #[.pointer (some ⟨b, 0, none⟩), .int .i64 z] W (fun e w' => e = .returned (.tuple #[]) ∧ ChI w0 xb id sec n w' ∧ Upd K K W w') := by
  obtain ⟨b, hb, hx⟩ := h.br
  refine ⟨b, hx, fun z W hz u => ((hb.quiet u).fail z hz).mono ?_⟩
  rintro e w' ⟨rfl, hb', hu'⟩
  have h' := h.quiet u
  have hup : Upd [] [] w0 w' := Upd.past h'.up hu' h.gK
  have hx2 : w'.heap[xb]? = _ := (hu'.block xb (blk_lt (row_updH hx u)) h.xK).trans (row_updH hx u)
  exact ⟨rfl, .inr ⟨m, m2, kb, mb, ob, K, v, vo, ⟨b, hb', hx2⟩, h'.md.kept hu' h.mK h.vK, h'.mo.kept hu' h.oK h.voK, h.xK, h.mK, h.oK, h.vK, h.voK, h.xm, h.xo, h.xv, h.xvo, h.gm, h.go, h.gv, h.gvo, h.gK, hup, h.xg, h.i1, h.i2, h.l1, h.l2, h.ids, h.hs⟩, hu'⟩
end
end Go.Proofs.YtabnlklkfgojgaaGreatDoor

namespace Go.Proofs.YtabnlklkfgojgaaGreatDoor
open Go.RowKit
set_option maxRecDepth 100000

section
variable {w0 wr : World} {xb b kb mb ob : Nat} {id sec : Int} {m m2 : KM} {n : Nat} {K : List Nat} {v vo : Value} {o3 : Option Addr}
theorem DoTo.mono {n' : Nat} {e : Ending} {w' : World} (h : DoTo w0 xb id sec n e w') (hn : n ≤ n') : DoTo w0 xb id sec n' e w' := by
  obtain ⟨h1, h2⟩ := h
  refine ⟨h1, ?_⟩
  rcases h2 with ⟨m, kb, mb, K, v, hF⟩ | ⟨m, m2, kb, mb, ob, K, v, vo, hB⟩
  · exact .inl ⟨m, kb, mb, K, v, hF.mono hn⟩
  · exact .inr ⟨m, m2, kb, mb, ob, K, v, vo, hB.mono hn⟩
theorem tdiv_in (n q : Int) (hn : i64in n) (hq : 2 ≤ q) : i64in (n.tdiv q) := by
  unfold i64in at *
  have h1 := Int.natAbs_tdiv n q
  have h2 : (n.tdiv q).natAbs ≤ n.natAbs := by
    rw [h1]
    exact Nat.div_le_self _ _
  have h3 : (n.tdiv q).natAbs * 2 ≤ n.natAbs := by
    rw [h1]
    have h4 : 2 ≤ q.natAbs := by omega
    calc n.natAbs / q.natAbs * 2 ≤ n.natAbs / q.natAbs * q.natAbs := Nat.mul_le_mul_left _ h4
      _ ≤ n.natAbs := Nat.div_mul_le_self _ _
  omega
set_option maxHeartbeats 4000000 in
theorem do_front (hx : wr.heap[xb]? = some (.cells #[.pointer (some ⟨b, 0, none⟩), .pointer (some ⟨kb, 0, none⟩), .pointer (some ⟨mb, 0, none⟩), .pointer o3] 69 (0, 0)))
    (hF : ∀ (z : Int) (W : World), z ≤ 1000 → Upd [] [] wr W → Calls Tryz.prog 19 #[.pointer (some ⟨b, 0, none⟩), .int .i64 z] W (fun e w' => e = .returned (.tuple #[]) ∧ ChI w0 xb id sec n w' ∧ Upd K K W w')) (hxK : xb ∉ K)
    (hO : ∀ (q : Value) (sv : List Int) (W : World), Upd [] [] wr W → IntsAt W q sv → Calls Tryz.prog 48 #[.pointer (some ⟨xb, 0, none⟩), q] W (DoTo w0 xb id sec n)) (hK : ∀ k, k ∈ K → k < wr.heap.size)
    (a : Act27) (ha : a.ok) (hw : 8 ≤ a.what % 12) : Calls Tryz.prog 24 #[.pointer (some ⟨xb, 0, none⟩), .agg a.cs] wr (DoTo w0 xb id sec n) := by
  obtain ⟨w2, hw2⟩ : ∃ w2, wr.alloc (.cells a.cs 66) = w2 := ⟨_, rfl⟩
  have hu : Upd [] [] wr w2 := by rw [← hw2]; exact (Upd.refl _ _).alloc _
  obtain ⟨ga, hga⟩ : ∃ ga, ga = wr.heap.size := ⟨_, rfl⟩
  have r0 : w2.heap[ga]? = some (.cells a.cs 66 (0, 0)) := by rw [← hw2, hga]; exact heap_alloc_new _ _
  have HW2 := Lib.hid hw2
  have HG := Lib.hid hga
  have HU := Lib.hid hu
  have R0 := Lib.hid r0
  have HX2 := Lib.hid (row_updH hx hu)
  have HGK : Hid (ga ∉ K) := fun hm => by have := hK ga hm; omega
  have ca : w2.cell? ⟨ga, 0, none⟩ = some (.int .i64 a.what) := by rw [cell_of_row _ _ _ _ _ _ r0]; rfl
  have cn : w2.cell? ⟨ga, 1, none⟩ = some (.int .i64 a.n) := by rw [cell_of_row _ _ _ _ _ _ r0]; rfl
  have HC : Hid (∀ W : World, W.heap[ga]? = some (.cells a.cs 66 (0, 0)) → W.heap[xb]? = some (.cells #[.pointer (some ⟨b, 0, none⟩), .pointer (some ⟨kb, 0, none⟩), .pointer (some ⟨mb, 0, none⟩), .pointer o3] 69 (0, 0)) → W.cell? ⟨xb, 0, none⟩ = some (.pointer (some ⟨b, 0, none⟩)) ∧ W.cell? ⟨ga, 1, none⟩ = some (.int .i64 a.n)) := by
    intro W h1 h2
    exact ⟨by rw [cell_of_row _ _ _ _ _ _ h2]; rfl, by rw [cell_of_row _ _ _ _ _ _ h1]; rfl⟩
  obtain ⟨z, hz, hz1, hz2⟩ := mod_add a.what 12 (by decide)
  obtain ⟨W, hW⟩ : ∃ W, W = a.what % 12 := ⟨_, rfl⟩
  rw [← hW] at hz2 hw
  have hw12 : W < 12 := by omega
  obtain ⟨q2, hq2⟩ : ∃ q, a.n.tdiv 2 = q := ⟨_, rfl⟩
  obtain ⟨q3, hq3⟩ : ∃ q, a.n.tdiv 3 = q := ⟨_, rfl⟩
  have hq2w : IntKind.i64.wrap q2 = q2 := by
    have := tdiv_in a.n 2 ha.2 (by omega)
    rw [hq2] at this
    exact wrap_in this.1 this.2
  have hq3w : IntKind.i64.wrap q3 = q3 := by
    have := tdiv_in a.n 3 ha.2 (by omega)
    rw [hq3] at this
    exact wrap_in this.1 this.2
  have HF := Lib.hid (fun z W (hz : z ≤ 1000) u => hF z W hz u)
  have HO : Hid (∀ W, Upd [] [] w2 W → Calls Tryz.prog 48 #[.pointer (some ⟨xb, 0, none⟩), .slice (some ⟨W.heap.size, 0, none⟩) 3 3] (W.alloc (.cells #[.int .i64 a.n, .int .i64 q2, .int .i64 q3] 3)) (DoTo w0 xb id sec n)) :=
    fun W u => hO _ [a.n, q2, q3] _ ((hu.trans u).alloc _) (ints_new W _ [a.n, q2, q3] rfl)
  obtain ⟨z8, hz8, hz8a, hz8b⟩ := mod_add a.n 8 (by decide)
  obtain ⟨c8, hc8⟩ : ∃ c, c = a.n % 8 := ⟨_, rfl⟩
  rw [← hc8] at hz8b
  have hc8l : c8 ≤ 1000 := by omega
  have ud0 : Upd [] [] w2 w2.drew := (Upd.refl _ _).drew
  clear hw2 hu hga r0 hx hF hO hK hW hc8
  go_enter Tryz.func24, Tryz.ntmps24
  go_upto_region 1 with (fail)
  rw [HW2.out, ← HG.out]
  clear HW2
  by_cases h8 : W = 8 ∨ W = 9
  · clear HO hq2 hq3 hq2w hq3w
    rcases h8 with h8 | h8
    · skip
      subst h8
      go_upto_region 4 with (fail)
      refine @_root_.id ((∀ (W : World), Hid (ChI w0 xb id sec n W) → (?pj1 : World → Prop) W) → _) (fun hJ => ?mj1) ?jj1
      case mj1 =>
        refine wp_region_noPanic ?_
        refine wp_region_held_drew (S := fun wp => wp.cell? ⟨xb, 0, none⟩ = some (.pointer (some ⟨b, 0, none⟩)) ∧ wp.cell? ⟨ga, 1, none⟩ = some (.int .i64 a.n)) (by kernel_rfl) ?_ (fun hHeld => ?_)
        · exact HC.out _ (row_updH R0.out ud0) (row_updH HX2.out ud0)
        refine tkY 0 hHeld ?_
        refine tkY 1 hHeld ?_
        refine tkY 2 hHeld ?_
        refine tkY 3 hHeld ?_
        refine tkY 4 hHeld ?_
        refine tkY 5 hHeld ?_
        refine tkY 6 hHeld ?_
        refine tkY 7 hHeld ?_
        refine tkY 8 hHeld ?_
        refine wpAnyH_ready (rs := [9]) (by kernel_rfl) (by simp) ?_
        refine AllReadyH.cons (by simp only [List.getElem?_toArray, List.getElem?_cons_succ, List.getElem?_cons_zero] <;> rfl) (fun K hK => ?_) ?_
        · go_simp; refine (HF.out c8 _ hc8l (HU.out.trans ud0)).mono ?_; rintro e w3 ⟨rfl, hI, hu3⟩; have HI := Lib.hid hI; have A3 : Hid (w3.heap[ga]? = some (.cells a.cs 66 (0, 0))) := (by have k := row_updH R0.out ud0; show _ = _; rw [← k]; exact hu3.block ga (blk_lt k) HGK.out); have X3 : Hid (w3.heap[xb]? = some (.cells #[.pointer (some ⟨b, 0, none⟩), .pointer (some ⟨kb, 0, none⟩), .pointer (some ⟨mb, 0, none⟩), .pointer o3] 69 (0, 0))) := (by have k := row_updH HX2.out ud0; show _ = _; rw [← k]; exact hu3.block xb (blk_lt k) hxK); clear hI hu3; go_wp2_with fail
          refine hK.out _ _ ?_ (fun hHeld => ?_)
          · exact HC.out _ A3.out X3.out
          clear hK K
          try simp only [Act.put, List.setIfInBounds_toArray, List.set_cons_zero, List.set_cons_succ]
          refine wpAnyH_done (by kernel_rfl) ?_ _
          refine NoPanic.normal ?_
          exact hJ w3 HI
        exact AllReadyH.nil
      intro w3 HI
      clear ca cn
      go_wp2_with fail
      go_ret
      exact ⟨rfl, HI.out⟩
    · skip
      subst h8
      go_upto_region 4 with (fail)
      refine @_root_.id ((∀ (W : World), Hid (ChI w0 xb id sec n W) → (?pj11 : World → Prop) W) → _) (fun hJ => ?mj11) ?jj11
      case mj11 =>
        refine wp_region_noPanic ?_
        refine wp_region_held_drew (S := fun wp => wp.cell? ⟨xb, 0, none⟩ = some (.pointer (some ⟨b, 0, none⟩)) ∧ wp.cell? ⟨ga, 1, none⟩ = some (.int .i64 a.n)) (by kernel_rfl) ?_ (fun hHeld => ?_)
        · exact HC.out _ (row_updH R0.out ud0) (row_updH HX2.out ud0)
        refine tkY 0 hHeld ?_
        refine tkY 1 hHeld ?_
        refine tkY 2 hHeld ?_
        refine tkY 3 hHeld ?_
        refine tkY 4 hHeld ?_
        refine tkY 5 hHeld ?_
        refine tkY 6 hHeld ?_
        refine tkY 7 hHeld ?_
        refine tkY 8 hHeld ?_
        refine wpAnyH_ready (rs := [9]) (by kernel_rfl) (by simp) ?_
        refine AllReadyH.cons (by simp only [List.getElem?_toArray, List.getElem?_cons_succ, List.getElem?_cons_zero] <;> rfl) (fun K hK => ?_) ?_
        · go_simp; refine (HF.out c8 _ hc8l (HU.out.trans ud0)).mono ?_; rintro e w3 ⟨rfl, hI, hu3⟩; have HI := Lib.hid hI; have A3 : Hid (w3.heap[ga]? = some (.cells a.cs 66 (0, 0))) := (by have k := row_updH R0.out ud0; show _ = _; rw [← k]; exact hu3.block ga (blk_lt k) HGK.out); have X3 : Hid (w3.heap[xb]? = some (.cells #[.pointer (some ⟨b, 0, none⟩), .pointer (some ⟨kb, 0, none⟩), .pointer (some ⟨mb, 0, none⟩), .pointer o3] 69 (0, 0))) := (by have k := row_updH HX2.out ud0; show _ = _; rw [← k]; exact hu3.block xb (blk_lt k) hxK); clear hI hu3; go_wp2_with fail
          refine hK.out _ _ ?_ (fun hHeld => ?_)
          · exact HC.out _ A3.out X3.out
          clear hK K
          try simp only [Act.put, List.setIfInBounds_toArray, List.set_cons_zero, List.set_cons_succ]
          refine wpAnyH_done (by kernel_rfl) ?_ _
          refine NoPanic.normal ?_
          exact hJ w3 HI
        exact AllReadyH.nil
      intro w3 HI
      clear ca cn
      go_wp2_with fail
      go_ret
      exact ⟨rfl, HI.out⟩
  · have h10 : W = 10 ∨ W = 11 := by omega
    clear h8 HF hw hw12 hz8 hz8a hz8b
    have HOw := Lib.hid (HO.out w2 (Upd.refl _ _))
    clear HO
    rcases h10 with h8 | h8
    · skip
      subst h8
      go_wp2_with fail
      refine HOw.out.mono ?_
      rintro e w3 ⟨rfl, hI⟩
      have HI := Lib.hid hI
      clear hI
      go_wp2_with fail
      go_ret
      exact ⟨rfl, HI.out⟩
    · skip
      subst h8
      go_wp2_with fail
      refine HOw.out.mono ?_
      rintro e w3 ⟨rfl, hI⟩
      have HI := Lib.hid hI
      clear hI
      go_wp2_with fail
      go_ret
      exact ⟨rfl, HI.out⟩
end
end Go.Proofs.YtabnlklkfgojgaaGreatDoor

namespace Go.Proofs.YtabnlklkfgojgaaGreatDoor
open Go.RowKit
set_option maxRecDepth 100000

section
variable {w0 wr : World} {xb b kb mb ob : Nat} {id sec : Int} {m m2 : KM} {n : Nat} {K : List Nat} {v vo : Value} {o3 : Option Addr}
set_option maxHeartbeats 8000000 in
theorem doB_else (h : ChB w0 xb id sec m m2 n kb mb ob K v vo wr) (a : Act27) (ha : a.ok) (hw : ¬ 8 ≤ a.what % 12) : Calls Tryz.prog 24 #[.pointer (some ⟨xb, 0, none⟩), .agg a.cs] wr (DoTo w0 xb id sec n) := by
  obtain ⟨w2, hw2⟩ : ∃ w2, wr.alloc (.cells a.cs 66) = w2 := ⟨_, rfl⟩
  have hu : Upd [] [] wr w2 := by rw [← hw2]; exact (Upd.refl _ _).alloc _
  obtain ⟨ga, hga⟩ : ∃ ga, ga = wr.heap.size := ⟨_, rfl⟩
  have r0 : w2.heap[ga]? = some (.cells a.cs 66 (0, 0)) := by rw [← hw2, hga]; exact heap_alloc_new _ _
  have HW2 := Lib.hid hw2
  have HG := Lib.hid hga
  have HU := Lib.hid hu
  obtain ⟨AC, hAC⟩ : ∃ AC, AC = a.cs := ⟨_, rfl⟩
  have HAC := Lib.hid hAC
  have ca : w2.cell? ⟨ga, 0, none⟩ = some (.int .i64 a.what) := by rw [cell_of_row _ _ _ _ _ _ r0]; rfl
  rw [← hAC] at r0 HW2 ⊢
  have R0 := Lib.hid r0
  have HLA : Hid (∀ W : World, Upd [] [] w2 W → (Instr.loadAt 66 (.pointer (some ⟨ga, 0, none⟩))).run Tryz.prog W = .ok (.agg AC) W) := by
    intro W u
    have h1 := row_updH r0 u
    rw [hAC] at h1 ⊢
    exact act_load W ga a h1
  obtain ⟨bd, hbr, hx⟩ := h.br
  have HCX : Hid (∀ W : World, Upd [] [] w2 W → W.cell? ⟨xb, 2, none⟩ = some (.pointer (some ⟨mb, 0, none⟩)) ∧ W.cell? ⟨xb, 3, none⟩ = some (.pointer (some ⟨ob, 0, none⟩))) := by
    intro W u
    have h1 := row_updH hx (hu.trans u)
    exact ⟨by rw [cell_of_row _ _ _ _ _ _ h1]; rfl, by rw [cell_of_row _ _ _ _ _ _ h1]; rfl⟩
  have HX2 : Hid (∃ d k, w2.heap[xb]? = some (.cells #[d, k, .pointer (some ⟨mb, 0, none⟩), .pointer (some ⟨ob, 0, none⟩)] 69 (0, 0))) := ⟨_, _, row_updH hx hu⟩
  have HXL : Hid (xb < wr.heap.size) := blk_lt hx
  have HCp := Lib.hid (copy27_any (h.md.quiet hu))
  obtain ⟨Z, hZ⟩ : ∃ Z, Z = (rcV Rc.zero).toArray := ⟨_, rfl⟩
  have HBZ : Hid (Tryz.prog.built 37 [] = some Z) := by show _ = _; rw [hZ]; exact rc_zero_built
  obtain ⟨ZI, ZO, ZZ⟩ := rcLet Rc.zero_ok Z hZ
  have hqz : ∀ W : World, (Op.equalIn 10000 37 (.agg Z) (.agg Z)).run Tryz.prog W = .ok true W := fun W => eqR_self hZ Rc.zero_ok W
  have HCall : Hid (∀ W : World, Upd [] [] w2 W → Calls Tryz.prog 22 #[.pointer (some ⟨xb, 0, none⟩), .agg AC] W (fun e w' => e = .returned (.tuple #[.agg Z, .int .i64 70]) ∧ Upd [] [] W w')) := by
    intro W u
    obtain ⟨jb, uv, D, S, a1, _⟩ := hbr.ex
    rw [hZ, hAC]
    exact callB_any ⟨_, _, _, row_updH hx (hu.trans u)⟩ (a1.quiet (hu.trans u)) a ha
  have HDo : Hid (∀ (W : World) (nb : Nat) (v3 : Value), Mdl W nb m v3 → Calls Tryz.prog 50 #[.pointer (some ⟨nb, 0, none⟩), .agg AC] W (MdSell nb (doM m a) v3 (rcV (doR m a)).toArray (doE m a) W)) := by
    intro W nb v3 hm
    rw [hAC]
    exact rDo_any hm a ha
  obtain ⟨R, hR⟩ : ∃ R, R = (rcV (doR m a)).toArray := ⟨_, rfl⟩
  obtain ⟨X, hX⟩ : ∃ X, X = doE m a := ⟨_, rfl⟩
  have hRo : (doR m a).ok := by
    unfold doR
    split
    · exact Rc.zero_ok
    · split
      · exact Rc.zero_ok
      · exact selR_ok h.md.ok (hashN_len _)
  obtain ⟨RI, RO, RZ⟩ := rcLet hRo R hR
  rw [← hR, ← hX] at HDo
  have HFIN : Hid (∀ W, Upd [] [] wr W → DoTo w0 xb id sec n (.returned (.bool true)) W) := fun W u => ⟨rfl, .inr ⟨m, m2, kb, mb, ob, K, v, vo, h.quiet u⟩⟩
  have HZL : Hid (∀ W g, W.heap[g]? = some (.cells Z 37 (0, 0)) → (Instr.loadAt 37 (.pointer (some ⟨g, 0, none⟩))).run Tryz.prog W = .ok (.agg Z) W) := fun W g k => RcAt.load (by rw [hZ] at k; exact k) Rc.zero_ok Z hZ
  obtain ⟨z, hz, hz1, hz2⟩ := mod_add a.what 12 (by decide)
  obtain ⟨W, hW⟩ : ∃ W, W = a.what % 12 := ⟨_, rfl⟩
  rw [← hW] at hz2 hw
  have n8 : ¬ W = 8 := by omega
  have n9 : ¬ W = 9 := by omega
  have n10 : ¬ W = 10 := by omega
  have n11 : ¬ W = 11 := by omega
  have b8 : (W == 8) = false := by rw [beq_eq_false_iff_ne]; exact n8
  have b9 : (W == 9) = false := by rw [beq_eq_false_iff_ne]; exact n9
  have b10 : (W == 10) = false := by rw [beq_eq_false_iff_ne]; exact n10
  have b11 : (W == 11) = false := by rw [beq_eq_false_iff_ne]; exact n11
  clear hw2 hu hga r0 hx hbr hZ hR hX hRo hAC hw hW h
  go_enter Tryz.func24, Tryz.ntmps24
  go_upto_region 1 with (fail)
  rw [HW2.out, ← HG.out]
  clear HW2
  go_upto_region 9 with (fail)
  have cm := (HCX.out w2 (Upd.refl _ _)).1
  go_wp2_with fail
  refine HCp.out.mono ?_
  rintro e w3 ⟨nb, v3, rfl, hm3, hq3, hnb, hnf⟩
  have HM3 := Lib.hid hm3
  have HQ3 := Lib.hid hq3
  have HNB : Hid (wr.heap.size ≤ nb ∧ ∀ x, x ∈ foot v3 → wr.heap.size ≤ x) := by
    have := HU.out.size
    exact ⟨by omega, fun x hx => by have := hnf x hx; omega⟩
  clear hm3 hq3 hnb hnf HCp cm ca
  go_wp2_with (first | (refine wpList_load_atW (by rfl) 66 _ rfl ga 0 rfl AC (HLA.out w3 HQ3.out) ?_))
  refine (HCall.out w3 HQ3.out).mono ?_
  rintro e w4 ⟨rfl, hq4⟩
  obtain ⟨w5, Z5, W5, R5, hq5⟩ := blk_new w4 37 Tryz.zeroCells37 Z
  obtain ⟨gr, hgr⟩ : ∃ g, g = w4.heap.size := ⟨_, rfl⟩
  have HGR := Lib.hid hgr
  rw [← hgr] at R5
  have HQ5 := Lib.hid ((HQ3.out.trans hq4).trans hq5)
  have HM5 := Lib.hid (HM3.out.quiet (hq4.trans hq5))
  have HOR : Hid (gr ∉ nb :: foot v3) := fun hm => by
    have k1 := HM3.out.lt
    have k2 := hq4.size
    rcases List.mem_cons.1 hm with k | k
    · omega
    · have := HM3.out.vlt _ k; omega
  clear hq4 hq5 hgr HCall HM3
  go_upto_region 11 with (first | (refine wpList_store_rowAs rfl 37 _ _ rfl w4.heap.size Z rfl rfl _ _ Z5.out ZI.out ZZ.out ZO.out w5 W5.out ?_))
  rw [← HGR.out]
  clear Z5 W5 HGR
  go_wp2_with (first | (refine wpList_load_atW (by rfl) 66 _ rfl ga 0 rfl AC (HLA.out w5 HQ5.out) ?_))
  refine (HDo.out w5 nb v3 HM5.out).mono ?_
  rintro e w6 ⟨rfl, v6, hm6, hu6⟩
  have R6 : Hid (w6.heap[gr]? = some (.cells Z 37 (0, 0))) := by
    have k := R5.out
    show _ = _
    rw [← k]
    exact hu6.block gr (blk_lt k) HOR.out
  have hup6 : Upd [] [] wr w6 := Upd.past (HU.out.trans HQ5.out) hu6 (fun k hk => by
    rcases List.mem_cons.1 hk with q | q
    · rw [q]; exact HNB.out.1
    · exact HNB.out.2 _ q)
  have HX6 : Hid (∃ d k, w6.heap[xb]? = some (.cells #[d, k, .pointer (some ⟨mb, 0, none⟩), .pointer (some ⟨ob, 0, none⟩)] 69 (0, 0))) := by
    obtain ⟨d, k, q⟩ := HX2.out
    have q5 := row_updH q HQ5.out
    refine ⟨d, k, (hu6.block xb (blk_lt q5) (fun hm => ?_)).trans q5⟩
    have k1 := HXL.out
    rcases List.mem_cons.1 hm with q | q
    · have := HNB.out.1; omega
    · have := HNB.out.2 _ q; omega
  obtain ⟨w7, Z7, W7, R7, hq7⟩ := blk_new w6 37 Tryz.zeroCells37 R
  have c3 : w7.cell? ⟨xb, 3, none⟩ = some (.pointer (some ⟨ob, 0, none⟩)) := by
    obtain ⟨d, k, q⟩ := HX6.out
    rw [cell_of_row _ _ _ _ _ _ (row_updH q hq7)]
    rfl
  have HL7 := Lib.hid (HZL.out w7 gr (row_updH R6.out hq7))
  have FIN := Lib.hid (HFIN.out w7 (hup6.trans hq7))
  clear hm6 hu6 hup6 hq7 HFIN HDo HM5
  go_upto_region 12 with (first | (refine wpList_store_rowAs rfl 37 _ _ rfl w6.heap.size R rfl rfl _ _ Z7.out RI.out RZ.out RO.out w7 W7.out ?_))
  clear Z7 W7
  go_wp2_with (first | (refine wpList_load_want (by rfl) 37 _ rfl gr rfl Z HL7.out ?_) | (refine wpList_build_want (by rfl) 37 #[] rfl Z (Eq.trans (congrArg (fun z => Tryz.prog.built 37 z) (by kernel_rfl)) HBZ.out) ?_))
  go_ret
  exact FIN.out
set_option maxHeartbeats 8000000 in
theorem doF_else (h : ChF w0 xb id sec m n kb mb K v wr) (a : Act27) (ha : a.ok) (hw : ¬ 8 ≤ a.what % 12) (hn : n ≤ 900) (htab : Tabs w0) : Calls Tryz.prog 24 #[.pointer (some ⟨xb, 0, none⟩), .agg a.cs] wr (DoTo w0 xb id sec (n + 1)) := by
  obtain ⟨w2, hw2⟩ : ∃ w2, wr.alloc (.cells a.cs 66) = w2 := ⟨_, rfl⟩
  have hu : Upd [] [] wr w2 := by rw [← hw2]; exact (Upd.refl _ _).alloc _
  obtain ⟨ga, hga⟩ : ∃ ga, ga = wr.heap.size := ⟨_, rfl⟩
  have r0 : w2.heap[ga]? = some (.cells a.cs 66 (0, 0)) := by rw [← hw2, hga]; exact heap_alloc_new _ _
  have HW2 := Lib.hid hw2
  have HG := Lib.hid hga
  have HU := Lib.hid hu
  obtain ⟨AC, hAC⟩ : ∃ AC, AC = a.cs := ⟨_, rfl⟩
  have ca : w2.cell? ⟨ga, 0, none⟩ = some (.int .i64 a.what) := by rw [cell_of_row _ _ _ _ _ _ r0]; rfl
  rw [← hAC] at r0 HW2 ⊢
  have HLA : Hid (∀ W : World, W.heap[ga]? = some (.cells AC 66 (0, 0)) → (Instr.loadAt 66 (.pointer (some ⟨ga, 0, none⟩))).run Tryz.prog W = .ok (.agg AC) W) := by
    intro W h1
    rw [hAC] at h1 ⊢
    exact act_load W ga a h1
  have R0 := Lib.hid r0
  have hF2 := h.quiet hu
  obtain ⟨bd, hx⟩ := hF2.mach.row
  have cm : w2.cell? ⟨xb, 2, none⟩ = some (.pointer (some ⟨mb, 0, none⟩)) := by rw [cell_of_row _ _ _ _ _ _ hx]; rfl
  have HF2 := Lib.hid hF2
  have HCp := Lib.hid (copy27_any hF2.md)
  obtain ⟨Z, hZ⟩ : ∃ Z, Z = (rcV Rc.zero).toArray := ⟨_, rfl⟩
  have HBZ : Hid (Tryz.prog.built 37 [] = some Z) := by show _ = _; rw [hZ]; exact rc_zero_built
  have HZE := Lib.hid hZ
  have hqz : ∀ W : World, (Op.equalIn 10000 37 (.agg Z) (.agg Z)).run Tryz.prog W = .ok true W := fun W => eqR_self hZ Rc.zero_ok W
  have HDo : Hid (∀ (W : World) (nb : Nat) (v3 : Value), Mdl W nb m v3 → Calls Tryz.prog 50 #[.pointer (some ⟨nb, 0, none⟩), .agg AC] W (MdSell nb (doM m a) v3 (rcV (doR m a)).toArray (doE m a) W)) := by
    intro W nb v3 hm
    rw [hAC]
    exact rDo_any hm a ha
  obtain ⟨R, hR⟩ : ∃ R, R = (rcV (doR m a)).toArray := ⟨_, rfl⟩
  obtain ⟨X, hX⟩ : ∃ X, X = doE m a := ⟨_, rfl⟩
  have hRo : (doR m a).ok := by
    unfold doR
    split
    · exact Rc.zero_ok
    · split
      · exact Rc.zero_ok
      · exact selR_ok h.md.ok (hashN_len _)
  obtain ⟨RI, RO, RZ⟩ := rcLet hRo R hR
  have hqr : ∀ W : World, (Op.equalIn 10000 37 (.agg R) (.agg R)).run Tryz.prog W = .ok true W := fun W => eqR_self hR hRo W
  obtain ⟨ZI, ZO, ZZ⟩ := rcLet Rc.zero_ok Z hZ
  have HCall : Hid (∀ W : World, Upd [] [] w2 W → Calls Tryz.prog 22 #[.pointer (some ⟨xb, 0, none⟩), .agg AC] W (fun e w' => ∃ x K' Y, e = .returned (.tuple #[.agg Y, .int .i64 x]) ∧ Upd K K' W w' ∧ Hid (StepX w0 xb mb id sec m (doM m a) n kb K' X x w') ∧ Hid (Y = if x = 70 then Z else R))) := by
    intro W u
    rw [hAC]
    refine (call_any (hF2.mach.quiet u) a ha (by omega) htab).mono ?_
    rintro e w' ⟨x, K', y, rfl, h1, h2, h3⟩
    rw [hX]
    refine ⟨x, K', _, rfl, h1, h2, ?_⟩
    show _ = _
    rw [h3.out, hZ, hR]
    split <;> rfl
  rw [← hR, ← hX] at HDo
  have HZL : Hid (∀ W g, W.heap[g]? = some (.cells Z 37 (0, 0)) → (Instr.loadAt 37 (.pointer (some ⟨g, 0, none⟩))).run Tryz.prog W = .ok (.agg Z) W) := fun W g k => RcAt.load (by rw [hZ] at k; exact k) Rc.zero_ok Z hZ
  have HRL : Hid (∀ W g, W.heap[g]? = some (.cells R 37 (0, 0)) → (Instr.loadAt 37 (.pointer (some ⟨g, 0, none⟩))).run Tryz.prog W = .ok (.agg R) W) := fun W g k => RcAt.load (by rw [hR] at k; exact k) hRo R hR
  have HXE : Hid (X = doE m a) := hX
  have HXN : Hid (X ≠ 70) := by show _ ≠ _; rw [hX]; exact doE_ne m a
  have HRS : Hid ((doM m a).rs.length ≤ n + 1) := by
    show _ ≤ _
    have hl := h.len
    rcases do_any m a with e | ⟨y, e⟩
    · rw [e]; omega
    · rw [e]; simp; omega
  obtain ⟨z, hz, hz1, hz2⟩ := mod_add a.what 12 (by decide)
  obtain ⟨W, hW⟩ : ∃ W, W = a.what % 12 := ⟨_, rfl⟩
  rw [← hW] at hz2 hw
  have n8 : ¬ W = 8 := by omega
  have n9 : ¬ W = 9 := by omega
  have n10 : ¬ W = 10 := by omega
  have n11 : ¬ W = 11 := by omega
  have b8 : (W == 8) = false := by rw [beq_eq_false_iff_ne]; exact n8
  have b9 : (W == 9) = false := by rw [beq_eq_false_iff_ne]; exact n9
  have b10 : (W == 10) = false := by rw [beq_eq_false_iff_ne]; exact n10
  have b11 : (W == 11) = false := by rw [beq_eq_false_iff_ne]; exact n11
  have HXL : Hid (xb < wr.heap.size ∧ w0.heap.size ≤ wr.heap.size ∧ mb < wr.heap.size ∧ (∀ x, x ∈ foot v → x < wr.heap.size) ∧ ∀ k, k ∈ K → k < wr.heap.size) := by
    obtain ⟨b', hx'⟩ := h.mach.row
    exact ⟨blk_lt hx', h.mach.up.size, h.md.lt, h.md.vlt, h.mach.lt⟩
  clear hw2 hu hga r0 hx hZ hR hX hRo hAC hw hW h hF2
  go_enter Tryz.func24, Tryz.ntmps24
  go_upto_region 1 with (fail)
  rw [HW2.out, ← HG.out]
  clear HW2
  go_upto_region 9 with (fail)
  go_wp2_with fail
  refine HCp.out.mono ?_
  rintro e w3 ⟨nb, v3, rfl, hm3, hq3, hnb, hnf⟩
  have HM3 := Lib.hid hm3
  have HF3 := Lib.hid (HF2.out.quiet hq3)
  have A3 := Lib.hid (row_updH R0.out hq3)
  have HQ3 := Lib.hid hq3
  have HNB : Hid (wr.heap.size ≤ nb ∧ (∀ x, x ∈ foot v3 → wr.heap.size ≤ x) ∧ wr.heap.size < w2.heap.size) := by
    have := HU.out.size
    have h1 := blk_lt R0.out
    have h2 := HG.out
    exact ⟨by omega, fun x hx => by have := hnf x hx; omega, by omega⟩
  have HNG : Hid (ga ≠ nb ∧ ga ∉ foot v3) := by
    have h1 := blk_lt R0.out
    exact ⟨by omega, fun hm => by have := hnf _ hm; omega⟩
  have HNK : Hid (nb ∉ K ∧ (∀ x, x ∈ foot v3 → x ∉ K) ∧ ga ∉ K) := by
    have k := HXL.out.2.2.2.2
    exact ⟨fun hm => by have := k _ hm; have := HNB.out.1; omega, fun x hx hm => by have := k _ hm; have := HNB.out.2.1 x hx; omega, fun hm => by have := k _ hm; have := HG.out; omega⟩
  clear hm3 hq3 hnb hnf HCp cm ca HF2 R0
  go_wp2_with (first | (refine wpList_load_atW (by rfl) 66 _ rfl ga 0 rfl AC (HLA.out w3 A3.out) ?_))
  refine (HCall.out w3 HQ3.out).mono ?_
  rintro e w4 ⟨x, K', Y, rfl, hup, HX, HY⟩
  have HM4 := Lib.hid (HM3.out.kept hup HNK.out.1 HNK.out.2.1)
  have HMm := Lib.hid (HF3.out.md.kept hup HF3.out.mach.off.2.1 HF3.out.vK)
  have A4 : Hid (w4.heap[ga]? = some (.cells AC 66 (0, 0))) := by
    have k := A3.out
    show _ = _
    rw [← k]
    exact hup.block ga (blk_lt k) HNK.out.2.2
  have HK4 : Hid (nb ∉ K' ∧ (∀ x, x ∈ foot v3 → x ∉ K') ∧ mb ∉ K' ∧ (∀ x, x ∈ foot v → x ∉ K') ∧ xb ∉ K' ∧ Above w0.heap.size K') := by
    obtain ⟨o1, o2, o3⟩ := HF3.out.mach.off
    obtain ⟨b', hx'⟩ := HF3.out.mach.row
    refine ⟨off_upd HNK.out.1 HM3.out.lt hup, fun x hx => off_upd (HNK.out.2.1 x hx) (HM3.out.vlt x hx) hup, off_upd o2 HF3.out.md.lt hup, fun x hx => off_upd (HF3.out.vK x hx) (HF3.out.md.vlt x hx) hup, off_upd o1 (blk_lt hx') hup, fun k hk => ?_⟩
    rcases hup.new k hk with q | q
    · exact HF3.out.mach.above k q
    · have := HF3.out.mach.up.size; omega
  have HUP4 : Hid (Upd [] [] w0 w4) := Upd.past HF3.out.mach.up hup HF3.out.mach.above
  have HF := Lib.hid (And.intro HF3.out.xv (And.intro HF3.out.gm (And.intro HF3.out.gv (And.intro HF3.out.mach.off.2.2 (And.intro HF3.out.mach.ids (And.intro HF3.out.mach.xg (And.intro HF3.out.mach.i1 (And.intro HF3.out.mach.i2 (And.intro HF3.out.len HF3.out.mach.hist)))))))))
  have HSZ4 : Hid (w3.heap.size ≤ w4.heap.size ∧ nb < w3.heap.size ∧ ∀ x, x ∈ foot v3 → x < w3.heap.size) := ⟨hup.size, HM3.out.lt, HM3.out.vlt⟩
  have HKL4 : Hid (∀ k, k ∈ K' → k < w4.heap.size) := by
    rcases HX.out with ⟨_, hM⟩ | ⟨_, _, _, b5, hBr, _⟩
    · exact hM.lt
    · exact hBr.lt
  clear hup HCall HM3 HF3 A3 HNK
  rcases HX.out with ⟨hx, hM⟩ | ⟨hx0, hx70, hMC, b5, hBr, hMb⟩
  · have hYR : R = Y := by rw [HY.out, if_neg (by rw [hx]; exact HXN.out)]
    subst hYR
    have hxX : x = X := hx
    subst hxX
    have HM := Lib.hid hM
    have HKL := Lib.hid hM.lt
    have hXb : (x == 70) = false := by rw [beq_eq_false_iff_ne]; exact HXN.out
    have hXn : ¬ x = 70 := HXN.out
    clear hx hM HX HY
    obtain ⟨w5, Z5, W5, R5, hq5⟩ := blk_new w4 37 Tryz.zeroCells37 R
    obtain ⟨gr, hgr⟩ : ∃ g, g = w4.heap.size := ⟨_, rfl⟩
    have HGR := Lib.hid hgr
    have hgr0 := Lib.hid hgr
    rw [← hgr] at R5
    have HM5 := Lib.hid (HM4.out.quiet hq5)
    have A5 := Lib.hid (row_updH A4.out hq5)
    have HQ5 := Lib.hid hq5
    have HOR : Hid (gr ∉ nb :: foot v3) := fun hm => by
      obtain ⟨k1, k2, k3⟩ := HSZ4.out
      rcases List.mem_cons.1 hm with k | k
      · omega
      · have := k3 _ k; omega
    clear hq5 hgr HM4 A4
    go_upto_region 11 with (first | (refine wpList_store_rowAs rfl 37 _ _ rfl w4.heap.size R rfl rfl _ _ Z5.out RI.out RZ.out RO.out w5 W5.out ?_))
    rw [← HGR.out]
    clear Z5 W5 HGR
    go_wp2_with (first | (refine wpList_load_atW (by rfl) 66 _ rfl ga 0 rfl AC (HLA.out w5 A5.out) ?_))
    refine (HDo.out w5 nb v3 HM5.out).mono ?_
    rintro e w6 ⟨rfl, v6, hm6, hu6⟩
    have R6 : Hid (w6.heap[gr]? = some (.cells R 37 (0, 0))) := by
      have k := R5.out
      show _ = _
      rw [← k]
      exact hu6.block gr (blk_lt k) HOR.out
    have hT6 : Above w0.heap.size (nb :: foot v3) := fun k hk => by
      have h0 := HXL.out.2.1
      rcases List.mem_cons.1 hk with q | q
      · have := HNB.out.1; omega
      · have := HNB.out.2.1 _ q; omega
    have hxT : xb ∉ nb :: foot v3 := fun hm => by
      have h0 := HXL.out.1
      rcases List.mem_cons.1 hm with q | q
      · have := HNB.out.1; omega
      · have := HNB.out.2.1 _ q; omega
    have hmT : mb ∉ nb :: foot v3 := fun hm => by
      have h0 := HXL.out.2.2.1
      rcases List.mem_cons.1 hm with q | q
      · have := HNB.out.1; omega
      · have := HNB.out.2.1 _ q; omega
    have hvT : ∀ x, x ∈ foot v → x ∉ nb :: foot v3 := fun x hx hm => by
      have h0 := HXL.out.2.2.2.1 x hx
      rcases List.mem_cons.1 hm with q | q
      · have := HNB.out.1; omega
      · have := HNB.out.2.1 _ q; omega
    have hKT : ∀ k, k ∈ K' → k ∉ nb :: foot v3 := fun k hk hm => by
      rcases List.mem_cons.1 hm with q | q
      · exact HK4.out.1 (q ▸ hk)
      · exact HK4.out.2.1 _ q hk
    have hx6 : xb ∉ foot v6 := fun hm => by
      rcases hu6.new xb (List.mem_cons_of_mem _ hm) with q | q
      · exact hxT q
      · have h0 := HXL.out.1
        have h1 := HQ5.out.size
        have h2 := HSZ4.out.1
        have h3 := HSZ4.out.2.1
        have h4 := HNB.out.1
        omega
    have hg6 : ∀ x, x ∈ foot v6 → w0.heap.size ≤ x := fun x hx => by
      rcases hu6.new x (List.mem_cons_of_mem _ hx) with q | q
      · exact hT6 x q
      · have h0 := HXL.out.2.1
        have h1 := HQ5.out.size
        have h2 := HSZ4.out.1
        have h3 := HSZ4.out.2.1
        have h4 := HNB.out.1
        omega
    have hK6 : ∀ x, x ∈ foot v6 → x ∉ K' := fun x hx hm => by
      rcases hu6.new x (List.mem_cons_of_mem _ hx) with q | q
      · exact hKT x hm q
      · have h1 := HQ5.out.size
        have h2 := HKL.out x hm
        omega
    have hxn : xb ≠ nb := fun e => hxT (by rw [e]; simp)
    obtain ⟨w7, Z7, W7, R7, hq7⟩ := blk_new w6 37 Tryz.zeroCells37 R
    obtain ⟨gs, hgs⟩ : ∃ g, g = w6.heap.size := ⟨_, rfl⟩
    have HGS := Lib.hid hgs
    rw [← hgs] at R7
    have hm7 := hm6.quiet hq7
    have hM7 := (((HM.out.quiet HQ5.out).kept hu6 hT6 hKT hxT hmT).quiet hq7)
    obtain ⟨bd, hrow⟩ := hM7.row
    have c3 : w7.cell? ⟨xb, 3, none⟩ = some (.pointer none) := by rw [cell_of_row _ _ _ _ _ _ hrow]; rfl
    have c2 : w7.cell? ⟨xb, 2, none⟩ = some (.pointer (some ⟨mb, 0, none⟩)) := by rw [cell_of_row _ _ _ _ _ _ hrow]; rfl
    have f2 : w7.frozen? ⟨xb, 2, none⟩ = false := frozen_of_row _ _ _ _ _ hrow
    obtain ⟨w8, hw8⟩ : ∃ w8, w7.setCell ⟨xb, 2, none⟩ (.pointer (some ⟨nb, 0, none⟩)) = w8 := ⟨_, rfl⟩
    have hMt := hM7.take hm7 HK4.out.1 hxn
    rw [hw8] at hMt
    have u8 : Upd [xb] [xb] w7 w8 := by rw [← hw8]; exact (Upd.refl _ _).setCell (p := ⟨xb, 2, none⟩) (by simp) _
    have FIN : Hid (DoTo w0 xb id sec (n + 1) (.returned (.bool true)) w8) := ⟨rfl, .inl ⟨doM m a, kb, nb, K', v6, hMt, hm7.kept u8 (by simp; exact fun e => hxn e.symm) (fun y hy hm => by simp at hm; exact hx6 (hm ▸ hy)), hK6, hx6, hT6 nb (by simp), hg6, HRS.out⟩⟩
    have g1 : gr ≠ xb := by
      have h0 := HXL.out.1
      have := blk_lt R5.out
      intro e
      exact absurd (e ▸ (show w3.heap.size ≤ gr by rw [hgr0.out]; exact HSZ4.out.1)) (by have := HNB.out.1; have := HSZ4.out.2.1; omega)
    have HL8 := Lib.hid (HRL.out w8 gr ((u8.block gr (blk_lt (row_updH R6.out hq7)) (by simp; exact g1)).trans (row_updH R6.out hq7)))
    have g2 : gs ≠ xb := by
      rw [hgs]
      have h0 := HXL.out.1
      have h1 := hu6.size
      have h2 := HQ5.out.size
      have h3 := HSZ4.out.1
      have h4 := HSZ4.out.2.1
      have h5 := HNB.out.1
      omega
    have HL9 := Lib.hid (HRL.out w8 gs ((u8.block gs (blk_lt R7.out) (by simp; exact g2)).trans R7.out))
    have HW8 := Lib.hid hw8
    clear hm6 hu6 hq7 hgs hm7 hM7 hrow hMt u8 hw8 hT6 hxT hmT hvT hKT hx6 hg6 hK6 hxn HDo HM5 HM
    go_upto_region 12 with (first | (refine wpList_store_rowAs rfl 37 _ _ rfl w6.heap.size R rfl rfl _ _ Z7.out RI.out RZ.out RO.out w7 W7.out ?_))
    rw [← HGS.out]
    clear Z7 W7 HGS
    go_upto_region 18 with (fail)
    rw [HW8.out]
    clear c2 c3 f2 HW8
    go_wp2_with (first | (refine wpList_load_atW (by rfl) 37 _ rfl gr 0 rfl R HL8.out ?_) | (refine wpList_load_atW (by rfl) 37 _ rfl gs 0 rfl R HL9.out ?_))
    go_ret
    exact FIN.out
  · subst hx70
    have hYZ : Z = Y := by rw [HY.out, if_pos rfl]
    subst hYZ
    have HBr := Lib.hid hBr
    have HMb := Lib.hid hMb
    have HX0 : Hid (X = 0) := hx0
    have HKL : Hid (∀ k, k ∈ K' → k < w4.heap.size) := HKL4.out
    clear hx0 hMC hBr hMb HX HY
    obtain rfl : X = 0 := HX0.out
    obtain ⟨w5, Z5, W5, R5, hq5⟩ := blk_new w4 37 Tryz.zeroCells37 Z
    obtain ⟨gr, hgr⟩ : ∃ g, g = w4.heap.size := ⟨_, rfl⟩
    have HGR := Lib.hid hgr
    have hgr0 := Lib.hid hgr
    rw [← hgr] at R5
    have HM5 := Lib.hid (HM4.out.quiet hq5)
    have A5 := Lib.hid (row_updH A4.out hq5)
    have HQ5 := Lib.hid hq5
    have HOR : Hid (gr ∉ nb :: foot v3) := fun hm => by
      obtain ⟨k1, k2, k3⟩ := HSZ4.out
      rcases List.mem_cons.1 hm with k | k
      · omega
      · have := k3 _ k; omega
    clear hq5 hgr HM4 A4
    go_upto_region 11 with (first | (refine wpList_store_rowAs rfl 37 _ _ rfl w4.heap.size Z rfl rfl _ _ Z5.out ZI.out ZZ.out ZO.out w5 W5.out ?_))
    rw [← HGR.out]
    clear Z5 W5 HGR
    go_wp2_with (first | (refine wpList_load_atW (by rfl) 66 _ rfl ga 0 rfl AC (HLA.out w5 A5.out) ?_))
    refine (HDo.out w5 nb v3 HM5.out).mono ?_
    rintro e w6 ⟨rfl, v6, hm6, hu6⟩
    have R6 : Hid (w6.heap[gr]? = some (.cells Z 37 (0, 0))) := by
      have k := R5.out
      show _ = _
      rw [← k]
      exact hu6.block gr (blk_lt k) HOR.out
    have hT6 : Above w0.heap.size (nb :: foot v3) := fun k hk => by
      have h0 := HXL.out.2.1
      rcases List.mem_cons.1 hk with q | q
      · have := HNB.out.1; omega
      · have := HNB.out.2.1 _ q; omega
    have hxT : xb ∉ nb :: foot v3 := fun hm => by
      have h0 := HXL.out.1
      rcases List.mem_cons.1 hm with q | q
      · have := HNB.out.1; omega
      · have := HNB.out.2.1 _ q; omega
    have hmT : mb ∉ nb :: foot v3 := fun hm => by
      have h0 := HXL.out.2.2.1
      rcases List.mem_cons.1 hm with q | q
      · have := HNB.out.1; omega
      · have := HNB.out.2.1 _ q; omega
    have hvT : ∀ x, x ∈ foot v → x ∉ nb :: foot v3 := fun x hx hm => by
      have h0 := HXL.out.2.2.2.1 x hx
      rcases List.mem_cons.1 hm with q | q
      · have := HNB.out.1; omega
      · have := HNB.out.2.1 _ q; omega
    have hKT : ∀ k, k ∈ K' → k ∉ nb :: foot v3 := fun k hk hm => by
      rcases List.mem_cons.1 hm with q | q
      · exact HK4.out.1 (q ▸ hk)
      · exact HK4.out.2.1 _ q hk
    have hx6 : xb ∉ foot v6 := fun hm => by
      rcases hu6.new xb (List.mem_cons_of_mem _ hm) with q | q
      · exact hxT q
      · have h0 := HXL.out.1
        have h1 := HQ5.out.size
        have h2 := HSZ4.out.1
        have h3 := HSZ4.out.2.1
        have h4 := HNB.out.1
        omega
    have hg6 : ∀ x, x ∈ foot v6 → w0.heap.size ≤ x := fun x hx => by
      rcases hu6.new x (List.mem_cons_of_mem _ hx) with q | q
      · exact hT6 x q
      · have h0 := HXL.out.2.1
        have h1 := HQ5.out.size
        have h2 := HSZ4.out.1
        have h3 := HSZ4.out.2.1
        have h4 := HNB.out.1
        omega
    have hK6 : ∀ x, x ∈ foot v6 → x ∉ K' := fun x hx hm => by
      rcases hu6.new x (List.mem_cons_of_mem _ hx) with q | q
      · exact hKT x hm q
      · have h1 := HQ5.out.size
        have h2 := HKL.out x hm
        omega
    have hxn : xb ≠ nb := fun e => hxT (by rw [e]; simp)
    obtain ⟨w7, Z7, W7, R7, hq7⟩ := blk_new w6 37 Tryz.zeroCells37 R
    obtain ⟨gs, hgs⟩ : ∃ g, g = w6.heap.size := ⟨_, rfl⟩
    have HGS := Lib.hid hgs
    rw [← hgs] at R7
    have hm7 := hm6.quiet hq7
    have hrow : w7.heap[xb]? = some (.cells #[.pointer (some ⟨b5, 0, none⟩), .pointer (some ⟨kb, 0, none⟩), .pointer (some ⟨mb, 0, none⟩), .pointer none] 69 (0, 0)) := by
      have k5 := row_updH HMb.out.x HQ5.out
      exact row_updH ((hu6.block xb (blk_lt k5) hxT).trans k5) hq7
    have c3 : w7.cell? ⟨xb, 3, none⟩ = some (.pointer none) := by rw [cell_of_row _ _ _ _ _ _ hrow]; rfl
    have f3 : w7.frozen? ⟨xb, 3, none⟩ = false := frozen_of_row _ _ _ _ _ hrow
    obtain ⟨w8, hw8⟩ : ∃ w8, w7.setCell ⟨xb, 3, none⟩ (.pointer (some ⟨nb, 0, none⟩)) = w8 := ⟨_, rfl⟩
    have u8 : Upd [xb] [xb] w7 w8 := by rw [← hw8]; exact (Upd.refl _ _).setCell (p := ⟨xb, 3, none⟩) (by simp) _
    have hrow8 : w8.heap[xb]? = some (.cells #[.pointer (some ⟨b5, 0, none⟩), .pointer (some ⟨kb, 0, none⟩), .pointer (some ⟨mb, 0, none⟩), .pointer (some ⟨nb, 0, none⟩)] 69 (0, 0)) := by
      rw [← hw8, heap_setCell_same _ _ _ _ _ _ hrow]
      rfl
    have FIN : Hid (DoTo w0 xb id sec (n + 1) (.returned (.bool true)) w8) := by
      obtain ⟨xv, gm, gv, xm, ids, xg, i1, i2, ln, hst⟩ := HF.out
      have hmm := ((((HMm.out.quiet HQ5.out).kept hu6 hmT hvT).quiet hq7).kept u8 (by simp; exact fun e => xm e.symm) (fun y hy hm => by simp at hm; exact xv (hm ▸ hy)))
      have hmn := hm7.kept u8 (by simp; exact fun e => hxn e.symm) (fun y hy hm => by simp at hm; exact hx6 (hm ▸ hy))
      have hbr := ((((HBr.out.quiet HQ5.out).kept hu6 hKT).quiet hq7).kept u8 (fun k hk hm => by simp at hm; exact HK4.out.2.2.2.2.1 (hm ▸ hk)))
      have hup : Upd [] [] w0 w8 := Upd.past ((Upd.past (HUP4.out.trans HQ5.out) hu6 hT6).trans hq7) u8 (fun k hk => by simp at hk; rw [hk]; exact xg)
      exact ⟨rfl, .inr ⟨m, doM m a, kb, mb, nb, K', v, v6, ⟨b5, hbr, hrow8⟩, hmm, hmn, HK4.out.2.2.2.2.1, HK4.out.2.2.1, HK4.out.1, HK4.out.2.2.2.1, hK6, xm, hxn, xv, hx6, gm, hT6 nb (by simp), gv, hg6, HK4.out.2.2.2.2.2, hup, xg, i1, i2, by omega, HRS.out, ⟨ids.1, ids.2, by rw [(doM_ids m a).1]; exact ids.1, by rw [(doM_ids m a).2]; exact ids.2⟩, hst⟩⟩
    have g1 : gr ≠ xb := by
      intro e
      exact absurd (e ▸ (show w3.heap.size ≤ gr by rw [hgr0.out]; exact HSZ4.out.1)) (by have := HNB.out.1; have := HSZ4.out.2.1; have := HXL.out.1; omega)
    have HL8 := Lib.hid (HZL.out w8 gr ((u8.block gr (blk_lt (row_updH R6.out hq7)) (by simp; exact g1)).trans (row_updH R6.out hq7)))
    have HW8 := Lib.hid hw8
    clear hm6 hu6 hq7 hgs hm7 hrow hrow8 u8 hw8 hT6 hxT hmT hvT hKT hx6 hg6 hK6 hxn HDo HM5
    go_upto_region 12 with (first | (refine wpList_store_rowAs rfl 37 _ _ rfl w6.heap.size R rfl rfl _ _ Z7.out RI.out RZ.out RO.out w7 W7.out ?_))
    rw [← HGS.out]
    clear Z7 W7 HGS
    go_upto_region 16 with (fail)
    rw [HW8.out]
    clear c3 f3 HW8
    go_wp2_with (first | (refine wpList_load_atW (by rfl) 37 _ rfl gr 0 rfl Z HL8.out ?_) | (refine wpList_build_want (by rfl) 37 #[] rfl Z (Eq.trans (congrArg (fun z => Tryz.prog.built 37 z) (by kernel_rfl)) HBZ.out) ?_))
    go_ret
    exact FIN.out
end
end Go.Proofs.YtabnlklkfgojgaaGreatDoor

namespace Go.Proofs.YtabnlklkfgojgaaGreatDoor
open Go.RowKit
set_option maxRecDepth 100000

theorem new27m_any (id sec : Int) (p : Nat) (w : World) : Calls Tryz.prog 40 #[.int .i64 id, .int .i64 sec, .int .i64 (p : Int)] w (fun e w' => ∃ g : Nat, e = .returned (.pointer (some ⟨g, 0, none⟩)) ∧ w'.heap[g]? = some (.cells (mdV (KM.new id sec p) (.slice none 0 0)).toArray 99 (0, 0)) ∧ w.heap.size ≤ g ∧ Upd [] [] w w') := by
  go_enter Tryz.func40, Tryz.ntmps40
  go_wp2_with fail
  go_ret
  exact ⟨w.heap.size, rfl, heap_alloc_new _ _, Nat.le_refl _, (Upd.refl _ _).alloc _⟩
def NewC (w0 : World) (id sec : Int) (p : Nat) (e : Ending) (w' : World) : Prop := ∃ xb mb kb K, e = .returned (.pointer (some ⟨xb, 0, none⟩)) ∧ ChF w0 xb id sec (KM.new id sec p) 0 kb mb K (.slice none 0 0) w'
set_option maxHeartbeats 4000000 in
theorem newC_any (id sec : Int) (p : Nat) (hid : i64in id) (hsec : i64in sec) (hp : p ≤ 1000000000) {w0 wr : World} (hu : Upd [] [] w0 wr) (htab : Tabs w0) :
    Calls Tryz.prog 20 #[.int .i64 id, .int .i64 sec, .int .i64 (p : Int)] wr (NewC w0 id sec p) := by
  have HU := Lib.hid hu
  have HID := Lib.hid (And.intro hid hsec)
  clear hu hid hsec
  go_enter Tryz.func20, Tryz.ntmps20
  go_wp2_with fail
  refine (New_to wr).mono ?_
  rintro e w1 ⟨b, S1, rfl, hd1, hu1⟩
  have hbelow : Below w0.heap.size w0 wr := ⟨HU.out.os, HU.out.tape, HU.out.output, HU.out.size, fun k hk => HU.out.block k hk (by simp)⟩
  have D1 := Lib.hid (DiskOk.start hbelow HU.out.size hd1 hu1)
  have L1 : Hid (∀ k, k ∈ S1 → k < w1.heap.size) := hd1.lt
  clear hd1 hu1 hbelow
  go_wp2_with fail
  refine (new27m_any id sec p w1).mono ?_
  rintro e w2 ⟨mb, rfl, m0, hmb, hu2⟩
  obtain ⟨M, hM⟩ : ∃ M, M = (mdV (KM.new id sec p) (.slice none 0 0)).toArray := ⟨_, rfl⟩
  rw [← hM] at m0
  have m1 : M[0]? = some (.int .i64 id) := by rw [hM]; rfl
  have m2 : M[1]? = some (.int .i64 sec) := by rw [hM]; rfl
  have HMV := Lib.hid hM
  clear hM
  obtain ⟨xb, hxb⟩ : ∃ xb, xb = w2.heap.size := ⟨_, rfl⟩
  obtain ⟨w3, hw3, x3, hu3⟩ : ∃ w3, w2.alloc (.cells #[.pointer (some ⟨b, 0, none⟩), .pointer none, .pointer (some ⟨mb, 0, none⟩), .pointer none] 69) = w3 ∧ w3.heap[xb]? = some (.cells #[.pointer (some ⟨b, 0, none⟩), .pointer none, .pointer (some ⟨mb, 0, none⟩), .pointer none] 69 (0, 0)) ∧ Upd [] [] w2 w3 := ⟨_, rfl, by rw [hxb]; exact heap_alloc_new _ _, (Upd.refl _ _).alloc _⟩
  have M3 := Lib.hid (row_updH m0 hu3)
  have X3 := Lib.hid x3
  have HM := Lib.hid (And.intro m1 (And.intro m2 (And.intro hmb (blk_lt m0))))
  have D3 := Lib.hid ((D1.out.quiet hu2).quiet hu3)
  have HXB := Lib.hid hxb
  have HW3 := Lib.hid hw3
  have hu03 : Upd [] [] w0 w3 := by
    have d := D3.out.below
    exact ⟨d.os, d.tape, d.output, d.size, fun k hk _ => d.block k hk, fun _ hk => by simp at hk⟩
  have HOp := Lib.hid (Open_new id sec p HID.out.1 HID.out.2 hp D3.out JClean.empty rfl (by decide) hu03 htab rfl)
  have HXG : Hid (w0.heap.size ≤ xb ∧ xb ∉ S1 ∧ mb ∉ S1 ∧ xb ≠ mb) := by
    have h1 := D1.out.size
    have h2 := hu2.size
    have h3 := blk_lt m0
    refine ⟨by omega, fun hm => ?_, fun hm => ?_, by omega⟩
    · have := L1.out _ hm; omega
    · have := L1.out _ hm; omega
  have cd : w3.cell? ⟨xb, 0, none⟩ = some (.pointer (some ⟨b, 0, none⟩)) := by rw [cell_of_row _ _ _ _ _ _ x3]; rfl
  clear m0 m1 m2 hmb hu2 hu3 hw3 x3 hxb hu03
  go_upto_region 2 with (fail)
  rw [HW3.out, ← HXB.out]
  clear HW3 HXB
  go_wp2_with fail
  refine HOp.out.mono ?_
  rintro e w4 ⟨kb, jb, S4, v4, D4, rfl, st4, hu4, hf4, hc4⟩
  have X4 : Hid (w4.heap[xb]? = some (.cells #[.pointer (some ⟨b, 0, none⟩), .pointer none, .pointer (some ⟨mb, 0, none⟩), .pointer none] 69 (0, 0))) := by
    have k := X3.out
    show _ = _
    rw [← k]
    exact hu4.block xb (blk_lt k) HXG.out.2.1
  have xK : xb ∉ kF kb jb v4 S4 := off_upd HXG.out.2.1 (blk_lt X3.out) hu4
  have mK : mb ∉ kF kb jb v4 S4 := off_upd HXG.out.2.2.1 (blk_lt M3.out) hu4
  have f4 : w4.frozen? ⟨xb, 1, none⟩ = false := frozen_of_row _ _ _ _ _ X4.out
  have c4 : w4.cell? ⟨xb, 1, none⟩ = some (.pointer none) := by rw [cell_of_row _ _ _ _ _ _ X4.out]; rfl
  have HFIN : Hid (NewC w0 id sec p (.returned (.pointer (some ⟨xb, 0, none⟩))) (w4.setCell ⟨xb, 1, none⟩ (.pointer (some ⟨kb, 0, none⟩)))) := by
    have u5 : Upd [xb] [xb] w4 (w4.setCell ⟨xb, 1, none⟩ (.pointer (some ⟨kb, 0, none⟩))) := (Upd.refl _ _).setCell (p := ⟨xb, 1, none⟩) (by simp) _
    have st5 := st4.other u5 (fun k hk => by simp at hk; rw [hk]; exact HXG.out.1) (fun k hk hm => by simp at hm; exact xK (hm ▸ hk))
    have r5 : (w4.setCell ⟨xb, 1, none⟩ (.pointer (some ⟨kb, 0, none⟩))).heap[mb]? = some (.cells M 99 (0, 0)) := by
      have k := M3.out
      rw [u5.block mb (by rw [← hu4.block mb (blk_lt k) HXG.out.2.2.1] at k; exact blk_lt k) (by simp; exact fun e => HXG.out.2.2.2 e.symm), hu4.block mb (blk_lt k) HXG.out.2.2.1]
      exact k
    refine ⟨xb, mb, kb, _, rfl, ⟨⟨⟨jb, b, D4, _, _, S4, v4, rfl, st5, Hist.new id sec p hp, ⟨?_, ⟨M, r5, HM.out.1, HM.out.2.1⟩, xK, mK, HXG.out.2.2.2⟩, ?_, ?_⟩, HXG.out.1, HID.out.1, HID.out.2⟩, ⟨by rw [← HMV.out]; exact r5, ⟨rfl, .inl ⟨rfl, rfl⟩⟩, by simp [foot, Value.ownBlock], KM.ok_new HID.out.1 HID.out.2 hp⟩, by simp [foot, Value.ownBlock], by simp [foot, Value.ownBlock], by have h1 := D1.out.size; have h2 := HM.out.2.2.1; omega, by simp [foot, Value.ownBlock], Nat.zero_le _⟩⟩
    · rw [heap_setCell_same _ _ _ _ _ _ X4.out]; rfl
    · have : DiskM.empty.calls = 0 := rfl
      omega
    · have := rec_pap_len p hp
      show (recP p).length + 16 + 0 ≤ _
      omega
  clear st4 hu4 hf4 hc4 xK mK HOp X3 M3 D3 D1 L1 cd
  go_wp2_with fail
  go_ret
  exact HFIN.out
end Go.Proofs.YtabnlklkfgojgaaGreatDoor

namespace Go.Proofs.YtabnlklkfgojgaaGreatDoor
open Go.RowKit
set_option maxRecDepth 100000

structure ChK (id sec : Int) (m : KM) : Prop where
  each : ∀ (k : Nat) x, m.rs[k]? = some x → x.kiosk = id ∧ x.prev = prevK (m.rs.take k) ∧ verB (gP (expN sec) : Int) (bodyL x) x.r x.s = true ∧ 0 ≤ x.seen ∧ x.seen ≤ (m.round : Int)
  mono : ∀ (k : Nat) x y, m.rs[k]? = some x → m.rs[k + 1]? = some y → x.seen ≤ y.seen
theorem ChK.new (id sec : Int) (p : Nat) : ChK id sec (KM.new id sec p) := ⟨fun k x h => by simp [KM.new] at h, fun k x y h => by simp [KM.new] at h⟩
theorem ChK.step {m m' : KM} {e : Ev} (h : ChK m.id m.sec m) (hs : m.step e = some m') : ChK m'.id m'.sec m' := by
  have hi := KM.step_id hs
  rw [hi.1, hi.2]
  cases e with
  | pap n =>
    simp only [KM.step] at hs
    split at hs
    · injection hs with hs
      subst hs
      exact ⟨h.each, h.mono⟩
    · cases hs
  | lrn r s =>
    simp only [KM.step] at hs
    split at hs
    · rename_i hc
      injection hs with hs
      subst hs
      refine ⟨fun k x hx => ?_, h.mono⟩
      obtain ⟨a1, a2, a3, a4, a5⟩ := h.each k x hx
      exact ⟨a1, a2, a3, a4, by show x.seen ≤ ((r : Nat) : Int); omega⟩
    · cases hs
  | sel x =>
    simp only [KM.step] at hs
    split at hs
    · rename_i hc
      obtain ⟨_, _, _, _, c5⟩ := hc
      rw [eqRc_iff] at c5
      injection hs with hs
      subst hs
      have hxk : x.kiosk = m.id := by rw [← c5]; rfl
      have hxp : x.prev = prevK m.rs := by rw [← c5]; rfl
      have hxs : x.seen = (m.round : Int) := by rw [← c5]; rfl
      have hxv : verB (gP (expN m.sec) : Int) (bodyL x) x.r x.s = true := by rw [← c5]; exact printR_ver _ _ _ _ _ _ _ _
      refine ⟨fun k y hy => ?_, fun k y z hy hz => ?_⟩
      · have hy' : (m.rs ++ [x])[k]? = some y := hy
        show _ ∧ y.prev = prevK ((m.rs ++ [x]).take k) ∧ _ ∧ _ ∧ y.seen ≤ (m.round : Int)
        rw [List.getElem?_append] at hy'
        split at hy'
        · rename_i hk
          obtain ⟨a1, a2, a3, a4, a5⟩ := h.each k y hy'
          rw [List.take_append_of_le_length (by omega)]
          exact ⟨a1, a2, a3, a4, a5⟩
        · rename_i hk
          have h0 := (List.getElem?_eq_some_iff.1 hy').1
          rw [List.length_singleton] at h0
          have hk0 : k = m.rs.length := by omega
          subst hk0
          simp at hy'
          subst hy'
          rw [List.take_left]
          exact ⟨hxk, hxp, hxv, by omega, by omega⟩
      · have hy' : (m.rs ++ [x])[k]? = some y := hy
        have hz' : (m.rs ++ [x])[k + 1]? = some z := hz
        rw [List.getElem?_append] at hy' hz'
        split at hz'
        · rename_i hk
          rw [if_pos (by omega)] at hy'
          exact h.mono k y z hy' hz'
        · rename_i hk
          have h0 := (List.getElem?_eq_some_iff.1 hz').1
          rw [List.length_singleton] at h0
          have hk0 : k + 1 = m.rs.length := by omega
          rw [if_pos (by omega)] at hy'
          rw [hk0] at hz'
          simp at hz'
          subst hz'
          have := (h.each k y hy').2.2.2.2
          omega
    · cases hs
theorem ChK.run : ∀ (l : List Ev) (m m' : KM), ChK m.id m.sec m → m.run l = some m' → ChK m'.id m'.sec m'
  | [], m, m', h, hr => by
    simp only [KM.run, Option.some.injEq] at hr
    rw [← hr]
    exact h
  | e :: r, m, m', h, hr => by
    simp only [KM.run] at hr
    obtain ⟨m1, h1, h2⟩ := Option.bind_eq_some_iff.1 hr
    exact ChK.run r m1 m' (h.step h1) h2
theorem Hist.chain {id sec : Int} {rs : List (List UInt8)} {m : KM} (h : Hist id sec rs m) : ChK id sec m := by
  obtain ⟨p, evs, _, _, h3⟩ := h.ex
  have := ChK.run evs _ m (ChK.new id sec p) h3
  rw [h.ids.1, h.ids.2] at this
  exact this
theorem prevK_snoc (l : List Rc) (x : Rc) : prevK (l ++ [x]) = sha (textL x) := by simp [prevK]
theorem prevK_next {l : List Rc} {k : Nat} {x : Rc} (h : l[k]? = some x) : prevK (l.take (k + 1)) = sha (textL x) := by
  have e : l.take (k + 1) = l.take k ++ [x] := by rw [List.take_add_one, h]; rfl
  rw [e, prevK_snoc]
end Go.Proofs.YtabnlklkfgojgaaGreatDoor
