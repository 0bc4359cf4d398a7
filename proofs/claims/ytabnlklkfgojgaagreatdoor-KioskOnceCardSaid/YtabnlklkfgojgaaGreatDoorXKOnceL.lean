/- KioskOnce: what its walk leans on. -/
import Derived.Test.YtabnlklkfgojgaaGreatDoorXKKnow
import Derived.Test.YtabnlklkfgojgaaGreatDoorGO
namespace Go.Proofs.YtabnlklkfgojgaaGreatDoor
open Go.RowKit
set_option maxRecDepth 100000

theorem Upd.widen {w w' : World} {S K : List Nat} (h : Upd S S w w') (hS : ∀ k, k ∈ S → k ∈ K) : Upd K K w w' := ⟨h.os, h.tape, h.output, h.size, fun k hk hn => h.block k hk (fun hm => hn (hS k hm)), fun _ hk => .inl hk⟩
section
variable {w0 wr w1 : World} {xb mb : Nat} {id sec : Int} {m : KM} {n kb : Nat} {K : List Nat}
theorem Fail_m (h : Mach w0 xb mb id sec m n kb K wr) : ∃ b, (∃ o, wr.heap[xb]? = some (.cells #[.pointer (some ⟨b, 0, none⟩), .pointer (some ⟨kb, 0, none⟩), .pointer (some ⟨mb, 0, none⟩), o] 69 (0, 0))) ∧ ∀ (z : Int) (W : World), z ≤ 1000 → Upd [] [] wr W →
    Calls Tryz.prog 19 #[.pointer (some ⟨b, 0, none⟩), .int .i64 z] W (fun e w' => e = .returned (.tuple #[]) ∧ Mach w0 xb mb id sec m n kb K w' ∧ Upd K K W w') := by
  obtain ⟨jb, b, D, F, rs, S, v, rfl, hs, hh, hx, r1, r2⟩ := h.ex
  refine ⟨b, ⟨_, hx.x⟩, fun z W hz u => ?_⟩
  have hs' := hs.quiet u
  refine (Fail_any b D S z W hs'.j.d).mono ?_
  rintro e w' ⟨rfl, hd, hu⟩
  have hup : Upd (kF kb jb v S) (kF kb jb v S) W w' := hu.widen (fun k hk => by simp [kF, hk])
  have hju : Upd (jb :: S) (jb :: S) W w' := hu.widen (fun k hk => by simp [hk])
  exact ⟨rfl, ⟨⟨jb, b, D.fail z, F, rs, S, v, rfl, hs'.jour hju (hs'.j.disk hd hu (hs'.j.clean.fail z (by omega))), hh, (hx.upd (u.quietTo (K := kF kb jb v S))).upd hup, r1, r2⟩, h.xg, h.i1, h.i2⟩, hup⟩
theorem MachC.quiet {A : KM → Prop} (h : MachC w0 xb mb id sec A n kb K wr) (u : Upd [] [] wr w1) : MachC w0 xb mb id sec A n kb K w1 := by
  obtain ⟨b, D, S, hS, hd, hc, hx⟩ := h.ex
  exact ⟨⟨b, D, S, hS, hd.kept u (by simp), hc, hx.upd (u.quietTo (K := K))⟩, h.up.trans u, h.xg, h.i1, h.i2⟩
theorem doE_ne (m : KM) (a : Act27) : doE m a ≠ 70 := by
  have h1 : ∀ r hs, lrnR m r hs ≠ 70 := by
    intro r hs
    unfold lrnR learnE
    repeat' split
    all_goals omega
  unfold doE fillR refE
  repeat' split
  all_goals first | exact h1 _ _ | omega
theorem do_sold (m : KM) (a : Act27) (h5 : 0 ≤ a.what % 12 ∧ a.what % 12 < 5) (h0 : doE m a = 0) : (doM m a).rs = m.rs ++ [doR m a] ∧ (doR m a).serial = (m.rs.length : Int) + 1 := by
  have hn : ¬ (a.what % 12 = 5 ∨ a.what % 12 = 6) := by omega
  have h7 : ¬ a.what % 12 = 7 := by omega
  unfold doE at h0
  rw [if_neg hn, if_neg h7] at h0
  unfold doM doR
  rw [if_neg hn, if_neg hn, if_neg h7, if_neg h7]
  unfold selM selR
  rw [if_pos h0, if_pos h0]
  exact ⟨rfl, by show ((m.rs.length + 1 : Nat) : Int) = _; omega⟩
theorem do_not (m : KM) (a : Act27) (h : ¬ (a.what % 12 < 5 ∧ doE m a = 0)) (h8 : 0 ≤ a.what % 12 ∧ a.what % 12 < 8) : (doM m a).rs = m.rs := by
  unfold doM
  split
  · exact (lrnM_rs m _ _).1
  · rename_i hn
    split
    · unfold fillM; split <;> rfl
    · rename_i h7
      unfold doE at h
      rw [if_neg hn, if_neg h7] at h
      unfold selM
      rw [if_neg (fun e => h ⟨by omega, e⟩)]
theorem do_any (m : KM) (a : Act27) : (doM m a).rs = m.rs ∨ ∃ y, (doM m a).rs = m.rs ++ [y] := by
  unfold doM
  split
  · exact .inl (lrnM_rs m _ _).1
  · split
    · unfold fillM; split <;> exact .inl rfl
    · unfold selM
      split
      · exact .inr ⟨_, rfl⟩
      · exact .inl rfl
end
theorem ints_new (w : World) (A : Array Value) (zs : List Int) (h : A = (zs.map (Value.int .i64)).toArray) : IntsAt (w.alloc (.cells A 3)) (.slice (some ⟨w.heap.size, 0, none⟩) zs.length zs.length) zs := by
  refine ⟨zs.length, .inr ⟨w.heap.size, 0, rfl, fun j z hz => ?_⟩⟩
  rw [Nat.zero_add, cell_of_row _ _ _ _ _ _ (heap_alloc_new w (.cells A 3)), h, List.getElem?_toArray, List.getElem?_map, hz]
  rfl
theorem wp_load_at {P : Program} {o : Oper} {a : Act} {w : World} {K : Act → World → Prop} {Q : Exit → Act → World → Prop} (ty : TypeId) (x : Operand) (ho : o.op = .load ty x) (b : Nat) (hx : a.eval x = .pointer (some ⟨b, 0, none⟩)) (C : Array Value)
    (hr : (Instr.loadAt ty (.pointer (some ⟨b, 0, none⟩))).run P w = .ok (.agg C) w) (h : K (a.put o.dst (.agg C)) w) : o.wp P a w K Q := by
  unfold Oper.wp execOp
  simp only [ho, hx, Sem.run_bind, hr, Result.andThen_ok]
  exact h
/-- What the law knows. -/
structure OnceM (w0 : World) (xb mb gm c B : Nat) (m : KM) (n kb : Nat) (K : List Nat) (nm q : Nat) (wr : World) : Prop where
  mach : Mach w0 xb mb 7 99 m n kb K wr
  n : n ≤ c
  know : MapN wr gm nm (fK (m.rs.take q)) q
  nm : nm ≤ B
  q : q ≤ m.rs.length
  len : m.rs.length ≤ c
  gK : gm ∉ K
  gx : gm ≠ xb
  gmb : gm ≠ mb
  gw : w0.heap.size ≤ gm
theorem MapN.len_run {w : World} {b n z : Nat} {f : Int → Option Value} (h : MapN w b n f z) (ty : TypeId) : (Builtin.len_ #[64] ty #[.map (some b)]).run Tryz.prog w = .ok (.int .i64 (z : Int)) w := by
  obtain ⟨D, ho, _, hz, _⟩ := h
  rw [ho.len und64 ty, hz]
theorem Batch_m {w0 wr : World} {xb mb : Nat} {id sec : Int} {m : KM} {n kb : Nat} {K : List Nat} (h : Mach w0 xb mb id sec m n kb K wr) : Calls Tryz.prog 17 #[.pointer (some ⟨kb, 0, none⟩), .int .i64 0] wr (MkBat m.id m.rs wr) := by
  obtain ⟨jb, b, D, F, rs, S, v, rfl, hst, _⟩ := h.ex
  exact Batch_any hst.body 0 0 (by unfold i64in; omega) (Nat.zero_le _) (fun _ => rfl) (fun h => by omega)
theorem Mach.ck {w0 wr : World} {xb mb : Nat} {id sec : Int} {m : KM} {n kb : Nat} {K : List Nat} (h : Mach w0 xb mb id sec m n kb K wr) : wr.cell? ⟨xb, 1, none⟩ = some (.pointer (some ⟨kb, 0, none⟩)) := by
  obtain ⟨_, _, _, _, _, _, _, _, _, _, hx, _⟩ := h.ex
  rw [cell_of_row _ _ _ _ _ _ hx.x]
  rfl
theorem RcsIn.mapped {w w' : World} {ao : Option Addr} {l : List Rc} {gm nm z : Nat} {f : Int → Option Value} (h : RcsIn w ao l) (hm : MapN w gm nm f z) (u : Upd [gm] [gm] w w') : RcsIn w' ao l := by
  intro k x hx
  obtain ⟨h1, h2, g', o, e, h3, h4⟩ := h k x hx
  have hs : (rcV x)[3]? = some (.int .i64 x.seen) := by have := (rc_parts h1).2.2.2.2.2.2.2; rwa [List.getElem?_toArray] at this
  have hne : g' ≠ gm := hm.no_cell (h4 3 _ hs)
  refine ⟨h1, h2, g', o, e, Nat.lt_of_lt_of_le h3 u.size, ?_⟩
  intro j v hv
  rw [← h4 j v hv]
  exact World.cell?_of_block (a := ⟨g', o + k * 102 + j, none⟩) (u.block g' h3 (by simp; exact hne))
/-- What the law knows while it looks at what is kept. -/
structure OnceJ (w0 : World) (xb mb gm c B : Nat) (m : KM) (n kb : Nat) (K : List Nat) (ab : Option Addr) (j nm q : Nat) (wr : World) : Prop where
  o : OnceM w0 xb mb gm c B m n kb K nm q wr
  r : RcsIn wr ab m.rs
  jq : j ≤ q
theorem OnceM.quiet {w0 w1 wr : World} {xb mb gm c B : Nat} {m : KM} {n kb : Nat} {K : List Nat} {nm q : Nat} (h : OnceM w0 xb mb gm c B m n kb K nm q wr) (u : Upd [] [] wr w1) : OnceM w0 xb mb gm c B m n kb K nm q w1 :=
  ⟨h.mach.quiet u, h.n, h.know.upd u (by simp), h.nm, h.q, h.len, h.gK, h.gx, h.gmb, h.gw⟩
theorem OnceJ.quiet {w0 w1 wr : World} {xb mb gm c B : Nat} {m : KM} {n kb : Nat} {K : List Nat} {ab : Option Addr} {j nm q : Nat} (h : OnceJ w0 xb mb gm c B m n kb K ab j nm q wr) (u : Upd [] [] wr w1) : OnceJ w0 xb mb gm c B m n kb K ab j nm q w1 :=
  ⟨h.o.quiet u, h.r.upd u, h.jq⟩
/-- Receipt j is there: its row, its number. -/
theorem OnceJ.at_ {w0 wr : World} {xb mb gm c B : Nat} {m : KM} {n kb : Nat} {K : List Nat} {ab : Option Addr} {j nm q : Nat} {x : Rc} (h : OnceJ w0 xb mb gm c B m n kb K ab j nm q wr) (hx : m.rs[j]? = some x) :
    x.ok ∧ x.serial = (j : Int) + 1 ∧ ∃ g o, ab = some ⟨g, o, none⟩ ∧ ∀ W, RcsIn W (some ⟨g, o, none⟩) m.rs → W.cell? ⟨g, o + j * 102 + 1, none⟩ = some (.int .i64 ((j : Int) + 1)) ∧ (Instr.loadAt 37 (.pointer (some ⟨g, o + j * 102, none⟩))).run Tryz.prog W = .ok (.agg (rcV x).toArray) W := by
  obtain ⟨h1, h2, g, o, e, h3, h4⟩ := h.r j x hx
  have hs : x.serial = (j : Int) + 1 := by have := h.o.mach.ok.serial j x hx; omega
  refine ⟨h1, hs, g, o, e, fun W hW => ?_⟩
  obtain ⟨_, _, g', o', e', k3, k4⟩ := hW j x hx
  injection e' with e'
  injection e' with e1 e2
  subst e1 e2
  refine ⟨?_, run_loadAt_mid W _ _ _ _ _ k4 Tryz.underlying37 rfl (rcInfo h1)⟩
  have h5 : (rcV x)[1]? = some (.int .i64 x.serial) := by have := (rc_parts h1).2.2.2.2.2.1; rwa [List.getElem?_toArray] at this
  rw [k4 1 _ h5, hs]
/-- A receipt that is kept is known from here on. -/
theorem OnceJ.put {w0 w1 wr : World} {xb mb gm c B : Nat} {m : KM} {n kb : Nat} {K : List Nat} {ab : Option Addr} {j nm q : Nat} {x : Rc} (h : OnceJ w0 xb mb gm c B m n kb K ab j nm q wr) (hx : m.rs[j]? = some x)
    (hN : MapN w1 gm (nm + 1) (fun y => if y = (j : Int) + 1 then some (.agg (rcV x).toArray) else fK (m.rs.take q) y) (if (fK (m.rs.take q) ((j : Int) + 1)).isSome then q else q + 1)) (hU : Upd [gm] [gm] wr w1) :
    ∃ q', OnceJ w0 xb mb gm c (B + 1) m n kb K ab (j + 1) (nm + 1) q' w1 := by
  have hj : j < m.rs.length := (List.getElem?_eq_some_iff.1 hx).1
  have ho := h.o
  have hl : (m.rs.take q).length = q := by rw [List.length_take]; have := ho.q; omega
  have hm := ho.mach.other hU ho.gw ho.gK ho.gx ho.gmb
  have hr := h.r.mapped ho.know hU
  by_cases hjq : j < q
  · have ht : (m.rs.take q)[j]? = some x := by rw [List.getElem?_take, if_pos hjq, hx]
    rw [fK_old ht, fK_get, ht, Option.map_some, Option.isSome_some, if_pos rfl] at hN
    exact ⟨q, ⟨hm, ho.n, hN, by have := ho.nm; omega, ho.q, ho.len, ho.gK, ho.gx, ho.gmb, ho.gw⟩, hr, by omega⟩
  · obtain rfl : j = q := by have := h.jq; omega
    have hf : fK (m.rs.take j) ((j : Int) + 1) = none := by rw [fK_get, List.getElem?_eq_none (by omega)]; rfl
    have hne := fK_new (m.rs.take j) x
    rw [hl] at hne
    have hta : m.rs.take j ++ [x] = m.rs.take (j + 1) := by
      rw [List.take_add_one, hx]
      rfl
    rw [hne, hta, hf, Option.isSome_none, if_neg (by simp)] at hN
    exact ⟨j + 1, ⟨hm, ho.n, hN, by have := ho.nm; omega, by omega, ho.len, ho.gK, ho.gx, ho.gmb, ho.gw⟩, hr, Nat.le_refl _⟩
/-- What is known of number j + 1. -/
theorem OnceJ.look {w0 wr : World} {xb mb gm c B : Nat} {m : KM} {n kb : Nat} {K : List Nat} {ab : Option Addr} {j nm q : Nat} {x : Rc} (h : OnceJ w0 xb mb gm c B m n kb K ab j nm q wr) (hx : m.rs[j]? = some x) (hj : j < 1000000) :
    (Instr.lookup 64 (.map (some gm)) (.int .i64 ((j : Int) + 1)) true).run Tryz.prog wr = .ok (.tuple #[if j < q then .agg (rcV x).toArray else .agg (rcV Rc.zero).toArray, .bool (decide (j < q))]) wr := by
  rw [h.o.know.look (x := (j : Int) + 1) (by omega), fK_get, List.getElem?_take, hx]
  by_cases hjq : j < q
  · rw [if_pos hjq, if_pos hjq, decide_eq_true hjq]; rfl
  · rw [if_neg hjq, if_neg hjq, decide_eq_false hjq]; rfl
end Go.Proofs.YtabnlklkfgojgaaGreatDoor
