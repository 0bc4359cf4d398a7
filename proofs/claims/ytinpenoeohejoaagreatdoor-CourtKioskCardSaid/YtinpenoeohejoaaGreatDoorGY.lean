/- What a kiosk's receipts are, plainly. A kiosk by itself, over calls, failures and crashes: what CourtKiosk's loop keeps. CourtKiosk: what its loop keeps. -/
import Derived.Test.YtinpenoeohejoaaGreatDoorGU
import Derived.Test.YtinpenoeohejoaaGreatDoorGI
namespace Go.Proofs.YtinpenoeohejoaaGreatDoor
open Go.RowKit
set_option maxRecDepth 100000

structure ChK (id sec : Int) (m : KM) : Prop where
  each : ∀ (k : Nat) x, m.rs[k]? = some x → x.kiosk = id ∧ x.prev = prevK (m.rs.take k) ∧ verB (gP (expN sec) : Int) (bodyL x) x.r x.s = true ∧ 0 ≤ x.seen ∧ x.seen ≤ (m.round : Int)
  mono : ∀ (k : Nat) x y, m.rs[k]? = some x → m.rs[k + 1]? = some y → x.seen ≤ y.seen
theorem ChK.new (id sec : Int) (p : Nat) : ChK id sec (KM.new id sec p) := ⟨fun k x h => by simp [KM.new] at h, fun k x y h => by simp [KM.new] at h⟩
theorem ChK.step {m m' : KM} {e : Ev} (h : ChK m.id m.sec m) (hs : m.step e = some m') : ChK m'.id m'.sec m' := by
  have hi := KM.step_id hs
  rw [hi.1, hi.2]
  cases e with
  | pap n =>
    simp only [KM.step] at hs
    split at hs
    · injection hs with hs
      subst hs
      exact ⟨h.each, h.mono⟩
    · cases hs
  | lrn r s =>
    simp only [KM.step] at hs
    split at hs
    · rename_i hc
      injection hs with hs
      subst hs
      refine ⟨fun k x hx => ?_, h.mono⟩
      obtain ⟨a1, a2, a3, a4, a5⟩ := h.each k x hx
      exact ⟨a1, a2, a3, a4, by show x.seen ≤ ((r : Nat) : Int); omega⟩
    · cases hs
  | sel x =>
    simp only [KM.step] at hs
    split at hs
    · rename_i hc
      obtain ⟨_, _, _, _, c5⟩ := hc
      rw [eqRc_iff] at c5
      injection hs with hs
      subst hs
      have hxk : x.kiosk = m.id := by rw [← c5]; rfl
      have hxp : x.prev = prevK m.rs := by rw [← c5]; rfl
      have hxs : x.seen = (m.round : Int) := by rw [← c5]; rfl
      have hxv : verB (gP (expN m.sec) : Int) (bodyL x) x.r x.s = true := by rw [← c5]; exact printR_ver _ _ _ _ _ _ _ _
      refine ⟨fun k y hy => ?_, fun k y z hy hz => ?_⟩
      · have hy' : (m.rs ++ [x])[k]? = some y := hy
        show _ ∧ y.prev = prevK ((m.rs ++ [x]).take k) ∧ _ ∧ _ ∧ y.seen ≤ (m.round : Int)
        rw [List.getElem?_append] at hy'
        split at hy'
        · rename_i hk
          obtain ⟨a1, a2, a3, a4, a5⟩ := h.each k y hy'
          rw [List.take_append_of_le_length (by omega)]
          exact ⟨a1, a2, a3, a4, a5⟩
        · rename_i hk
          have h0 := (List.getElem?_eq_some_iff.1 hy').1
          rw [List.length_singleton] at h0
          have hk0 : k = m.rs.length := by omega
          subst hk0
          simp at hy'
          subst hy'
          rw [List.take_left]
          exact ⟨hxk, hxp, hxv, by omega, by omega⟩
      · have hy' : (m.rs ++ [x])[k]? = some y := hy
        have hz' : (m.rs ++ [x])[k + 1]? = some z := hz
        rw [List.getElem?_append] at hy' hz'
        split at hz'
        · rename_i hk
          rw [if_pos (by omega)] at hy'
          exact h.mono k y z hy' hz'
        · rename_i hk
          have h0 := (List.getElem?_eq_some_iff.1 hz').1
          rw [List.length_singleton] at h0
          have hk0 : k + 1 = m.rs.length := by omega
          rw [if_pos (by omega)] at hy'
          rw [hk0] at hz'
          simp at hz'
          subst hz'
          have := (h.each k y hy').2.2.2.2
          omega
    · cases hs
theorem ChK.run : ∀ (l : List Ev) (m m' : KM), ChK m.id m.sec m → m.run l = some m' → ChK m'.id m'.sec m'
  | [], m, m', h, hr => by
    simp only [KM.run, Option.some.injEq] at hr
    rw [← hr]
    exact h
  | e :: r, m, m', h, hr => by
    simp only [KM.run] at hr
    obtain ⟨m1, h1, h2⟩ := Option.bind_eq_some_iff.1 hr
    exact ChK.run r m1 m' (h.step h1) h2
theorem Hist.chain {id sec : Int} {rs : List (List UInt8)} {m : KM} (h : Hist id sec rs m) : ChK id sec m := by
  obtain ⟨p, evs, _, _, h3⟩ := h.ex
  have := ChK.run evs _ m (ChK.new id sec p) h3
  rw [h.ids.1, h.ids.2] at this
  exact this
end Go.Proofs.YtinpenoeohejoaaGreatDoor

namespace Go.Proofs.YtinpenoeohejoaaGreatDoor
open Go.RowKit
set_option maxRecDepth 100000

def Pre (m m' : KM) : Prop := ∃ r, m'.rs = m.rs ++ r
theorem Pre.refl (m : KM) : Pre m m := ⟨[], by simp⟩
theorem Pre.trans {a b c : KM} (h : Pre a b) (k : Pre b c) : Pre a c := by
  obtain ⟨r, hr⟩ := h
  obtain ⟨s, hs⟩ := k
  exact ⟨r ++ s, by rw [hs, hr, List.append_assoc]⟩
theorem Pre.mem {a b : KM} (h : Pre a b) {x : Rc} (hx : x ∈ a.rs) : x ∈ b.rs := by
  obtain ⟨r, hr⟩ := h
  rw [hr]
  exact List.mem_append_left _ hx
structure Liv (w0 : World) (id sec : Int) (m : KM) (n kb b : Nat) (K : List Nat) (wr : World) : Prop where
  ex : ∃ jb D F rs S v, K = kF kb jb v S ∧ KSt w0 w0.heap.size kb jb b D F rs S m v wr ∧ Hist id sec rs m ∧ D.calls ≤ 10 + 4 * n ∧ spaceL rs ≤ 500 * (n + 1)
structure Brk (w0 : World) (id sec : Int) (m : KM) (n kb b : Nat) (K : List Nat) (wr : World) : Prop where
  br : BrD id sec n kb m (Pre m) K b wr
  up : Upd [] [] w0 wr
  ab : Above w0.heap.size K
  ck : ChK id sec m
def Ckk (w0 : World) (id sec : Int) (m : KM) (n kb b : Nat) (K : List Nat) (wr : World) : Prop := Liv w0 id sec m n kb b K wr ∨ Brk w0 id sec m n kb b K wr
theorem CrashOk.weak {D : DiskM} {id sec : Int} {n n' : Nat} {A A' : KM → Prop} (h : CrashOk D id sec n A) (hA : ∀ z, A z → A' z) (hn : n ≤ n') : CrashOk D id sec n' A' :=
  ⟨h.ok, fun sv => by obtain ⟨F, rs, m, a1, a2, a3, a4, a5⟩ := h.all sv; exact ⟨F, rs, m, hA m a1, a2, a3, a4, by omega⟩⟩
section
variable {w0 wr w1 : World} {id sec : Int} {m m2 : KM} {n kb b : Nat} {K : List Nat}
theorem Liv.up (h : Liv w0 id sec m n kb b K wr) : Upd [] [] w0 wr := by
  obtain ⟨_, _, _, _, _, _, _, hs, _⟩ := h.ex
  exact hs.up
theorem Liv.quiet (h : Liv w0 id sec m n kb b K wr) (u : Upd [] [] wr w1) : Liv w0 id sec m n kb b K w1 := by
  obtain ⟨jb, D, F, rs, S, v, hK, hs, r⟩ := h.ex
  exact ⟨⟨jb, D, F, rs, S, v, hK, hs.quiet u, r⟩⟩
theorem Liv.mono (h : Liv w0 id sec m n kb b K wr) {n' : Nat} (hn : n ≤ n') : Liv w0 id sec m n' kb b K wr := by
  obtain ⟨jb, D, F, rs, S, v, hK, hs, hh, r1, r2⟩ := h.ex
  exact ⟨⟨jb, D, F, rs, S, v, hK, hs, hh, by omega, by omega⟩⟩
theorem Brk.quiet (h : Brk w0 id sec m n kb b K wr) (u : Upd [] [] wr w1) : Brk w0 id sec m n kb b K w1 := ⟨h.br.quiet u, h.up.trans u, h.ab, h.ck⟩
theorem Brk.mono (h : Brk w0 id sec m n kb b K wr) {n' : Nat} (hn : n ≤ n') : Brk w0 id sec m n' kb b K wr := by
  obtain ⟨jb, u, D, S, a1, a2, a3, a4, a5⟩ := h.br.ex
  exact ⟨⟨⟨jb, u, D, S, a1, a2, a3, a4, a5.weak (fun _ hz => hz) hn⟩, h.br.lt⟩, h.up, h.ab, h.ck⟩
theorem Ckk.quiet (h : Ckk w0 id sec m n kb b K wr) (u : Upd [] [] wr w1) : Ckk w0 id sec m n kb b K w1 := by
  rcases h with h | h
  · exact .inl (h.quiet u)
  · exact .inr (h.quiet u)
theorem Ckk.mono (h : Ckk w0 id sec m n kb b K wr) {n' : Nat} (hn : n ≤ n') : Ckk w0 id sec m n' kb b K wr := by
  rcases h with h | h
  · exact .inl (h.mono hn)
  · exact .inr (h.mono hn)
theorem Ckk.up (h : Ckk w0 id sec m n kb b K wr) : Upd [] [] w0 wr := by
  rcases h with h | h
  · exact h.up
  · exact h.up
theorem Ckk.lt (h : Ckk w0 id sec m n kb b K wr) : ∀ k, k ∈ K → k < wr.heap.size := by
  rcases h with h | h
  · obtain ⟨_, _, _, _, _, _, rfl, hs, _⟩ := h.ex
    exact hs.lt
  · exact h.br.lt
theorem Ckk.above (h : Ckk w0 id sec m n kb b K wr) : Above w0.heap.size K := by
  rcases h with h | h
  · obtain ⟨_, _, _, _, _, _, rfl, hs, _⟩ := h.ex
    exact hs.above
  · exact h.ab
theorem Ckk.ck (h : Ckk w0 id sec m n kb b K wr) : ChK id sec m := by
  rcases h with h | h
  · obtain ⟨_, _, _, _, _, _, _, _, hh, _⟩ := h.ex
    exact hh.chain
  · exact h.ck
theorem Ckk.body (h : Ckk w0 id sec m n kb b K wr) : ∃ jb v br, KBody wr kb jb m v br := by
  rcases h with h | h
  · obtain ⟨_, _, _, _, _, _, _, hs, _⟩ := h.ex
    exact ⟨_, _, _, hs.body⟩
  · obtain ⟨_, _, _, _, a1, _⟩ := h.br.ex
    exact ⟨_, _, _, a1⟩
theorem Ckk.ok (h : Ckk w0 id sec m n kb b K wr) : m.ok := by
  obtain ⟨_, _, _, hb⟩ := h.body
  exact hb.ok
theorem Liv.fell {jb : Nat} {D : DiskM} {F : List UInt8} {rs : List (List UInt8)} {S : List Nat} {v : Value} (hst : KSt w0 w0.heap.size kb jb b D F rs S m v wr) (hh : Hist id sec rs m) (hsp : spaceL rs ≤ 500 * (n + 1))
    (e : Ev) (he : m.step e = some m2) (hp : Pre m m2) (hl : (recE e).length ≤ 440) (h : KFell w0 w0.heap.size kb jb b D F (recE e) S m v wr w1) :
    ∃ K', Brk w0 id sec m (n + 1) kb b K' w1 ∧ Upd (kF kb jb v S) K' wr w1 := by
  obtain ⟨D', S', hbr, hup, _, _, _⟩ := h
  have hr := hst.j.recs
  have hr2 : recsL (F ++ frameL (recE e)) = (rs ++ [recE e], true) := recs_snoc _ (by omega) F.length F rs (Nat.le_refl _) hr
  have hco : CrashOk D' id sec (n + 1) (Pre m) := by
    refine ⟨hbr.may.ok, fun sv => ?_⟩
    rcases hbr.may.crashed sv with h1 | h1
    · exact ⟨F, rs, m, Pre.refl m, h1, hr, hh, by omega⟩
    · exact ⟨_, _, m2, hp, h1, hr2, hh.snoc e he hl, by rw [spaceL_snoc]; omega⟩
  refine ⟨_, ⟨⟨⟨jb, v, D', S', hbr.body, fun x hx => ?_, hbr.d, fun k hk => ⟨by simp [kF, hk], fun hm => ?_⟩, hco⟩, fun k hk => ?_⟩, hbr.up, hbr.above, hh.chain⟩, hup⟩
  · simp only [kF, List.mem_cons, List.mem_append] at hx ⊢
    rcases hx with hx | hx
    · exact .inl hx
    · exact .inr (.inl hx)
  · rcases List.mem_cons.1 hm with q | q
    · exact hbr.kS (by rw [← q]; simp [hk])
    · exact hbr.vS k q (by simp [hk])
  · simp only [kF, List.mem_cons, List.mem_append] at hk
    rcases hk with rfl | hk | rfl | hk
    · exact hbr.body.lt
    · exact hbr.body.vlt k hk
    · exact hbr.jlt
    · exact hbr.d.lt k hk
def SellCk (w0 : World) (id sec : Int) (m : KM) (n kb b : Nat) (K : List Nat) (w : World) (e : Ending) (w' : World) : Prop :=
  ∃ (y : Rc) (x : Int) (m' : KM) (K' : List Nat), e = .returned (.tuple #[.agg (rcV y).toArray, .int .i64 x]) ∧ Hid y.ok ∧ Upd K K' w w' ∧ Hid (Ckk w0 id sec m' (n + 1) kb b K' w' ∧ Pre m m' ∧ (x = 0 → y ∈ m'.rs))
theorem Ckk.sell (h : Ckk w0 id sec m n kb b K wr) (d : ByteArray) (hs : List UInt8) (hd : d.size ≤ 9223372036854775807) (hl : hs.length = 32) (hn : n ≤ 1000) (htab : Tabs w0) :
    Calls Tryz.prog 8 #[.pointer (some ⟨kb, 0, none⟩), .string d, .agg (byteVals hs).toArray] wr (SellCk w0 id sec m n kb b K wr) := by
  rcases h with h | h
  · obtain ⟨jb, D, F, rs, S, v, rfl, hst, hh, hc, hsp⟩ := h.ex
    by_cases he : refE m (bs d) = 0
    · have hlen : (recE (.sel (nextK m d hs))).length ≤ 440 := Nat.le_trans (rec_sel_len (nextK_ok hst.body.ok hl) (nameOk_size (refE_zero he).1)) (by omega)
      have hm : m.step (.sel (nextK m d hs)) = some (m.sold (nextK m d hs)) := step_sold he hl
      have hp : Pre m (m.sold (nextK m d hs)) := ⟨[nextK m d hs], rfl⟩
      refine (Sell_go hst d hs hl he (by omega) (by omega) (htab.upd hst.up)).mono ?_
      rintro e w' (⟨rfl, hk⟩ | ⟨rfl, hk⟩)
      · obtain ⟨D', S', v', hst', hup, _, hc'⟩ := hk
        refine ⟨_, 0, _, _, rfl, nextK_ok hst.body.ok hl, hup, .inl ⟨⟨jb, D', _, _, S', v', rfl, hst', hh.snoc (.sel (nextK m d hs)) hm hlen, by omega, ?_⟩⟩, hp, fun _ => ?_⟩
        · have := spaceL_snoc rs (recE (.sel (nextK m d hs)))
          show spaceL (rs ++ [recE (.sel (nextK m d hs))]) ≤ _
          omega
        · show nextK m d hs ∈ m.rs ++ [nextK m d hs]
          simp
      · obtain ⟨K', k1, k2⟩ := Liv.fell hst hh hsp (.sel (nextK m d hs)) hm hp hlen hk
        exact ⟨_, 70, m, K', rfl, Rc.zero_ok, k2, .inr k1, Pre.refl m, fun h => by omega⟩
    · refine (Sell_no hst.body d _ hd (refE m (bs d)) rfl he).mono ?_
      rintro e w' ⟨rfl, hu⟩
      exact ⟨_, refE m (bs d), m, _, rfl, Rc.zero_ok, hu.quietTo, .inl ((h.quiet hu).mono (by omega)), Pre.refl m, fun h => absurd h he⟩
  · obtain ⟨jb, v, D, S, a1, _⟩ := h.br.ex
    refine (Sell_broken a1 d _).mono ?_
    rintro e w' ⟨rfl, hu⟩
    exact ⟨_, 70, m, _, rfl, Rc.zero_ok, hu.quietTo, .inr ((h.quiet hu).mono (by omega)), Pre.refl m, fun h => by omega⟩
def LearnCk (w0 : World) (id sec : Int) (m : KM) (n kb b : Nat) (K : List Nat) (w : World) (e : Ending) (w' : World) : Prop :=
  ∃ (x : Int) (m' : KM) (K' : List Nat), e = .returned (.int .i64 x) ∧ Upd K K' w w' ∧ Hid (Ckk w0 id sec m' (n + 1) kb b K' w' ∧ Pre m m')
theorem Ckk.learn (h : Ckk w0 id sec m n kb b K wr) (r : Int) (hs : List UInt8) (hr : i64in r) (hl : hs.length = 32) (hn : n ≤ 1000) (htab : Tabs w0) :
    Calls Tryz.prog 10 #[.pointer (some ⟨kb, 0, none⟩), .int .i64 r, .agg (byteVals hs).toArray] wr (LearnCk w0 id sec m n kb b K wr) := by
  rcases h with h | h
  · obtain ⟨jb, D, F, rs, S, v, rfl, hst, hh, hc, hsp⟩ := h.ex
    by_cases he : learnE m r hs = -1
    · have hb : 1 ≤ r ∧ r ≤ 1000000000 ∧ (m.round : Int) < r := by
        unfold learnE at he
        split at he
        · omega
        · split at he
          · omega
          · split at he
            · split at he <;> omega
            · omega
      obtain ⟨h1, h2, h3⟩ := hb
      obtain ⟨q, hq⟩ : ∃ q : Nat, (q : Int) = r := ⟨r.toNat, by omega⟩
      subst hq
      have hm := (KM.lrn_ok hst.body.ok (show m.round < q by omega) (by omega) hl).2
      have hlen := rec_lrn_len q (by omega) hs hl
      have hp : Pre m (m.lrn q hs) := ⟨[], by show m.rs = _; simp⟩
      refine (Learn_go hst q hs hl (by omega) (by omega) (by omega) (by omega) (htab.upd hst.up)).mono ?_
      rintro e w' (⟨rfl, hk⟩ | ⟨rfl, hk⟩)
      · obtain ⟨D', S', v', hst', hup, _, hc'⟩ := hk
        refine ⟨0, _, _, rfl, hup, .inl ⟨⟨jb, D', _, _, S', v', rfl, hst', hh.snoc (.lrn q hs) hm (by omega), by omega, ?_⟩⟩, hp⟩
        have := spaceL_snoc rs (recE (.lrn q hs))
        omega
      · obtain ⟨K', k1, k2⟩ := Liv.fell hst hh hsp (.lrn q hs) hm hp (by omega) hk
        exact ⟨70, m, K', rfl, k2, .inr k1, Pre.refl m⟩
    · refine (Learn_no hst.body r hs hr hl (learnE m r hs) rfl he).mono ?_
      rintro e w' ⟨rfl, hu⟩
      exact ⟨learnE m r hs, m, _, rfl, hu.quietTo, .inl ((h.quiet hu).mono (by omega)), Pre.refl m⟩
  · obtain ⟨jb, v, D, S, a1, _⟩ := h.br.ex
    refine (Learn_broken a1 r _).mono ?_
    rintro e w' ⟨rfl, hu⟩
    exact ⟨70, m, _, rfl, hu.quietTo, .inr ((h.quiet hu).mono (by omega)), Pre.refl m⟩
theorem Ckk.fail (h : Ckk w0 id sec m n kb b K wr) (z : Int) (hz : z ≤ 1000) :
    Calls Tryz.prog 11 #[.pointer (some ⟨b, 0, none⟩), .int .i64 z] wr (fun e w' => e = .returned (.tuple #[]) ∧ Hid (Ckk w0 id sec m n kb b K w') ∧ Upd K K wr w') := by
  rcases h with h | h
  · obtain ⟨jb, D, F, rs, S, v, rfl, hs, hh, r1, r2⟩ := h.ex
    refine (Fail_any b D S z wr hs.j.d).mono ?_
    rintro e w' ⟨rfl, hd, hu⟩
    have hup : Upd (kF kb jb v S) (kF kb jb v S) wr w' := hu.widen (fun k hk => by simp [kF, hk])
    have hju : Upd (jb :: S) (jb :: S) wr w' := hu.widen (fun k hk => by simp [hk])
    exact ⟨rfl, .inl ⟨⟨jb, D.fail z, F, rs, S, v, rfl, hs.jour hju (hs.j.disk hd hu (hs.j.clean.fail z (by omega))), hh, r1, r2⟩⟩, hup⟩
  · obtain ⟨jb, u, D, S, a1, a2, a3, a4, a5⟩ := h.br.ex
    refine (Fail_any b D S z wr a3).mono ?_
    rintro e w' ⟨rfl, hd, hu⟩
    have ho := a5.ok
    have hup : Upd K K wr w' := hu.widen (fun k hk => (a4 k hk).1)
    refine ⟨rfl, .inr ⟨⟨⟨jb, u, D.fail z, S, a1.kept hu (fun k => (a4 _ k).2 (by simp)) (fun x hx k => (a4 _ k).2 (by simp [hx])), a2, hd, a4, ⟨⟨ho.now, ho.synced, ho.parts, ho.many, ho.calls, ?_⟩, fun sv => a5.all sv⟩⟩, fun k hk => Nat.lt_of_lt_of_le (h.br.lt k hk) hu.size⟩, h.up.past hup h.ab, h.ab, h.ck⟩, hup⟩
    show z.toNat ≤ 9223372036854775807
    omega
structure Crd (w0 wr : World) (id sec : Int) (m : KM) (n b1 : Nat) (w1 : World) : Prop where
  ex : ∃ S1 D1 F rs m', DiskOk w0 w0.heap.size b1 D1 S1 w1 ∧ JClean D1 F ∧ recsL F = (rs, true) ∧ Hist id sec rs m' ∧ spaceL rs ≤ 500 * (n + 1) ∧ Pre m m' ∧ D1.failing = false ∧ D1.calls = 0 ∧ ∀ k, k ∈ S1 → wr.heap.size ≤ k
  up : Upd [] [] wr w1
theorem Crd.quiet {w2 : World} {b1 : Nat} (h : Crd w0 wr id sec m n b1 w1) (u : Upd [] [] w1 w2) : Crd w0 wr id sec m n b1 w2 := by
  obtain ⟨S1, D1, F, rs, m', h1, h2⟩ := h.ex
  exact ⟨⟨S1, D1, F, rs, m', h1.quiet u, h2⟩, h.up.trans u⟩
theorem Ckk.crash (h : Ckk w0 id sec m n kb b K wr) (v : Value) (sv : List Int) (hI : IntsAt wr v sv) :
    Calls Tryz.prog 12 #[.pointer (some ⟨b, 0, none⟩), v] wr (fun e w1 => ∃ b1, e = .returned (.pointer (some ⟨b1, 0, none⟩)) ∧ Hid (Crd w0 wr id sec m n b1 w1)) := by
  have hup := h.up
  obtain ⟨D, S, hd, hco⟩ : ∃ D S, DiskAt wr b D S ∧ CrashOk D id sec n (Pre m) := by
    rcases h with h | h
    · obtain ⟨jb, D, F, rs, S, v, rfl, hs, hh, r1, r2⟩ := h.ex
      exact ⟨D, S, hs.j.d, ⟨hs.j.clean.ok, fun sv => ⟨F, rs, m, Pre.refl m, hs.j.clean.crashed sv, hs.j.recs, hh, r2⟩⟩⟩
    · obtain ⟨jb, u, D, S, a1, a2, a3, a4, a5⟩ := h.br.ex
      exact ⟨D, S, a3, a5⟩
  have hbelow : Below w0.heap.size w0 wr := ⟨hup.os, hup.tape, hup.output, hup.size, fun k hk => hup.block k hk (by simp)⟩
  obtain ⟨F, rs, m', hA, hcl, hrec, hh, hsp⟩ := hco.all sv
  refine (Crash_to b D S v sv wr hd hI hco.ok).mono ?_
  rintro e w1 ⟨b1, S1, rfl, hd1, hu1⟩
  exact ⟨b1, rfl, ⟨S1, D.crash sv, F, rs, m', DiskOk.start hbelow hup.size hd1 hu1, hcl, hrec, hh, hsp, hA, rfl, rfl, fun k hk => by
    rcases hu1.new k hk with g | g
    · simp at g
    · exact g⟩, hu1.dropS⟩
theorem Crd.open {b1 : Nat} (h : Crd w0 wr id sec m n b1 w1) (i1 : i64in id) (i2 : i64in sec) (htab : Tabs w0) :
    Calls Tryz.prog 7 #[.int .i64 id, .int .i64 sec, .int .i64 0, .pointer (some ⟨b1, 0, none⟩)] w1 (fun e w' => ∃ kb m' K', e = .returned (.tuple #[.pointer (some ⟨kb, 0, none⟩), .int .i64 0]) ∧ Hid (Ckk w0 id sec m' n kb b1 K' w' ∧ Pre m m' ∧ Upd [] [] wr w' ∧ ∀ k, k ∈ K' → wr.heap.size ≤ k)) := by
  obtain ⟨S1, D1, F, rs, m', hd, hcl, hrec, hh, hsp, hp, hf, hc, hn⟩ := h.ex
  refine (Open_old id sec 0 i1 i2 (by decide) (by decide) hd hcl hrec hh hf (by omega) htab rfl).mono ?_
  rintro e w' ⟨kb, jb, S', v, D', rfl, hst, hup, hf', hc'⟩
  exact ⟨kb, m', _, rfl, .inl ⟨⟨jb, D', F, rs, S', v, rfl, hst, hh, by omega, hsp⟩⟩, hp, h.up.past hup hn, fun k hk => by
    rcases hup.new k hk with g | g
    · exact hn k g
    · exact Nat.le_trans h.up.size g⟩
theorem Ckk.first {wp : World} {S : List Nat} (p : Nat) (i1 : i64in id) (i2 : i64in sec) (hp : p ≤ 1000000000) (hu : Upd [] [] w0 w1) (hd : DiskAt wp b .empty S) (hu2 : Upd [] S w1 wp) (htab : Tabs w0) :
    Calls Tryz.prog 7 #[.int .i64 id, .int .i64 sec, .int .i64 (p : Int), .pointer (some ⟨b, 0, none⟩)] wp (fun e w' => ∃ kb K', e = .returned (.tuple #[.pointer (some ⟨kb, 0, none⟩), .int .i64 0]) ∧ Hid (Ckk w0 id sec (KM.new id sec p) 0 kb b K' w')) := by
  have hb1 : Below w0.heap.size w0 w1 := ⟨hu.os, hu.tape, hu.output, hu.size, fun k hk => hu.block k hk (by simp)⟩
  have hd' := DiskOk.start hb1 hu.size hd hu2
  have u2 : Upd [] [] w0 wp := ⟨hd'.below.os, hd'.below.tape, hd'.below.output, hd'.below.size, fun k hk _ => hd'.below.block k hk, fun _ hk => by simp at hk⟩
  refine (Open_new id sec p i1 i2 hp hd' JClean.empty rfl (by decide) u2 htab rfl).mono ?_
  rintro e w' ⟨kb, jb, S', v, D', rfl, hst, hup, hf, hc⟩
  refine ⟨kb, _, rfl, .inl ⟨⟨jb, D', _, _, S', v, rfl, hst, Hist.new id sec p hp, ?_, ?_⟩⟩⟩
  · have : DiskM.empty.calls = 0 := rfl
    omega
  · have := rec_pap_len p hp
    show (recP p).length + 16 + 0 ≤ _
    omega
theorem Ckk.batch (h : Ckk w0 id sec m n kb b K wr) : Calls Tryz.prog 13 #[.pointer (some ⟨kb, 0, none⟩), .int .i64 0] wr (MkBat m.id m.rs wr) := by
  obtain ⟨_, _, _, hb⟩ := h.body
  exact Batch_any hb 0 0 (by unfold i64in; omega) (Nat.zero_le _) (fun _ => rfl) (fun h => by omega)
end
end Go.Proofs.YtinpenoeohejoaaGreatDoor

namespace Go.Proofs.YtinpenoeohejoaaGreatDoor
open Go.RowKit
set_option maxRecDepth 100000

section
variable {w0 wr w1 : World} {id sec : Int} {m m2 : KM} {n kb b : Nat} {K T T' : List Nat}
theorem Liv.other (h : Liv w0 id sec m n kb b K wr) (u : Upd T T' wr w1) (hT : Above w0.heap.size T) (hd : ∀ k, k ∈ K → k ∉ T) : Liv w0 id sec m n kb b K w1 := by
  obtain ⟨jb, D, F, rs, S, v, rfl, hs, r⟩ := h.ex
  exact ⟨⟨jb, D, F, rs, S, v, rfl, hs.other u hT hd, r⟩⟩
theorem Ckk.other (h : Ckk w0 id sec m n kb b K wr) (u : Upd T T' wr w1) (hT : Above w0.heap.size T) (hd : ∀ k, k ∈ K → k ∉ T) : Ckk w0 id sec m n kb b K w1 := by
  rcases h with h | h
  · exact .inl (h.other u hT hd)
  · exact .inr ⟨h.br.kept u hd, h.up.past u hT, h.ab, h.ck⟩
end
structure CkI (w0 : World) (sec : Int) (n kb b : Nat) (K : List Nat) (m : KM) (v : Value) (l : List Rc) (wr : World) : Prop where
  ck : Ckk w0 70 sec m n kb b K wr
  row : wr.ownsRow 0 41 102 v l.length (rcVals l)
  sub : ∀ x, x ∈ l → x ∈ m.rs
  off : ∀ k, k ∈ foot v → k ∉ K
  new : ∀ k, k ∈ foot v → w0.heap.size ≤ k
  len : l.length ≤ 2001 * n
theorem row_keep {w w' : World} {S S' : List Nat} {v : Value} {k : Nat} {l : List Value} (h : w.ownsRow 0 41 102 v k l) (u : Upd S S' w w') (hd : ∀ x, x ∈ foot v → x ∉ S) : w'.ownsRow 0 41 102 v k l :=
  row_same h fun x hx => u.block x (row_foot_lt h x hx) (hd x hx)
section
variable {w0 wr w1 : World} {sec : Int} {m m2 : KM} {n kb b : Nat} {K K' : List Nat} {v : Value} {l : List Rc}
theorem CkI.quiet (h : CkI w0 sec n kb b K m v l wr) (u : Upd [] [] wr w1) : CkI w0 sec n kb b K m v l w1 :=
  ⟨h.ck.quiet u, row_keep h.row u (by simp), h.sub, h.off, h.new, h.len⟩
theorem CkI.step (h : CkI w0 sec n kb b K m v l wr) (u : Upd K K' wr w1) (hc : Ckk w0 70 sec m2 (n + 1) kb b K' w1) (hp : Pre m m2) : CkI w0 sec (n + 1) kb b K' m2 v l w1 :=
  ⟨hc, row_keep h.row u h.off, fun x hx => hp.mem (h.sub x hx), fun k hk hm => by
    rcases u.new k hm with q | q
    · exact h.off k hk q
    · have := row_foot_lt h.row k hk; omega, h.new, by have := h.len; omega⟩
theorem CkI.lt (h : CkI w0 sec n kb b K m v l wr) : ∀ k, k ∈ foot v → k < wr.heap.size := row_foot_lt h.row
theorem CkI.ok (h : CkI w0 sec n kb b K m v l wr) : m.ok := h.ck.ok
theorem CkI.more {v' : Value} {l2 : List Rc} (h : CkI w0 sec n kb b K m v l wr) (u : Upd (foot v) (foot v') wr w1) (hr : w1.ownsRow 0 41 102 v' (l ++ l2).length (rcVals (l ++ l2))) (hs : ∀ x, x ∈ l2 → x ∈ m.rs) (hl : (l ++ l2).length ≤ 2001 * n) : CkI w0 sec n kb b K m v' (l ++ l2) w1 :=
  ⟨h.ck.other u h.new (fun k hk hm => h.off k hm hk), hr, fun x hx => by
    rcases List.mem_append.1 hx with hx | hx
    · exact h.sub x hx
    · exact hs x hx, fun k hk hm => by
    rcases u.new k hk with q | q
    · exact h.off k q hm
    · have := h.ck.lt k hm; omega, fun k hk => by
    rcases u.new k hk with q | q
    · exact h.new k q
    · exact Nat.le_trans h.ck.up.size q, hl⟩
theorem CkI.mono {n' : Nat} (h : CkI w0 sec n kb b K m v l wr) (hn : n ≤ n') : CkI w0 sec n' kb b K m v l wr := ⟨h.ck.mono hn, h.row, h.sub, h.off, h.new, by have := h.len; have := Nat.mul_le_mul_left 2001 hn; omega⟩
theorem CkI.reopen {kb2 b2 : Nat} (h : CkI w0 sec n kb b K m v l wr) (hc : Ckk w0 70 sec m2 n kb2 b2 K' w1) (hp : Pre m m2) (u : Upd [] [] wr w1) (hn : ∀ k, k ∈ K' → wr.heap.size ≤ k) : CkI w0 sec n kb2 b2 K' m2 v l w1 :=
  ⟨hc, row_keep h.row u (by simp), fun x hx => hp.mem (h.sub x hx), fun k hk hm => by have := hn k hm; have := h.lt k hk; omega, h.new, h.len⟩
end
theorem append_nosrc {P : Program} (w : World) (base : Nat) (t ty e : TypeId) (i : TypeInfo) (size : Nat) (ht : P.underlying t = some (.slice e)) (hi : P.info? e = some i)
    (v : Value) (n : Nat) (xs : List Value) (hown : w.ownsRow base e size v n xs) (c : Nat) : (Builtin.append_ #[t, t] ty #[v, .slice none 0 c]).run P w = .ok v w := by
  rcases hown.2 with ⟨rfl, rfl⟩ | ⟨g, cap, cur, rfl, _, _, hnc, _⟩
  · simp [Builtin.append_, run_underlying ht, sizeOf, typeInfo, hi, Builtin.lenOf, Builtin.firstCells]
  · simp [Builtin.append_, run_underlying ht, sizeOf, typeInfo, hi, Builtin.lenOf, Builtin.firstCells, hnc, storeCells]
theorem append_rcs (w : World) (v : Value) (l l2 : List Rc) (ao : Option Addr) (cap : Nat) (hown : w.ownsRow 0 41 102 v l.length (rcVals l)) (h : RcsIn w ao l2) (hk : l.length + l2.length ≤ 1000000000) :
    ∃ v' w', (Builtin.append_ #[33, 33] 33 #[v, .slice ao l2.length cap]).run Tryz.prog w = .ok v' w' ∧ w'.ownsRow 0 41 102 v' (l ++ l2).length (rcVals (l ++ l2)) ∧ Upd (foot v) (foot v') w w' := by
  obtain ⟨i, hi, hz, hs, hb⟩ := rcI
  have happ : rcVals (l ++ l2) = rcVals l ++ rcVals l2 := by simp [rcVals]
  cases ao with
  | none =>
    cases l2 with
    | nil =>
      refine ⟨v, w, append_nosrc w 0 _ _ 41 i 102 Tryz.underlying33 hi v l.length _ hown cap, by rw [List.append_nil]; exact hown, Upd.refl _ _⟩
    | cons x r =>
      obtain ⟨_, _, g0, o, e, _⟩ := h 0 x rfl
      cases e
  | some ad =>
    have hok : ∀ y ∈ l2, y.ok := fun y hy => by
      obtain ⟨k, hk⟩ := List.mem_iff_getElem?.1 hy
      exact (h k y hk).1
    have hlen := rcVals_len2 l2 hok
    obtain ⟨v', w', hrun, hown', hup'⟩ := append_block (P := Tryz.prog) w 33 33 41 i _ 102 152 Tryz.underlying33 hi hz hs hb (by show (rcV Rc.zero).toArray.size = 102; simp [rcV_len Rc.zero_ok]) (by omega) v l.length _ hown ad l2.length cap (rcVals l2) hlen (by
      intro j u hv
      have hj := (List.getElem?_eq_some_iff.1 hv).1
      have hk2 : j / 102 < l2.length := by rw [hlen] at hj; omega
      obtain ⟨y, hy⟩ : ∃ y, l2[j / 102]? = some y := ⟨_, List.getElem?_eq_getElem hk2⟩
      obtain ⟨hyo, _, g1, o1, e, _, hr⟩ := h _ y hy
      injection e with e
      subst e
      have hm : j % 102 < (rcV y).length := by rw [rcV_len hyo]; omega
      obtain ⟨u2, hu⟩ : ∃ u, (rcV y)[j % 102]? = some u := ⟨_, List.getElem?_eq_getElem hm⟩
      have e1 := rcVals_get2 l2 _ y hok hy _ u2 hu
      rw [show j / 102 * 102 + j % 102 = j by omega, hv] at e1
      injection e1 with e1
      subst e1
      have e2 : (⟨g1, o1, none⟩ : Addr).add j = ⟨g1, o1 + j, none⟩ := by simp [Addr.add]
      rw [e2]
      have := hr (j % 102) u hu
      rw [show o1 + j / 102 * 102 + j % 102 = o1 + j by omega] at this
      exact this) (by
      intro u hu
      simp only [rcVals, List.mem_flatMap] at hu
      obtain ⟨y, hy, hu⟩ := hu
      exact rcV_one y u hu) (by omega) (by simp only [maxLen]; omega)
    refine ⟨v', w', hrun, ?_, hup'⟩
    rw [happ, List.length_append]
    exact hown'
theorem seen_mono {id sec : Int} {m : KM} (h : ChK id sec m) : ∀ (d p : Nat) (x y : Rc), m.rs[p]? = some x → m.rs[p + d]? = some y → x.seen ≤ y.seen
  | 0, p, x, y, hx, hy => by rw [Nat.add_zero, hx] at hy; cases hy; exact Int.le_refl _
  | d + 1, p, x, y, hx, hy => by
    obtain ⟨z, hz⟩ : ∃ z, m.rs[p + d]? = some z := ⟨_, List.getElem?_eq_getElem (by have := (List.getElem?_eq_some_iff.1 hy).1; omega)⟩
    have h1 := seen_mono h d p x z hx hz
    have h2 := h.mono (p + d) z y hz (by rw [← hy]; rfl)
    omega
theorem judge_law {id sec : Int} {m : KM} (h : ChK id sec m) (ho : m.ok) {x y : Rc} (hx : x ∈ m.rs) (hy : y ∈ m.rs) : (y.serial > x.serial → ¬ y.seen < x.seen) ∧ (x.serial = y.serial → x = y) := by
  obtain ⟨p, hp⟩ := List.mem_iff_getElem?.1 hx
  obtain ⟨q, hq⟩ := List.mem_iff_getElem?.1 hy
  have s1 := ho.serial p x hp
  have s2 := ho.serial q y hq
  refine ⟨fun hlt => ?_, fun he => ?_⟩
  · have hpq : p < q := by omega
    have := seen_mono h (q - p) p x y hp (by rw [show p + (q - p) = q by omega]; exact hq)
    omega
  · have : p = q := by omega
    subst this
    rw [hp] at hq
    cases hq
    rfl
end Go.Proofs.YtinpenoeohejoaaGreatDoor
