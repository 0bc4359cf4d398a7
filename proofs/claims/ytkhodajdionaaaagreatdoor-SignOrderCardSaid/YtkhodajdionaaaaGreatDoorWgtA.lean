/- sign.Weight: the members that were handed over, and its first loop. -/
import Derived.Test.YtkhodajdionaaaaGreatDoorMapI
import Derived.Test.YtkhodajdionaaaaGreatDoorOrdP
import Derived.Test.YtkhodajdionaaaaGreatDoorSgnC
import Derived.Test.YtkhodajdionaaaaGreatDoorSanS
namespace Go.Proofs.YtkhodajdionaaaaGreatDoor
open Go.RowKit Go.Maps
set_option maxRecDepth 100000

/-- A member as a value. -/
def memV (m : Mem) : Value := .agg #[.int .i64 m.id, .int .i64 m.weight, .int .i64 m.pub]
/-- The numbers are ints. -/
def Mem.ok (m : Mem) : Prop := i64in m.id ∧ i64in m.weight ∧ i64in m.pub
/-- Members, one behind the other, from block g on. -/
def MemsIn (w : World) (ao : Option Addr) (l : List Mem) : Prop :=
  ∀ k m, l[k]? = some m → m.ok ∧ ∃ g, ao = some ⟨g, 0, none⟩ ∧ g < w.heap.size ∧ w.cell? ⟨g, k * 3, none⟩ = some (.int .i64 m.id) ∧ w.cell? ⟨g, k * 3 + 1, none⟩ = some (.int .i64 m.weight) ∧ w.cell? ⟨g, k * 3 + 2, none⟩ = some (.int .i64 m.pub)
/-- A vote as it lies. -/
structure VtV where
  who : Int
  text : ByteArray
  r : Int
  s : Int
/-- What it says. -/
def VtV.plain (v : VtV) : Vt := ⟨v.who, bs v.text, v.r, v.s⟩
def VtV.ok (v : VtV) : Prop := i64in v.who ∧ v.text.size ≤ 140737488355000 ∧ i64in v.r ∧ i64in v.s
/-- Votes, one behind the other. -/
def VotesIn (w : World) (ao : Option Addr) (l : List VtV) : Prop :=
  ∀ k v, l[k]? = some v → v.ok ∧ ∃ g, ao = some ⟨g, 0, none⟩ ∧ g < w.heap.size ∧ w.cell? ⟨g, k * 4, none⟩ = some (.int .i64 v.who) ∧ w.cell? ⟨g, k * 4 + 1, none⟩ = some (.string v.text) ∧ w.cell? ⟨g, k * 4 + 2, none⟩ = some (.int .i64 v.r) ∧ w.cell? ⟨g, k * 4 + 3, none⟩ = some (.int .i64 v.s)
theorem MemsIn.upd {w w' : World} {ao : Option Addr} {l : List Mem} (h : MemsIn w ao l) (u : Upd [] [] w w') : MemsIn w' ao l := by
  intro k m hm
  obtain ⟨ho, g, e, hg, h0, h1, h2⟩ := h k m hm
  have hb := u.block g hg (by simp)
  exact ⟨ho, g, e, Nat.lt_of_lt_of_le hg u.size, (World.cell?_of_block (a := ⟨g, _, none⟩) hb).trans h0, (World.cell?_of_block (a := ⟨g, _, none⟩) hb).trans h1, (World.cell?_of_block (a := ⟨g, _, none⟩) hb).trans h2⟩
theorem VotesIn.upd {w w' : World} {ao : Option Addr} {l : List VtV} (h : VotesIn w ao l) (u : Upd [] [] w w') : VotesIn w' ao l := by
  intro k m hm
  obtain ⟨ho, g, e, hg, h0, h1, h2, h3⟩ := h k m hm
  have hb := u.block g hg (by simp)
  exact ⟨ho, g, e, Nat.lt_of_lt_of_le hg u.size, (World.cell?_of_block (a := ⟨g, _, none⟩) hb).trans h0, (World.cell?_of_block (a := ⟨g, _, none⟩) hb).trans h1, (World.cell?_of_block (a := ⟨g, _, none⟩) hb).trans h2, (World.cell?_of_block (a := ⟨g, _, none⟩) hb).trans h3⟩

theorem zeroMem (w : World) : (zeroValue 81).run Tryz.prog w = .ok (.agg #[.int .i64 0, .int .i64 0, .int .i64 0]) w := by kernel_rfl
theorem zeroBool (w : World) : (zeroValue 4).run Tryz.prog w = .ok (.bool false) w := by kernel_rfl
/-- What the first k members make of the map. -/
def lookF (l : List Mem) (k : Nat) (x : Int) : Option Value := (look (l.take k) x).map memV
theorem lookF_zero (l : List Mem) : lookF l 0 = fun _ => none := rfl
theorem look_snoc (l : List Mem) (m : Mem) (x : Int) : look (l ++ [m]) x = match look l x with | some y => some y | none => if x = m.id then some m else none := by
  unfold look
  rw [List.find?_append]
  cases h : l.find? (fun m => m.id == x) with
  | some y => rfl
  | none =>
    by_cases hx : x = m.id
    · subst hx
      simp
    · have : (m.id == x) = false := beq_eq_false_iff_ne.2 (fun e => hx e.symm)
      simp [this, hx]
theorem lookF_has {l : List Mem} {k : Nat} {m y : Mem} (hm : l[k]? = some m) (h : look (l.take k) m.id = some y) : lookF l (k + 1) = lookF l k := by
  funext x
  unfold lookF
  rw [List.take_add_one, hm]
  simp only [Option.toList_some]
  rw [look_snoc]
  cases hx : look (l.take k) x with
  | some z => rfl
  | none =>
    by_cases e : x = m.id
    · rw [e, h] at hx
      cases hx
    · simp only [if_neg e]
theorem lookF_new {l : List Mem} {k : Nat} {m : Mem} (hm : l[k]? = some m) (h : look (l.take k) m.id = none) : lookF l (k + 1) = fun x => if x = m.id then some (memV m) else lookF l k x := by
  funext x
  unfold lookF
  rw [List.take_add_one, hm]
  simp only [Option.toList_some]
  rw [look_snoc]
  by_cases e : x = m.id
  · rw [e, h]
    simp
  · simp only [if_neg e]
    cases look (l.take k) x <;> rfl

theorem Upd.own {B : Nat} {a b c : World} (h : Upd [] [] a b) (k : Upd [B] [B] b c) (hB : a.heap.size ≤ B) : Upd [] [] a c :=
  ⟨k.os.trans h.os, k.tape.trans h.tape, k.output.trans h.output, Nat.le_trans h.size k.size, fun i hi _ => (k.block i (Nat.lt_of_lt_of_le hi h.size) (by simp; omega)).trans (h.block i hi (by simp)), fun _ hk => absurd hk (by simp)⟩
theorem row_updW {w w' : World} {g : Nat} {o : Obj} (h : w.heap[g]? = some o) (u : Upd [] [] w w') : w'.heap[g]? = some o := by
  rw [u.block _ (Array.getElem?_eq_some_iff.1 h).1 (by simp)]; exact h
/-- Who has voted. -/
def votedF (V : List Int) (x : Int) : Option Value := if V.contains x then some (.bool true) else none
theorem votedF_cons (V : List Int) (i : Int) : votedF (i :: V) = fun y => if y = i then some (.bool true) else votedF V y := by
  funext y
  unfold votedF
  rw [List.contains_cons]
  by_cases h : y = i
  · rw [if_pos h, beq_iff_eq.2 h]; rfl
  · rw [if_neg h, beq_eq_false_iff_ne.2 h, Bool.false_or]
theorem fold_next (l : List Mem) (t : List UInt8) {vs : List VtV} {j : Nat} {v : VtV} {st : List Int × Int} (hv : vs[j]? = some v) (h : ((vs.map VtV.plain).take j).foldl (stepW l t) ([], 0) = st) : ((vs.map VtV.plain).take (j + 1)).foldl (stepW l t) ([], 0) = stepW l t st v.plain := by
  rw [List.take_add_one, List.getElem?_map, hv, List.foldl_append, h]
  rfl

theorem look_ok {w : World} {ao : Option Addr} {l : List Mem} {x : Int} {m : Mem} (h : MemsIn w ao l) (hx : look l x = some m) : m.ok := by
  obtain ⟨k, hk⟩ := List.getElem?_of_mem (List.mem_of_find?_eq_some hx)
  exact (h k m hk).1
theorem wOk_no {m : Mem} (h : m.weight < 1 ∨ 20 < m.weight) : wOk m = false := by
  unfold wOk
  rcases h with h | h
  · rw [decide_eq_false (by omega), Bool.false_and]
  · rw [decide_eq_false (p := m.weight ≤ 20) (by omega), Bool.and_false]
theorem wOk_yes {m : Mem} (h : ¬ m.weight < 1) (h' : ¬ 20 < m.weight) : wOk m = true := by
  unfold wOk
  rw [decide_eq_true (by omega), decide_eq_true (by omega)]
  rfl
theorem stepW_none {l : List Mem} {t : List UInt8} {st : List Int × Int} {v : Vt} (h : look l v.who = none) : stepW l t st v = st := by
  unfold stepW
  rw [h]
theorem stepW_skip {l : List Mem} {t : List UInt8} {V : List Int} {x : Int} {v : Vt} {m : Mem} (h : look l v.who = some m) (hs : (V.contains m.id || !wOk m) = true) : stepW l t (V, x) v = (V, x) := by
  unfold stepW
  rw [h]
  show (if (V.contains m.id || !wOk m) = true then _ else _) = _
  rw [if_pos hs]
theorem stepW_bad {l : List Mem} {t : List UInt8} {V : List Int} {x : Int} {v : Vt} {m : Mem} (h : look l v.who = some m) (hb : (v.text == t && verB m.pub t v.r v.s) = false) : stepW l t (V, x) v = (V, x) := by
  unfold stepW
  rw [h]
  show (if (V.contains m.id || !wOk m) = true then _ else if (v.text == t && verB m.pub t v.r v.s) = true then _ else _) = _
  rw [hb, if_neg (by simp : ¬ false = true)]
  split <;> rfl
theorem stepW_good {l : List Mem} {t : List UInt8} {V : List Int} {x : Int} {v : Vt} {m : Mem} (h : look l v.who = some m) (hc : V.contains m.id = false) (hw : wOk m = true) (hb : (v.text == t && verB m.pub t v.r v.s) = true) : stepW l t (V, x) v = (m.id :: V, x + m.weight) := by
  unfold stepW
  rw [h]
  show (if (V.contains m.id || !wOk m) = true then _ else if (v.text == t && verB m.pub t v.r v.s) = true then _ else _) = _
  rw [hb, hc, hw, if_pos rfl]
  rfl

set_option maxHeartbeats 4000000 in
theorem weight_any (l : List Mem) (vs : List VtV) (t : ByteArray) (ao av : Option Addr) (ca cv : Nat) (w : World) (hm : MemsIn w ao l) (hv : VotesIn w av vs) (hl : l.length ≤ 1000) (hvl : vs.length ≤ 1000) (hca : l.length ≤ ca) (_hcv : vs.length ≤ cv) (ht : t.size ≤ 140737488355000) (htab : Tabs w) :
    Calls Tryz.prog 29 #[.slice ao l.length ca, .slice av vs.length cv, .string t] w (fun e w' => ∃ x : Int, Hid (x = weightL l (vs.map VtV.plain) (bs t)) ∧ e = .returned (.int .i64 x) ∧ Upd [] [] w w') := by
  obtain ⟨n, hn⟩ : ∃ n, l.length = n := ⟨_, rfl⟩
  rw [hn]
  have HN := Lib.hid hn
  have hn1 : n ≤ 1000 := by omega
  have hca1 : n ≤ ca := by omega
  clear hn
  have HM := Lib.hid hm
  have HV := Lib.hid hv
  clear hm hv
  have hmm := @run_makeMap Tryz.prog
  go_enter Tryz.func29, Tryz.ntmps29
  go_wp2_with fail
  go_loopw [21] (fun i wr => ∃ k : Nat, i = .int .i64 (k : Int) ∧ k ≤ n ∧ Hid (MapF wr w.heap.size k (lookF l k)) ∧ Hid (Upd [] [] w wr)) (fun i _ => n - (intOf i).toNat)
  case atStart => exact ⟨0, rfl, Nat.zero_le _, MapF.made w, (Upd.refl _ _).alloc _⟩
  case round =>
    obtain ⟨k, rfl, hk, HF, HUP⟩ := hrel
    by_cases hlt : k < n
    · obtain ⟨m, hmk⟩ : ∃ m, l[k]? = some m := ⟨_, List.getElem?_eq_getElem (by rw [HN.out]; exact hlt)⟩
      obtain ⟨⟨o0, o1, o2⟩, g, rfl, hg, c0, c1, c2⟩ := (HM.out.upd HUP.out) k m hmk
      have HMK := Lib.hid hmk
      clear hmk
      have HF1 := Lib.hid (HF.out.upd ((Upd.refl [] wr).alloc (.cells #[.int .i64 m.id, .int .i64 m.weight, .int .i64 m.pub] 81)) (by simp))
      have hlk := HF1.out.look_ok (x := m.id) Tryz.underlying85 (zeroMem _) o0
      unfold lookF at hlk
      cases hx : look (l.take k) m.id with
      | some y =>
        rw [hx] at hlk
        simp only [Option.map_some, Option.getD_some, Option.isSome_some, memV] at hlk
        have HX := Lib.hid hx
        clear hx
        go_wp2_with fail
        exact ⟨⟨k + 1, by go_num, by omega, by show MapF _ _ _ _; rw [lookF_has HMK.out HX.out]; exact ((HF1.out.upd ((Upd.refl [] _).alloc _) (by simp)).mono (by omega)), (HUP.out.alloc _).alloc _⟩, by simp [intOf]; omega⟩
      | none =>
        rw [hx] at hlk
        simp only [Option.map_none, Option.getD_none, Option.isSome_none] at hlk
        have HX := Lib.hid hx
        clear hx
        have HF2 := Lib.hid (HF1.out.upd ((Upd.refl [] _).alloc (.cells #[.int .i64 0, .int .i64 0, .int .i64 0] 81)) (by simp))
        have HU2 := Lib.hid ((HUP.out.alloc (.cells #[.int .i64 m.id, .int .i64 m.weight, .int .i64 m.pub] 81)).alloc (.cells #[.int .i64 0, .int .i64 0, .int .i64 0] 81))
        go_wp2_with (refine wpList_put_F _ rfl _ _ _ 85 rfl _ Tryz.underlying85 _ k _ rfl HF2.out (by unfold maxLen; omega) m.id _ rfl rfl o0 ?_; intro w9 hF9 hU9)
        exact ⟨⟨k + 1, by go_num, by omega, by show MapF _ _ _ _; rw [lookF_new HMK.out HX.out]; exact hF9, HU2.out.own hU9 (Nat.le_refl _)⟩, by simp [intOf]; omega⟩
    · obtain rfl : k = n := by omega
      have hF0 : MapF wr w.heap.size k (fun x => (look l x).map memV) := by
        have h := HF.out
        unfold lookF at h
        rw [← HN.out, List.take_length] at h
        rw [← HN.out]
        exact h
      have hB2 : w.heap.size < wr.heap.size := hF0.lt
      have HF0 := Lib.hid hF0
      clear hF0 HF hk hlt
      generalize wr = w1 at *
      obtain ⟨p, hp⟩ : ∃ p, vs.length = p := ⟨_, rfl⟩
      rw [hp] at hvl ⊢
      have HP := Lib.hid hp
      clear hp
      go_wp2_with fail
      go_loopw [13, 42] (fun s i wr => ∃ (j : Nat) (x : Int) (V : List Int), s = .int .i64 x ∧ i = .int .i64 (j : Int) ∧ j ≤ p ∧ 0 ≤ x ∧ x ≤ 20 * (j : Int) ∧ Hid (((vs.map VtV.plain).take j).foldl (stepW l (bs t)) ([], 0) = (V, x)) ∧ Hid (MapF wr w.heap.size k (fun x => (look l x).map memV)) ∧ Hid (MapF wr w1.heap.size j (votedF V)) ∧ Hid (Upd [] [] w wr)) (fun _ i _ => p - (intOf i).toNat)
      case atStart => exact ⟨0, 0, [], rfl, rfl, Nat.zero_le _, Int.le_refl _, Int.le_refl _, rfl, HF0.out.upd ((Upd.refl [] _).alloc _) (by simp), MapF.made w1, HUP.out.alloc _⟩
      case round =>
        obtain ⟨j, x, V, rfl, rfl, hj, hx0, hx1, HFO, HA, HBV, HUQ⟩ := hrel
        by_cases hjl : j < p
        · obtain ⟨v, hvj⟩ : ∃ v, vs[j]? = some v := ⟨_, List.getElem?_eq_getElem (by rw [HP.out]; exact hjl)⟩
          obtain ⟨⟨o0, o1, o2, o3⟩, g, rfl, hg, c0, c1, c2, c3⟩ := (HV.out.upd HUQ.out) j v hvj
          have HVJ := Lib.hid hvj
          clear hvj
          have HNX := Lib.hid (fold_next l (bs t) HVJ.out HFO.out)
          have HA1 := Lib.hid (HA.out.upd ((Upd.refl [] wr).alloc (.cells #[.int .i64 v.who, .string v.text, .int .i64 v.r, .int .i64 v.s] 54)) (by simp))
          have hlk := HA1.out.look_ok (x := v.who) Tryz.underlying85 (zeroMem _) o0
          cases hx : look l v.who with
          | none =>
            simp only [hx, Option.map_none, Option.getD_none, Option.isSome_none] at hlk
            have HX := Lib.hid hx
            clear hx
            go_wp2_with fail
            exact ⟨⟨j + 1, x, V, rfl, by go_num, by omega, hx0, by omega, by show _ = _; rw [HNX.out]; exact stepW_none HX.out, HA.out.upd (((Upd.refl [] _).alloc _).alloc _) (by simp), (HBV.out.upd (((Upd.refl [] _).alloc _).alloc _) (by simp)).mono (by omega), (HUQ.out.alloc _).alloc _⟩, by simp [intOf]; omega⟩
          | some m =>
            simp only [hx, Option.map_some, Option.getD_some, Option.isSome_some, memV] at hlk
            obtain ⟨n0, n1, n2⟩ := look_ok HM.out hx
            have HX := Lib.hid hx
            clear hx
            have HUV := Lib.hid ((HUQ.out.alloc (.cells #[.int .i64 v.who, .string v.text, .int .i64 v.r, .int .i64 v.s] 54)).alloc (.cells #[.int .i64 m.id, .int .i64 m.weight, .int .i64 m.pub] 81))
            have HB1 := Lib.hid (HBV.out.upd (((Upd.refl [] wr).alloc (.cells #[.int .i64 v.who, .string v.text, .int .i64 v.r, .int .i64 v.s] 54)).alloc (.cells #[.int .i64 m.id, .int .i64 m.weight, .int .i64 m.pub] 81)) (by simp))
            have HA2 := Lib.hid (HA.out.upd (((Upd.refl [] wr).alloc (.cells #[.int .i64 v.who, .string v.text, .int .i64 v.r, .int .i64 v.s] 54)).alloc (.cells #[.int .i64 m.id, .int .i64 m.weight, .int .i64 m.pub] 81)) (by simp))
            have hl2 := HB1.out.look (x := m.id) Tryz.underlying87 (zeroBool _) n0
            unfold votedF at hl2
            cases hc : V.contains m.id with
            | true =>
              simp only [hc, if_true, Option.getD_some] at hl2
              go_wp2_with fail
              exact ⟨⟨j + 1, x, V, rfl, by go_num, by omega, hx0, by omega, by show _ = _; rw [HNX.out]; exact stepW_skip HX.out (by rw [hc]; rfl), HA.out.upd (((Upd.refl [] _).alloc _).alloc _) (by simp), (HBV.out.upd (((Upd.refl [] _).alloc _).alloc _) (by simp)).mono (by omega), (HUQ.out.alloc _).alloc _⟩, by simp [intOf]; omega⟩
            | false =>
              simp only [hc, Bool.false_eq_true, if_false, Option.getD_none] at hl2
              by_cases h1 : m.weight < 1
              · go_wp2_with fail
                exact ⟨⟨j + 1, x, V, rfl, by go_num, by omega, hx0, by omega, by show _ = _; rw [HNX.out]; exact stepW_skip HX.out (by rw [wOk_no (.inl h1)]; simp), HA.out.upd (((Upd.refl [] _).alloc _).alloc _) (by simp), (HBV.out.upd (((Upd.refl [] _).alloc _).alloc _) (by simp)).mono (by omega), (HUQ.out.alloc _).alloc _⟩, by simp [intOf]; omega⟩
              · by_cases h2 : 20 < m.weight
                · go_wp2_with fail
                  exact ⟨⟨j + 1, x, V, rfl, by go_num, by omega, hx0, by omega, by show _ = _; rw [HNX.out]; exact stepW_skip HX.out (by rw [wOk_no (.inr h2)]; simp), HA.out.upd (((Upd.refl [] _).alloc _).alloc _) (by simp), (HBV.out.upd (((Upd.refl [] _).alloc _).alloc _) (by simp)).mono (by omega), (HUQ.out.alloc _).alloc _⟩, by simp [intOf]; omega⟩
                · by_cases h3 : v.text = t
                  · subst h3
                    obtain ⟨y, hy⟩ : ∃ y, verB m.pub (bs v.text) v.r v.s = y := ⟨_, rfl⟩
                    have HY := Lib.hid hy
                    clear hy
                    go_wp2_with fail
                    refine (verify_is m.pub v.text v.r v.s y _ n2 o2 o3 o1 (htab.upd HUV.out) HY.out).mono ?_
                    rintro e wq ⟨rfl, hq⟩
                    cases y with
                    | false =>
                      go_wp2_with fail
                      exact ⟨⟨j + 1, x, V, rfl, by go_num, by omega, hx0, by omega, by show _ = _; rw [HNX.out]; exact stepW_bad HX.out (by show ((bs v.text == bs v.text) && verB m.pub (bs v.text) v.r v.s) = false; rw [HY.out, Bool.and_false]), HA2.out.upd hq (by simp), (HB1.out.upd hq (by simp)).mono (by omega), HUV.out.trans hq⟩, by simp [intOf]; omega⟩
                    | true =>
                      have rm := heap_alloc_new (wr.alloc (.cells #[.int .i64 v.who, .string v.text, .int .i64 v.r, .int .i64 v.s] 54)) (.cells #[.int .i64 m.id, .int .i64 m.weight, .int .i64 m.pub] 81)
                      rw [alloc_sizeW] at rm
                      have rm1 := row_updW rm hq
                      have d0 : wq.cell? ⟨wr.heap.size + 1, 0, none⟩ = some (.int .i64 m.id) := by rw [cell_of_row _ _ _ _ _ _ rm1]; rfl
                      have hB3 := HBV.out.lt
                      clear rm
                      go_wp2_with (refine wpList_put_F _ rfl _ _ _ 87 rfl _ Tryz.underlying87 _ j _ rfl (HB1.out.upd hq (by simp)) (by unfold maxLen; omega) m.id _ rfl rfl n0 ?_; intro w9 hF9 hU9; have d1 : w9.cell? ⟨wr.heap.size + 1, 1, none⟩ = some (.int .i64 m.weight) := (by rw [hU9.cell (Array.getElem?_eq_some_iff.1 rm1).1 (by simp; omega), cell_of_row _ _ _ _ _ _ rm1]; rfl))
                      exact ⟨⟨j + 1, x + m.weight, m.id :: V, by first | rfl | go_num, by go_num, by omega, by omega, by omega, by show _ = _; rw [HNX.out]; exact stepW_good HX.out hc (wOk_yes (by omega) (by omega)) (by show ((bs v.text == bs v.text) && verB m.pub (bs v.text) v.r v.s) = true; rw [HY.out, beq_self_eq_true]; rfl), (HA2.out.upd hq (by simp)).upd hU9 (by simp; omega), by show MapF _ _ _ _; rw [votedF_cons]; exact hF9, (HUV.out.trans hq).own hU9 (by omega)⟩, by simp [intOf]; omega⟩
                  · have h4 : ¬ v.text.toList = t.toList := fun e => h3 (bs_inj (by rw [ByteArray.toList_eq, ByteArray.toList_eq] at e; exact e))
                    go_wp2_with fail
                    all_goals first
                      | exact absurd (by assumption) h4
                      | exact ⟨⟨j + 1, x, V, rfl, by go_num, by omega, hx0, by omega, by show _ = _; rw [HNX.out]; exact stepW_bad HX.out (by show ((bs v.text == bs t) && verB m.pub (bs t) v.r v.s) = false; rw [beq_eq_false_iff_ne.2 (fun e => h3 (bs_inj e)), Bool.false_and]), HA2.out, HB1.out.mono (by omega), HUV.out⟩, by simp [intOf]; omega⟩
        · go_wp2_with fail
          go_ret
          refine ⟨x, ?_, rfl, HUQ.out⟩
          show _ = _
          have e := HFO.out
          rw [List.take_of_length_le (by rw [List.length_map, HP.out]; omega)] at e
          unfold weightL
          rw [e]
end Go.Proofs.YtkhodajdionaaaaGreatDoor
