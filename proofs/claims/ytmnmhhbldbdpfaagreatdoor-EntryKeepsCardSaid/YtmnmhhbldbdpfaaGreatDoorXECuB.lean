/- The cursor of the reference of receipts: number. -/
import Derived.Test.YtmnmhhbldbdpfaaGreatDoorXECuA
import Derived.Test.YtmnmhhbldbdpfaaGreatDoorGJ
namespace Go.Proofs.YtmnmhhbldbdpfaaGreatDoor
open Go.RowKit
set_option maxRecDepth 100000

def isM (l : List UInt8) : Bool := match l with | c :: _ => c == 45 | [] => false
/-- The number of the digits, what is no digit passed over. -/
def dsum (l : List UInt8) : Nat := l.foldl (fun v c => if 48 ≤ c.toNat ∧ c.toNat ≤ 57 then v * 10 + (c.toNat - 48) else v) 0
def numV (l : List UInt8) : Int := if isM l then wrap64 (-(dsum (l.take 20) : Int)) else wrap64 (dsum (l.take 20) : Int)
theorem dsum_snoc (l : List UInt8) (c : UInt8) : dsum (l ++ [c]) = if 48 ≤ c.toNat ∧ c.toNat ≤ 57 then dsum l * 10 + (c.toNat - 48) else dsum l := by
  simp [dsum]
theorem dsum_digits (l : List UInt8) (h : ∀ c ∈ l, 48 ≤ c.toNat ∧ c.toNat ≤ 57) : dsum l = valD l := by
  have key : ∀ (l : List UInt8) (v : Nat), (∀ c ∈ l, 48 ≤ c.toNat ∧ c.toNat ≤ 57) → l.foldl (fun v c => if 48 ≤ c.toNat ∧ c.toNat ≤ 57 then v * 10 + (c.toNat - 48) else v) v = l.foldl (fun a c => a * 10 + (c.toNat - 48)) v := by
    intro l
    induction l with
    | nil => intro v _; rfl
    | cons c r ih =>
      intro v hl
      rw [List.foldl_cons, List.foldl_cons, if_pos (hl c (by simp))]
      exact ih _ (fun d hd => hl d (by simp [hd]))
  exact key l 0 h
theorem dsum_minus (D : List UInt8) : dsum (45 :: D) = dsum D := rfl
theorem numV_in (l : List UInt8) : i64in (numV l) := by
  unfold numV
  split <;> exact wrap_bounds _
theorem numV_itoa (k : Int) (h : i64in k) : numV (Lib.itoa k) = k := by
  have hk := h
  unfold i64in at hk
  by_cases hn : k < 0
  · rw [itoa_of_neg hn]
    have hl := dec_le19 (u := k.natAbs) (by omega)
    have hd := dsum_digits _ (dec_digits k.natAbs)
    rw [valD_dec] at hd
    have ht : ([45] ++ Lib.decDigits k.natAbs).take 20 = 45 :: Lib.decDigits k.natAbs := List.take_of_length_le (by simp; omega)
    have hm : isM ([45] ++ Lib.decDigits k.natAbs) = true := rfl
    rw [numV, if_pos hm, ht, dsum_minus, hd, show -(k.natAbs : Int) = k by omega]
    exact wrap_of h
  · obtain ⟨u, rfl⟩ : ∃ u : Nat, k = (u : Int) := ⟨k.toNat, by omega⟩
    rw [itoa_of_nat]
    have hl := dec_le19 (u := u) (by omega)
    have hd := dsum_digits _ (dec_digits u)
    rw [valD_dec] at hd
    have hm : isM (Lib.decDigits u) = false := by
      unfold isM
      split
      · rename_i c r e
        have h1 := dec_head e
        rw [beq_eq_false_iff_ne]
        intro e2
        exact h1 (by rw [e2]; rfl)
      · rfl
    rw [numV, if_neg (by rw [hm]; decide), List.take_of_length_le (by omega), hd]
    exact wrap_of h
/-- What 'number' gives. -/
def cuNum (c : UInt8) (s : ByteArray) (a : Nat) (bad : Bool) (n : Int) (a' : Nat) (bad' : Bool) : Prop :=
  (bad' = false → bad = false ∧ (bs s).drop a = Lib.itoa n ++ c :: (bs s).drop a') ∧ (∀ k R, i64in k → c ∉ Lib.itoa k → (bs s).drop a = Lib.itoa k ++ c :: R → n = k ∧ (bs s).drop a' = R ∧ bad' = bad)
def MkCuN (c : UInt8) (g : Nat) (s : ByteArray) (a : Nat) (bad : Bool) (w : World) (e : Ending) (w' : World) : Prop :=
  ∃ (n : Int) (a' : Nat) (bad' : Bool), Hid (cuNum c s a bad n a' bad') ∧ i64in n ∧ a ≤ a' ∧ a' ≤ s.size ∧ e = .returned (.int .i64 n) ∧ Hid (CuAt w' g s a' bad') ∧ Upd [g] [] w w'
theorem not_mem_drop {c : UInt8} {l : List UInt8} (h : c ∉ l) {A R : List UInt8} (e : l = A ++ c :: R) : False := h (by rw [e]; simp)
theorem cuNum_same {c : UInt8} {s l : ByteArray} {a a' : Nat} {bad b : Bool} (h : cuRel c s a bad l a' b) (e : Lib.itoa (numV (bs l)) = bs l) : cuNum c s a bad (numV (bs l)) a' b := by
  rcases h with ⟨h1, h2, h3, h4⟩ | ⟨h1, h2, h3⟩
  · exact ⟨fun h => (by rw [h4] at h; cases h), fun k R _ _ hk => (not_mem_drop h1 hk).elim⟩
  · refine ⟨fun hb => ⟨h3.symm.trans hb, by rw [e]; exact h1⟩, fun k R hk hc he => ?_⟩
    obtain ⟨q1, q2⟩ := split32 h2 hc (h1.symm.trans he)
    exact ⟨by rw [q1, numV_itoa k hk], q2, h3⟩
theorem cuNum_other {c : UInt8} {s l : ByteArray} {a a' : Nat} {bad b : Bool} (h : cuRel c s a bad l a' b) (e : Lib.itoa (numV (bs l)) ≠ bs l) : cuNum c s a bad (numV (bs l)) a' true := by
  refine ⟨(fun h => by cases h), fun k R hk hc he => ?_⟩
  rcases h with ⟨h1, _⟩ | ⟨h1, h2, h3⟩
  · exact (not_mem_drop h1 he).elim
  · obtain ⟨q1, q2⟩ := split32 h2 hc (h1.symm.trans he)
    exact absurd (by rw [q1, numV_itoa k hk]) e
theorem isM_bs (l : ByteArray) (h : 0 < l.size) : isM (bs l) = (l[0] == 45) := by
  rw [bs_cons l h]
  rfl
theorem isM_nil (l : ByteArray) (h : l.size = 0) : isM (bs l) = false := by
  rw [show bs l = [] from List.eq_nil_of_length_eq_zero (by rw [bs_length]; exact h)]
  rfl
theorem take_snoc (l : ByteArray) (j : Nat) (h : j < l.size) : (bs l).take (j + 1) = (bs l).take j ++ [l[j]] := by
  have := drop_take_step l 0 j (Nat.zero_le _) h
  simpa using this
theorem numV_minus {l : List UInt8} {z : Int} (h : isM l = true) (hz : z = wrap64 (-(dsum (l.take 20) : Int))) : numV l = z := by
  rw [numV, if_pos h, hz]
theorem numV_plain {l : List UInt8} {z : Int} (h : isM l = false) (hz : z = wrap64 (-(dsum (l.take 20) : Int))) : numV l = wrap64 (-z) := by
  rw [numV, if_neg (by rw [h]; decide), hz, wrap_flip]

set_option maxHeartbeats 4000000 in
theorem cuNumber_any (g : Nat) (s : ByteArray) (a : Nat) (bad : Bool) (c : UInt8) (w : World) (hc : CuAt w g s a bad) (ha : a ≤ s.size) (hs : s.size ≤ 4000000000) :
    Calls Tryz.prog 51 #[.pointer (some ⟨g, 0, none⟩), .int .u8 (c.toNat : Int)] w (MkCuN c g s a bad w) := by
  go_enter Tryz.func51, Tryz.ntmps51
  go_wp2_with fail
  refine (cuUntil_any g s a bad c w hc ha hs).mono ?_
  rintro e w1 ⟨l, a', b, HR, haa, has, hls, rfl, HC, hu⟩
  have HU := Lib.hid hu
  clear hc hu
  have h3 : (l.size = 0) ∨ (0 < l.size ∧ isM (bs l) = true) ∨ (0 < l.size ∧ isM (bs l) = false) := by
    by_cases h : l.size = 0
    · exact .inl h
    · cases e : isM (bs l)
      · exact .inr (.inr ⟨by omega, rfl⟩)
      · exact .inr (.inl ⟨by omega, rfl⟩)
  rcases h3 with h0 | ⟨h0, hm⟩ | ⟨h0, hm⟩
  · have hm := isM_nil l h0
    have HMM := Lib.hid hm
    clear hm
    go_wp2_with fail
    go_loopw [6, 8] (fun n i wr => ∃ (j : Nat) (z : Int), n = .int .i64 z ∧ i = .int .i64 (j : Int) ∧ j ≤ l.size ∧ j ≤ 20 ∧ (-9223372036854775808 ≤ z ∧ z ≤ 9223372036854775807) ∧ Hid (z = wrap64 (-(dsum ((bs l).take j) : Int))) ∧ wr = w1) (fun _ i _ => 20 - (intOf i).toNat)
    case atStart => exact ⟨0, 0, rfl, rfl, Nat.zero_le _, Nat.zero_le _, by omega, by show _ = _; simp [dsum, wrap64], rfl⟩
    case round =>
      obtain ⟨j, z, rfl, rfl, hj, hj20, hz, HZ, hwr⟩ := hrel
      subst hwr
      by_cases hgo : j < l.size ∧ j < 20
      · exact absurd hgo.1 (by omega)
      · have hz20 : z = wrap64 (-(dsum ((bs l).take 20) : Int)) := by
          rw [HZ.out]
          by_cases hl : j < l.size
          · have : j = 20 := by omega
            rw [this]
          · rw [List.take_of_length_le (by rw [bs_length]; omega), List.take_of_length_le (by rw [bs_length]; omega)]
        have HN : Hid (numV (bs l) = wrap64 (-z)) := numV_plain HMM.out hz20
        obtain ⟨y, hy⟩ : ∃ y : Int, y = wrap64 (-z) := ⟨_, rfl⟩
        have hyy := hy.symm
        have iy : i64in y := by rw [hy, ← HN.out]; exact numV_in _
        have HNY : Hid (numV (bs l) = y) := by show _ = _; rw [hy]; exact HN.out
        have hcond : (¬ (j : Int) < (l.size : Int)) ∨ ((j : Int) < (l.size : Int) ∧ ¬ (j : Int) < 20) := by omega
        have HJ := Lib.hid hj
        have HGO := Lib.hid hgo
        clear hz20 hy hj hj20 hgo HZ
        rcases hcond with hcond | ⟨hcond, hcond2⟩
        case inr => omega
        all_goals
          go_wp2_with fail
          refine (decimal22_any y _ iy).mono ?_
          rintro e w2 ⟨t, HT, ht, rfl, hq⟩
          have HC2 := Lib.hid (HC.out.upd hq)
          have HU2 := Lib.hid (HU.out.then2 hq)
          obtain ⟨k0, k1, k2, f1, f2⟩ := HC2.out.cells
          by_cases hteq : t = l
          · subst hteq
            have HX := Lib.hid (cuNum_same HR.out (by rw [HNY.out, HT.out]))
            rw [HNY.out] at HX
            clear ht hq
            go_wp2_with fail
            go_ret
            exact ⟨y, a', b, HX, iy, haa, has, rfl, HC2, HU2.out⟩
          · have HX := Lib.hid (cuNum_other HR.out (by rw [HNY.out, ← HT.out]; intro e; exact hteq (bs_injE e)))
            rw [HNY.out] at HX
            have h4 : (t.toList == l.toList) = false := by
              rw [beq_eq_false_iff_ne]
              intro e
              exact hteq (bs_injE (by rw [ByteArray.toList_eq, ByteArray.toList_eq] at e; exact e))
            have HC3 := Lib.hid (HC2.out.setB true)
            clear ht hq hteq
            go_wp2_with fail
            go_ret
            exact ⟨y, a', true, HX, iy, haa, has, rfl, HC3, HU2.out.setOld 2 _⟩
  · have h45 : (l[0] == 45) = true := by rw [← isM_bs l h0]; exact hm
    have hb : ((l[0].toNat : Int) == 45) = true := by
      rw [beq_iff_eq] at h45 ⊢
      rw [h45]
      rfl
    have HMM := Lib.hid hm
    clear hm h45
    go_wp2_with fail
    go_loopw [6, 8] (fun n i wr => ∃ (j : Nat) (z : Int), n = .int .i64 z ∧ i = .int .i64 (j : Int) ∧ j ≤ l.size ∧ j ≤ 20 ∧ (-9223372036854775808 ≤ z ∧ z ≤ 9223372036854775807) ∧ Hid (z = wrap64 (-(dsum ((bs l).take j) : Int))) ∧ wr = w1) (fun _ i _ => 20 - (intOf i).toNat)
    case atStart => exact ⟨0, 0, rfl, rfl, Nat.zero_le _, Nat.zero_le _, by omega, by show _ = _; simp [dsum, wrap64], rfl⟩
    case round =>
      obtain ⟨j, z, rfl, rfl, hj, hj20, hz, HZ, hwr⟩ := hrel
      subst hwr
      by_cases hgo : j < l.size ∧ j < 20
      · obtain ⟨hlt, hlt20⟩ := hgo
        have p0 : (0 : Int) ≤ (j : Int) := by omega
        have p1 : (j : Int) < (l.size : Int) := by omega
        have p2 : (j : Int) < 20 := by omega
        have hst := take_snoc l j hlt
        by_cases hdg : 48 ≤ l[j].toNat ∧ l[j].toNat ≤ 57
        · have hv : wrap64 (wrap64 (10 * z) - ((l[j].toNat : Int) - 48)) = wrap64 (-(dsum ((bs l).take (j + 1)) : Int)) := by
            rw [hst, dsum_snoc, if_pos hdg]
            exact digit_step z _ l[j] hdg.1 HZ.out
          have hb2 := wrap_bounds (-(dsum ((bs l).take (j + 1)) : Int))
          rw [← hv] at hb2
          have HV := Lib.hid hv
          have HB2 := Lib.hid hb2
          have e1 : (48 : Int) ≤ (l[j].toNat : Int) := by omega
          have e2 : (l[j].toNat : Int) ≤ 57 := by omega
          clear hst hv hb2 hdg
          go_wp2_with fail
          exact ⟨⟨j + 1, _, rfl, by go_num, by omega, by omega, HB2.out, HV.out, by first | trivial | rfl⟩, by simp [intOf]; omega⟩
        · have HV : Hid (z = wrap64 (-(dsum ((bs l).take (j + 1)) : Int))) := by
            show _ = _
            rw [hst, dsum_snoc, if_neg hdg]
            exact HZ.out
          have hcs : l[j].toNat < 48 ∨ 57 < l[j].toNat := by omega
          clear hst hdg
          rcases hcs with h | h
          · have e1 : ¬ (48 : Int) ≤ (l[j].toNat : Int) := by omega
            clear h
            go_wp2_with fail
            exact ⟨⟨j + 1, z, rfl, by go_num, by omega, by omega, by omega, HV, by first | trivial | rfl⟩, by simp [intOf]; omega⟩
          · have e1 : (48 : Int) ≤ (l[j].toNat : Int) := by omega
            have e2 : ¬ (l[j].toNat : Int) ≤ 57 := by omega
            clear h
            go_wp2_with fail
            exact ⟨⟨j + 1, z, rfl, by go_num, by omega, by omega, by omega, HV, by first | trivial | rfl⟩, by simp [intOf]; omega⟩
      · have hz20 : z = wrap64 (-(dsum ((bs l).take 20) : Int)) := by
          rw [HZ.out]
          by_cases hl : j < l.size
          · have : j = 20 := by omega
            rw [this]
          · rw [List.take_of_length_le (by rw [bs_length]; omega), List.take_of_length_le (by rw [bs_length]; omega)]
        have HN : Hid (numV (bs l) = z) := numV_minus HMM.out hz20
        obtain ⟨y, hy⟩ : ∃ y : Int, y = z := ⟨_, rfl⟩
        have hyy := hy.symm
        have iy : i64in y := by rw [hy, ← HN.out]; exact numV_in _
        have HNY : Hid (numV (bs l) = y) := by show _ = _; rw [hy]; exact HN.out
        have hcond : (¬ (j : Int) < (l.size : Int)) ∨ ((j : Int) < (l.size : Int) ∧ ¬ (j : Int) < 20) := by omega
        have HJ := Lib.hid hj
        have HGO := Lib.hid hgo
        clear hz20 hy hj hj20 hgo HZ
        rcases hcond with hcond | ⟨hcond, hcond2⟩
        all_goals
          go_wp2_with fail
          refine (decimal22_any y _ iy).mono ?_
          rintro e w2 ⟨t, HT, ht, rfl, hq⟩
          have HC2 := Lib.hid (HC.out.upd hq)
          have HU2 := Lib.hid (HU.out.then2 hq)
          obtain ⟨k0, k1, k2, f1, f2⟩ := HC2.out.cells
          by_cases hteq : t = l
          · subst hteq
            have HX := Lib.hid (cuNum_same HR.out (by rw [HNY.out, HT.out]))
            rw [HNY.out] at HX
            clear ht hq
            go_wp2_with fail
            go_ret
            exact ⟨y, a', b, HX, iy, haa, has, rfl, HC2, HU2.out⟩
          · have HX := Lib.hid (cuNum_other HR.out (by rw [HNY.out, ← HT.out]; intro e; exact hteq (bs_injE e)))
            rw [HNY.out] at HX
            have h4 : (t.toList == l.toList) = false := by
              rw [beq_eq_false_iff_ne]
              intro e
              exact hteq (bs_injE (by rw [ByteArray.toList_eq, ByteArray.toList_eq] at e; exact e))
            have HC3 := Lib.hid (HC2.out.setB true)
            clear ht hq hteq
            go_wp2_with fail
            go_ret
            exact ⟨y, a', true, HX, iy, haa, has, rfl, HC3, HU2.out.setOld 2 _⟩
  · have h45 : (l[0] == 45) = false := by rw [← isM_bs l h0]; exact hm
    have hb : ((l[0].toNat : Int) == 45) = false := by
      rw [beq_eq_false_iff_ne] at h45 ⊢
      intro e
      exact h45 (UInt8.toNat_inj.1 (by have : (45 : UInt8).toNat = 45 := rfl; omega))
    have HMM := Lib.hid hm
    clear hm h45
    go_wp2_with fail
    go_loopw [6, 8] (fun n i wr => ∃ (j : Nat) (z : Int), n = .int .i64 z ∧ i = .int .i64 (j : Int) ∧ j ≤ l.size ∧ j ≤ 20 ∧ (-9223372036854775808 ≤ z ∧ z ≤ 9223372036854775807) ∧ Hid (z = wrap64 (-(dsum ((bs l).take j) : Int))) ∧ wr = w1) (fun _ i _ => 20 - (intOf i).toNat)
    case atStart => exact ⟨0, 0, rfl, rfl, Nat.zero_le _, Nat.zero_le _, by omega, by show _ = _; simp [dsum, wrap64], rfl⟩
    case round =>
      obtain ⟨j, z, rfl, rfl, hj, hj20, hz, HZ, hwr⟩ := hrel
      subst hwr
      by_cases hgo : j < l.size ∧ j < 20
      · obtain ⟨hlt, hlt20⟩ := hgo
        have p0 : (0 : Int) ≤ (j : Int) := by omega
        have p1 : (j : Int) < (l.size : Int) := by omega
        have p2 : (j : Int) < 20 := by omega
        have hst := take_snoc l j hlt
        by_cases hdg : 48 ≤ l[j].toNat ∧ l[j].toNat ≤ 57
        · have hv : wrap64 (wrap64 (10 * z) - ((l[j].toNat : Int) - 48)) = wrap64 (-(dsum ((bs l).take (j + 1)) : Int)) := by
            rw [hst, dsum_snoc, if_pos hdg]
            exact digit_step z _ l[j] hdg.1 HZ.out
          have hb2 := wrap_bounds (-(dsum ((bs l).take (j + 1)) : Int))
          rw [← hv] at hb2
          have HV := Lib.hid hv
          have HB2 := Lib.hid hb2
          have e1 : (48 : Int) ≤ (l[j].toNat : Int) := by omega
          have e2 : (l[j].toNat : Int) ≤ 57 := by omega
          clear hst hv hb2 hdg
          go_wp2_with fail
          exact ⟨⟨j + 1, _, rfl, by go_num, by omega, by omega, HB2.out, HV.out, by first | trivial | rfl⟩, by simp [intOf]; omega⟩
        · have HV : Hid (z = wrap64 (-(dsum ((bs l).take (j + 1)) : Int))) := by
            show _ = _
            rw [hst, dsum_snoc, if_neg hdg]
            exact HZ.out
          have hcs : l[j].toNat < 48 ∨ 57 < l[j].toNat := by omega
          clear hst hdg
          rcases hcs with h | h
          · have e1 : ¬ (48 : Int) ≤ (l[j].toNat : Int) := by omega
            clear h
            go_wp2_with fail
            exact ⟨⟨j + 1, z, rfl, by go_num, by omega, by omega, by omega, HV, by first | trivial | rfl⟩, by simp [intOf]; omega⟩
          · have e1 : (48 : Int) ≤ (l[j].toNat : Int) := by omega
            have e2 : ¬ (l[j].toNat : Int) ≤ 57 := by omega
            clear h
            go_wp2_with fail
            exact ⟨⟨j + 1, z, rfl, by go_num, by omega, by omega, by omega, HV, by first | trivial | rfl⟩, by simp [intOf]; omega⟩
      · have hz20 : z = wrap64 (-(dsum ((bs l).take 20) : Int)) := by
          rw [HZ.out]
          by_cases hl : j < l.size
          · have : j = 20 := by omega
            rw [this]
          · rw [List.take_of_length_le (by rw [bs_length]; omega), List.take_of_length_le (by rw [bs_length]; omega)]
        have HN : Hid (numV (bs l) = wrap64 (-z)) := numV_plain HMM.out hz20
        obtain ⟨y, hy⟩ : ∃ y : Int, y = wrap64 (-z) := ⟨_, rfl⟩
        have hyy := hy.symm
        have iy : i64in y := by rw [hy, ← HN.out]; exact numV_in _
        have HNY : Hid (numV (bs l) = y) := by show _ = _; rw [hy]; exact HN.out
        have hcond : (¬ (j : Int) < (l.size : Int)) ∨ ((j : Int) < (l.size : Int) ∧ ¬ (j : Int) < 20) := by omega
        have HJ := Lib.hid hj
        have HGO := Lib.hid hgo
        clear hz20 hy hj hj20 hgo HZ
        rcases hcond with hcond | ⟨hcond, hcond2⟩
        all_goals
          go_wp2_with fail
          refine (decimal22_any y _ iy).mono ?_
          rintro e w2 ⟨t, HT, ht, rfl, hq⟩
          have HC2 := Lib.hid (HC.out.upd hq)
          have HU2 := Lib.hid (HU.out.then2 hq)
          obtain ⟨k0, k1, k2, f1, f2⟩ := HC2.out.cells
          by_cases hteq : t = l
          · subst hteq
            have HX := Lib.hid (cuNum_same HR.out (by rw [HNY.out, HT.out]))
            rw [HNY.out] at HX
            clear ht hq
            go_wp2_with fail
            go_ret
            exact ⟨y, a', b, HX, iy, haa, has, rfl, HC2, HU2.out⟩
          · have HX := Lib.hid (cuNum_other HR.out (by rw [HNY.out, ← HT.out]; intro e; exact hteq (bs_injE e)))
            rw [HNY.out] at HX
            have h4 : (t.toList == l.toList) = false := by
              rw [beq_eq_false_iff_ne]
              intro e
              exact hteq (bs_injE (by rw [ByteArray.toList_eq, ByteArray.toList_eq] at e; exact e))
            have HC3 := Lib.hid (HC2.out.setB true)
            clear ht hq hteq
            go_wp2_with fail
            go_ret
            exact ⟨y, a', true, HX, iy, haa, has, rfl, HC3, HU2.out.setOld 2 _⟩
end Go.Proofs.YtmnmhhbldbdpfaaGreatDoor
