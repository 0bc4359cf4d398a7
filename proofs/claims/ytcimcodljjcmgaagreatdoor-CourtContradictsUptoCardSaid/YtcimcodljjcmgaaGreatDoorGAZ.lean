/- sortesref30.cut. -/
import Derived.Test.YtcimcodljjcmgaaGreatDoorGAA
import Derived.Test.YtcimcodljjcmgaaGreatDoorGAY
import Derived.Test.YtcimcodljjcmgaaGreatDoorGAM
namespace Go.Proofs.YtcimcodljjcmgaaGreatDoor
open Go.RowKit
set_option maxRecDepth 100000

theorem cutG_form {l : List UInt8} {k : Nat} (hk : l[k]? = some 58) (hno : (58 : UInt8) ∉ l.take k) {a b : List UInt8} (h : l = wordG a ++ b) : l.take k = Lib.itoa (a.length : Int) ∧ l.drop (k + 1) = a ++ b := by
  have c1 := cut_hit 58 (l.take k) (l.drop (k + 1)) hno
  rw [← split_at hk] at c1
  have e1 : wordG a ++ b = Lib.itoa (a.length : Int) ++ 58 :: (a ++ b) := by simp [wordG]
  have c2 := cut_hit 58 (Lib.itoa (a.length : Int)) (a ++ b) (itoa_no58 _)
  rw [← e1, ← h, c1] at c2
  injection c2 with c2 c3
  injection c3 with c3 _
  exact ⟨c2, c3⟩
theorem cutG_none {l : List UInt8} (h : (58 : UInt8) ∉ l) : cutG l ⟨#[]⟩ ⟨#[]⟩ false := cutG_not fun a b _ e => h (by rw [e]; simp [wordG])
theorem cutG_num {l : List UInt8} {k : Nat} (hk : l[k]? = some 58) (hno : (58 : UInt8) ∉ l.take k) {n : Int} (hn : numOk (l.take k) n false) : cutG l ⟨#[]⟩ ⟨#[]⟩ false :=
  cutG_not fun a b ha e => hn.2.2 rfl ⟨(a.length : Int), by unfold i64in; omega, (cutG_form hk hno e).1⟩
theorem cutG_len {l : List UInt8} {k : Nat} (hk : l[k]? = some 58) (hno : (58 : UInt8) ∉ l.take k) {n : Int} (hn : numOk (l.take k) n true) (h : n < 0 ∨ ((l.drop (k + 1)).length : Int) < n) : cutG l ⟨#[]⟩ ⟨#[]⟩ false :=
  cutG_not fun a b ha e => by
    obtain ⟨h1, h2⟩ := cutG_form hk hno e
    have h3 : n = (a.length : Int) := itoa_inj hn.1 (by unfold i64in; omega) (by rw [← hn.2.1 rfl, h1])
    have h4 := congrArg List.length h2
    rw [List.length_append] at h4
    omega
theorem cutG_yes {l : List UInt8} {k m : Nat} (hk : l[k]? = some 58) (hn : numOk (l.take k) (m : Int) true) (hm : m ≤ (l.drop (k + 1)).length) {t r : ByteArray} (ht : bs t = (l.drop (k + 1)).take m) (hr : bs r = (l.drop (k + 1)).drop m) : cutG l t r true := by
  refine ⟨fun _ => ?_, fun h => by cases h⟩
  have e := split_at hk
  rw [hn.2.1 rfl] at e
  have hl : (bs t).length = m := by rw [ht, List.length_take]; omega
  rw [e, wordG, hl, List.append_assoc, List.cons_append, ht, hr, List.take_append_drop]
set_option maxHeartbeats 4000000 in
theorem cut30_any (s : ByteArray) (hs : s.size ≤ 1999990) (w : World) : Calls Tryz.prog 108 #[.string s] w (MkCutG s w) := by
  go_enter Tryz.func108, Tryz.ntmps108
  go_wp2_with fail
  go_loopw [5, 6, 7] (fun i _ _ wr => ∃ k : Nat, i = .int .i64 (k : Int) ∧ k ≤ s.size ∧ Hid ((58 : UInt8) ∉ (bs s).take k) ∧ wr = w) (fun i _ _ _ => s.size - (intOf i).toNat)
  case atStart => exact ⟨0, rfl, Nat.zero_le _, (by show _ ∉ _; simp), rfl⟩
  case round =>
    obtain ⟨k, rfl, hk, HN, hwr⟩ := hrel
    subst hwr
    by_cases hlt : k < s.size
    · have hc := bs_get' s k hlt
      have i0 : (0 : Int) ≤ (k : Int) := by omega
      have i1 : (k : Int) < (s.size : Int) := by omega
      by_cases h58 : s[k] = 58
      · have e1 : ((s[k].toNat : Int) == 58) = true := by rw [h58]; rfl
        rw [h58] at hc
        have HC := Lib.hid hc
        have i2 : (k : Int) ≤ (s.size : Int) := by omega
        obtain ⟨D, hD⟩ : ∃ D, D = s.extract 0 k := ⟨_, rfl⟩
        have hDz : D.size ≤ 1999990 := by rw [hD, ByteArray.size_extract]; omega
        have HDB : Hid (bs D = (bs s).take k) := by show _ = _; rw [hD]; exact bs_left s k
        have hDe : s.extract 0 k = D := hD.symm
        have hlen : ((bs s).drop (k + 1)).length = s.size - (k + 1) := by rw [List.length_drop, bs_length]
        have HLN := Lib.hid hlen
        have q1 : (s.size : Int) - (k : Int) - 1 = ((s.size - (k + 1) : Nat) : Int) := by omega
        obtain ⟨rl, hrl⟩ : ∃ rl, rl = s.size - (k + 1) := ⟨_, rfl⟩
        obtain ⟨sk, hsk⟩ : ∃ sk, sk = s.size - k := ⟨_, rfl⟩
        have q2 : (s.size : Int) - (k : Int) = (sk : Int) := by omega
        have q3 : (sk : Int) - 1 = (rl : Int) := by omega
        have wq2 : IntKind.i64.wrap (sk : Int) = (sk : Int) := wrap_in (by omega) (by omega)
        have wq3 : IntKind.i64.wrap (rl : Int) = (rl : Int) := wrap_in (by omega) (by omega)
        rw [← hrl] at q1 HLN
        clear hc h58 hD hlen
        go_wp2_with fail
        try rw [hDe]
        refine (int11_any D wr hDz).mono ?_
        rintro e w1 ⟨n, ok, HO, hn, rfl, hq⟩
        obtain ⟨hn1, hn2⟩ := hn
        have HU := Lib.hid hq
        clear hq
        rw [HDB.out] at HO
        cases ok
        · have HR := Lib.hid (cutG_num HC.out HN.out HO.out)
          clear HO HN HC
          go_upto_region 6 with (fail)
          refine wp_region_noPanic ?_
          refine wp_region_held_drew (S := fun _ => True) (by kernel_rfl) ?_ (fun hHeld => ?_)
          · trivial
          refine tkY 0 hHeld ?_
          refine tkY 1 hHeld ?_
          refine tkY 2 hHeld ?_
          refine tkN 3 hHeld ?_
          refine tkN 4 hHeld ?_
          refine tkY 5 hHeld ?_
          refine tkY 6 hHeld ?_
          refine tkN 7 hHeld ?_
          refine tkN 8 hHeld ?_
          refine tkN 9 hHeld ?_
          refine tkN 10 hHeld ?_
          refine tkN 11 hHeld ?_
          refine tkN 12 hHeld ?_
          refine tkN 13 hHeld ?_
          refine tkY 14 hHeld ?_
          refine tkY 15 hHeld ?_
          refine tkN 16 hHeld ?_
          refine tkN 17 hHeld ?_
          refine tkN 18 hHeld ?_
          refine tkN 19 hHeld ?_
          refine tkN 20 hHeld ?_
          refine tkN 21 hHeld ?_
          refine tkY 22 hHeld ?_
          refine wpAnyH_done (by kernel_rfl) ?_ _
          refine NoPanic.normal ?_
          go_wp2_with fail
          go_ret3
          exact ⟨⟨#[]⟩, ⟨#[]⟩, false, HR.out, Nat.zero_le _, Nat.zero_le _, rfl, HU.out.drew⟩
        by_cases h0 : n < 0
        · have HR := Lib.hid (cutG_len HC.out HN.out HO.out (.inl h0))
          clear HO HN HC
          go_upto_region 6 with (fail)
          refine wp_region_noPanic ?_
          refine wp_region_held_drew (S := fun _ => True) (by kernel_rfl) ?_ (fun hHeld => ?_)
          · trivial
          refine tkY 0 hHeld ?_
          refine tkY 1 hHeld ?_
          refine tkY 2 hHeld ?_
          refine tkY 3 hHeld ?_
          refine tkY 4 hHeld ?_
          refine tkY 5 hHeld ?_
          refine tkY 6 hHeld ?_
          refine tkN 7 hHeld ?_
          refine tkN 8 hHeld ?_
          refine tkN 9 hHeld ?_
          refine tkN 10 hHeld ?_
          refine tkN 11 hHeld ?_
          refine tkN 12 hHeld ?_
          refine tkN 13 hHeld ?_
          refine tkY 14 hHeld ?_
          refine tkY 15 hHeld ?_
          refine tkN 16 hHeld ?_
          refine tkN 17 hHeld ?_
          refine tkN 18 hHeld ?_
          refine tkN 19 hHeld ?_
          refine tkN 20 hHeld ?_
          refine tkN 21 hHeld ?_
          refine tkY 22 hHeld ?_
          refine wpAnyH_done (by kernel_rfl) ?_ _
          refine NoPanic.normal ?_
          go_wp2_with fail
          go_ret3
          exact ⟨⟨#[]⟩, ⟨#[]⟩, false, HR.out, Nat.zero_le _, Nat.zero_le _, rfl, HU.out.drew⟩
        obtain ⟨m, rfl⟩ := Int.eq_ofNat_of_zero_le (show 0 ≤ n by omega)
        have g0 : ¬ ((m : Int) < 0) := h0
        have f1 : decide ((m : Int) < 0) = false := decide_eq_false g0
        have f2 : IntKind.i64.wrap ((s.size - k : Nat) : Int) = (sk : Int) := by rw [← hsk]; exact wq2
        have f2c : IntKind.i64.wrap ((s.size : Int) - (k : Int)) = (sk : Int) := by rw [q2]; exact wq2
        have f2b : ((s.size - k : Nat) : Int) = (sk : Int) := by rw [← hsk]
        have f3 : IntKind.i64.wrap ((sk : Int) - 1) = (rl : Int) := by rw [q3]; exact wq3
        clear h0 hrl hsk q1 q2
        by_cases hlong : (rl : Int) < (m : Int)
        · have HR := Lib.hid (cutG_len HC.out HN.out HO.out (.inr (by rw [HLN.out]; exact hlong)))
          have f5 : decide ((rl : Int) < (m : Int)) = true := decide_eq_true hlong
          have f6 : decide (rl < m) = true := decide_eq_true (by omega)
          clear HO HN HC
          go_upto_region 6 with (fail)
          refine wp_region_noPanic ?_
          refine wp_region_held_drew (S := fun _ => True) (by kernel_rfl) ?_ (fun hHeld => ?_)
          · trivial
          refine tkY 0 hHeld ?_; try simp only [f1, f2, f2b, f2c, f3, f5, f6, Bool.or_false, Bool.or_true, Bool.false_or, Bool.true_or]
          refine tkY 1 hHeld ?_; try simp only [f1, f2, f2b, f2c, f3, f5, f6, Bool.or_false, Bool.or_true, Bool.false_or, Bool.true_or]
          refine tkY 2 hHeld ?_; try simp only [f1, f2, f2b, f2c, f3, f5, f6, Bool.or_false, Bool.or_true, Bool.false_or, Bool.true_or]
          refine tkY 3 hHeld ?_; try simp only [f1, f2, f2b, f2c, f3, f5, f6, Bool.or_false, Bool.or_true, Bool.false_or, Bool.true_or]
          refine tkY 4 hHeld ?_; try simp only [f1, f2, f2b, f2c, f3, f5, f6, Bool.or_false, Bool.or_true, Bool.false_or, Bool.true_or]
          refine tkY 5 hHeld ?_; try simp only [f1, f2, f2b, f2c, f3, f5, f6, Bool.or_false, Bool.or_true, Bool.false_or, Bool.true_or]
          refine tkY 6 hHeld ?_; try simp only [f1, f2, f2b, f2c, f3, f5, f6, Bool.or_false, Bool.or_true, Bool.false_or, Bool.true_or]
          refine tkY 7 hHeld ?_; try simp only [f1, f2, f2b, f2c, f3, f5, f6, Bool.or_false, Bool.or_true, Bool.false_or, Bool.true_or]
          refine tkY 8 hHeld ?_; try simp only [f1, f2, f2b, f2c, f3, f5, f6, Bool.or_false, Bool.or_true, Bool.false_or, Bool.true_or]
          refine tkY 9 hHeld ?_; try simp only [f1, f2, f2b, f2c, f3, f5, f6, Bool.or_false, Bool.or_true, Bool.false_or, Bool.true_or]
          refine tkY 10 hHeld ?_; try simp only [f1, f2, f2b, f2c, f3, f5, f6, Bool.or_false, Bool.or_true, Bool.false_or, Bool.true_or]
          refine tkY 11 hHeld ?_; try simp only [f1, f2, f2b, f2c, f3, f5, f6, Bool.or_false, Bool.or_true, Bool.false_or, Bool.true_or]
          refine tkY 12 hHeld ?_; try simp only [f1, f2, f2b, f2c, f3, f5, f6, Bool.or_false, Bool.or_true, Bool.false_or, Bool.true_or]
          refine tkY 13 hHeld ?_; try simp only [f1, f2, f2b, f2c, f3, f5, f6, Bool.or_false, Bool.or_true, Bool.false_or, Bool.true_or]
          refine tkY 14 hHeld ?_; try simp only [f1, f2, f2b, f2c, f3, f5, f6, Bool.or_false, Bool.or_true, Bool.false_or, Bool.true_or]
          refine tkY 15 hHeld ?_; try simp only [f1, f2, f2b, f2c, f3, f5, f6, Bool.or_false, Bool.or_true, Bool.false_or, Bool.true_or]
          refine tkN 16 hHeld ?_; try simp only [f1, f2, f2b, f2c, f3, f5, f6, Bool.or_false, Bool.or_true, Bool.false_or, Bool.true_or]
          refine tkN 17 hHeld ?_; try simp only [f1, f2, f2b, f2c, f3, f5, f6, Bool.or_false, Bool.or_true, Bool.false_or, Bool.true_or]
          refine tkN 18 hHeld ?_; try simp only [f1, f2, f2b, f2c, f3, f5, f6, Bool.or_false, Bool.or_true, Bool.false_or, Bool.true_or]
          refine tkN 19 hHeld ?_; try simp only [f1, f2, f2b, f2c, f3, f5, f6, Bool.or_false, Bool.or_true, Bool.false_or, Bool.true_or]
          refine tkN 20 hHeld ?_; try simp only [f1, f2, f2b, f2c, f3, f5, f6, Bool.or_false, Bool.or_true, Bool.false_or, Bool.true_or]
          refine tkN 21 hHeld ?_; try simp only [f1, f2, f2b, f2c, f3, f5, f6, Bool.or_false, Bool.or_true, Bool.false_or, Bool.true_or]
          refine tkY 22 hHeld ?_; try simp only [f1, f2, f2b, f2c, f3, f5, f6, Bool.or_false, Bool.or_true, Bool.false_or, Bool.true_or]
          refine wpAnyH_done (by kernel_rfl) ?_ _
          refine NoPanic.normal ?_
          go_wp2_with fail
          go_ret3
          exact ⟨⟨#[]⟩, ⟨#[]⟩, false, HR.out, Nat.zero_le _, Nat.zero_le _, rfl, HU.out.drew⟩
        have hm : m ≤ rl := by omega
        have f5 : decide ((rl : Int) < (m : Int)) = false := decide_eq_false hlong
        have f6 : decide (rl < m) = false := decide_eq_false (by omega)
        have HDN : Hid (bs D = Lib.itoa (m : Int)) := by show _ = _; rw [HDB.out]; exact HO.out.2.1 rfl
        obtain ⟨k1, hk1⟩ : ∃ k1, k1 = k + 1 := ⟨_, rfl⟩
        obtain ⟨k2, hk2⟩ : ∃ k2, k2 = k1 + m := ⟨_, rfl⟩
        have z1 : (k : Int) + 1 = (k1 : Int) := by omega
        have z2 : (k1 : Int) + (m : Int) = (k2 : Int) := by omega
        have z3 : k2 ≤ s.size := by omega
        have z4 : (0 : Int) ≤ (k1 : Int) := by omega
        have z5 : (k1 : Int) ≤ (k2 : Int) := by omega
        have z6 : (k2 : Int) ≤ (s.size : Int) := by omega
        have z7 : (0 : Int) ≤ (k2 : Int) := by omega
        have wz1 : IntKind.i64.wrap (k1 : Int) = (k1 : Int) := wrap_in (by omega) (by omega)
        have wz2 : IntKind.i64.wrap (k2 : Int) = (k2 : Int) := wrap_in (by omega) (by omega)
        have HR : Hid (cutG (bs s) (s.extract k1 k2) (s.extract k2 s.size) true) := by
          refine cutG_yes HC.out HO.out (by rw [HLN.out]; exact hm) ?_ ?_
          · rw [bs_extract, hk2, hk1, show k + 1 + m - (k + 1) = m by omega]
          · rw [bs_right, List.drop_drop, hk2, hk1]
        have ht : (s.extract k1 k2).size ≤ s.size := by rw [ByteArray.size_extract]; omega
        have hr : (s.extract k2 s.size).size ≤ s.size := by rw [ByteArray.size_extract]; omega
        have HI := Lib.hid HO.out.1
        have ud0 : Upd [] [] w1 w1.drew := (Upd.refl _ _).drew
        clear HO HN HC hk1 hk2 HLN
        go_upto_region 6 with (fail)
        refine wp_region_noPanic ?_
        refine wp_region_held_drew (S := fun _ => True) (by kernel_rfl) ?_ (fun hHeld => ?_)
        · trivial
        refine tkY 0 hHeld ?_; try simp only [f1, f2, f2b, f2c, f3, f5, f6, Bool.or_false, Bool.or_true, Bool.false_or, Bool.true_or]
        refine tkY 1 hHeld ?_; try simp only [f1, f2, f2b, f2c, f3, f5, f6, Bool.or_false, Bool.or_true, Bool.false_or, Bool.true_or]
        refine tkY 2 hHeld ?_; try simp only [f1, f2, f2b, f2c, f3, f5, f6, Bool.or_false, Bool.or_true, Bool.false_or, Bool.true_or]
        refine tkY 3 hHeld ?_; try simp only [f1, f2, f2b, f2c, f3, f5, f6, Bool.or_false, Bool.or_true, Bool.false_or, Bool.true_or]
        refine tkY 4 hHeld ?_; try simp only [f1, f2, f2b, f2c, f3, f5, f6, Bool.or_false, Bool.or_true, Bool.false_or, Bool.true_or]
        refine tkY 5 hHeld ?_; try simp only [f1, f2, f2b, f2c, f3, f5, f6, Bool.or_false, Bool.or_true, Bool.false_or, Bool.true_or]
        refine tkY 6 hHeld ?_; try simp only [f1, f2, f2b, f2c, f3, f5, f6, Bool.or_false, Bool.or_true, Bool.false_or, Bool.true_or]
        refine tkY 7 hHeld ?_; try simp only [f1, f2, f2b, f2c, f3, f5, f6, Bool.or_false, Bool.or_true, Bool.false_or, Bool.true_or]
        refine tkY 8 hHeld ?_; try simp only [f1, f2, f2b, f2c, f3, f5, f6, Bool.or_false, Bool.or_true, Bool.false_or, Bool.true_or]
        refine tkY 9 hHeld ?_; try simp only [f1, f2, f2b, f2c, f3, f5, f6, Bool.or_false, Bool.or_true, Bool.false_or, Bool.true_or]
        refine tkY 10 hHeld ?_; try simp only [f1, f2, f2b, f2c, f3, f5, f6, Bool.or_false, Bool.or_true, Bool.false_or, Bool.true_or]
        refine tkY 11 hHeld ?_; try simp only [f1, f2, f2b, f2c, f3, f5, f6, Bool.or_false, Bool.or_true, Bool.false_or, Bool.true_or]
        refine tkY 12 hHeld ?_; try simp only [f1, f2, f2b, f2c, f3, f5, f6, Bool.or_false, Bool.or_true, Bool.false_or, Bool.true_or]
        refine tkY 13 hHeld ?_; try simp only [f1, f2, f2b, f2c, f3, f5, f6, Bool.or_false, Bool.or_true, Bool.false_or, Bool.true_or]
        refine tkY 14 hHeld ?_; try simp only [f1, f2, f2b, f2c, f3, f5, f6, Bool.or_false, Bool.or_true, Bool.false_or, Bool.true_or]
        refine tkY 15 hHeld ?_; try simp only [f1, f2, f2b, f2c, f3, f5, f6, Bool.or_false, Bool.or_true, Bool.false_or, Bool.true_or]
        refine tkY 16 hHeld ?_; try simp only [f1, f2, f2b, f2c, f3, f5, f6, Bool.or_false, Bool.or_true, Bool.false_or, Bool.true_or]
        refine tkY 18 hHeld ?_; try simp only [f1, f2, f2b, f2c, f3, f5, f6, Bool.or_false, Bool.or_true, Bool.false_or, Bool.true_or]
        refine tkY 19 hHeld ?_; try simp only [f1, f2, f2b, f2c, f3, f5, f6, Bool.or_false, Bool.or_true, Bool.false_or, Bool.true_or]
        refine tkY 20 hHeld ?_; try simp only [f1, f2, f2b, f2c, f3, f5, f6, Bool.or_false, Bool.or_true, Bool.false_or, Bool.true_or]
        refine wpAnyH_ready (rs := [17]) (by kernel_rfl) (by simp) ?_
        refine AllReadyH.cons (by simp only [List.getElem?_toArray, List.getElem?_cons_succ, List.getElem?_cons_zero] <;> rfl) (fun K hK => ?_) ?_
        · go_simp; refine (decimal11_any (m : Int) _ HI.out).mono ?_; rintro e wv1 ⟨y, HY, _, rfl, hq⟩; have ud1 := ud0.trans hq; clear hq; go_wp2_with fail
          refine hK.out _ _ ?_ (fun hHeld => ?_)
          · trivial
          clear hK K
          try simp only [Act.put, List.setIfInBounds_toArray, List.set_cons_zero, List.set_cons_succ]; try simp only [f1, f2, f2b, f2c, f3, f5, f6, Bool.or_false, Bool.or_true, Bool.false_or, Bool.true_or]
          refine tkY 21 hHeld ?_; try simp only [f1, f2, f2b, f2c, f3, f5, f6, Bool.or_false, Bool.or_true, Bool.false_or, Bool.true_or]
          refine tkY 22 hHeld ?_; try simp only [f1, f2, f2b, f2c, f3, f5, f6, Bool.or_false, Bool.or_true, Bool.false_or, Bool.true_or]
          refine wpAnyH_done (by kernel_rfl) ?_ _
          refine NoPanic.normal ?_
          have hyd : (y.toList == D.toList) = true := eq_beq.2 (HY.out.trans HDN.out.symm)
          have hyn : (!(y.toList == D.toList)) = false := by rw [hyd]; rfl
          have HUU := Lib.hid (HU.out.trans ud1)
          clear ud1 HY HDN
          try simp only [hyd, Bool.not_true]
          go_upto_region 8 with (fail)
          refine wp_region_noPanic ?_
          refine wp_region_held_drew (S := fun _ => True) (by kernel_rfl) ?_ (fun hHeld => ?_)
          · trivial
          refine tkY 0 hHeld ?_; try simp only [f1, f2, f2b, f2c, f3, f5, f6, Bool.or_false, Bool.or_true, Bool.false_or, Bool.true_or]
          refine tkY 1 hHeld ?_; try simp only [f1, f2, f2b, f2c, f3, f5, f6, Bool.or_false, Bool.or_true, Bool.false_or, Bool.true_or]
          refine tkY 2 hHeld ?_; try simp only [f1, f2, f2b, f2c, f3, f5, f6, Bool.or_false, Bool.or_true, Bool.false_or, Bool.true_or]
          refine tkY 3 hHeld ?_; try simp only [f1, f2, f2b, f2c, f3, f5, f6, Bool.or_false, Bool.or_true, Bool.false_or, Bool.true_or]
          refine tkY 4 hHeld ?_; try simp only [f1, f2, f2b, f2c, f3, f5, f6, Bool.or_false, Bool.or_true, Bool.false_or, Bool.true_or]
          refine tkY 5 hHeld ?_; try simp only [f1, f2, f2b, f2c, f3, f5, f6, Bool.or_false, Bool.or_true, Bool.false_or, Bool.true_or]
          refine tkY 6 hHeld ?_; try simp only [f1, f2, f2b, f2c, f3, f5, f6, Bool.or_false, Bool.or_true, Bool.false_or, Bool.true_or]
          refine tkY 7 hHeld ?_; try simp only [f1, f2, f2b, f2c, f3, f5, f6, Bool.or_false, Bool.or_true, Bool.false_or, Bool.true_or]
          refine tkY 8 hHeld ?_; try simp only [f1, f2, f2b, f2c, f3, f5, f6, Bool.or_false, Bool.or_true, Bool.false_or, Bool.true_or]
          refine tkY 9 hHeld ?_; try simp only [f1, f2, f2b, f2c, f3, f5, f6, Bool.or_false, Bool.or_true, Bool.false_or, Bool.true_or]
          refine tkY 10 hHeld ?_; try simp only [f1, f2, f2b, f2c, f3, f5, f6, Bool.or_false, Bool.or_true, Bool.false_or, Bool.true_or]
          refine tkY 11 hHeld ?_; try simp only [f1, f2, f2b, f2c, f3, f5, f6, Bool.or_false, Bool.or_true, Bool.false_or, Bool.true_or]
          refine tkY 12 hHeld ?_; try simp only [f1, f2, f2b, f2c, f3, f5, f6, Bool.or_false, Bool.or_true, Bool.false_or, Bool.true_or]
          refine tkY 13 hHeld ?_; try simp only [f1, f2, f2b, f2c, f3, f5, f6, Bool.or_false, Bool.or_true, Bool.false_or, Bool.true_or]
          refine tkY 14 hHeld ?_; try simp only [f1, f2, f2b, f2c, f3, f5, f6, Bool.or_false, Bool.or_true, Bool.false_or, Bool.true_or]
          refine tkY 15 hHeld ?_; try simp only [f1, f2, f2b, f2c, f3, f5, f6, Bool.or_false, Bool.or_true, Bool.false_or, Bool.true_or]
          refine tkY 16 hHeld ?_; try simp only [f1, f2, f2b, f2c, f3, f5, f6, Bool.or_false, Bool.or_true, Bool.false_or, Bool.true_or]
          refine wpAnyH_done (by kernel_rfl) ?_ _
          refine NoPanic.normal ?_
          go_wp2_with fail
          go_ret3
          exact ⟨_, _, true, HR.out, ht, hr, rfl, HUU.out.drew⟩
        exact AllReadyH.nil
      · have e1 : ((s[k].toNat : Int) == 58) = false := by
          rw [beq_eq_false_iff_ne]
          exact fun h => h58 (UInt8.toNat_inj.1 (by have : (58 : UInt8).toNat = 58 := rfl; omega))
        have HN2 : Hid ((58 : UInt8) ∉ (bs s).take (k + 1)) := by
          show _ ∉ _
          rw [List.take_add_one, hc, Option.toList_some, List.mem_append, List.mem_singleton]
          exact fun h => h.elim HN.out (fun h => h58 h.symm)
        clear hc h58
        go_wp2_with fail
        exact ⟨⟨k + 1, by go_num, by omega, HN2.out, by first | trivial | rfl⟩, by simp [intOf]; omega⟩
    · obtain rfl : k = s.size := by omega
      have hn := HN.out
      rw [List.take_of_length_le (by rw [bs_length]; omega)] at hn
      have HR := Lib.hid (cutG_none hn)
      clear hn
      go_wp2_with fail
      go_ret3
      exact ⟨⟨#[]⟩, ⟨#[]⟩, false, HR.out, Nat.zero_le _, Nat.zero_le _, rfl, Upd.refl _ _⟩
end Go.Proofs.YtcimcodljjcmgaaGreatDoor
