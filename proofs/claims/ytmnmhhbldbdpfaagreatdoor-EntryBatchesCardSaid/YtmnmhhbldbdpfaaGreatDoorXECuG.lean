/- sortesref22.ReadBatch: the walk. -/
import Derived.Test.YtmnmhhbldbdpfaaGreatDoorXECuF
import Derived.Test.YtmnmhhbldbdpfaaGreatDoorXLawP1
import Derived.Test.YtmnmhhbldbdpfaaGreatDoorXChain
namespace Go.Proofs.YtmnmhhbldbdpfaaGreatDoor
open Go.RowKit
set_option maxRecDepth 100000

set_option maxHeartbeats 4000000 in
theorem rreadBatch22_any (s : ByteArray) (w : World) (hs : s.size ≤ 5000) : Calls Tryz.prog 21 #[.string s] w (MkBt (bs s) w) := by
  have z0 : (w.alloc (.cells #[.int .i64 0, .slice none 0 0] 46)).heap[w.heap.size]? = some (.cells #[.int .i64 0, .slice none 0 0] 46 (0, 0)) := heap_alloc_new w _
  have u0 : Upd [] [] w (w.alloc (.cells #[.int .i64 0, .slice none 0 0] 46)) := (Upd.refl _ _).alloc _
  have Z0 := Lib.hid z0
  have BAD : Hid ((∀ k' l', i64in k' → (∀ x ∈ l', Rc.ok x) → bs s ≠ batchL k' l') → btOk (bs s) 0 [] false) := fun h => ⟨⟨by omega, by omega⟩, (fun x h => by cases h), (fun h => by cases h), fun _ => ⟨rfl, rfl, h⟩⟩
  have FIN : Hid (∀ (W : World), Upd [] [] w W → (∀ k' l', i64in k' → (∀ x ∈ l', Rc.ok x) → bs s ≠ batchL k' l') → MkBt (bs s) w (.returned (.tuple #[.agg #[.int .i64 0, .slice none 0 0], .bool false])) W) := fun W u hn => ⟨0, [], .slice none 0 0, false, BAD.out hn, (fun x h => by cases h), World.ownsRow_nil _ _ _ _, (fun x h => by cases h), rfl, u⟩
  have ZC : Hid (∀ W : World, W.heap[w.heap.size]? = some (.cells #[.int .i64 0, .slice none 0 0] 46 (0, 0)) → W.cell? ⟨w.heap.size, 0, none⟩ = some (.int .i64 0) ∧ W.cell? ⟨w.heap.size, 1, none⟩ = some (.slice none 0 0) ∧ W.frozen? ⟨w.heap.size, 0, none⟩ = false ∧ W.frozen? ⟨w.heap.size, 1, none⟩ = false) := fun W h =>
    ⟨by rw [cell_of_row _ _ _ _ _ _ h]; rfl, by rw [cell_of_row _ _ _ _ _ _ h]; rfl, frozen_of_row _ _ _ _ _ h, frozen_of_row _ _ _ _ _ h⟩
  have six : ∀ k' l', bs s = batchL k' l' → (bs s).take 6 = [98, 97, 116, 99, 104, 32] ∧ 6 ≤ s.size := by
    intro k' l' e
    have h : bs s = [98, 97, 116, 99, 104, 32] ++ (Lib.itoa k' ++ 32 :: (Lib.itoa (l'.length : Int) ++ recsT l')) := by rw [e]; rfl
    refine ⟨by rw [h]; rfl, ?_⟩
    have := congrArg List.length h
    rw [bs_length, List.length_append] at this
    simp only [List.length_cons, List.length_nil] at this
    omega
  have SIX := Lib.hid six
  clear six z0
  go_enter Tryz.func21, Tryz.ntmps21
  go_upto_region 1 with (fail)
  by_cases h6 : s.size < 6
  · have h6i : (s.size : Int) < 6 := by omega
    have HB : Hid (∀ k' l', i64in k' → (∀ x ∈ l', Rc.ok x) → bs s ≠ batchL k' l') := fun k' l' _ _ e => by have := (SIX.out k' l' e).2; omega
    obtain ⟨c0, c1, f0, f1⟩ := ZC.out _ Z0.out
    clear h6
    go_wp2_with fail
    refine bodyPost_ret (v := .tuple #[.agg #[.int .i64 0, .slice none 0 0], .bool false]) (by simp [results, Tryz.results21, go_sem, c0, c1]) rfl (FIN.out _ u0 HB.out)
  · have h6i : ¬ (s.size : Int) < 6 := by omega
    have h6j : (6 : Int) ≤ (s.size : Int) := by omega
    obtain ⟨hd, hhd⟩ : ∃ hd : ByteArray, hd = s.extract 0 6 := ⟨_, rfl⟩
    have hbd : bs hd = (bs s).take 6 := by rw [hhd, bs_left]
    have hhd' := hhd.symm
    by_cases hw : hd = ByteArray.mk #[98, 97, 116, 99, 104, 32]
    case neg =>
      have HB : Hid (∀ k' l', i64in k' → (∀ x ∈ l', Rc.ok x) → bs s ≠ batchL k' l') := fun k' l' _ _ e => by
        have h1 := (SIX.out k' l' e).1
        rw [← hbd] at h1
        exact hw (bs_injE h1)
      have hb4 : (hd.toList == [98, 97, 116, 99, 104, 32]) = false := by
        rw [beq_eq_false_iff_ne]
        intro e
        exact hw (bs_injE (by rw [ByteArray.toList_eq] at e; exact e))
      obtain ⟨c0, c1, f0, f1⟩ := ZC.out _ Z0.out
      clear h6 hw hbd hhd
      go_wp2_with fail
      refine bodyPost_ret (v := .tuple #[.agg #[.int .i64 0, .slice none 0 0], .bool false]) (by simp [results, Tryz.results21, go_sem, c0, c1]) rfl (FIN.out _ u0 HB.out)
    case pos =>
      subst hw
      have hs6 : (bs s).take 6 = [98, 97, 116, 99, 104, 32] := by rw [← hbd]; rfl
      obtain ⟨S, hS⟩ : ∃ S : ByteArray, S = s ++ ByteArray.mk #[32] := ⟨_, rfl⟩
      have hSs : S.size = s.size + 1 := by rw [hS, ByteArray.size_append]; rfl
      have hSb : bs S = bs s ++ [32] := by rw [hS, bs_append]; rfl
      have HSB := Lib.hid hSb
      have HS6 := Lib.hid hs6
      have hS' := hS.symm
      have s1 : ¬ 9223372036854775807 < s.size + 1 := by omega
      clear h6 hbd hhd hs6 hSb hS
      have d0 : CuAt ((w.alloc (.cells #[.int .i64 0, .slice none 0 0] 46)).alloc (.cells #[.string S, .int .i64 6, .bool false] 92)) (w.heap.size + 1) S 6 false := by
        have h := heap_alloc_new (w.alloc (.cells #[.int .i64 0, .slice none 0 0] 46)) (.cells #[.string S, .int .i64 6, .bool false] 92)
        rw [World.size_alloc] at h
        exact h
      have g0 : w.heap.size ≤ w.heap.size + 1 := by omega
      have u1 := u0.alloc (.cells #[.string S, .int .i64 6, .bool false] 92)
      have z1 := row_updH Z0.out ((Upd.refl [] _).alloc (.cells #[.string S, .int .i64 6, .bool false] 92))
      have D0 := Lib.hid d0
      have Z1 := Lib.hid z1
      clear d0 z1 u0
      go_wp2_with fail
      refine (cuNumber_any (w.heap.size + 1) S 6 false 32 _ D0.out (by omega) (by omega)).mono ?_
      rintro e w2 ⟨k, a1, b1, H1, ik, ha6, ha1, rfl, D2, hu⟩
      have z2 := row_updG Z1.out hu (by omega)
      have u2 := u1.own2 hu g0
      have hgb : w.heap.size + 1 < w2.heap.size := (Array.getElem?_eq_some_iff.1 D2.out).1
      have S2 : QbSt w (w2.alloc (.cells #[.int .i64 k, .slice none 0 0] 46)) S a1 b1 k (.slice none 0 0) [] w2.heap.size :=
        ⟨row_updH z2 ((Upd.refl [] _).alloc _), D2.out.upd ((Upd.refl [] _).alloc _), heap_alloc_new _ _, World.ownsRow_nil _ _ _ _, (fun x h => by cases h), hgb, u2.alloc _, (fun x h => by cases h)⟩
      clear hu z2 u2 D2 D0 Z1 u1
      go_wp2_with fail
      refine (cuNumber_any (w.heap.size + 1) S a1 b1 32 _ S2.cu ha1 (by omega)).mono ?_
      rintro e w3 ⟨n, a2, b2, H2, inn, ha12, ha2, rfl, D3, hu⟩
      have S3 := Lib.hid (S2.step hu D3.out)
      obtain ⟨B, hB⟩ : ∃ B, B = w2.heap.size := ⟨_, rfl⟩
      rw [← hB] at S3 ⊢
      clear hu S2 D3 hgb hB
      -- what a batch's text would say
      have FW : Hid (∀ k' l', i64in k' → (∀ x ∈ l', Rc.ok x) → bs s = batchL k' l' → k = k' ∧ n = (l'.length : Int) ∧ b2 = false ∧ (bs S).drop a2 = tailT l' ∧ ∀ x ∈ l', (textL x).length ≤ 9223372036854775807) := by
        intro k' l' hk' hl' e
        have e0 : bs S = [98, 97, 116, 99, 104, 32] ++ (Lib.itoa k' ++ 32 :: (Lib.itoa (l'.length : Int) ++ 32 :: tailT l')) := by rw [HSB.out, e, batchL_tail]; rfl
        have hlen : l'.length ≤ 5000 ∧ ∀ x ∈ l', (textL x).length ≤ 9223372036854775807 := by
          have h1 := recsT_many l'
          have h2 := congrArg List.length e
          rw [bs_length] at h2
          unfold batchL at h2
          simp only [List.length_append, List.length_cons] at h2
          exact ⟨by omega, fun x hx => by have := recsT_text hx; omega⟩
        have e1 : (bs S).drop 6 = Lib.itoa k' ++ 32 :: (Lib.itoa (l'.length : Int) ++ 32 :: tailT l') := by rw [e0]; rfl
        obtain ⟨q1, q2, q3⟩ := H1.out.2 _ _ hk' (itoa_no32 _) e1
        obtain ⟨r1, r2, r3⟩ := H2.out.2 _ _ (by unfold i64in; omega) (itoa_no32 _) q2
        exact ⟨q1, r1, by rw [r3, q3], r2, hlen.2⟩
      have BW : Hid (b2 = false → ∀ l, n = (l.length : Int) → (bs S).drop a2 = tailT l → bs s = batchL k l) := by
        intro hb l hn ht
        obtain ⟨q1, q2⟩ := H2.out.1 hb
        obtain ⟨_, q4⟩ := H1.out.1 q1
        have h6 : bs S = [98, 97, 116, 99, 104, 32] ++ (bs S).drop 6 := by
          have h1 : (bs S).take 6 = [98, 97, 116, 99, 104, 32] := by
            rw [HSB.out, List.take_append_of_le_length (by rw [bs_length]; omega)]
            exact HS6.out
          rw [← h1, List.take_append_drop]
        have h7 : bs s ++ [32] = batchL k l ++ [32] := by
          rw [← HSB.out, batchL_tail, h6, q4, q2, ht, hn]
          rfl
        exact List.append_cancel_right h7
      have HSB2 := Lib.hid HSB.out
      clear HSB HS6 H1 H2 SIX
      by_cases hn0 : n < 0
      case pos =>
        have HB : Hid (∀ k' l', i64in k' → (∀ x ∈ l', Rc.ok x) → bs s ≠ batchL k' l') := fun k' l' hk' hl' e => by have := (FW.out k' l' hk' hl' e).2.1; omega
        obtain ⟨c0, c1, f0, f1⟩ := ZC.out _ S3.out.rz
        have U3 := S3.out.up
        go_wp2_with fail
        refine bodyPost_ret (v := .tuple #[.agg #[.int .i64 0, .slice none 0 0], .bool false]) (by simp [results, Tryz.results21, go_sem, c0, c1]) rfl (FIN.out _ ((U3.setNew (p := ⟨w.heap.size, 0, none⟩) (Nat.le_refl _) _).setNew (p := ⟨w.heap.size, 1, none⟩) (Nat.le_refl _) _) HB.out)
      obtain ⟨N, rfl⟩ : ∃ N : Nat, n = (N : Int) := ⟨n.toNat, by omega⟩
      have I3 : Hid ((b2 = false → (bs S).drop a2 = tailT [] ++ (bs S).drop a2) ∧ ∀ k' l', i64in k' → (∀ x ∈ l', Rc.ok x) → bs s = batchL k' l' → k = k' ∧ N = l'.length ∧ b2 = false ∧ 0 ≤ l'.length ∧ [] = l'.take 0 ∧ (bs S).drop a2 = tailT (l'.drop 0) ∧ ∀ x ∈ l', (textL x).length ≤ 9223372036854775807) :=
        ⟨fun _ => rfl, fun k' l' hk' hl' e => (by obtain ⟨q1, q2, q3, q4, q5⟩ := FW.out k' l' hk' hl' e; exact ⟨q1, by omega, q3, Nat.zero_le _, rfl, q4, q5⟩)⟩
      obtain ⟨a20, ha20⟩ : ∃ a20, a20 = a2 := ⟨_, rfl⟩
      have hn0' : ¬ (N : Int) < 0 := by omega
      clear hn0 FW
      go_wp2_with fail
      go_loopw [7, 8, 9, 10] (fun i _ _ _ wr => ∃ (j a : Nat) (bad : Bool) (v : Value) (l : List Rc), i = .int .i64 (j : Int) ∧ l.length = j ∧ j ≤ a ∧ a ≤ S.size ∧ Hid (QbSt w wr S a bad k v l B) ∧ Hid ((bad = false → (bs S).drop a20 = tailT l ++ (bs S).drop a) ∧ ∀ k' l', i64in k' → (∀ x ∈ l', Rc.ok x) → bs s = batchL k' l' → k = k' ∧ N = l'.length ∧ bad = false ∧ j ≤ l'.length ∧ l = l'.take j ∧ (bs S).drop a = tailT (l'.drop j) ∧ ∀ x ∈ l', (textL x).length ≤ 9223372036854775807) ∧ Hid (bad = false → b2 = false) ∧ (bad = false → j ≤ N)) (fun _ _ _ _ wr => cuM wr (w.heap.size + 1))
      case atStart => exact ⟨0, a2, b2, _, [], rfl, rfl, Nat.zero_le _, ha2, S3, by rw [ha20]; exact I3, fun h => h, fun _ => Nat.zero_le _⟩
      case round =>
        obtain ⟨j, a, bad, v, l, rfl, hlj, hja, haS, HS, HH, HBB, hjN⟩ := hrel
        obtain ⟨k0, k1, k2, f1, f2⟩ := HS.out.cu.cells
        by_cases hgo : j < N ∧ bad = false
        · obtain ⟨hjn, rfl⟩ := hgo
          have dj : (j : Int) < (N : Int) := by omega
          have HCM := Lib.hid (cuM_at HS.out.cu)
          go_wp2_with fail
          refine (cuNumber_any (w.heap.size + 1) S a false 58 wr HS.out.cu haS (by omega)).mono ?_
          rintro e wA ⟨sz, a3, b3, H3, isz, ha3, ha3S, rfl, DA, hu⟩
          have SA := Lib.hid (HS.out.step hu DA.out)
          clear hu DA k0 k1 k2 f1 f2
          have FW3 : Hid (∀ k' l', i64in k' → (∀ x ∈ l', Rc.ok x) → bs s = batchL k' l' → k = k' ∧ N = l'.length ∧ l = l'.take j ∧ (∀ x ∈ l', (textL x).length ≤ 9223372036854775807) ∧ ∃ x, l'[j]? = some x ∧ x.ok ∧ sz = ((textL x).length : Int) ∧ b3 = false ∧ a3 + (textL x).length < (bs S).length ∧ ((bs S).drop a3).take (textL x).length = textL x ∧ (bs S)[a3 + (textL x).length]? = some 32 ∧ (bs S).drop (a3 + (textL x).length + 1) = tailT (l'.drop (j + 1))) := by
            intro k' l' hk' hl' e
            obtain ⟨q1, q2, _, q4, q5, q6, q7⟩ := HH.out.2 k' l' hk' hl' e
            have hjl : j < l'.length := by omega
            rw [List.drop_eq_getElem_cons hjl, tailT] at q6
            obtain ⟨r1, r2, _, r4, r5, r6, r7⟩ := stepF H3.out (q7 _ (List.getElem_mem hjl)) q6
            exact ⟨q1, q2, q5, q7, _, List.getElem?_eq_getElem hjl, hl' _ (List.getElem_mem hjl), r1, r2, r4, r5, r6, r7⟩
          obtain ⟨k0, k1, k2, f1, f2⟩ := SA.out.cu.cells
          have hrz := SA.out.rz
          by_cases hgood : b3 = false ∧ 0 ≤ sz ∧ sz ≤ (s.size : Int) - (a3 : Int)
          case neg =>
            have HB : Hid (∀ k' l', i64in k' → (∀ x ∈ l', Rc.ok x) → bs s ≠ batchL k' l') := fun k' l' hk' hl' e => by
              obtain ⟨_, _, _, _, x, _, _, r1, r2, r4, _⟩ := FW3.out k' l' hk' hl' e
              rw [bs_length] at r4
              exact hgood ⟨r2, by omega, by omega⟩
            obtain ⟨c0, c1, g1, g2⟩ := ZC.out _ hrz
            have UA := SA.out.up
            have ws : IntKind.i64.wrap ((s.size : Int) - (a3 : Int)) = (s.size : Int) - (a3 : Int) := IntWalk.i64_in _ (by omega)
            have EXITS : True := trivial
            cases b3
            · by_cases hs0 : sz < 0
              · clear hgood
                go_wp2_with fail
                refine bodyPost_ret (v := .tuple #[.agg #[.int .i64 0, .slice none 0 0], .bool false]) (by simp [results, Tryz.results21, go_sem, c0, c1]) rfl (FIN.out _ ((UA.setNew (p := ⟨w.heap.size, 0, none⟩) (Nat.le_refl _) _).setNew (p := ⟨w.heap.size, 1, none⟩) (Nat.le_refl _) _) HB.out)
              · have hs1 : (s.size : Int) - (a3 : Int) < sz := by
                  refine Int.not_le.1 (fun h => hgood ⟨rfl, by omega, h⟩)
                clear hgood
                go_wp2_with fail
                refine bodyPost_ret (v := .tuple #[.agg #[.int .i64 0, .slice none 0 0], .bool false]) (by simp [results, Tryz.results21, go_sem, c0, c1]) rfl (FIN.out _ ((UA.setNew (p := ⟨w.heap.size, 0, none⟩) (Nat.le_refl _) _).setNew (p := ⟨w.heap.size, 1, none⟩) (Nat.le_refl _) _) HB.out)
            · clear hgood
              go_wp2_with fail
              refine bodyPost_ret (v := .tuple #[.agg #[.int .i64 0, .slice none 0 0], .bool false]) (by simp [results, Tryz.results21, go_sem, c0, c1]) rfl (FIN.out _ ((UA.setNew (p := ⟨w.heap.size, 0, none⟩) (Nat.le_refl _) _).setNew (p := ⟨w.heap.size, 1, none⟩) (Nat.le_refl _) _) HB.out)
          obtain ⟨rfl, hs0, hs1⟩ := hgood
          obtain ⟨m, rfl⟩ : ∃ m : Nat, sz = (m : Int) := ⟨sz.toNat, by omega⟩
          obtain ⟨e3, he3⟩ : ∃ e3, e3 = a3 + m := ⟨_, rfl⟩
          have w0 : IntKind.i64.wrap ((s.size : Int) - (a3 : Int)) = (s.size : Int) - (a3 : Int) := IntWalk.i64_in _ (by omega)
          have w1 : IntKind.i64.wrap ((a3 : Int) + (m : Int)) = (e3 : Int) := by rw [IntWalk.i64_in _ (by omega)]; omega
          have j0 : ¬ (m : Int) < 0 := by omega
          have j1 : ¬ (s.size : Int) - (a3 : Int) < (m : Int) := by omega
          have j2 : (0 : Int) ≤ (a3 : Int) := by omega
          have j3 : (a3 : Int) ≤ (e3 : Int) := by omega
          have j4 : (e3 : Int) ≤ (s.size : Int) := by omega
          obtain ⟨t, ht⟩ : ∃ t, t = s.extract a3 e3 := ⟨_, rfl⟩
          have htb : bs t = ((bs S).drop a3).take m := by
            rw [ht, bs_extract, HSB2.out, List.drop_append_of_le_length (by rw [bs_length]; omega), List.take_append_of_le_length (by rw [List.length_drop, bs_length]; omega)]
            congr 1
            omega
          have HTB := Lib.hid htb
          have hts : t.size ≤ 5000 := by rw [ht, ByteArray.size_extract]; omega
          have ht' := ht.symm
          have HK : Hid (∀ W, Upd [] [] wA W → W.cell? ⟨w.heap.size + 1, 1, none⟩ = some (.int .i64 (a3 : Int))) := by
            intro W u
            exact ((SA.out.cu.upd u).cells).2.1
          have ud0 : Upd [] [] wA wA.drew := (Upd.refl _ _).drew
          have HE3 := Lib.hid he3
          clear hs0 hs1 ht htb he3 isz
          go_upto_region 14 with (fail)
          clear k0 k1 k2 f1 f2 w0 j0 j1
          refine @id ((∀ (gX : Nat) (X : Rc) (C : Array Value) (ok : Bool) (W : World), Hid (rcOk (bs t) X ok) → Hid (C = (rcV X).toArray) → Hid (W.heap[gX]? = some (.cells C 33 (0, 0))) → Upd [] [] wA W → wA.heap.size ≤ gX → (?pj1 : Nat → Rc → Array Value → Bool → World → Prop) gX X C ok W) → _) (fun hJ => ?mj1) ?jj1
          case mj1 =>
            refine wp_region_noPanic ?_
            refine wp_region_held_drew (S := fun wp => wp.cell? ⟨w.heap.size + 1, 1, none⟩ = some (.int .i64 (a3 : Int))) (by kernel_rfl) ?_ (fun hHeld => ?_)
            · exact HK.out _ ud0
            refine wpAnyH_take (i := 0) (v := ?v2) (by simp only [List.getElem?_toArray, List.getElem?_cons_zero] <;> rfl) (by kernel_rfl) (by kernel_rfl) (by kernel_rfl) (fun _ _ _ h => h) (Or.inl ⟨by rfl, ?y2⟩) hHeld ?r2
            case y2 => (intro w hSw; (try dsimp only at hSw); go_simp; first | done | with_reducible rfl | rfl)
            try simp only [Act.put, List.setIfInBounds_toArray, List.set_cons_zero, List.set_cons_succ]
            refine wpAnyH_take (i := 1) (v := ?v3) (by simp only [List.getElem?_toArray, List.getElem?_cons_succ, List.getElem?_cons_zero] <;> rfl) (by kernel_rfl) (by kernel_rfl) (by kernel_rfl) (fun _ _ _ h => h) (Or.inl ⟨by rfl, ?y3⟩) hHeld ?r3
            case y3 => (intro w hSw; (try dsimp only at hSw); go_simp; first | done | with_reducible rfl | rfl)
            try simp only [Act.put, List.setIfInBounds_toArray, List.set_cons_zero, List.set_cons_succ]
            refine wpAnyH_take (i := 2) (v := ?v4) (by simp only [List.getElem?_toArray, List.getElem?_cons_succ, List.getElem?_cons_zero] <;> rfl) (by kernel_rfl) (by kernel_rfl) (by kernel_rfl) (fun _ _ _ h => h) (Or.inl ⟨by rfl, ?y4⟩) hHeld ?r4
            case y4 => (intro w hSw; (try dsimp only at hSw); go_simp; first | done | with_reducible rfl | rfl)
            try simp only [Act.put, List.setIfInBounds_toArray, List.set_cons_zero, List.set_cons_succ]
            refine wpAnyH_take (i := 3) (v := ?v5) (by simp only [List.getElem?_toArray, List.getElem?_cons_succ, List.getElem?_cons_zero] <;> rfl) (by kernel_rfl) (by kernel_rfl) (by kernel_rfl) (fun _ _ _ h => h) (Or.inl ⟨by rfl, ?y5⟩) hHeld ?r5
            case y5 => (intro w hSw; (try dsimp only at hSw); go_simp; first | done | with_reducible rfl | rfl)
            try simp only [Act.put, List.setIfInBounds_toArray, List.set_cons_zero, List.set_cons_succ]
            refine wpAnyH_take (i := 4) (v := ?v6) (by simp only [List.getElem?_toArray, List.getElem?_cons_succ, List.getElem?_cons_zero] <;> rfl) (by kernel_rfl) (by kernel_rfl) (by kernel_rfl) (fun _ _ _ h => h) (Or.inl ⟨by rfl, ?y6⟩) hHeld ?r6
            case y6 => (intro w hSw; (try dsimp only at hSw); go_simp; first | done | with_reducible rfl | rfl)
            try simp only [Act.put, List.setIfInBounds_toArray, List.set_cons_zero, List.set_cons_succ]
            refine wpAnyH_take (i := 5) (v := ?v7) (by simp only [List.getElem?_toArray, List.getElem?_cons_succ, List.getElem?_cons_zero] <;> rfl) (by kernel_rfl) (by kernel_rfl) (by kernel_rfl) (fun _ _ _ h => h) (Or.inl ⟨by rfl, ?y7⟩) hHeld ?r7
            case y7 => (intro w hSw; (try dsimp only at hSw); go_simp; first | done | with_reducible rfl | rfl)
            try simp only [Act.put, List.setIfInBounds_toArray, List.set_cons_zero, List.set_cons_succ]
            refine wpAnyH_take (i := 6) (v := ?v8) (by simp only [List.getElem?_toArray, List.getElem?_cons_succ, List.getElem?_cons_zero] <;> rfl) (by kernel_rfl) (by kernel_rfl) (by kernel_rfl) (fun _ _ _ h => h) (Or.inl ⟨by rfl, ?y8⟩) hHeld ?r8
            case y8 => (intro w hSw; (try dsimp only at hSw); go_simp; first | done | with_reducible rfl | rfl)
            try simp only [Act.put, List.setIfInBounds_toArray, List.set_cons_zero, List.set_cons_succ]
            refine wpAnyH_take (i := 7) (v := ?v9) (by simp only [List.getElem?_toArray, List.getElem?_cons_succ, List.getElem?_cons_zero] <;> rfl) (by kernel_rfl) (by kernel_rfl) (by kernel_rfl) (fun _ _ _ h => h) (Or.inl ⟨by rfl, ?y9⟩) hHeld ?r9
            case y9 => (intro w hSw; (try dsimp only at hSw); go_simp; first | done | with_reducible rfl | rfl)
            try simp only [Act.put, List.setIfInBounds_toArray, List.set_cons_zero, List.set_cons_succ]
            refine wpAnyH_take (i := 8) (v := ?v10) (by simp only [List.getElem?_toArray, List.getElem?_cons_succ, List.getElem?_cons_zero] <;> rfl) (by kernel_rfl) (by kernel_rfl) (by kernel_rfl) (fun _ _ _ h => h) (Or.inl ⟨by rfl, ?y10⟩) hHeld ?r10
            case y10 => (intro w hSw; (try dsimp only at hSw); go_simp; first | done | with_reducible rfl | rfl)
            try simp only [Act.put, List.setIfInBounds_toArray, List.set_cons_zero, List.set_cons_succ]
            refine wpAnyH_take (i := 9) (v := ?v11) (by simp only [List.getElem?_toArray, List.getElem?_cons_succ, List.getElem?_cons_zero] <;> rfl) (by kernel_rfl) (by kernel_rfl) (by kernel_rfl) (fun _ _ _ h => h) (Or.inl ⟨by rfl, ?y11⟩) hHeld ?r11
            case y11 => (intro w hSw; (try dsimp only at hSw); go_simp; first | done | with_reducible rfl | rfl)
            try simp only [Act.put, List.setIfInBounds_toArray, List.set_cons_zero, List.set_cons_succ]
            refine wpAnyH_take (i := 10) (v := ?v12) (by simp only [List.getElem?_toArray, List.getElem?_cons_succ, List.getElem?_cons_zero] <;> rfl) (by kernel_rfl) (by kernel_rfl) (by kernel_rfl) (fun _ _ _ h => h) (Or.inl ⟨by rfl, ?y12⟩) hHeld ?r12
            case y12 => (intro w hSw; (try dsimp only at hSw); go_simp; first | done | with_reducible rfl | rfl)
            try simp only [Act.put, List.setIfInBounds_toArray, List.set_cons_zero, List.set_cons_succ]
            refine wpAnyH_take (i := 11) (v := ?v13) (by simp only [List.getElem?_toArray, List.getElem?_cons_succ, List.getElem?_cons_zero] <;> rfl) (by kernel_rfl) (by kernel_rfl) (by kernel_rfl) (fun _ _ _ h => h) (Or.inl ⟨by rfl, ?y13⟩) hHeld ?r13
            case y13 => (intro w hSw; (try dsimp only at hSw); go_simp; first | done | with_reducible rfl | rfl)
            try simp only [Act.put, List.setIfInBounds_toArray, List.set_cons_zero, List.set_cons_succ]
            refine wpAnyH_ready (rs := [12, 16]) (by kernel_rfl) (by simp) ?_
            refine AllReadyH.cons (by simp only [List.getElem?_toArray, List.getElem?_cons_succ, List.getElem?_cons_zero] <;> rfl) (fun K hK => ?_) ?_
            · go_simp; refine (rread22_any t _ (by omega)).mono ?_; rintro e wv1 ⟨X, ok, HX, rfl, hq⟩; obtain ⟨C, hC⟩ : ∃ C, C = (rcV X).toArray := ⟨_, rfl⟩; obtain ⟨HYI, HYM, HYZ⟩ := rcLet HX.out.1 C hC; rw [← hC]; have HCE := Lib.hid hC; clear hC; have ud1 := ud0.trans hq; clear hq; go_wp2_with fail
              refine hK.out _ _ ?_ (fun hHeld => ?_)
              · exact HK.out _ ud1
              clear hK K
              try simp only [Act.put, List.setIfInBounds_toArray, List.set_cons_zero, List.set_cons_succ]
              refine wpAnyH_take (i := 13) (v := ?v14) (by simp only [List.getElem?_toArray, List.getElem?_cons_succ, List.getElem?_cons_zero] <;> rfl) (by kernel_rfl) (by kernel_rfl) (by kernel_rfl) (fun _ _ _ h => h) (Or.inl ⟨by rfl, ?y14⟩) hHeld ?r14
              case y14 => (intro w hSw; (try dsimp only at hSw); go_simp; first | done | with_reducible rfl | rfl)
              try simp only [Act.put, List.setIfInBounds_toArray, List.set_cons_zero, List.set_cons_succ]
              refine wpAnyH_take (i := 14) (v := ?v15) (by simp only [List.getElem?_toArray, List.getElem?_cons_succ, List.getElem?_cons_zero] <;> rfl) (by kernel_rfl) (by kernel_rfl) (by kernel_rfl) (fun _ _ _ h => h) (Or.inl ⟨by rfl, ?y15⟩) hHeld ?r15
              case y15 => (intro w hSw; (try dsimp only at hSw); go_simp; first | done | with_reducible rfl | rfl)
              try simp only [Act.put, List.setIfInBounds_toArray, List.set_cons_zero, List.set_cons_succ]
              refine wpAnyH_take (i := 15) (v := ?v16) (by simp only [List.getElem?_toArray, List.getElem?_cons_succ, List.getElem?_cons_zero] <;> rfl) (by kernel_rfl) (by kernel_rfl) (by kernel_rfl) (fun _ _ _ h => h) (Or.inl ⟨by rfl, ?y16⟩) hHeld ?r16
              case y16 => (intro w hSw; (try dsimp only at hSw); go_simp; first | done | with_reducible rfl | rfl)
              try simp only [Act.put, List.setIfInBounds_toArray, List.set_cons_zero, List.set_cons_succ]
              refine wpAnyH_ready (rs := [16]) (by kernel_rfl) (by simp) ?_
              refine AllReadyH.cons (by simp only [List.getElem?_toArray, List.getElem?_cons_succ, List.getElem?_cons_zero] <;> rfl) (fun K hK => ?_) ?_
              · go_simp; obtain ⟨gX, wv2, hgx, hwx, fz2, hq⟩ := alloc_let wv1 (.cells Tryz.zeroCells33 33); rw [← hgx, ← hwx]; have ud2 := ud1.trans hq; have hgX : wA.heap.size ≤ gX := (by have := ud1.size; omega); clear hgx hwx hq
                refine hK.out _ _ ?_ (fun hHeld => ?_)
                · exact HK.out _ ud2
                clear hK K
                try simp only [Act.put, List.setIfInBounds_toArray, List.set_cons_zero, List.set_cons_succ]
                refine wpAnyH_ready (rs := [17]) (by kernel_rfl) (by simp) ?_
                refine AllReadyH.cons (by simp only [List.getElem?_toArray, List.getElem?_cons_succ, List.getElem?_cons_zero] <;> rfl) (fun K hK => ?_) ?_
                · rw [if_pos (by rfl)]; refine wp_store_row 33 _ _ rfl gX C rfl rfl _ _ fz2.out HYI.out HYZ.out HYM.out ?_; obtain ⟨wv3, hwx, fz3, ud3⟩ := setRow_let wv2 gX _ _ C fz2.out wA ud2 hgX; rw [← hwx]; clear hwx
                  refine hK.out _ _ ?_ (fun hHeld => ?_)
                  · exact HK.out _ ud3
                  clear hK K
                  try simp only [Act.put]
                  refine wpAnyH_take (i := 18) (v := ?v17) (by simp only [List.getElem?_toArray, List.getElem?_cons_succ, List.getElem?_cons_zero] <;> rfl) (by kernel_rfl) (by kernel_rfl) (by kernel_rfl) (fun _ _ _ h => h) (Or.inl ⟨by rfl, ?y17⟩) hHeld ?r17
                  case y17 => (intro w hSw; (try dsimp only at hSw); go_simp; first | done | with_reducible rfl | rfl)
                  try simp only [Act.put, List.setIfInBounds_toArray, List.set_cons_zero, List.set_cons_succ]
                  refine wpAnyH_done (by kernel_rfl) ?_ _
                  refine NoPanic.normal ?_
                  exact hJ gX X C ok wv3 HX HCE fz3 ud3 hgX
                exact AllReadyH.nil
              exact AllReadyH.nil
            refine AllReadyH.cons (by simp only [List.getElem?_toArray, List.getElem?_cons_succ, List.getElem?_cons_zero] <;> rfl) (fun K hK => ?_) ?_
            · go_simp; obtain ⟨gX, wv1, hgx, hwx, fz1, hq⟩ := alloc_letD wA (.cells Tryz.zeroCells33 33); rw [← hgx, ← hwx]; have ud1 := hq; have hgX : wA.heap.size ≤ gX := (by omega); clear hgx hwx hq
              refine hK.out _ _ ?_ (fun hHeld => ?_)
              · exact HK.out _ ud1
              clear hK K
              try simp only [Act.put, List.setIfInBounds_toArray, List.set_cons_zero, List.set_cons_succ]
              refine wpAnyH_ready (rs := [12]) (by kernel_rfl) (by simp) ?_
              refine AllReadyH.cons (by simp only [List.getElem?_toArray, List.getElem?_cons_succ, List.getElem?_cons_zero] <;> rfl) (fun K hK => ?_) ?_
              · go_simp; refine (rread22_any t _ (by omega)).mono ?_; rintro e wv2 ⟨X, ok, HX, rfl, hq⟩; obtain ⟨C, hC⟩ : ∃ C, C = (rcV X).toArray := ⟨_, rfl⟩; obtain ⟨HYI, HYM, HYZ⟩ := rcLet HX.out.1 C hC; rw [← hC]; have HCE := Lib.hid hC; clear hC; have ud2 := ud1.trans hq; have fz2 := Lib.hid (row_updH fz1.out hq); clear hq; go_wp2_with fail
                refine hK.out _ _ ?_ (fun hHeld => ?_)
                · exact HK.out _ ud2
                clear hK K
                try simp only [Act.put, List.setIfInBounds_toArray, List.set_cons_zero, List.set_cons_succ]
                refine wpAnyH_take (i := 13) (v := ?v18) (by simp only [List.getElem?_toArray, List.getElem?_cons_succ, List.getElem?_cons_zero] <;> rfl) (by kernel_rfl) (by kernel_rfl) (by kernel_rfl) (fun _ _ _ h => h) (Or.inl ⟨by rfl, ?y18⟩) hHeld ?r18
                case y18 => (intro w hSw; (try dsimp only at hSw); go_simp; first | done | with_reducible rfl | rfl)
                try simp only [Act.put, List.setIfInBounds_toArray, List.set_cons_zero, List.set_cons_succ]
                refine wpAnyH_take (i := 14) (v := ?v19) (by simp only [List.getElem?_toArray, List.getElem?_cons_succ, List.getElem?_cons_zero] <;> rfl) (by kernel_rfl) (by kernel_rfl) (by kernel_rfl) (fun _ _ _ h => h) (Or.inl ⟨by rfl, ?y19⟩) hHeld ?r19
                case y19 => (intro w hSw; (try dsimp only at hSw); go_simp; first | done | with_reducible rfl | rfl)
                try simp only [Act.put, List.setIfInBounds_toArray, List.set_cons_zero, List.set_cons_succ]
                refine wpAnyH_take (i := 15) (v := ?v20) (by simp only [List.getElem?_toArray, List.getElem?_cons_succ, List.getElem?_cons_zero] <;> rfl) (by kernel_rfl) (by kernel_rfl) (by kernel_rfl) (fun _ _ _ h => h) (Or.inl ⟨by rfl, ?y20⟩) hHeld ?r20
                case y20 => (intro w hSw; (try dsimp only at hSw); go_simp; first | done | with_reducible rfl | rfl)
                try simp only [Act.put, List.setIfInBounds_toArray, List.set_cons_zero, List.set_cons_succ]
                refine wpAnyH_ready (rs := [17]) (by kernel_rfl) (by simp) ?_
                refine AllReadyH.cons (by simp only [List.getElem?_toArray, List.getElem?_cons_succ, List.getElem?_cons_zero] <;> rfl) (fun K hK => ?_) ?_
                · rw [if_pos (by rfl)]; refine wp_store_row 33 _ _ rfl gX C rfl rfl _ _ fz2.out HYI.out HYZ.out HYM.out ?_; obtain ⟨wv3, hwx, fz3, ud3⟩ := setRow_let wv2 gX _ _ C fz2.out wA ud2 hgX; rw [← hwx]; clear hwx
                  refine hK.out _ _ ?_ (fun hHeld => ?_)
                  · exact HK.out _ ud3
                  clear hK K
                  try simp only [Act.put]
                  refine wpAnyH_take (i := 18) (v := ?v21) (by simp only [List.getElem?_toArray, List.getElem?_cons_succ, List.getElem?_cons_zero] <;> rfl) (by kernel_rfl) (by kernel_rfl) (by kernel_rfl) (fun _ _ _ h => h) (Or.inl ⟨by rfl, ?y21⟩) hHeld ?r21
                  case y21 => (intro w hSw; (try dsimp only at hSw); go_simp; first | done | with_reducible rfl | rfl)
                  try simp only [Act.put, List.setIfInBounds_toArray, List.set_cons_zero, List.set_cons_succ]
                  refine wpAnyH_done (by kernel_rfl) ?_ _
                  refine NoPanic.normal ?_
                  exact hJ gX X C ok wv3 HX HCE fz3 ud3 hgX
                exact AllReadyH.nil
              exact AllReadyH.nil
            exact AllReadyH.nil
          intro gX X C ok wB HX HCE FX uB hgX
          have SB := Lib.hid (SA.out.upd uB)
          have hgg : w.heap.size + 1 < gX := by have := (Array.getElem?_eq_some_iff.1 SA.out.cu).1; omega
          have hXo : X.ok := HX.out.1
          have hXd : ok = true → X.draw.size ≤ 1000000 := by
            intro h
            have h1 := congrArg List.length (HX.out.2.1 h)
            rw [bs_length] at h1
            unfold textL bodyL at h1
            simp only [List.length_append, List.length_cons, bs_length] at h1
            omega
          have HTT : Hid (∀ k' l', i64in k' → (∀ x ∈ l', Rc.ok x) → bs s = batchL k' l' → k = k' ∧ N = l'.length ∧ l = l'.take j ∧ (∀ x ∈ l', (textL x).length ≤ 9223372036854775807) ∧ l'[j]? = some X ∧ ok = true ∧ (bs S)[e3]? = some 32 ∧ (bs S).drop (e3 + 1) = tailT (l'.drop (j + 1))) := by
            intro k' l' hk' hl' e
            obtain ⟨q1, q2, q3, q4, x, q5, q6, q7, _, _, q8, q9, q10⟩ := FW3.out k' l' hk' hl' e
            have hm : m = (textL x).length := by omega
            rw [← hm] at q8 q9 q10
            rw [← HTB.out] at q8
            have hx := HX.out
            rw [q8] at hx
            obtain ⟨r1, r2⟩ := rcOk_text q6 hx
            rw [HE3.out]
            exact ⟨q1, q2, q3, q4, by rw [r1]; exact q5, r2, q9, q10⟩
          obtain ⟨k0, k1, k2, f1, f2⟩ := SB.out.cu.cells
          obtain ⟨wC, hwC⟩ : ∃ wC, wB.setCell ⟨w.heap.size + 1, 1, none⟩ (.int .i64 (e3 : Int)) = wC := ⟨_, rfl⟩
          have SC : QbSt w wC S e3 false k v l B := by rw [← hwC]; exact SB.out.setA e3 (e3 : Int) rfl
          have FC : wC.heap[gX]? = some (.cells C 33 (0, 0)) := by rw [← hwC]; exact row_otherE FX.out (by omega) _
          have HWC := Lib.hid hwC
          have SC2 := Lib.hid SC
          have FC2 := Lib.hid FC
          have he3s : e3 ≤ s.size := by omega
          have he3l : a3 ≤ e3 := by omega
          clear hwC SC FC SB FX HK uB FW3 ht' hts j2 j3 j4 SA
          go_upto_region 16 with (fail)
          rw [HWC.out]
          clear k0 k1 k2 f1 f2 HWC w1
          have SD := Lib.hid (SC2.out.upd (Upd.refl [] wC).drew)
          have FD := Lib.hid (row_updH FC2.out (Upd.refl [] wC).drew)
          cases ok
          · have HB : Hid (∀ k' l', i64in k' → (∀ x ∈ l', Rc.ok x) → bs s ≠ batchL k' l') := fun k' l' hk' hl' e => by
              have := (HTT.out k' l' hk' hl' e).2.2.2.2.2.1
              cases this
            have SC3 := Lib.hid SC2.out
            clear SC2 FC2
            go_quiet (fail)
            have SDq := Lib.hid (SC3.out.upd ((Upd.refl [] wC).drewN nq))
            clear SD
            obtain ⟨wD, hwD⟩ : ∃ wD, wC.drewN nq = wD := ⟨_, rfl⟩
            rw [hwD] at SDq ⊢
            clear hwD
            have SD := SDq
            obtain ⟨c0, c1, g1, g2⟩ := ZC.out _ SD.out.rz
            have UD := SD.out.up
            go_wp2_with fail
            refine bodyPost_ret (v := .tuple #[.agg #[.int .i64 0, .slice none 0 0], .bool false]) (by simp [results, Tryz.results21, go_sem, c0, c1]) rfl (FIN.out _ ((UD.setNew (p := ⟨w.heap.size, 0, none⟩) (Nat.le_refl _) _).setNew (p := ⟨w.heap.size, 1, none⟩) (Nat.le_refl _) _) HB.out)
          have he3S : e3 < S.size := by omega
          have e30 : (0 : Int) ≤ (e3 : Int) := by omega
          have e31 : (e3 : Int) < (S.size : Int) := by omega
          have hget : (bs S)[e3]? = some S[e3] := List.getElem?_eq_getElem (by rw [bs_length]; exact he3S)
          have HGET := Lib.hid hget
          have ka : wC.drew.cell? ⟨w.heap.size + 1, 0, none⟩ = some (.string S) ∧ wC.drew.cell? ⟨w.heap.size + 1, 1, none⟩ = some (.int .i64 (e3 : Int)) := ⟨SD.out.cu.cells.1, SD.out.cu.cells.2.1⟩
          clear SC2 FC2 hget
          by_cases h32 : S[e3] = 32
          case neg =>
            have HB : Hid (∀ k' l', i64in k' → (∀ x ∈ l', Rc.ok x) → bs s ≠ batchL k' l') := fun k' l' hk' hl' e => by
              have h := (HTT.out k' l' hk' hl' e).2.2.2.2.2.2.1
              rw [HGET.out] at h
              injection h with h
              exact h32 h
            have hb : ((S[e3].toNat : Int) == 32) = false := by
              rw [beq_eq_false_iff_ne]
              intro e
              exact h32 (UInt8.toNat_inj.1 (by rw [show (32 : UInt8).toNat = 32 from rfl]; omega))
            clear h32
            go_region_held3 (fun wp => wp.cell? ⟨w.heap.size + 1, 0, none⟩ = some (.string S) ∧ wp.cell? ⟨w.heap.size + 1, 1, none⟩ = some (.int .i64 (e3 : Int))) (first | with_reducible exact ka | with_reducible assumption) (fail)
            clear ka
            obtain ⟨wD, hwD⟩ : ∃ wD, wC.drew = wD := ⟨_, rfl⟩
            rw [hwD] at SD ⊢
            clear hwD
            obtain ⟨c0, c1, g1, g2⟩ := ZC.out _ SD.out.rz
            have UD := SD.out.up
            go_wp2_with fail
            refine bodyPost_ret (v := .tuple #[.agg #[.int .i64 0, .slice none 0 0], .bool false]) (by simp [results, Tryz.results21, go_sem, c0, c1]) rfl (FIN.out _ ((UD.setNew (p := ⟨w.heap.size, 0, none⟩) (Nat.le_refl _) _).setNew (p := ⟨w.heap.size, 1, none⟩) (Nat.le_refl _) _) HB.out)
          have hb : ((S[e3].toNat : Int) == 32) = true := by rw [beq_iff_eq, h32]; rfl
          have H32 : Hid ((bs S)[e3]? = some 32) := by show _ = _; rw [HGET.out, h32]
          clear h32 HGET
          go_region_held3 (fun wp => wp.cell? ⟨w.heap.size + 1, 0, none⟩ = some (.string S) ∧ wp.cell? ⟨w.heap.size + 1, 1, none⟩ = some (.int .i64 (e3 : Int))) (first | with_reducible exact ka | with_reducible assumption) (fail)
          clear ka
          obtain ⟨wD, hwD⟩ : ∃ wD, wC.drew = wD := ⟨_, rfl⟩
          rw [hwD] at SD FD ⊢
          clear hwD
          obtain ⟨k0, k1, k2, f1, f2⟩ := SD.out.cu.cells
          have w1 : IntKind.i64.wrap ((e3 : Int) + 1) = (e3 : Int) + 1 := IntWalk.i64_in _ (by omega)
          obtain ⟨wE, hwE⟩ : ∃ wE, wD.setCell ⟨w.heap.size + 1, 1, none⟩ (.int .i64 ((e3 : Int) + 1)) = wE := ⟨_, rfl⟩
          have SE : QbSt w wE S (e3 + 1) false k v l B := by rw [← hwE]; exact SD.out.setA (e3 + 1) _ (by omega)
          have FE : wE.heap[gX]? = some (.cells C 33 (0, 0)) := by rw [← hwE]; exact row_otherE FD.out (by omega) _
          obtain ⟨v', wF, hrun, hown, hup⟩ := append_rc wE v l X hXo SE.own (by omega)
          obtain ⟨a', n', c', rfl⟩ : ∃ a' n' c', v' = .slice a' n' c' := by
            rcases hown.2 with ⟨h, _⟩ | ⟨g, cap, cur, h, _⟩
            · exact ⟨_, _, _, h⟩
            · exact ⟨_, _, _, h⟩
          have SF := Lib.hid (SE.append ⟨hXo, hXd (by first | rfl | trivial)⟩ hup hown)
          have cv : wE.cell? ⟨B, 1, none⟩ = some v := by rw [cell_of_row _ _ _ _ _ _ SE.bb]; rfl
          have HBF : wF.heap[B]? = some (.cells #[.int .i64 k, v] 46 (0, 0)) := by
            rw [hup.block B (Array.getElem?_eq_some_iff.1 SE.bb).1 (fun hm => (SE.fo B hm).2 rfl)]
            exact SE.bb
          have ce : wF.cell? ⟨B, 1, none⟩ = some v := by rw [cell_of_row _ _ _ _ _ _ HBF]; rfl
          have fe : wF.frozen? ⟨B, 1, none⟩ = false := frozen_of_row _ _ _ _ _ HBF
          have HBR : Hid ((Instr.buildSlice 44 1 #[(0, .agg C)]).run Tryz.prog wE = .ok (.slice (some ⟨wE.heap.size, 0, none⟩) 1 1) (wE.alloc (.cells C 33))) := by
            show _ = _
            rw [HCE.out]
            exact rc_build X hXo wE
          rw [← HCE.out] at hrun
          have HRN := Lib.hid hrun
          have HCI : Hid ((Tryz.prog.info? 33).map (·.size) = some C.size) := by show _ = _; rw [HCE.out]; exact rcSz hXo
          have FE2 := Lib.hid FE
          have HWE := Lib.hid hwE
          have HNX : Hid (((bs S).drop a20 = tailT (l ++ [X]) ++ (bs S).drop (e3 + 1)) ∧ ∀ k' l', i64in k' → (∀ x ∈ l', Rc.ok x) → bs s = batchL k' l' → k = k' ∧ N = l'.length ∧ false = false ∧ j + 1 ≤ l'.length ∧ l ++ [X] = l'.take (j + 1) ∧ (bs S).drop (e3 + 1) = tailT (l'.drop (j + 1)) ∧ ∀ x ∈ l', (textL x).length ≤ 9223372036854775807) := by
            refine ⟨?_, fun k' l' hk' hl' e => ?_⟩
            · have h32 := H32.out
              rw [HE3.out] at h32
              rw [HH.out.1 (by first | rfl | trivial), stepB H3.out rfl rfl HTB.out (HX.out.2.1 rfl) h32, tailT_app, List.append_assoc, HE3.out]
            · obtain ⟨q1, q2, q3, q4, q5, _, _, q8⟩ := HTT.out k' l' hk' hl' e
              refine ⟨q1, q2, rfl, by omega, ?_, q8, q4⟩
              rw [List.take_add_one, q5, ← q3]
              rfl
          have HM2 := Lib.hid (cuM_at SF.out.cu)
          have HBB2 : Hid (false = false → b2 = false) := fun _ => HBB.out (by first | rfl | trivial)
          have hSE := SE.bb
          clear hrun hown hup FE hwE SD FD HTT HH SE hSE HBF H32 HX H3 HTB
          go_upto_region 19 with (fail)
          rw [HWE.out]
          clear k0 k1 k2 f1 f2 w1 HWE hb
          go_wp2_with (first | (refine wpList_load_row rfl 33 _ rfl gX rfl _ C _ _ FE2.out Tryz.underlying33 rfl HCI.out ?_) | (refine wpList_buildRun rfl 44 1 _ rfl _ _ (Eq.trans (congrArg (fun z => (Instr.buildSlice 44 1 z).run Tryz.prog wE) (by kernel_rfl)) HBR.out) ?_) | (refine wpList_append_run _ rfl _ _ _ _ rfl _ _ (.slice a' n' c') wF rfl rfl HRN.out ?_))
          refine ⟨⟨j + 1, e3 + 1, false, .slice a' n' c', l ++ [X], by first | rfl | go_num, by simp [hlj], by omega, by omega, SF, ⟨fun _ => HNX.out.1, HNX.out.2⟩, HBB2, fun _ => by omega⟩, ?_⟩
          show cuM _ _ < cuM _ _
          rw [HM2.out, HCM.out]
          omega
        · have hgo' : ¬ ((j : Int) < (N : Int)) ∨ bad = true := by
            cases hb : bad
            · left
              intro h
              exact hgo ⟨by omega, hb⟩
            · exact .inr rfl
          obtain ⟨c0, c1, g1, g2⟩ := ZC.out _ HS.out.rz
          have UP := HS.out.up
          cases bad
          case true =>
            have HB : Hid (∀ k' l', i64in k' → (∀ x ∈ l', Rc.ok x) → bs s ≠ batchL k' l') := fun k' l' hk' hl' e => by
              have := (HH.out.2 k' l' hk' hl' e).2.2.1
              cases this
            clear hgo hgo'
            by_cases hjn2 : (j : Int) < (N : Int)
            · go_wp2_with fail
              refine bodyPost_ret (v := .tuple #[.agg #[.int .i64 0, .slice none 0 0], .bool false]) (by simp [results, Tryz.results21, go_sem, c0, c1]) rfl (FIN.out _ ((UP.setNew (p := ⟨w.heap.size, 0, none⟩) (Nat.le_refl _) _).setNew (p := ⟨w.heap.size, 1, none⟩) (Nat.le_refl _) _) HB.out)
            · go_wp2_with fail
              refine bodyPost_ret (v := .tuple #[.agg #[.int .i64 0, .slice none 0 0], .bool false]) (by simp [results, Tryz.results21, go_sem, c0, c1]) rfl (FIN.out _ ((UP.setNew (p := ⟨w.heap.size, 0, none⟩) (Nat.le_refl _) _).setNew (p := ⟨w.heap.size, 1, none⟩) (Nat.le_refl _) _) HB.out)
          have hjn2 : ¬ (j : Int) < (N : Int) := by
            rcases hgo' with h | h
            · exact h
            · cases h
          have hjeq : j = N := by have := hjN (by first | rfl | trivial); omega
          have ws : IntKind.i64.wrap ((s.size : Int) + 1) = (s.size : Int) + 1 := IntWalk.i64_in _ (by omega)
          clear hgo hgo'
          by_cases haE : a = S.size
          case neg =>
            have HB : Hid (∀ k' l', i64in k' → (∀ x ∈ l', Rc.ok x) → bs s ≠ batchL k' l') := fun k' l' hk' hl' e => by
              obtain ⟨_, q2, _, _, _, q6, _⟩ := HH.out.2 k' l' hk' hl' e
              rw [hjeq, q2, List.drop_length] at q6
              have h1 := congrArg List.length q6
              rw [List.length_drop, bs_length] at h1
              simp [tailT] at h1
              omega
            have hne : ((a : Int) == (s.size : Int) + 1) = false := by rw [beq_eq_false_iff_ne]; omega
            clear haE hjeq
            go_wp2_with fail
            refine bodyPost_ret (v := .tuple #[.agg #[.int .i64 0, .slice none 0 0], .bool false]) (by simp [results, Tryz.results21, go_sem, c0, c1]) rfl (FIN.out _ ((UP.setNew (p := ⟨w.heap.size, 0, none⟩) (Nat.le_refl _) _).setNew (p := ⟨w.heap.size, 1, none⟩) (Nat.le_refl _) _) HB.out)
          have heq : ((a : Int) == (s.size : Int) + 1) = true := by rw [beq_iff_eq]; omega
          have hb2 : b2 = false := HBB.out (by first | rfl | trivial)
          have HG : Hid (btOk (bs s) k l true) := by
            have hs := BW.out hb2 l (by omega) (by
              rw [← ha20, HH.out.1 (by first | rfl | trivial), haE, List.drop_of_length_le (by rw [bs_length]; exact Nat.le_refl _), List.append_nil])
            exact ⟨ik, fun x hx => (HS.out.oks x hx).1, fun _ => hs, fun h => by cases h⟩
          have b0 : wr.cell? ⟨B, 0, none⟩ = some (.int .i64 k) := by rw [cell_of_row _ _ _ _ _ _ HS.out.bb]; rfl
          have b1 : wr.cell? ⟨B, 1, none⟩ = some v := by rw [cell_of_row _ _ _ _ _ _ HS.out.bb]; rfl
          have HOK := Lib.hid HS.out.oks
          have HOW := Lib.hid HS.out.own
          have HFO : Hid (∀ x, x ∈ foot v → w.heap.size ≤ x) := fun x hx => (by have := (HS.out.fo x hx).1; omega)
          obtain ⟨ao, cap, rfl, hcap, hin⟩ := rcs_of_row HS.out.own HS.out.oks
          have HOW2 : Hid (((wr.setCell ⟨w.heap.size, 0, none⟩ (.int .i64 k)).setCell ⟨w.heap.size, 1, none⟩ (.slice ao l.length cap)).ownsRow 0 33 102 (.slice ao l.length cap) l.length (rcVals l)) :=
            row_same HOW.out (fun x hx => (by
              have h1 := (HS.out.fo x hx).1
              rw [Below.heap_setCell _ _ _ _ (show x ≠ w.heap.size by omega), Below.heap_setCell _ _ _ _ (show x ≠ w.heap.size by omega)]))
          clear haE hjeq hin HOW
          subst hlj
          go_wp2_with fail
          refine bodyPost_ret (v := .tuple #[.agg #[.int .i64 k, .slice ao l.length cap], .bool true]) (by simp [results, Tryz.results21, go_sem, c0, c1]) rfl ⟨k, l, .slice ao l.length cap, true, HG.out, HOK.out, HOW2.out, HFO.out, rfl, (UP.setNew (p := ⟨w.heap.size, 0, none⟩) (Nat.le_refl _) _).setNew (p := ⟨w.heap.size, 1, none⟩) (Nat.le_refl _) _⟩
end Go.Proofs.YtmnmhhbldbdpfaaGreatDoor
