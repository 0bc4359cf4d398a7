/- JournalKeeps returns true: the walk. -/
import Derived.Test.YtbpbmigdfjnneaaJSame
namespace Go.Proofs.Ytbpbmigdfjnneaa
open Go.RowKit
set_option maxRecDepth 100000

def KeepMid (w : World) (jb b rb k : Nat) (wx : World) : Prop := ∃ (D : DiskM) (F : List UInt8) (rs : List (List UInt8)) (S Sr : List Nat), Pair w jb b rb (k + 1) D F rs S Sr wx ∧ D.failing = false ∧ D.calls + 2 ≤ 10 + 6 * (k + 1)

theorem RJAt.cell0 {w : World} {rb : Nat} {R : RJ} {S : List Nat} (h : RJAt w rb R S) : ∃ ao cap, w.cell? ⟨rb, 0, none⟩ = some (.slice ao R.L.length cap) := by
  obtain ⟨vl, vm, hi, _⟩ := h.is
  obtain ⟨ao, cap, hv, _, _⟩ := row_slice hi.2.1
  exact ⟨ao, cap, by rw [← hv]; exact cell_of_row _ rb 0 _ _ _ hi.1⟩

/-- Another condition from here on. -/
theorem wpAnyH_switch {P : Program} {md : Region.Mode} {ops : Array Oper} {Q : Exit → Act → World → Prop} {S S' : World → Prop} (hsub : ∀ w, S' w → S w) :
    ∀ {fuel : Nat} {listed : Array Bool} {a : Act} {w : World}, wpAnyH P md ops Q S' fuel listed a w → wpAnyH P md ops Q S fuel listed a w := by
  intro fuel
  induction fuel with
  | zero => intro listed a w h; exact h
  | succ fuel ih => intro listed a w h; exact ⟨h.1, fun i hi => wpOp_mono (fun a' w' h' => ⟨hsub w' h'.1, ih h'.2⟩) (h.2 i hi)⟩

set_option maxHeartbeats 1600000 in
theorem walk_JournalKeeps (vl : Value) (l : List (List UInt8)) (ag cr : Int) (w : World) (hl : StrsAt w vl l) (hl2 : ∀ s ∈ l, s.length ≤ 9223372036854775807) (_ha0 : 0 ≤ ag) (_ha1 : ag ≤ 4294967295) (_hc0 : 0 ≤ cr) (_hc1 : cr ≤ 4294967295) :
    Calls Try.prog 11 #[vl, .int .u32 ag, .int .u32 cr] w (TrueB w) := by
  obtain ⟨aol, capl, rfl, hcl, hml⟩ := hl.slice
  have HL2 := Lib.hid hl2
  clear hl2
  go_enter Try.func11, Try.ntmps11
  go_wp2_with fail
  refine (sanity25 w).mono ?_
  rintro e w1 ⟨rfl, hb⟩
  go_wp2_with fail
  refine (New_to w1).mono ?_
  rintro e w2 ⟨bd, Sd, rfl, hd2, hu2⟩
  have d2 := start_disk hb hd2 hu2
  clear hb hd2 hu2
  go_wp2_with fail
  refine (Open_fine d2.at_ JClean.empty (recsL_nil [] rfl) rfl (by decide) d2.above d2.below d2.size).mono ?_
  rintro e w3 ⟨jb, v0, S3, rfl, st3, hv0, hu3, hn3⟩
  clear d2 hv0 hu3 hn3
  go_wp2_with fail
  refine (RJNew_any w3).mono ?_
  rintro e w4 ⟨rb, Sr, rfl, hr4, hu4⟩
  have p4 := pair_start st3 hr4 hu4
  clear st3 hr4 hu4
  go_wp2_with fail
  go_loopw [8, 9, 11, 13] (fun d j e i wr => PairRel w rb l wr d j e i) (fun _ _ _ i _ => 20 - (intOf i).toNat)
  case atStart => exact ⟨0, jb, bd, _, _, _, _, _, rfl, rfl, rfl, rfl, Nat.zero_le _, Nat.zero_le _, p4, rfl⟩
  case round =>
    clear p4
    obtain ⟨k, jb, bd, D, F, rs, S, Sr, rfl, rfl, rfl, rfl, hk, hk20, p, hff⟩ := hrel
    have HFF := Lib.hid hff
    clear hff
    by_cases hgo : k < l.length ∧ k < 20
    · obtain ⟨hkl, hk9⟩ := hgo
      obtain ⟨b, off, cap', s, hv, hs, hc, _, _⟩ := hl.at k hkl
      cases hv
      have hsl := HL2.out s (List.mem_of_getElem? hs)
      obtain ⟨y, hy⟩ : ∃ y : ByteArray, y = ⟨s.toArray⟩ := ⟨_, rfl⟩
      have hc' : w.cell? ⟨b, off + k, none⟩ = some (.string y) := by rw [hy]; exact hc
      have hbl : b < w.heap.size := World.block_lt_of_cell? _ _ hc'
      have hyl : y.size ≤ 9223372036854775807 := by rw [hy]; exact hsl
      have hcW : ∀ wx, Below w.heap.size w wx → wx.cell? ⟨b, off + k, none⟩ = some (.string y) := fun wx hx => (hx.cell (p := ⟨b, off + k, none⟩) hbl).trans hc'
      have HCW := Lib.hid hcW
      obtain ⟨r, hr⟩ : ∃ r : ByteArray, r = ⟨(shortL (bs y)).toArray⟩ := ⟨_, rfl⟩
      have hrb : Hid (bs r = shortL (bs y)) := by rw [hr]; rfl
      have hrl : r.size ≤ 200 := by rw [hr]; exact shortL_length _
      have hrb2 : (bs r).length ≤ 200 := by rw [bs_length]; exact hrl
      have hk0 : (0 : Int) ≤ (k : Int) := by omega
      have hk1 : (k : Int) < (l.length : Int) := by omega
      have hk2 : (k : Int) < 20 := by omega
      clear hc hs hy hc' hcW hr
      go_upto_region 8 with (fail)
      go_cut [66] (fun s66 wx => s66 = .bool false ∧ KeepMid w jb bd rb k wx)
      case first =>
        have c1 := HCW.out wr p.st.below
        have sp1 := p.space
        have mn1 := p.many
        have ca1 := p.calls
        have pd : Pair w jb bd rb k D F rs S Sr wr.drew := p.quiet (Upd.refl [] wr).drew
        have cd : wr.drew.cell? ⟨b, off + k, none⟩ = some (.string y) := c1
        have el : (rs ++ [bs r]).length = rs.length + 1 := by simp
        have HEL := Lib.hid el
        have hne : ((rs.length : Int) + 1 != (rs.length : Int) + 1) = false := by simp
        clear p el
        refine wp_region_noPanic ?_
        refine wp_region_held_drew (S := fun wp => wp.cell? ⟨b, off + k, none⟩ = some (.string y)) (by kernel_rfl) ?_ (fun hHeld => ?_)
        · exact cd
        refine wpAnyH_take (i := 0) (v := ?v1) (by simp only [List.getElem?_toArray, List.getElem?_cons_zero] <;> rfl) (by kernel_rfl) (by kernel_rfl) (by kernel_rfl) (fun _ _ _ h => h) (Or.inl ⟨by rfl, ?y1⟩) hHeld ?r1
        case y1 => (intro w hSw; (try dsimp only at hSw); go_simp; first | done | with_reducible rfl | rfl)
        try simp only [Act.put, List.setIfInBounds_toArray, List.set_cons_zero, List.set_cons_succ]
        refine wpAnyH_take (i := 1) (v := ?v2) (by simp only [List.getElem?_toArray, List.getElem?_cons_succ, List.getElem?_cons_zero] <;> rfl) (by kernel_rfl) (by kernel_rfl) (by kernel_rfl) (fun _ _ _ h => h) (Or.inl ⟨by rfl, ?y2⟩) hHeld ?r2
        case y2 => (intro w hSw; (try dsimp only at hSw); go_simp; first | done | with_reducible rfl | rfl)
        try simp only [Act.put, List.setIfInBounds_toArray, List.set_cons_zero, List.set_cons_succ]
        refine wpAnyH_take (i := 2) (v := ?v3) (by simp only [List.getElem?_toArray, List.getElem?_cons_succ, List.getElem?_cons_zero] <;> rfl) (by kernel_rfl) (by kernel_rfl) (by kernel_rfl) (fun _ _ _ h => h) (Or.inl ⟨by rfl, ?y3⟩) hHeld ?r3
        case y3 => (intro w hSw; (try dsimp only at hSw); go_simp; first | done | with_reducible rfl | rfl)
        try simp only [Act.put, List.setIfInBounds_toArray, List.set_cons_zero, List.set_cons_succ]
        refine wpAnyH_take (i := 3) (v := ?v4) (by simp only [List.getElem?_toArray, List.getElem?_cons_succ, List.getElem?_cons_zero] <;> rfl) (by kernel_rfl) (by kernel_rfl) (by kernel_rfl) (fun _ _ _ h => h) (Or.inl ⟨by rfl, ?y4⟩) hHeld ?r4
        case y4 => (intro w hSw; (try dsimp only at hSw); go_simp; first | done | with_reducible rfl | rfl)
        try simp only [Act.put, List.setIfInBounds_toArray, List.set_cons_zero, List.set_cons_succ]
        refine wpAnyH_take (i := 4) (v := ?v5) (by simp only [List.getElem?_toArray, List.getElem?_cons_succ, List.getElem?_cons_zero] <;> rfl) (by kernel_rfl) (by kernel_rfl) (by kernel_rfl) (fun _ _ _ h => h) (Or.inl ⟨by rfl, ?y5⟩) hHeld ?r5
        case y5 => (intro w hSw; (try dsimp only at hSw); go_simp; first | done | with_reducible rfl | rfl)
        try simp only [Act.put, List.setIfInBounds_toArray, List.set_cons_zero, List.set_cons_succ]
        refine wpAnyH_take (i := 5) (v := ?v6) (by simp only [List.getElem?_toArray, List.getElem?_cons_succ, List.getElem?_cons_zero] <;> rfl) (by kernel_rfl) (by kernel_rfl) (by kernel_rfl) (fun _ _ _ h => h) (Or.inl ⟨by rfl, ?y6⟩) hHeld ?r6
        case y6 => (intro w hSw; (try dsimp only at hSw); go_simp; first | done | with_reducible rfl | rfl)
        try simp only [Act.put, List.setIfInBounds_toArray, List.set_cons_zero, List.set_cons_succ]
        refine wpAnyH_take (i := 6) (v := ?v7) (by simp only [List.getElem?_toArray, List.getElem?_cons_succ, List.getElem?_cons_zero] <;> rfl) (by kernel_rfl) (by kernel_rfl) (by kernel_rfl) (fun _ _ _ h => h) (Or.inl ⟨by rfl, ?y7⟩) hHeld ?r7
        case y7 => (intro w hSw; (try dsimp only at hSw); go_simp; first | done | with_reducible rfl | rfl)
        try simp only [Act.put, List.setIfInBounds_toArray, List.set_cons_zero, List.set_cons_succ]
        refine wpAnyH_take (i := 7) (v := ?v8) (by simp only [List.getElem?_toArray, List.getElem?_cons_succ, List.getElem?_cons_zero] <;> rfl) (by kernel_rfl) (by kernel_rfl) (by kernel_rfl) (fun _ _ _ h => h) (Or.inl ⟨by rfl, ?y8⟩) hHeld ?r8
        case y8 => (intro w hSw; (try dsimp only at hSw); go_simp; first | done | with_reducible rfl | rfl)
        try simp only [Act.put, List.setIfInBounds_toArray, List.set_cons_zero, List.set_cons_succ]
        refine wpAnyH_take (i := 8) (v := ?v9) (by simp only [List.getElem?_toArray, List.getElem?_cons_succ, List.getElem?_cons_zero] <;> rfl) (by kernel_rfl) (by kernel_rfl) (by kernel_rfl) (fun _ _ _ h => h) (Or.inl ⟨by rfl, ?y9⟩) hHeld ?r9
        case y9 => (intro w hSw; (try dsimp only at hSw); go_simp; first | done | with_reducible rfl | rfl)
        try simp only [Act.put, List.setIfInBounds_toArray, List.set_cons_zero, List.set_cons_succ]
        refine wpAnyH_take (i := 9) (v := ?v10) (by simp only [List.getElem?_toArray, List.getElem?_cons_succ, List.getElem?_cons_zero] <;> rfl) (by kernel_rfl) (by kernel_rfl) (by kernel_rfl) (fun _ _ _ h => h) (Or.inl ⟨by rfl, ?y10⟩) hHeld ?r10
        case y10 => (intro w hSw; (try dsimp only at hSw); go_simp; first | done | with_reducible rfl | rfl)
        try simp only [Act.put, List.setIfInBounds_toArray, List.set_cons_zero, List.set_cons_succ]
        refine wpAnyH_take (i := 10) (v := ?v11) (by simp only [List.getElem?_toArray, List.getElem?_cons_succ, List.getElem?_cons_zero] <;> rfl) (by kernel_rfl) (by kernel_rfl) (by kernel_rfl) (fun _ _ _ h => h) (Or.inl ⟨by rfl, ?y11⟩) hHeld ?r11
        case y11 => (intro w hSw; (try dsimp only at hSw); go_simp; first | done | with_reducible rfl | rfl)
        try simp only [Act.put, List.setIfInBounds_toArray, List.set_cons_zero, List.set_cons_succ]
        refine wpAnyH_take (i := 11) (v := ?v12) (by simp only [List.getElem?_toArray, List.getElem?_cons_succ, List.getElem?_cons_zero] <;> rfl) (by kernel_rfl) (by kernel_rfl) (by kernel_rfl) (fun _ _ _ h => h) (Or.inl ⟨by rfl, ?y12⟩) hHeld ?r12
        case y12 => (intro w hSw; (try dsimp only at hSw); go_simp; first | done | with_reducible rfl | rfl)
        try simp only [Act.put, List.setIfInBounds_toArray, List.set_cons_zero, List.set_cons_succ]
        refine wpAnyH_take (i := 14) (v := ?v13) (by simp only [List.getElem?_toArray, List.getElem?_cons_succ, List.getElem?_cons_zero] <;> rfl) (by kernel_rfl) (by kernel_rfl) (by kernel_rfl) (fun _ _ _ h => h) (Or.inl ⟨by rfl, ?y13⟩) hHeld ?r13
        case y13 => (intro w hSw; (try dsimp only at hSw); go_simp; first | done | with_reducible rfl | rfl)
        try simp only [Act.put, List.setIfInBounds_toArray, List.set_cons_zero, List.set_cons_succ]
        refine wpAnyH_take (i := 15) (v := ?v14) (by simp only [List.getElem?_toArray, List.getElem?_cons_succ, List.getElem?_cons_zero] <;> rfl) (by kernel_rfl) (by kernel_rfl) (by kernel_rfl) (fun _ _ _ h => h) (Or.inl ⟨by rfl, ?y14⟩) hHeld ?r14
        case y14 => (intro w hSw; (try dsimp only at hSw); go_simp; first | done | with_reducible rfl | rfl)
        try simp only [Act.put, List.setIfInBounds_toArray, List.set_cons_zero, List.set_cons_succ]
        refine wpAnyH_take (i := 16) (v := ?v15) (by simp only [List.getElem?_toArray, List.getElem?_cons_succ, List.getElem?_cons_zero] <;> rfl) (by kernel_rfl) (by kernel_rfl) (by kernel_rfl) (fun _ _ _ h => h) (Or.inl ⟨by rfl, ?y15⟩) hHeld ?r15
        case y15 => (intro w hSw; (try dsimp only at hSw); go_simp; first | done | with_reducible rfl | rfl)
        try simp only [Act.put, List.setIfInBounds_toArray, List.set_cons_zero, List.set_cons_succ]
        refine wpAnyH_take (i := 17) (v := ?v16) (by simp only [List.getElem?_toArray, List.getElem?_cons_succ, List.getElem?_cons_zero] <;> rfl) (by kernel_rfl) (by kernel_rfl) (by kernel_rfl) (fun _ _ _ h => h) (Or.inl ⟨by rfl, ?y16⟩) hHeld ?r16
        case y16 => (intro w hSw; (try dsimp only at hSw); go_simp; first | done | with_reducible rfl | rfl)
        try simp only [Act.put, List.setIfInBounds_toArray, List.set_cons_zero, List.set_cons_succ]
        refine wpAnyH_take (i := 18) (v := ?v17) (by simp only [List.getElem?_toArray, List.getElem?_cons_succ, List.getElem?_cons_zero] <;> rfl) (by kernel_rfl) (by kernel_rfl) (by kernel_rfl) (fun _ _ _ h => h) (Or.inl ⟨by rfl, ?y17⟩) hHeld ?r17
        case y17 => (intro w hSw; (try dsimp only at hSw); go_simp; first | done | with_reducible rfl | rfl)
        try simp only [Act.put, List.setIfInBounds_toArray, List.set_cons_zero, List.set_cons_succ]
        refine wpAnyH_ready (rs := [12]) (by kernel_rfl) (by simp) ?_
        refine AllReadyH.cons (by simp only [List.getElem?_toArray, List.getElem?_cons_succ, List.getElem?_cons_zero] <;> rfl) (fun K hK => ?_) ?_
        · go_simp; refine (short_to y r _ hyl hrb).mono ?_; rintro e wq ⟨rfl, rfl⟩; go_wp2_with fail
          refine hK.out _ _ ?_ (fun hHeld => ?_)
          · exact cd
          clear hK K
          try simp only [Act.put, List.setIfInBounds_toArray, List.set_cons_zero, List.set_cons_succ]
          refine wpAnyH_ready (rs := [13]) (by kernel_rfl) (by simp) ?_
          refine AllReadyH.cons (by simp only [List.getElem?_toArray, List.getElem?_cons_succ, List.getElem?_cons_zero] <;> rfl) (fun K hK => ?_) ?_
          · go_simp; refine (App_fine pd.st r HFF.out (by omega) (by omega)).mono ?_; rintro e w5 ⟨D5, S5, rfl, st5, hu5, f5, c5⟩; have c5' := HCW.out w5 st5.below; have href5 := pd.ref.kept hu5 (fun x hx hm => pd.dis x hm hx); go_wp2_with fail
            refine hK.out _ _ ?_ (fun hHeld => ?_)
            · exact c5'
            clear hK K
            try simp only [Act.put, List.setIfInBounds_toArray, List.set_cons_zero, List.set_cons_succ]
            refine wpAnyH_ready (rs := [19]) (by kernel_rfl) (by simp) ?_
            refine AllReadyH.cons (by simp only [List.getElem?_toArray, List.getElem?_cons_succ, List.getElem?_cons_zero] <;> rfl) (fun K hK => ?_) ?_
            · go_simp; refine (short_to y r _ hyl hrb).mono ?_; rintro e wq ⟨rfl, rfl⟩; go_wp2_with fail
              refine hK.out _ _ ?_ (fun hHeld => ?_)
              · exact c5'
              clear hK K
              try simp only [Act.put, List.setIfInBounds_toArray, List.set_cons_zero, List.set_cons_succ]
              refine wpAnyH_ready (rs := [20]) (by kernel_rfl) (by simp) ?_
              refine AllReadyH.cons (by simp only [List.getElem?_toArray, List.getElem?_cons_succ, List.getElem?_cons_zero] <;> rfl) (fun K hK => ?_) ?_
              · go_simp; refine (RJAppend_any rb _ Sr r true w5 _ _ href5 (by show spaceL rs ≤ _; omega) (by omega) (by show rs.length ≤ _; omega) (by simp) (rapp_on rs (bs r) (by rw [bs_length]; omega))).mono ?_; rintro e w6 ⟨Sr6, rfl, hr6, hu6⟩; have p6 := pair_on pd st5 hu5 c5 hr6 hu6 hrb2; have c6 := HCW.out w6 p6.st.below; obtain ⟨aoL, capL, cL6⟩ := hr6.cell0; have hM := Lib.hid (Many_fine p6.st); have cL6' : w6.cell? ⟨rb, 0, none⟩ = some (.slice aoL (rs.length + 1) capL) := (by rw [← HEL.out]; exact cL6); clear cL6; go_wp2_with fail
                refine hK.out _ _ ?_ (fun hHeld => ?_)
                · exact c6
                clear hK K
                try simp only [Act.put, List.setIfInBounds_toArray, List.set_cons_zero, List.set_cons_succ]
                refine wpAnyH_take (i := 21) (v := ?v18) (by simp only [List.getElem?_toArray, List.getElem?_cons_succ, List.getElem?_cons_zero] <;> rfl) (by kernel_rfl) (by kernel_rfl) (by kernel_rfl) (fun _ _ _ h => h) (Or.inl ⟨by rfl, ?y18⟩) hHeld ?r18
                case y18 => (intro w hSw; (try dsimp only at hSw); go_simp; first | done | with_reducible rfl | rfl)
                try simp only [Act.put, List.setIfInBounds_toArray, List.set_cons_zero, List.set_cons_succ]
                refine wpAnyH_take (i := 22) (v := ?v19) (by simp only [List.getElem?_toArray, List.getElem?_cons_succ, List.getElem?_cons_zero] <;> rfl) (by kernel_rfl) (by kernel_rfl) (by kernel_rfl) (fun _ _ _ h => h) (Or.inl ⟨by rfl, ?y19⟩) hHeld ?r19
                case y19 => (intro w hSw; (try dsimp only at hSw); go_simp; first | done | with_reducible rfl | rfl)
                try simp only [Act.put, List.setIfInBounds_toArray, List.set_cons_zero, List.set_cons_succ]
                refine wpAnyH_take (i := 23) (v := ?v20) (by simp only [List.getElem?_toArray, List.getElem?_cons_succ, List.getElem?_cons_zero] <;> rfl) (by kernel_rfl) (by kernel_rfl) (by kernel_rfl) (fun _ _ _ h => h) (Or.inl ⟨by rfl, ?y20⟩) hHeld ?r20
                case y20 => (intro w hSw; (try dsimp only at hSw); go_simp; first | done | with_reducible rfl | rfl)
                try simp only [Act.put, List.setIfInBounds_toArray, List.set_cons_zero, List.set_cons_succ]
                refine wpAnyH_take (i := 24) (v := ?v21) (by simp only [List.getElem?_toArray, List.getElem?_cons_succ, List.getElem?_cons_zero] <;> rfl) (by kernel_rfl) (by kernel_rfl) (by kernel_rfl) (fun _ _ _ h => h) (Or.inl ⟨by rfl, ?y21⟩) hHeld ?r21
                case y21 => (intro w hSw; (try dsimp only at hSw); go_simp; first | done | with_reducible rfl | rfl)
                try simp only [Act.put, List.setIfInBounds_toArray, List.set_cons_zero, List.set_cons_succ]
                refine wpAnyH_take (i := 26) (v := ?v22) (by simp only [List.getElem?_toArray, List.getElem?_cons_succ, List.getElem?_cons_zero] <;> rfl) (by kernel_rfl) (by kernel_rfl) (by kernel_rfl) (fun _ _ _ h => h) (Or.inl ⟨by rfl, ?y22⟩) hHeld ?r22
                case y22 => (intro w hSw; (try dsimp only at hSw); go_simp; first | done | with_reducible rfl | rfl)
                try simp only [Act.put, List.setIfInBounds_toArray, List.set_cons_zero, List.set_cons_succ]
                refine wpAnyH_take (i := 27) (v := ?v23) (by simp only [List.getElem?_toArray, List.getElem?_cons_succ, List.getElem?_cons_zero] <;> rfl) (by kernel_rfl) (by kernel_rfl) (by kernel_rfl) (fun _ _ _ h => h) (Or.inl ⟨by rfl, ?y23⟩) hHeld ?r23
                case y23 => (intro w hSw; (try dsimp only at hSw); go_simp; first | done | with_reducible rfl | rfl)
                try simp only [Act.put, List.setIfInBounds_toArray, List.set_cons_zero, List.set_cons_succ]
                refine wpAnyH_take (i := 28) (v := ?v24) (by simp only [List.getElem?_toArray, List.getElem?_cons_succ, List.getElem?_cons_zero] <;> rfl) (by kernel_rfl) (by kernel_rfl) (by kernel_rfl) (fun _ _ _ h => h) (Or.inl ⟨by rfl, ?y24⟩) hHeld ?r24
                case y24 => (intro w hSw; (try dsimp only at hSw); go_simp; first | done | with_reducible rfl | rfl)
                try simp only [Act.put, List.setIfInBounds_toArray, List.set_cons_zero, List.set_cons_succ]
                refine wpAnyH_switch (S' := fun wp => wp.cell? ⟨b, off + k, none⟩ = some (.string y) ∧ wp.cell? ⟨rb, 0, none⟩ = some (.slice aoL (rs.length + 1) capL)) (fun _ h => h.1) ?_
                have hHeld := And.intro c6 cL6'
                refine wpAnyH_take (i := 29) (v := ?v25) (by simp only [List.getElem?_toArray, List.getElem?_cons_succ, List.getElem?_cons_zero] <;> rfl) (by kernel_rfl) (by kernel_rfl) (by kernel_rfl) (fun _ _ _ h => h) (Or.inl ⟨by rfl, ?y25⟩) hHeld ?r25
                case y25 => (intro w hSw; (try dsimp only at hSw); go_simp; first | done | with_reducible rfl | rfl)
                try simp only [Act.put, List.setIfInBounds_toArray, List.set_cons_zero, List.set_cons_succ]
                refine wpAnyH_take (i := 30) (v := ?v26) (by simp only [List.getElem?_toArray, List.getElem?_cons_succ, List.getElem?_cons_zero] <;> rfl) (by kernel_rfl) (by kernel_rfl) (by kernel_rfl) (fun _ _ _ h => h) (Or.inl ⟨by rfl, ?y26⟩) hHeld ?r26
                case y26 => (intro w hSw; (try dsimp only at hSw); go_simp; first | done | with_reducible rfl | rfl)
                try simp only [Act.put, List.setIfInBounds_toArray, List.set_cons_zero, List.set_cons_succ]
                refine wpAnyH_ready (rs := [25]) (by kernel_rfl) (by simp) ?_
                refine AllReadyH.cons (by simp only [List.getElem?_toArray, List.getElem?_cons_succ, List.getElem?_cons_zero] <;> rfl) (fun K hK => ?_) ?_
                · go_simp; refine hM.out.mono ?_; rintro e wq ⟨rfl, rfl⟩; rw [HEL.out]; go_wp2_with fail
                  refine hK.out _ _ ?_ (fun hHeld => ?_)
                  · exact ⟨c6, cL6'⟩
                  clear hK K
                  try simp only [Act.put, List.setIfInBounds_toArray, List.set_cons_zero, List.set_cons_succ]
                  refine wpAnyH_take (i := 31) (v := ?v27) (by simp only [List.getElem?_toArray, List.getElem?_cons_succ, List.getElem?_cons_zero] <;> rfl) (by kernel_rfl) (by kernel_rfl) (by kernel_rfl) (fun _ _ _ h => h) (Or.inl ⟨by rfl, ?y27⟩) hHeld ?r27
                  case y27 => (intro w hSw; (try dsimp only at hSw); go_simp; first | done | with_reducible rfl | rfl)
                  try simp only [Act.put, List.setIfInBounds_toArray, List.set_cons_zero, List.set_cons_succ]
                  refine wpAnyH_take (i := 32) (v := ?v28) (by simp only [List.getElem?_toArray, List.getElem?_cons_succ, List.getElem?_cons_zero] <;> rfl) (by kernel_rfl) (by kernel_rfl) (by kernel_rfl) (fun _ _ _ h => h) (Or.inl ⟨by rfl, ?y28⟩) hHeld ?r28
                  case y28 => (intro w hSw; (try dsimp only at hSw); go_simp; first | done | with_reducible rfl | rfl)
                  try simp only [Act.put, List.setIfInBounds_toArray, List.set_cons_zero, List.set_cons_succ]
                  refine wpAnyH_done (by kernel_rfl) ?_ _
                  refine NoPanic.normal ?_
                  go_wp2_with fail
                  go_meet
                  exact ⟨rfl, D5, _, _, S5, Sr6, p6, f5.trans HFF.out, by omega⟩
                exact AllReadyH.nil
              exact AllReadyH.nil
            exact AllReadyH.nil
          exact AllReadyH.nil
        exact AllReadyH.nil
      case rest =>
        obtain ⟨rfl, D5, F5, rs5, S5, Sr5, p5, f5, c5⟩ := hcut
        clear p
        have HF5 := Lib.hid f5
        clear f5
        have HLN := Lib.hid (fun s hs => Nat.le_trans (p5.lens s hs) (by omega : 200 ≤ 16777216))
        go_wp2_with fail
        · have hi9 : IntsAt (wc.alloc (.cells #[.int .i64 (k : Int), .int .i64 ((k : Int) / 2)] 3)) (.slice (some ⟨wc.heap.size, 0, none⟩) 2 2) [(k : Int), (k : Int) / 2] := by
            refine ⟨2, .inr ⟨wc.heap.size, 0, rfl, ?_⟩⟩
            intro j z hz
            match j, hz with
            | 0, hz => simp at hz; subst hz; simp
            | 1, hz => simp at hz; subst hz; simp
          have pA := p5.quiet ((Upd.refl [] wc).alloc (.cells #[.int .i64 (k : Int), .int .i64 ((k : Int) / 2)] 3))
          refine (Crash_to bd D5 S5 _ _ _ pA.st.d hi9 pA.st.clean.ok).mono ?_
          rintro e w8 ⟨bc, Sc, rfl, hc8, hu8⟩
          have p8 := pA.quiet hu8
          have dr8 := hu8.disj pA.ref.lt (by simp)
          have ac8 := hu8.above (above_nil _) pA.st.size
          have cl8 := p8.st.clean.crashed [(k : Int), (k : Int) / 2]
          clear hi9 pA hu8
          go_wp2_with fail
          refine (Open_fine (w0 := w) (B := w.heap.size) hc8 cl8 p5.st.recs rfl (by show 0 < 65536; decide) ac8 p8.st.below p8.st.size).mono ?_
          rintro e w9 ⟨jc, v9, S9, rfl, st9, hv9, hu9, hn9⟩
          have hr9 := p8.ref.kept hu9 dr8
          have dv9 := hu9.disj p8.ref.lt dr8
          have nv9 : ∀ x, x ∈ foot v9 → x ∉ Sr5 := fun x hx hm => dv9 x hm (by simp [hx])
          have HOP := Lib.hid (Opens_any rb _ Sr5 v9 _ w9 true hr9 hv9.strs (foot_at nv9) (by have := p5.many; omega) (by have := p5.many; show rs5.length ≤ _; omega) (by simp) HLN.out (opens_same rs5 _ rfl))
          clear hr9 nv9 dv9 hn9
          go_wp2_with fail
          refine HOP.out.mono ?_
          rintro e w10 ⟨Sr10, rfl, hr10, hu10⟩
          have p10 := pair_open (k := k + 1) st9 hu9 p8.ref.lt dr8 p5.aboveR hr10 hu10 (by show 0 + 1 ≤ _; omega) p5.many p5.space p5.lens
          clear st9 hu9 hr10 hu10 hv9 HOP
          go_wp2_with fail
          go_roundw
          case rel => exact ⟨k + 1, jc, bc, _, _, _, _, _, rfl, rfl, rfl, by go_num, by omega, by omega, p10, rfl⟩
          case measure => simp [intOf]; omega
        · have dr5 : ∀ x, x ∈ Sr5 → x ∉ S5 := fun x hx hm => p5.dis x (by simp [hm]) hx
          have aS5 : Above w.heap.size S5 := fun x hx => p5.st.above x (by simp [hx])
          refine (Open_fine (w0 := w) (B := w.heap.size) p5.st.d p5.st.clean p5.st.recs (DiskM.off_of HF5.out) (by omega) aS5 p5.st.below p5.st.size).mono ?_
          rintro e w9 ⟨jc, v9, S9, rfl, st9, hv9, hu9, hn9⟩
          have hr9 := p5.ref.kept hu9 dr5
          have dv9 := hu9.disj p5.ref.lt dr5
          have nv9 : ∀ x, x ∈ foot v9 → x ∉ Sr5 := fun x hx hm => dv9 x hm (by simp [hx])
          have HOP := Lib.hid (Opens_any rb _ Sr5 v9 _ w9 true hr9 hv9.strs (foot_at nv9) (by have := p5.many; omega) (by have := p5.many; show rs5.length ≤ _; omega) (by simp) HLN.out (opens_same rs5 _ rfl))
          clear hr9 nv9 dv9 hn9
          go_wp2_with fail
          refine HOP.out.mono ?_
          rintro e w10 ⟨Sr10, rfl, hr10, hu10⟩
          have p10 := pair_open (k := k + 1) st9 hu9 p5.ref.lt dr5 p5.aboveR hr10 hu10 (by omega) p5.many p5.space p5.lens
          clear st9 hu9 hr10 hu10 hv9 HOP
          go_wp2_with fail
          go_roundw
          case rel => exact ⟨k + 1, jc, bd, _, _, _, _, _, rfl, rfl, rfl, by go_num, by omega, by omega, p10, HF5.out⟩
          case measure => simp [intOf]; omega
        · refine ⟨⟨k + 1, jb, bd, D5, F5, rs5, S5, Sr5, rfl, rfl, rfl, by go_num, by omega, by omega, p5, HF5.out⟩, ?_⟩
          simp [intOf]; omega
    · have hcase : ¬ k < l.length ∨ (20 < l.length ∧ k = 20) := by omega
      obtain ⟨aoL, capL, cL⟩ := p.ref.cell0
      have hM := Lib.hid (Many_any jb bd _ wr.drew (p.st.j.same (w' := wr.drew) rfl))
      have hbw := p.st.below
      have hzw := p.st.size
      have cLd : wr.drew.cell? ⟨rb, 0, none⟩ = some (.slice aoL rs.length capL) := cL
      have hbd : Below w.heap.size w wr.drew := (Upd.refl [] wr).drew.belowOf hbw (above_nil _) hzw
      clear hgo p
      rcases hcase with hc1 | ⟨hc1, rfl⟩
      all_goals
        have HK := Lib.hid hk20
        clear hk20
        go_wp2_with fail
        go_region_held3 (fun wp => wp.cell? ⟨rb, 0, none⟩ = some (.slice aoL rs.length capL)) (first | assumption | go_keep)
          (first | (go_at_call 42; ((with_reducible refine hM.out.mono ?_); rintro e wq ⟨rfl, rfl⟩)))
        go_wp2_with fail
        go_ret
        exact ⟨by simp, hbd⟩
end Go.Proofs.Ytbpbmigdfjnneaa
