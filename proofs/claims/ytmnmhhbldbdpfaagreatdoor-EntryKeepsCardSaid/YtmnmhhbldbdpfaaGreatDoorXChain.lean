/- sortesref22.Chain. -/
import Derived.Test.YtmnmhhbldbdpfaaGreatDoorXClash
import Derived.Test.YtmnmhhbldbdpfaaGreatDoorGH
import Derived.Test.YtmnmhhbldbdpfaaGreatDoorGJ
namespace Go.Proofs.YtmnmhhbldbdpfaaGreatDoor
open Go.RowKit
set_option maxRecDepth 100000

/-- "output " -/
def outW : List UInt8 := [111, 117, 116, 112, 117, 116, 32]
/-- What the k-th receipt has seen. -/
def nOf (k : Nat) : Int := if k = 0 then 1 else 2
def outH (k : Nat) : List UInt8 := sha (outW ++ Lib.itoa (nOf k))
/-- The receipts of the chain. -/
def chainRc (q : List (List UInt8)) : Nat → Rc
  | 0 => printR 4 1 (nOf 0) may (outH 0) (q.getD 0 []) zero32 5012
  | k + 1 => printR 4 ((k + 1 : Nat) + 1 : Int) (nOf (k + 1)) may (outH (k + 1)) (q.getD (k + 1) []) (sha (textL (chainRc q k))) 5012
def prevOf (q : List (List UInt8)) : Nat → List UInt8
  | 0 => zero32
  | k + 1 => sha (textL (chainRc q k))
theorem chainRc_eq (q : List (List UInt8)) (k : Nat) : chainRc q k = printR 4 ((k : Int) + 1) (nOf k) may (outH k) (q.getD k []) (prevOf q k) 5012 := by
  cases k <;> rfl
theorem prevOf_len (q : List (List UInt8)) (k : Nat) : (prevOf q k).length = 32 := by
  cases k
  · rfl
  · exact sha_len _
theorem outH_len (k : Nat) : (outH k).length = 32 := sha_len _
theorem nOf_in (k : Nat) : i64in (nOf k) := by unfold nOf i64in; split <;> omega
def chainL (q : List (List UInt8)) (k : Nat) : List Rc := (List.range k).map (chainRc q)
theorem chainL_len (q : List (List UInt8)) (k : Nat) : (chainL q k).length = k := by simp [chainL]
theorem chainL_succ (q : List (List UInt8)) (k : Nat) : chainL q (k + 1) = chainL q k ++ [chainRc q k] := by simp [chainL, List.range_succ]
theorem chainL_get (q : List (List UInt8)) (n k : Nat) (h : k < n) : (chainL q n)[k]? = some (chainRc q k) := by
  simp [chainL, List.getElem?_range h]
theorem chainRc_ok {q : List (List UInt8)} {k : Nat} (hk : k ≤ 1000) (h : (q.getD k []).length = 32) : (chainRc q k).ok := by
  rw [chainRc_eq]
  exact printR_ok (by unfold i64in; omega) (by unfold i64in; omega) (nOf_in k) (outH_len k) h (prevOf_len q k)
/-- Hashes in a slice. -/
def HsIn (w : World) (ao : Option Addr) (q : List (List UInt8)) : Prop := ∀ (k : Nat) h, q[k]? = some h → h.length = 32 ∧ ∃ g o, ao = some ⟨g, o, none⟩ ∧ g < w.heap.size ∧ w.rangeAt g (o + k * 32) (byteVals h)
theorem HsIn.upd {w w' : World} {ao : Option Addr} {q : List (List UInt8)} (h : HsIn w ao q) (u : Upd [] [] w w') : HsIn w' ao q := by
  intro k x hk
  obtain ⟨h1, g, o, h2, h3, h4⟩ := h k x hk
  exact ⟨h1, g, o, h2, Nat.lt_of_lt_of_le h3 u.size, rangeAt_upd h4 h3 u⟩
theorem alloc_let (W : World) (ob : Obj) : ∃ (g : Nat) (W' : World), g = W.heap.size ∧ W' = W.alloc ob ∧ Hid (W'.heap[g]? = some ob) ∧ Upd [] [] W W' := ⟨_, _, rfl, rfl, heap_alloc_new _ _, (Upd.refl _ _).alloc _⟩
theorem alloc_letD (W : World) (ob : Obj) : ∃ (g : Nat) (W' : World), g = W.heap.size ∧ W' = (W.alloc ob).drew ∧ Hid (W'.heap[g]? = some ob) ∧ Upd [] [] W W' := ⟨_, _, rfl, rfl, heap_alloc_new _ _, ((Upd.refl _ _).alloc _).drew⟩
theorem setRow_let (W : World) (g : Nat) (T : TypeId) (Z C : Array Value) (h : W.heap[g]? = some (.cells Z T (0, 0))) (W0 : World) (u : Upd [] [] W0 W) (hg : W0.heap.size ≤ g) : ∃ W' : World, W' = W.setRow g C ∧ Hid (W'.heap[g]? = some (.cells C T (0, 0))) ∧ Upd [] [] W0 W' := ⟨_, rfl, setRow_heap _ _ _ _ _ _ h, u.setRowNew hg _⟩
/-- A row of receipts. -/
def MkRcs (l : List Rc) (w : World) (e : Ending) (w' : World) : Prop := ∃ v : Value, Hid (w'.ownsRow 0 33 102 v l.length (rcVals l)) ∧ (∀ x, x ∈ foot v → w.heap.size ≤ x) ∧ e = .returned v ∧ Upd [] [] w w'

set_option maxHeartbeats 4000000 in
theorem chain_any (q : List (List UInt8)) (ao : Option Addr) (cap gi : Nat) (w : World) (hq : HsIn w ao q) (hl : q.length ≤ 10) (hgi : w.heap[gi]? = some (.cells #[.int .i64 1, .int .i64 2] 3 (0, 0))) :
    Calls Tryz.prog 31 #[.int .i64 4, .string ⟨#[77, 97, 121]⟩, .slice (some ⟨gi, 0, none⟩) 2 2, .slice ao q.length cap] w (MkRcs (chainL q q.length) w) := by
  have p0 : AB 24 (w.alloc (.cells (byteVals zero32).toArray 24)) w.heap.size zero32 := heap_alloc_new _ _
  have u0 : Upd [] [] w (w.alloc (.cells (byteVals zero32).toArray 24)) := (Upd.refl _ _).alloc _
  obtain ⟨n, hn⟩ : ∃ n, n = q.length := ⟨_, rfl⟩
  rw [← hn]
  have HN := Lib.hid hn
  have HQ := Lib.hid hq
  have HGI := Lib.hid hgi
  have hn10 : n ≤ 10 := by omega
  have I0 : Hid ((w.alloc (.cells (byteVals zero32).toArray 24)).heap[w.heap.size]? = some (.cells (byteVals (prevOf q 0)).toArray 24 (0, 0)) ∧ (w.alloc (.cells (byteVals zero32).toArray 24)).ownsRow 0 33 102 (.slice none 0 0) (chainL q 0).length (rcVals (chainL q 0)) ∧ (∀ x, x ∈ foot (.slice none 0 0) → w.heap.size < x) ∧ Upd [] [] w (w.alloc (.cells (byteVals zero32).toArray 24))) :=
    ⟨p0, World.ownsRow_nil _ _ _ _, (fun x h => by cases h), u0⟩
  clear p0 u0 hn hq hgi hl
  go_enter Tryz.func31, Tryz.ntmps31
  go_wp2_with fail
  go_loopw [9, 11, 12, 13] (fun o i _ _ wr => ∃ k : Nat, i = .int .i64 (k : Int) ∧ k ≤ n ∧ Hid (wr.heap[w.heap.size]? = some (.cells (byteVals (prevOf q k)).toArray 24 (0, 0)) ∧ wr.ownsRow 0 33 102 o (chainL q k).length (rcVals (chainL q k)) ∧ (∀ x, x ∈ foot o → w.heap.size < x) ∧ Upd [] [] w wr)) (fun _ i _ _ _ => n - (intOf i).toNat)
  case atStart => exact ⟨0, rfl, Nat.zero_le _, I0⟩
  case round =>
    obtain ⟨k, rfl, hk, HI⟩ := hrel
    by_cases hlt : k < n
    · have hlt' : (k : Int) < (n : Int) := by omega
      have h30 : (k : Int) < 30 := by omega
      have i0 : (0 : Int) ≤ (k : Int) := by omega
      obtain ⟨h, hh⟩ : ∃ h, q[k]? = some h := ⟨_, List.getElem?_eq_getElem (by rw [← HN.out]; exact hlt)⟩
      obtain ⟨hh32, g, o, hao, hg, hrg⟩ := HQ.out k h hh
      subst hao
      obtain ⟨m, hm, hmk⟩ : ∃ m : Nat, min (k : Int) 1 = (m : Int) ∧ ((k = 0 ∧ m = 0) ∨ (0 < k ∧ m = 1)) := by
        by_cases hk0 : k = 0
        · exact ⟨0, by omega, .inl ⟨hk0, rfl⟩⟩
        · exact ⟨1, by omega, .inr ⟨by omega, rfl⟩⟩
      obtain ⟨z, hz⟩ : ∃ z, z = nOf k := ⟨_, rfl⟩
      have GI := row_updH HGI.out HI.out.2.2.2
      have kz : wr.cell? ⟨gi, m, none⟩ = some (.int .i64 z) := by
        rw [cell_of_row _ _ _ _ _ _ GI, hz]
        rcases hmk with ⟨h1, h2⟩ | ⟨h1, h2⟩
        · rw [h1, h2]; rfl
        · rw [h2, nOf, if_neg (by omega)]; rfl
      have m0 : (0 : Int) ≤ (m : Int) := by omega
      have m2 : (m : Int) < 2 := by omega
      have hgd : q.getD k [] = h := by rw [List.getD_eq_getElem?_getD, hh]; rfl
      obtain ⟨x, hx⟩ : ∃ x, x = chainRc q k := ⟨_, rfl⟩
      have hxo := Lib.hid (chainRc_ok (q := q) (k := k) (by omega) (by rw [hgd]; exact hh32))
      rw [← hx] at hxo
      have hxe : x = printR 4 ((k : Int) + 1) z may (outH k) h (prevOf q k) 5012 := by rw [hx, chainRc_eq, hgd, hz]
      have iz : i64in z := by rw [hz]; exact nOf_in k
      have HZ := Lib.hid hz
      have HX := Lib.hid hx
      obtain ⟨R, hR⟩ : ∃ R, R = (rcV x).toArray := ⟨_, rfl⟩
      have HRE := Lib.hid hR
      obtain ⟨HRI, HRO, HRZ⟩ := rcLet hxo.out R hR
      have HXE := Lib.hid hxe
      clear hh hmk hx hR GI hz hxe hgd
      go_upto_region 9 with (fail)
      obtain ⟨t0, ht0⟩ : ∃ t0 : ByteArray, t0 = ⟨(Lib.itoa z).toArray⟩ := ⟨_, rfl⟩
      have hbt : bs t0 = Lib.itoa z := by rw [ht0]; exact bs_mk _
      have ht0s : t0.size ≤ 20 := by rw [← bs_length, hbt]; exact itoa_len _ iz
      have HSEC : Hid (∀ W, Calls Tryz.prog 23 #[.int .i64 4] W (fun e w' => e = .returned (.int .i64 5012) ∧ Upd [] [] W w')) := by
        intro W
        refine (secret22_any 4 W (by omega)).mono ?_
        rintro e w' ⟨rfl, rfl⟩
        exact ⟨rfl, Upd.refl _ _⟩
      have HDEC : Hid (∀ W, Calls Tryz.prog 57 #[.int .i64 z] W (fun e w' => e = .returned (.string t0) ∧ Upd [] [] W w')) := by
        intro W
        refine (decimal22_any z W iz).mono ?_
        rintro e w' ⟨y, HY, _, rfl, hu⟩
        exact ⟨by rw [bs_injE (HY.out.trans hbt.symm)], hu⟩
      obtain ⟨OH, hOH⟩ : ∃ OH, OH = (byteVals (outH k)).toArray := ⟨_, rfl⟩
      obtain ⟨SK, hSK⟩ : ∃ SK, SK = (byteVals h).toArray := ⟨_, rfl⟩
      obtain ⟨PV, hPV⟩ : ∃ PV, PV = (byteVals (prevOf q k)).toArray := ⟨_, rfl⟩
      obtain ⟨OT, hOT⟩ : ∃ OT : ByteArray, OT = ByteArray.mk #[111, 117, 116, 112, 117, 116, 32] ++ t0 := ⟨_, rfl⟩
      have hOTs : OT.size ≤ 30 := by
        rw [hOT, ByteArray.size_append]
        show 7 + t0.size ≤ 30
        omega
      have hbOT : sha (bs OT) = outH k := by
        rw [hOT, bs_append, hbt]
        have : z = nOf k := HZ.out
        rw [this]
        rfl
      have HSUM := Lib.hid (fun W => rsum_any OT W (by omega))
      rw [hbOT, ← hOH] at HSUM
      have HPR := Lib.hid (fun W => rprint22_any 4 5012 ((k : Int) + 1) z may (outH k) h (prevOf q k) (by unfold i64in; omega) (by unfold i64in; omega) (by unfold i64in; omega) iz (by decide) (outH_len k) hh32 (prevOf_len q k) W)
      rw [← HXE.out, ← HRE.out, ← hOH, ← hSK, ← hPV] at HPR
      have hOT' := hOT.symm
      have HK : Hid (∀ W, Upd [] [] wr W → (Instr.loadAt 24 (.pointer (some ⟨g, o + k * 32, none⟩))).run Tryz.prog W = .ok (.agg SK) W ∧ (Instr.loadAt 24 (.pointer (some ⟨w.heap.size, 0, none⟩))).run Tryz.prog W = .ok (.agg PV) W) := by
        intro W u
        rw [hSK, hPV]
        refine ⟨run_loadAt_mid W _ _ _ _ _ (rangeAt_upd hrg hg (HI.out.2.2.2.trans u)) Tryz.underlying24 rfl (hashLen hh32), run_loadAt_mid W _ 0 _ _ _ (fun j v hv => ?_) Tryz.underlying24 rfl (hashLen (prevOf_len q k))⟩
        rw [Nat.zero_add, cell_of_row _ _ _ _ _ _ (row_updH HI.out.1 u), List.getElem?_toArray]
        exact hv
      have wk : IntKind.i64.wrap ((k : Int) + 1) = (k : Int) + 1 := IntWalk.i64_in _ (by omega)
      have s7 : ¬ 9223372036854775807 < 7 + t0.size := by omega
      have ud0 : Upd [] [] wr wr.drew := (Upd.refl _ _).drew
      clear ht0 hbt hOH hSK hPV hOT hbOT kz m0 m2 hm
      refine @id ((∀ (gX : Nat) (W : World), Hid (W.heap[gX]? = some (.cells R 33 (0, 0))) → Upd [] [] wr W → wr.heap.size ≤ gX → (?pj1 : Nat → World → Prop) gX W) → _) (fun hJ => ?mj1) ?jj1
      case mj1 =>
        refine wp_region_noPanic ?_
        refine wp_region_held_drew (S := fun wp => (Instr.loadAt 24 (.pointer (some ⟨g, o + k * 32, none⟩))).run Tryz.prog wp = .ok (.agg SK) wp ∧ (Instr.loadAt 24 (.pointer (some ⟨w.heap.size, 0, none⟩))).run Tryz.prog wp = .ok (.agg PV) wp) (by kernel_rfl) ?_ (fun hHeld => ?_)
        · exact HK.out _ ud0
        refine wpAnyH_take (i := 0) (v := ?v2) (by simp only [List.getElem?_toArray, List.getElem?_cons_zero] <;> rfl) (by kernel_rfl) (by kernel_rfl) (by kernel_rfl) (fun _ _ _ h => h) (Or.inl ⟨by rfl, ?y2⟩) hHeld ?r2
        case y2 => (intro w hSw; (try dsimp only at hSw); go_simp; first | done | with_reducible rfl | rfl)
        try simp only [Act.put, List.setIfInBounds_toArray, List.set_cons_zero, List.set_cons_succ]
        refine wpAnyH_take (i := 1) (v := ?v3) (by simp only [List.getElem?_toArray, List.getElem?_cons_succ, List.getElem?_cons_zero] <;> rfl) (by kernel_rfl) (by kernel_rfl) (by kernel_rfl) (fun _ _ _ h => h) (Or.inl ⟨by rfl, ?y3⟩) hHeld ?r3
        case y3 => (intro w hSw; (try dsimp only at hSw); go_simp; first | done | with_reducible rfl | rfl)
        try simp only [Act.put, List.setIfInBounds_toArray, List.set_cons_zero, List.set_cons_succ]
        refine wpAnyH_take (i := 3) (v := ?v4) (by simp only [List.getElem?_toArray, List.getElem?_cons_succ, List.getElem?_cons_zero] <;> rfl) (by kernel_rfl) (by kernel_rfl) (by kernel_rfl) (fun _ _ _ h => h) (Or.inl ⟨by rfl, ?y4⟩) hHeld ?r4
        case y4 => (intro w hSw; (try dsimp only at hSw); go_simp; first | done | with_reducible rfl | rfl)
        try simp only [Act.put, List.setIfInBounds_toArray, List.set_cons_zero, List.set_cons_succ]
        refine wpAnyH_take (i := 4) (v := ?v5) (by simp only [List.getElem?_toArray, List.getElem?_cons_succ, List.getElem?_cons_zero] <;> rfl) (by kernel_rfl) (by kernel_rfl) (by kernel_rfl) (fun _ _ _ h => h) (Or.inl ⟨by rfl, ?y5⟩) hHeld ?r5
        case y5 => (intro w hSw; (try dsimp only at hSw); go_simp; first | done | with_reducible rfl | rfl)
        try simp only [Act.put, List.setIfInBounds_toArray, List.set_cons_zero, List.set_cons_succ]
        refine wpAnyH_take (i := 5) (v := ?v6) (by simp only [List.getElem?_toArray, List.getElem?_cons_succ, List.getElem?_cons_zero] <;> rfl) (by kernel_rfl) (by kernel_rfl) (by kernel_rfl) (fun _ _ _ h => h) (Or.inl ⟨by rfl, ?y6⟩) hHeld ?r6
        case y6 => (intro w hSw; (try dsimp only at hSw); go_simp; first | done | with_reducible rfl | rfl)
        try simp only [Act.put, List.setIfInBounds_toArray, List.set_cons_zero, List.set_cons_succ]
        refine wpAnyH_take (i := 6) (v := ?v7) (by simp only [List.getElem?_toArray, List.getElem?_cons_succ, List.getElem?_cons_zero] <;> rfl) (by kernel_rfl) (by kernel_rfl) (by kernel_rfl) (fun _ _ _ h => h) (Or.inl ⟨by rfl, ?y7⟩) hHeld ?r7
        case y7 => (intro w hSw; (try dsimp only at hSw); go_simp; first | done | with_reducible rfl | rfl)
        try simp only [Act.put, List.setIfInBounds_toArray, List.set_cons_zero, List.set_cons_succ]
        refine wpAnyH_take (i := 7) (v := ?v8) (by simp only [List.getElem?_toArray, List.getElem?_cons_succ, List.getElem?_cons_zero] <;> rfl) (by kernel_rfl) (by kernel_rfl) (by kernel_rfl) (fun _ _ _ h => h) (Or.inl ⟨by rfl, ?y8⟩) hHeld ?r8
        case y8 => (intro w hSw; (try dsimp only at hSw); go_simp; first | done | with_reducible rfl | rfl)
        try simp only [Act.put, List.setIfInBounds_toArray, List.set_cons_zero, List.set_cons_succ]
        refine wpAnyH_take (i := 11) (v := ?v9) (by simp only [List.getElem?_toArray, List.getElem?_cons_succ, List.getElem?_cons_zero] <;> rfl) (by kernel_rfl) (by kernel_rfl) (by kernel_rfl) (fun _ _ _ h => h) (Or.inl ⟨by rfl, ?y9⟩) hHeld ?r9
        case y9 => (intro w hSw; (try dsimp only at hSw); go_simp; first | done | with_reducible rfl | rfl)
        try simp only [Act.put, List.setIfInBounds_toArray, List.set_cons_zero, List.set_cons_succ]
        refine wpAnyH_take (i := 12) (v := ?v10) (by simp only [List.getElem?_toArray, List.getElem?_cons_succ, List.getElem?_cons_zero] <;> rfl) (by kernel_rfl) (by kernel_rfl) (by kernel_rfl) (fun _ _ _ h => h) (Or.inl ⟨by rfl, ?y10⟩) hHeld ?r10
        case y10 => (intro w hSw; (try dsimp only at hSw); go_simp; first | done | with_reducible rfl | rfl)
        try simp only [Act.put, List.setIfInBounds_toArray, List.set_cons_zero, List.set_cons_succ]
        refine wpAnyH_take (i := 13) (v := ?v11) (by simp only [List.getElem?_toArray, List.getElem?_cons_succ, List.getElem?_cons_zero] <;> rfl) (by kernel_rfl) (by kernel_rfl) (by kernel_rfl) (fun _ _ _ h => h) (Or.inl ⟨by rfl, ?y11⟩) hHeld ?r11
        case y11 => (intro w hSw; (try dsimp only at hSw); go_simp; first | done | with_reducible rfl | rfl)
        try simp only [Act.put, List.setIfInBounds_toArray, List.set_cons_zero, List.set_cons_succ]
        refine wpAnyH_take (i := 14) (v := .agg SK) (by simp only [List.getElem?_toArray, List.getElem?_cons_succ, List.getElem?_cons_zero] <;> rfl) (by kernel_rfl) (by kernel_rfl) (by kernel_rfl) (fun _ _ _ h => h) (yieldsIf_loadW (by rfl) _ _ rfl _ rfl SK (fun w hSw => hSw.1)) hHeld ?_
        try simp only [Act.put, List.setIfInBounds_toArray, List.set_cons_zero, List.set_cons_succ]
        refine wpAnyH_take (i := 15) (v := .agg PV) (by simp only [List.getElem?_toArray, List.getElem?_cons_succ, List.getElem?_cons_zero] <;> rfl) (by kernel_rfl) (by kernel_rfl) (by kernel_rfl) (fun _ _ _ h => h) (yieldsIf_loadW (by rfl) _ _ rfl _ rfl PV (fun w hSw => hSw.2)) hHeld ?_
        try simp only [Act.put, List.setIfInBounds_toArray, List.set_cons_zero, List.set_cons_succ]
        refine wpAnyH_ready (rs := [2, 17]) (by kernel_rfl) (by simp) ?_
        refine AllReadyH.cons (by simp only [List.getElem?_toArray, List.getElem?_cons_succ, List.getElem?_cons_zero] <;> rfl) (fun K hK => ?_) ?_
        · go_simp; refine (HSEC.out _).mono ?_; rintro e wv1 ⟨rfl, hq⟩; have ud1 := ud0.trans hq; clear hq; go_wp2_with fail
          refine hK.out _ _ ?_ (fun hHeld => ?_)
          · exact HK.out _ ud1
          clear hK K
          try simp only [Act.put, List.setIfInBounds_toArray, List.set_cons_zero, List.set_cons_succ]
          refine wpAnyH_ready (rs := [8, 17]) (by kernel_rfl) (by simp) ?_
          refine AllReadyH.cons (by simp only [List.getElem?_toArray, List.getElem?_cons_succ, List.getElem?_cons_zero] <;> rfl) (fun K hK => ?_) ?_
          · go_simp; refine (HDEC.out _).mono ?_; rintro e wv2 ⟨rfl, hq⟩; have ud2 := ud1.trans hq; clear hq; go_wp2_with fail
            refine hK.out _ _ ?_ (fun hHeld => ?_)
            · exact HK.out _ ud2
            clear hK K
            try simp only [Act.put, List.setIfInBounds_toArray, List.set_cons_zero, List.set_cons_succ]
            refine wpAnyH_take (i := 9) (v := ?v12) (by simp only [List.getElem?_toArray, List.getElem?_cons_succ, List.getElem?_cons_zero] <;> rfl) (by kernel_rfl) (by kernel_rfl) (by kernel_rfl) (fun _ _ _ h => h) (Or.inl ⟨by rfl, ?y12⟩) hHeld ?r12
            case y12 => (intro w hSw; (try dsimp only at hSw); go_simp; first | done | with_reducible rfl | rfl)
            try simp only [Act.put, List.setIfInBounds_toArray, List.set_cons_zero, List.set_cons_succ]
            refine wpAnyH_ready (rs := [10, 17]) (by kernel_rfl) (by simp) ?_
            refine AllReadyH.cons (by simp only [List.getElem?_toArray, List.getElem?_cons_succ, List.getElem?_cons_zero] <;> rfl) (fun K hK => ?_) ?_
            · go_simp; refine (HSUM.out _).mono ?_; rintro e wv3 ⟨rfl, hq⟩; have ud3 := ud2.trans hq; clear hq; go_wp2_with fail
              refine hK.out _ _ ?_ (fun hHeld => ?_)
              · exact HK.out _ ud3
              clear hK K
              try simp only [Act.put, List.setIfInBounds_toArray, List.set_cons_zero, List.set_cons_succ]
              refine wpAnyH_ready (rs := [16, 17]) (by kernel_rfl) (by simp) ?_
              refine AllReadyH.cons (by simp only [List.getElem?_toArray, List.getElem?_cons_succ, List.getElem?_cons_zero] <;> rfl) (fun K hK => ?_) ?_
              · go_simp; refine (HPR.out _).mono ?_; rintro e wv4 ⟨rfl, hq⟩; have ud4 := ud3.trans hq; clear hq; go_wp2_with fail
                refine hK.out _ _ ?_ (fun hHeld => ?_)
                · exact HK.out _ ud4
                clear hK K
                try simp only [Act.put, List.setIfInBounds_toArray, List.set_cons_zero, List.set_cons_succ]
                refine wpAnyH_ready (rs := [17]) (by kernel_rfl) (by simp) ?_
                refine AllReadyH.cons (by simp only [List.getElem?_toArray, List.getElem?_cons_succ, List.getElem?_cons_zero] <;> rfl) (fun K hK => ?_) ?_
                · go_simp; obtain ⟨gX, wv5, hgx, hwx, fz5, hq⟩ := alloc_let wv4 (.cells Tryz.zeroCells33 33); rw [← hgx, ← hwx]; have ud5 := ud4.trans hq; have hgX : wr.heap.size ≤ gX := (by have := ud4.size; omega); clear hgx hwx hq
                  refine hK.out _ _ ?_ (fun hHeld => ?_)
                  · exact HK.out _ ud5
                  clear hK K
                  try simp only [Act.put, List.setIfInBounds_toArray, List.set_cons_zero, List.set_cons_succ]
                  refine wpAnyH_ready (rs := [18]) (by kernel_rfl) (by simp) ?_
                  refine AllReadyH.cons (by simp only [List.getElem?_toArray, List.getElem?_cons_succ, List.getElem?_cons_zero] <;> rfl) (fun K hK => ?_) ?_
                  · rw [if_pos (by rfl)]; refine wp_store_row 33 _ _ rfl gX R rfl rfl _ _ fz5.out HRI.out HRZ.out HRO.out ?_; obtain ⟨wv6, hwx, fz6, ud6⟩ := setRow_let wv5 gX _ _ R fz5.out wr ud5 hgX; rw [← hwx]; clear hwx
                    refine hK.out _ _ ?_ (fun hHeld => ?_)
                    · exact HK.out _ ud6
                    clear hK K
                    try simp only [Act.put]
                    refine wpAnyH_done (by kernel_rfl) ?_ _
                    refine NoPanic.normal ?_
                    exact hJ gX wv6 fz6 ud6 hgX
                  exact AllReadyH.nil
                exact AllReadyH.nil
              refine AllReadyH.cons (by simp only [List.getElem?_toArray, List.getElem?_cons_succ, List.getElem?_cons_zero] <;> rfl) (fun K hK => ?_) ?_
              · go_simp; obtain ⟨gX, wv4, hgx, hwx, fz4, hq⟩ := alloc_let wv3 (.cells Tryz.zeroCells33 33); rw [← hgx, ← hwx]; have ud4 := ud3.trans hq; have hgX : wr.heap.size ≤ gX := (by have := ud3.size; omega); clear hgx hwx hq
                refine hK.out _ _ ?_ (fun hHeld => ?_)
                · exact HK.out _ ud4
                clear hK K
                try simp only [Act.put, List.setIfInBounds_toArray, List.set_cons_zero, List.set_cons_succ]
                refine wpAnyH_ready (rs := [16]) (by kernel_rfl) (by simp) ?_
                refine AllReadyH.cons (by simp only [List.getElem?_toArray, List.getElem?_cons_succ, List.getElem?_cons_zero] <;> rfl) (fun K hK => ?_) ?_
                · go_simp; refine (HPR.out _).mono ?_; rintro e wv5 ⟨rfl, hq⟩; have ud5 := ud4.trans hq; have fz5 := Lib.hid (row_updH fz4.out hq); clear hq; go_wp2_with fail
                  refine hK.out _ _ ?_ (fun hHeld => ?_)
                  · exact HK.out _ ud5
                  clear hK K
                  try simp only [Act.put, List.setIfInBounds_toArray, List.set_cons_zero, List.set_cons_succ]
                  refine wpAnyH_ready (rs := [18]) (by kernel_rfl) (by simp) ?_
                  refine AllReadyH.cons (by simp only [List.getElem?_toArray, List.getElem?_cons_succ, List.getElem?_cons_zero] <;> rfl) (fun K hK => ?_) ?_
                  · rw [if_pos (by rfl)]; refine wp_store_row 33 _ _ rfl gX R rfl rfl _ _ fz5.out HRI.out HRZ.out HRO.out ?_; obtain ⟨wv6, hwx, fz6, ud6⟩ := setRow_let wv5 gX _ _ R fz5.out wr ud5 hgX; rw [← hwx]; clear hwx
                    refine hK.out _ _ ?_ (fun hHeld => ?_)
                    · exact HK.out _ ud6
                    clear hK K
                    try simp only [Act.put]
                    refine wpAnyH_done (by kernel_rfl) ?_ _
                    refine NoPanic.normal ?_
                    exact hJ gX wv6 fz6 ud6 hgX
                  exact AllReadyH.nil
                exact AllReadyH.nil
              exact AllReadyH.nil
            refine AllReadyH.cons (by simp only [List.getElem?_toArray, List.getElem?_cons_succ, List.getElem?_cons_zero] <;> rfl) (fun K hK => ?_) ?_
            · go_simp; obtain ⟨gX, wv3, hgx, hwx, fz3, hq⟩ := alloc_let wv2 (.cells Tryz.zeroCells33 33); rw [← hgx, ← hwx]; have ud3 := ud2.trans hq; have hgX : wr.heap.size ≤ gX := (by have := ud2.size; omega); clear hgx hwx hq
              refine hK.out _ _ ?_ (fun hHeld => ?_)
              · exact HK.out _ ud3
              clear hK K
              try simp only [Act.put, List.setIfInBounds_toArray, List.set_cons_zero, List.set_cons_succ]
              refine wpAnyH_ready (rs := [10]) (by kernel_rfl) (by simp) ?_
              refine AllReadyH.cons (by simp only [List.getElem?_toArray, List.getElem?_cons_succ, List.getElem?_cons_zero] <;> rfl) (fun K hK => ?_) ?_
              · go_simp; refine (HSUM.out _).mono ?_; rintro e wv4 ⟨rfl, hq⟩; have ud4 := ud3.trans hq; have fz4 := Lib.hid (row_updH fz3.out hq); clear hq; go_wp2_with fail
                refine hK.out _ _ ?_ (fun hHeld => ?_)
                · exact HK.out _ ud4
                clear hK K
                try simp only [Act.put, List.setIfInBounds_toArray, List.set_cons_zero, List.set_cons_succ]
                refine wpAnyH_ready (rs := [16]) (by kernel_rfl) (by simp) ?_
                refine AllReadyH.cons (by simp only [List.getElem?_toArray, List.getElem?_cons_succ, List.getElem?_cons_zero] <;> rfl) (fun K hK => ?_) ?_
                · go_simp; refine (HPR.out _).mono ?_; rintro e wv5 ⟨rfl, hq⟩; have ud5 := ud4.trans hq; have fz5 := Lib.hid (row_updH fz4.out hq); clear hq; go_wp2_with fail
                  refine hK.out _ _ ?_ (fun hHeld => ?_)
                  · exact HK.out _ ud5
                  clear hK K
                  try simp only [Act.put, List.setIfInBounds_toArray, List.set_cons_zero, List.set_cons_succ]
                  refine wpAnyH_ready (rs := [18]) (by kernel_rfl) (by simp) ?_
                  refine AllReadyH.cons (by simp only [List.getElem?_toArray, List.getElem?_cons_succ, List.getElem?_cons_zero] <;> rfl) (fun K hK => ?_) ?_
                  · rw [if_pos (by rfl)]; refine wp_store_row 33 _ _ rfl gX R rfl rfl _ _ fz5.out HRI.out HRZ.out HRO.out ?_; obtain ⟨wv6, hwx, fz6, ud6⟩ := setRow_let wv5 gX _ _ R fz5.out wr ud5 hgX; rw [← hwx]; clear hwx
                    refine hK.out _ _ ?_ (fun hHeld => ?_)
                    · exact HK.out _ ud6
                    clear hK K
                    try simp only [Act.put]
                    refine wpAnyH_done (by kernel_rfl) ?_ _
                    refine NoPanic.normal ?_
                    exact hJ gX wv6 fz6 ud6 hgX
                  exact AllReadyH.nil
                exact AllReadyH.nil
              exact AllReadyH.nil
            exact AllReadyH.nil
          refine AllReadyH.cons (by simp only [List.getElem?_toArray, List.getElem?_cons_succ, List.getElem?_cons_zero] <;> rfl) (fun K hK => ?_) ?_
          · go_simp; obtain ⟨gX, wv2, hgx, hwx, fz2, hq⟩ := alloc_let wv1 (.cells Tryz.zeroCells33 33); rw [← hgx, ← hwx]; have ud2 := ud1.trans hq; have hgX : wr.heap.size ≤ gX := (by have := ud1.size; omega); clear hgx hwx hq
            refine hK.out _ _ ?_ (fun hHeld => ?_)
            · exact HK.out _ ud2
            clear hK K
            try simp only [Act.put, List.setIfInBounds_toArray, List.set_cons_zero, List.set_cons_succ]
            refine wpAnyH_ready (rs := [8]) (by kernel_rfl) (by simp) ?_
            refine AllReadyH.cons (by simp only [List.getElem?_toArray, List.getElem?_cons_succ, List.getElem?_cons_zero] <;> rfl) (fun K hK => ?_) ?_
            · go_simp; refine (HDEC.out _).mono ?_; rintro e wv3 ⟨rfl, hq⟩; have ud3 := ud2.trans hq; have fz3 := Lib.hid (row_updH fz2.out hq); clear hq; go_wp2_with fail
              refine hK.out _ _ ?_ (fun hHeld => ?_)
              · exact HK.out _ ud3
              clear hK K
              try simp only [Act.put, List.setIfInBounds_toArray, List.set_cons_zero, List.set_cons_succ]
              refine wpAnyH_take (i := 9) (v := ?v13) (by simp only [List.getElem?_toArray, List.getElem?_cons_succ, List.getElem?_cons_zero] <;> rfl) (by kernel_rfl) (by kernel_rfl) (by kernel_rfl) (fun _ _ _ h => h) (Or.inl ⟨by rfl, ?y13⟩) hHeld ?r13
              case y13 => (intro w hSw; (try dsimp only at hSw); go_simp; first | done | with_reducible rfl | rfl)
              try simp only [Act.put, List.setIfInBounds_toArray, List.set_cons_zero, List.set_cons_succ]
              refine wpAnyH_ready (rs := [10]) (by kernel_rfl) (by simp) ?_
              refine AllReadyH.cons (by simp only [List.getElem?_toArray, List.getElem?_cons_succ, List.getElem?_cons_zero] <;> rfl) (fun K hK => ?_) ?_
              · go_simp; refine (HSUM.out _).mono ?_; rintro e wv4 ⟨rfl, hq⟩; have ud4 := ud3.trans hq; have fz4 := Lib.hid (row_updH fz3.out hq); clear hq; go_wp2_with fail
                refine hK.out _ _ ?_ (fun hHeld => ?_)
                · exact HK.out _ ud4
                clear hK K
                try simp only [Act.put, List.setIfInBounds_toArray, List.set_cons_zero, List.set_cons_succ]
                refine wpAnyH_ready (rs := [16]) (by kernel_rfl) (by simp) ?_
                refine AllReadyH.cons (by simp only [List.getElem?_toArray, List.getElem?_cons_succ, List.getElem?_cons_zero] <;> rfl) (fun K hK => ?_) ?_
                · go_simp; refine (HPR.out _).mono ?_; rintro e wv5 ⟨rfl, hq⟩; have ud5 := ud4.trans hq; have fz5 := Lib.hid (row_updH fz4.out hq); clear hq; go_wp2_with fail
                  refine hK.out _ _ ?_ (fun hHeld => ?_)
                  · exact HK.out _ ud5
                  clear hK K
                  try simp only [Act.put, List.setIfInBounds_toArray, List.set_cons_zero, List.set_cons_succ]
                  refine wpAnyH_ready (rs := [18]) (by kernel_rfl) (by simp) ?_
                  refine AllReadyH.cons (by simp only [List.getElem?_toArray, List.getElem?_cons_succ, List.getElem?_cons_zero] <;> rfl) (fun K hK => ?_) ?_
                  · rw [if_pos (by rfl)]; refine wp_store_row 33 _ _ rfl gX R rfl rfl _ _ fz5.out HRI.out HRZ.out HRO.out ?_; obtain ⟨wv6, hwx, fz6, ud6⟩ := setRow_let wv5 gX _ _ R fz5.out wr ud5 hgX; rw [← hwx]; clear hwx
                    refine hK.out _ _ ?_ (fun hHeld => ?_)
                    · exact HK.out _ ud6
                    clear hK K
                    try simp only [Act.put]
                    refine wpAnyH_done (by kernel_rfl) ?_ _
                    refine NoPanic.normal ?_
                    exact hJ gX wv6 fz6 ud6 hgX
                  exact AllReadyH.nil
                exact AllReadyH.nil
              exact AllReadyH.nil
            exact AllReadyH.nil
          exact AllReadyH.nil
        refine AllReadyH.cons (by simp only [List.getElem?_toArray, List.getElem?_cons_succ, List.getElem?_cons_zero] <;> rfl) (fun K hK => ?_) ?_
        · go_simp; obtain ⟨gX, wv1, hgx, hwx, fz1, hq⟩ := alloc_letD wr (.cells Tryz.zeroCells33 33); rw [← hgx, ← hwx]; have ud1 := hq; have hgX : wr.heap.size ≤ gX := (by omega); clear hgx hwx hq
          refine hK.out _ _ ?_ (fun hHeld => ?_)
          · exact HK.out _ ud1
          clear hK K
          try simp only [Act.put, List.setIfInBounds_toArray, List.set_cons_zero, List.set_cons_succ]
          refine wpAnyH_ready (rs := [2]) (by kernel_rfl) (by simp) ?_
          refine AllReadyH.cons (by simp only [List.getElem?_toArray, List.getElem?_cons_succ, List.getElem?_cons_zero] <;> rfl) (fun K hK => ?_) ?_
          · go_simp; refine (HSEC.out _).mono ?_; rintro e wv2 ⟨rfl, hq⟩; have ud2 := ud1.trans hq; have fz2 := Lib.hid (row_updH fz1.out hq); clear hq; go_wp2_with fail
            refine hK.out _ _ ?_ (fun hHeld => ?_)
            · exact HK.out _ ud2
            clear hK K
            try simp only [Act.put, List.setIfInBounds_toArray, List.set_cons_zero, List.set_cons_succ]
            refine wpAnyH_ready (rs := [8]) (by kernel_rfl) (by simp) ?_
            refine AllReadyH.cons (by simp only [List.getElem?_toArray, List.getElem?_cons_succ, List.getElem?_cons_zero] <;> rfl) (fun K hK => ?_) ?_
            · go_simp; refine (HDEC.out _).mono ?_; rintro e wv3 ⟨rfl, hq⟩; have ud3 := ud2.trans hq; have fz3 := Lib.hid (row_updH fz2.out hq); clear hq; go_wp2_with fail
              refine hK.out _ _ ?_ (fun hHeld => ?_)
              · exact HK.out _ ud3
              clear hK K
              try simp only [Act.put, List.setIfInBounds_toArray, List.set_cons_zero, List.set_cons_succ]
              refine wpAnyH_take (i := 9) (v := ?v14) (by simp only [List.getElem?_toArray, List.getElem?_cons_succ, List.getElem?_cons_zero] <;> rfl) (by kernel_rfl) (by kernel_rfl) (by kernel_rfl) (fun _ _ _ h => h) (Or.inl ⟨by rfl, ?y14⟩) hHeld ?r14
              case y14 => (intro w hSw; (try dsimp only at hSw); go_simp; first | done | with_reducible rfl | rfl)
              try simp only [Act.put, List.setIfInBounds_toArray, List.set_cons_zero, List.set_cons_succ]
              refine wpAnyH_ready (rs := [10]) (by kernel_rfl) (by simp) ?_
              refine AllReadyH.cons (by simp only [List.getElem?_toArray, List.getElem?_cons_succ, List.getElem?_cons_zero] <;> rfl) (fun K hK => ?_) ?_
              · go_simp; refine (HSUM.out _).mono ?_; rintro e wv4 ⟨rfl, hq⟩; have ud4 := ud3.trans hq; have fz4 := Lib.hid (row_updH fz3.out hq); clear hq; go_wp2_with fail
                refine hK.out _ _ ?_ (fun hHeld => ?_)
                · exact HK.out _ ud4
                clear hK K
                try simp only [Act.put, List.setIfInBounds_toArray, List.set_cons_zero, List.set_cons_succ]
                refine wpAnyH_ready (rs := [16]) (by kernel_rfl) (by simp) ?_
                refine AllReadyH.cons (by simp only [List.getElem?_toArray, List.getElem?_cons_succ, List.getElem?_cons_zero] <;> rfl) (fun K hK => ?_) ?_
                · go_simp; refine (HPR.out _).mono ?_; rintro e wv5 ⟨rfl, hq⟩; have ud5 := ud4.trans hq; have fz5 := Lib.hid (row_updH fz4.out hq); clear hq; go_wp2_with fail
                  refine hK.out _ _ ?_ (fun hHeld => ?_)
                  · exact HK.out _ ud5
                  clear hK K
                  try simp only [Act.put, List.setIfInBounds_toArray, List.set_cons_zero, List.set_cons_succ]
                  refine wpAnyH_ready (rs := [18]) (by kernel_rfl) (by simp) ?_
                  refine AllReadyH.cons (by simp only [List.getElem?_toArray, List.getElem?_cons_succ, List.getElem?_cons_zero] <;> rfl) (fun K hK => ?_) ?_
                  · rw [if_pos (by rfl)]; refine wp_store_row 33 _ _ rfl gX R rfl rfl _ _ fz5.out HRI.out HRZ.out HRO.out ?_; obtain ⟨wv6, hwx, fz6, ud6⟩ := setRow_let wv5 gX _ _ R fz5.out wr ud5 hgX; rw [← hwx]; clear hwx
                    refine hK.out _ _ ?_ (fun hHeld => ?_)
                    · exact HK.out _ ud6
                    clear hK K
                    try simp only [Act.put]
                    refine wpAnyH_done (by kernel_rfl) ?_ _
                    refine NoPanic.normal ?_
                    exact hJ gX wv6 fz6 ud6 hgX
                  exact AllReadyH.nil
                exact AllReadyH.nil
              exact AllReadyH.nil
            exact AllReadyH.nil
          exact AllReadyH.nil
        exact AllReadyH.nil
      intro gX wA FX uA hgX
      clear HSEC HDEC HSUM HPR HK hOT' wk s7 ud0
      have RX : Hid (RcAt wA gX x) := by have := FX.out; rw [HRE.out] at this; exact this
      have hxd : x.draw.size ≤ 1000000 := by rw [HXE.out]; show may.size ≤ 1000000; decide
      have HH := Lib.hid (fun W => rhash22_any x hxo.out (by omega) W)
      rw [← HRE.out] at HH
      obtain ⟨NV, hNV⟩ : ∃ NV, NV = (byteVals (sha (textL x))).toArray := ⟨_, rfl⟩
      rw [← hNV] at HH
      have HNV := Lib.hid hNV
      have ra := Lib.hid (RX.out.load hxo.out R HRE.out)
      clear hNV FX
      go_wp2_with (first | (refine wpList_load_atW (by rfl) 33 _ rfl gX 0 rfl R ra.out ?_))
      refine (HH.out _).mono ?_
      rintro e wB ⟨rfl, hq⟩
      have uB := uA.trans hq
      have PB := Lib.hid (row_updH HI.out.1 uB)
      have OB := row_same HI.out.2.1 (fun j hj => uB.block j (row_foot_lt HI.out.2.1 j hj) (by simp))
      obtain ⟨wC, hwC⟩ : ∃ wC, wB.setRow w.heap.size NV = wC := ⟨_, rfl⟩
      have HWC := Lib.hid hwC
      have hgw : w.heap.size < wr.heap.size := (Array.getElem?_eq_some_iff.1 HI.out.1).1
      have PC : Hid (wC.heap[w.heap.size]? = some (.cells NV 24 (0, 0))) := by show _ = _; rw [← hwC]; exact setRow_heap _ _ _ _ _ _ PB.out
      have OC : wC.ownsRow 0 33 102 u9 (chainL q k).length (rcVals (chainL q k)) := row_same OB (fun j hj => by rw [← hwC]; exact setRow_other wB w.heap.size j _ (by have := HI.out.2.2.1 j hj; omega))
      have RC : Hid (wC.heap[gX]? = some (.cells R 33 (0, 0))) := by
        have h := RX.out.upd hq
        show _ = _
        rw [← hwC, HRE.out]
        exact row_setRowO h (by omega) _
      have UC : Upd [] [] w wC := by rw [← hwC]; exact (HI.out.2.2.2.trans uB).setRowNew (Nat.le_refl _) _
      have NVS : Hid ((Tryz.prog.info? 24).map (·.size) = some NV.size) := by show _ = _; rw [HNV.out]; exact hashInfo (sha_len _)
      have NVO : Hid (NV.all (·.oneCell') = true) := by show _ = _; rw [HNV.out]; exact hashOne _
      have PVS : Hid ((byteVals (prevOf q k)).toArray.size = NV.size) := by show _ = _; rw [HNV.out, hashSz (prevOf_len q k), hashSz (sha_len _)]
      obtain ⟨v', wE, hrun, hown, hup⟩ := append_rc wC u9 (chainL q k) x hxo.out OC (by rw [chainL_len]; omega)
      rw [← HRE.out] at hrun
      have HRN := Lib.hid hrun
      have HBR := fun W => rc_build x hxo.out W
      rw [← HRE.out] at HBR
      have HBRH := Lib.hid HBR
      have PE : wE.heap[w.heap.size]? = some (.cells (byteVals (prevOf q (k + 1))).toArray 24 (0, 0)) := by
        rw [hup.block w.heap.size (Array.getElem?_eq_some_iff.1 PC.out).1 (fun hm => by have := HI.out.2.2.1 _ hm; omega), PC.out, HNV.out, HX.out]
        rfl
      have FE : ∀ z, z ∈ foot v' → w.heap.size < z := by
        intro z hz
        rcases hup.new z hz with h1 | h1
        · exact HI.out.2.2.1 z h1
        · have := (Array.getElem?_eq_some_iff.1 PC.out).1; omega
      have UE : Upd [] [] w wE := ⟨hup.os.trans UC.os, hup.tape.trans UC.tape, hup.output.trans UC.output, Nat.le_trans UC.size hup.size, fun i hi _ => (hup.block i (Nat.lt_of_lt_of_le hi UC.size) (fun hm => by have := HI.out.2.2.1 i hm; omega)).trans (UC.block i hi (by simp)), fun _ hk => absurd hk (by simp)⟩
      rw [HX.out, ← chainL_succ] at hown
      have INEW : Hid (wE.heap[w.heap.size]? = some (.cells (byteVals (prevOf q (k + 1))).toArray 24 (0, 0)) ∧ wE.ownsRow 0 33 102 v' (chainL q (k + 1)).length (rcVals (chainL q (k + 1))) ∧ (∀ z, z ∈ foot v' → w.heap.size < z) ∧ Upd [] [] w wE) := ⟨PE, hown, FE, UE⟩
      clear hq OB hwC OC UC hrun hown hup HBR PE FE UE uB
      go_wp2_with (first | (refine wpList_store_rowAs rfl 24 _ _ rfl w.heap.size NV rfl rfl _ _ PB.out NVS.out PVS.out NVO.out wC HWC.out ?_) | (refine wpList_load_row rfl 33 _ rfl gX rfl _ R _ _ RC.out Tryz.underlying33 rfl HRI.out ?_) | (refine wpList_buildRun rfl 44 1 _ rfl _ _ (Eq.trans (congrArg (fun z => (Instr.buildSlice 44 1 z).run Tryz.prog wC) (by kernel_rfl)) (HBRH.out _)) ?_) | (refine wpList_append_run _ rfl _ _ _ _ rfl _ _ v' wE rfl rfl HRN.out ?_))
      exact ⟨⟨k + 1, by go_num, by omega, INEW⟩, by simp [intOf]; omega⟩
    · have hkn : k = n := by omega
      subst hkn
      clear hlt hk
      go_wp2_with fail
      go_ret
      exact ⟨u9, HI.out.2.1, fun z hz => Nat.le_of_lt (HI.out.2.2.1 z hz), rfl, HI.out.2.2.2⟩
end Go.Proofs.YtmnmhhbldbdpfaaGreatDoor
