/- The contract of disk.put. The plain model of a disk: no program in sight. A disk in memory, and the contracts of the functions of package disk that touch its fields alone. The contracts of list.add, Size, Calls, Fail, Read. The contracts of Write and Sync. The contract of Sync. The contract of Crash. What the texts of the journal ask of the disk's texts (without the reference of the disk). -/
import Derived.Test.YtinpenoeohejoaaGreatDoorRows
import Derived.Test.YtinpenoeohejoaaGreatDoorGZ
namespace Go.Proofs.YtinpenoeohejoaaGreatDoor
open Go.RowKit
set_option maxRecDepth 100000

theorem info_u8 : (Tryz.prog.info? 5).map (fun i => (i.zero, i.size, i.bytes)) = some (some (.int .u8 0), 1, 1) := by kernel_rfl

theorem put_tail (w : World) (v : Value) (c : List UInt8) (off n : Nat) (s : ByteArray) (hn : n = c.length) (hrow : w.ownsRow 0 5 1 v n (byteVals c)) (hfit : off + s.size ≤ n) :
    ∃ w', w'.ownsRow 0 5 1 v n (byteVals (c.take off ++ bs s ++ c.drop (off + s.size))) ∧ Upd (foot v) (foot v) w w' ∧
      ∀ (ao : Option Addr) (dCap ty : Nat), (∀ g m cap, v = .slice (some ⟨g, 0, none⟩) m cap → 0 < s.size → ao = some ⟨g, off, none⟩) →
        (Builtin.copy_ #[86, 9] ty #[.slice ao (n - off) dCap, .string s]).run Tryz.prog w = .ok (.int .i64 (s.size : Int)) w' := by
  obtain ⟨i0, hi, hz0, hz1, hz2⟩ := info_parts info_u8
  subst hn
  by_cases h0 : 0 < c.length
  · obtain ⟨g, cap, cur, rfl, hg, hnc, hcm, hcs, htake⟩ := row_pos hrow h0
    simp only [Nat.mul_one] at hcs htake
    refine ⟨w.setRow g (cur.toList.take off ++ byteVals (bs s) ++ cur.toList.drop (off + s.size)).toArray, ⟨?_, .inr ⟨g, cap, _, rfl, Nat.zero_le _, setRow_heap w g cur _ 5 _ hg, hnc, hcm, ?_, ?_⟩⟩,
      ⟨rfl, rfl, rfl, by simp, fun j _ hj => setRow_other w g j _ (fun e => hj (by simp [foot, Value.ownBlock, e])), fun j hj => .inl hj⟩, ?_⟩
    · simp [byteVals_length, bs_length]; omega
    · simp [byteVals_length, bs_length]; omega
    · simp only [byteVals_append, byteVals_take, byteVals_drop, ← htake, Nat.mul_one]
      rw [List.take_take, Nat.min_eq_left (by omega), List.drop_take, List.take_append, List.take_append, List.take_take]
      simp only [List.length_append, List.length_take, Array.length_toList, byteVals_length, bs_length]
      rw [Nat.min_eq_right (by omega), List.take_of_length_le (l := byteVals (bs s)) (by rw [byteVals_length, bs_length]; omega)]
      congr 2
      omega
    · intro ao dCap ty hao
      exact copy_string w 86 9 ty 5 i0 Tryz.underlying86 hi hz1 g off c.length cap cur hg hnc hcs ao dCap s hfit (hao g _ _ rfl)
  · have hc0 : c = [] := List.eq_nil_of_length_eq_zero (by omega)
    subst hc0
    have hs0 : s.size = 0 := by have : ([] : List UInt8).length = 0 := rfl; omega
    have hbn : bs s = [] := List.eq_nil_of_length_eq_zero (by rw [bs_length, hs0])
    refine ⟨w, by simpa [hbn] using hrow, Upd.refl _ _, ?_⟩
    intro ao dCap ty _
    have e0 : ([] : List UInt8).length - off = 0 := by simp
    rw [e0]
    cases ao <;> simp [Builtin.copy_, run_underlying Tryz.underlying86, sizeOf, typeInfo, hi, Builtin.lenOf, hs0, Builtin.firstCells, goInt, storeCells]

theorem putL_grow (c : List UInt8) (off : Nat) (s : List UInt8) (k : Nat) (h : k = off + s.length - c.length) :
    putL c off s = (c ++ List.replicate k 0).take off ++ s ++ (c ++ List.replicate k 0).drop (off + s.length) := by subst h; rfl

theorem putL_fit (c : List UInt8) (off : Nat) (s : List UInt8) (h : off + s.length ≤ c.length) :
    putL c off s = c.take off ++ s ++ c.drop (off + s.length) := by
  have e : off + s.length - c.length = 0 := by omega
  simp [putL, e]

set_option maxRecDepth 100000 in
set_option maxHeartbeats 400000 in
theorem put_any (v : Value) (c : List UInt8) (off : Nat) (s : ByteArray) (w : World) (hrow : w.ownsRow 0 5 1 v c.length (byteVals c)) (hb : off + s.size ≤ 1099511627776) (hc : c.length ≤ 1099511627776) :
    Calls Tryz.prog 36 #[v, .int .i64 (off : Int), .string s] w fun e w' => ∃ v', e = .returned v' ∧ w'.ownsRow 0 5 1 v' (putL c off (bs s)).length (byteVals (putL c off (bs s))) ∧ Upd (foot v) (foot v') w w' := by
  obtain ⟨i0, hi, hz0, hz1, hz2⟩ := info_parts info_u8
  by_cases hgr : c.length < off + s.size
  · obtain ⟨v1, w1, hap, hrow1, hup1⟩ := append_made (P := Tryz.prog) w 86 3 86 5 .i64 i0 (.int .u8 0) 1 Tryz.underlying86 Tryz.underlying3 hi hz0 hz1 hz2 rfl rfl _ _ _ hrow (off + s.size - c.length) (by omega) (by omega) (by omega)
    have hk : ((off + s.size - c.length : Nat) : Int) = (off : Int) + (s.size : Int) - (c.length : Int) := by omega
    rw [hk] at hap
    have hL : c.length + (off + s.size - c.length) = off + s.size := by omega
    rw [hL] at hrow1
    have hz : byteVals c ++ List.replicate (off + s.size - c.length) (Value.int .u8 0) = byteVals (c ++ List.replicate (off + s.size - c.length) 0) := by simp [byteVals_append, byteVals_replicate, byteV]
    rw [hz] at hrow1
    obtain ⟨w2, hrow2, hup2, hcp⟩ := put_tail w1 v1 (c ++ List.replicate (off + s.size - c.length) 0) off (off + s.size) s (by simp; omega) hrow1 (Nat.le_refl _)
    have hP := putL_grow c off (bs s) _ rfl
    rw [bs_length] at hP
    rw [← hP] at hrow2
    have hPl : (putL c off (bs s)).length = off + s.size := by rw [putL_length, bs_length]; omega
    rw [← hPl] at hrow2
    have hup := hup1.trans hup2
    clear hk hi hz0 hz1 hz2 hL hz hP hup1 hup2
    clear i0
    have HP := Lib.hid hPl
    clear hPl
    obtain ⟨ao, cap, rfl, hcap, hcm⟩ := row_slice hrow
    obtain ⟨g1, cap1, cur1, rfl, _, hcap1, hcm1, _⟩ := row_pos hrow1 (by omega)
    have hcm : cap ≤ 9223372036854775807 := hcm
    have hcm1 : cap1 ≤ 9223372036854775807 := hcm1
    rw [Nat.add_sub_cancel_left] at hcp
    have HC := Lib.hid hcp
    have HA := Lib.hid hap
    clear hcp hap
    by_cases hco : off = cap1
    · subst hco
      go_enter Tryz.func36, Tryz.ntmps36
      go_wp2_with (at_builtin; refine wpList_append_run _ rfl _ _ _ _ rfl _ _ _ _ rfl rfl HA.out ?_)
      have hs0 : s.size = 0 := by omega
      have hcz := fun ao dCap ty => HC.out ao dCap ty (by intro g m c hv hs; exfalso; omega)
      rw [hs0] at hcz
      rw [hcz]
      clear hcz hs0
      go_wp2
      go_ret
      exact ⟨_, rfl, hrow2, hup⟩
    · go_enter Tryz.func36, Tryz.ntmps36
      go_wp2_with (at_builtin; refine wpList_append_run _ rfl _ _ _ _ rfl _ _ _ _ rfl rfl HA.out ?_)
      rw [HC.out _ _ _ (by intro g m c hv hs; simp at hv; obtain ⟨rfl, _, rfl⟩ := hv; rfl)]
      go_wp2
      go_ret
      exact ⟨_, rfl, hrow2, hup⟩
  · obtain ⟨w2, hrow2, hup, hcp⟩ := put_tail w v c off c.length s rfl hrow (by omega)
    have hP := putL_fit c off (bs s) (by rw [bs_length]; omega)
    rw [bs_length] at hP
    rw [← hP] at hrow2
    have hPl : (putL c off (bs s)).length = c.length := by rw [putL_length, bs_length]; omega
    rw [← hPl] at hrow2
    clear hi hz0 hz1 hz2 hP hPl
    clear i0
    obtain ⟨ao, cap, rfl, hcap, hcm⟩ := row_slice hrow
    have hcm : cap ≤ 9223372036854775807 := hcm
    have HC := Lib.hid hcp
    clear hcp
    by_cases hco : off = cap
    · subst hco
      go_enter Tryz.func36, Tryz.ntmps36
      go_wp2
      have hs0 : c.length - off = 0 := by omega
      have hcz := fun ao dCap ty => HC.out ao dCap ty (by intro g m c hv hs; exfalso; omega)
      rw [hs0] at hcz
      rw [hcz]
      clear hcz hs0
      go_wp2
      go_ret
      exact ⟨_, rfl, hrow2, hup⟩
    · go_enter Tryz.func36, Tryz.ntmps36
      go_wp2
      rw [HC.out _ _ _ (by intro g m c hv hs; simp at hv; obtain ⟨rfl, _, rfl⟩ := hv; simp [Addr.add]; omega)]
      go_wp2
      go_ret
      exact ⟨_, rfl, hrow2, hup⟩
end Go.Proofs.YtinpenoeohejoaaGreatDoor

namespace Go.Proofs.YtinpenoeohejoaaGreatDoor

structure DiskM where
  now : List UInt8
  synced : List UInt8
  parts : List (Nat × List UInt8)
  calls : Nat
  failing : Bool
  left : Nat

def DiskM.empty : DiskM := ⟨[], [], [], 0, false, 0⟩

def partsF : Nat → Nat → List UInt8 → List (Nat × List UInt8)
  | 0, _, _ => []
  | f + 1, off, s => if s = [] then [] else (off, s.take (min s.length (64 - off % 64))) :: partsF f (off + min s.length (64 - off % 64)) (s.drop (min s.length (64 - off % 64)))
def partsL (off : Nat) (s : List UInt8) : List (Nat × List UInt8) := partsF s.length off s

theorem partsF_nil (f off : Nat) : partsF f off [] = [] := by cases f <;> simp [partsF]
theorem partsF_enough (f : Nat) : ∀ (g off : Nat) (s : List UInt8), s.length ≤ f → s.length ≤ g → partsF f off s = partsF g off s := by
  induction f with
  | zero => intro g off s h _; have : s = [] := List.eq_nil_of_length_eq_zero (by omega); subst this; simp [partsF_nil]
  | succ f ih =>
    intro g off s hf hg
    cases g with
    | zero => have : s = [] := List.eq_nil_of_length_eq_zero (by omega); subst this; simp [partsF_nil]
    | succ g =>
      by_cases h0 : s = []
      · subst h0; simp [partsF_nil]
      · have hl : 0 < s.length := List.length_pos_iff.2 h0
        have hm : off % 64 < 64 := Nat.mod_lt _ (by omega)
        simp only [partsF, if_neg h0]
        rw [ih g _ _ (by simp; omega) (by simp; omega)]
theorem partsL_nil (off : Nat) : partsL off [] = [] := partsF_nil _ _
theorem partsL_step (off : Nat) (s : List UInt8) (h : s ≠ []) :
    partsL off s = (off, s.take (min s.length (64 - off % 64))) :: partsL (off + min s.length (64 - off % 64)) (s.drop (min s.length (64 - off % 64))) := by
  have hl : 0 < s.length := List.length_pos_iff.2 h
  have hm : off % 64 < 64 := Nat.mod_lt _ (by omega)
  unfold partsL
  obtain ⟨n, hn⟩ : ∃ n, s.length = n + 1 := ⟨s.length - 1, by omega⟩
  conv => lhs; rw [hn]; simp only [partsF]
  rw [if_neg h]
  congr 1
  exact partsF_enough _ _ _ _ (by simp; omega) (by simp)
theorem partsL_length (n : Nat) : ∀ (off : Nat) (s : List UInt8), s.length ≤ n → (partsL off s).length ≤ s.length := by
  induction n with
  | zero => intro off s h; have : s = [] := List.eq_nil_of_length_eq_zero (by omega); subst this; simp [partsL_nil]
  | succ n ih =>
    intro off s h
    by_cases h0 : s = []
    · subst h0; simp [partsL_nil]
    · have hl : 0 < s.length := List.length_pos_iff.2 h0
      have hm : off % 64 < 64 := Nat.mod_lt _ (by omega)
      rw [partsL_step off s h0]
      have := ih (off + min s.length (64 - off % 64)) (s.drop (min s.length (64 - off % 64))) (by simp; omega)
      simp at this ⊢; omega

def DiskM.off (D : DiskM) : Bool := D.failing && D.left == 0
def DiskM.count (D : DiskM) : DiskM := { D with calls := D.calls + 1, left := cond D.failing (D.left - 1) D.left }
def DiskM.wrote (D : DiskM) (off : Nat) (s : List UInt8) : DiskM := { D with now := putL D.now off s, parts := D.parts ++ partsL off s }
def putParts (c : List UInt8) (ps : List (Nat × List UInt8)) : List UInt8 := ps.foldl (fun c p => putL c p.1 p.2) c
def DiskM.synced1 (D : DiskM) : DiskM := { D with synced := putL (putParts D.synced D.parts) D.now.length [], parts := [] }
def DiskM.fail (D : DiskM) (n : Int) : DiskM := { D with failing := decide (0 ≤ n), left := n.toNat }

def survives (sv : List Int) (k : Nat) : Bool := decide (0 < sv.length) && ((sv.getD (k % sv.length) 0).tmod 2 != 0)
def crashF (sv : List Int) : Nat → List (Nat × List UInt8) → List UInt8 → List UInt8
  | _, [], c => c
  | k, p :: ps, c => crashF sv (k + 1) ps (if survives sv k then putL c p.1 p.2 else c)
def DiskM.crash (D : DiskM) (sv : List Int) : DiskM := ⟨crashF sv 0 D.parts D.synced, crashF sv 0 D.parts D.synced, [], 0, false, 0⟩

structure DiskM.ok (D : DiskM) : Prop where
  now : D.now.length ≤ 16777216
  synced : D.synced.length ≤ 16777216
  parts : ∀ p, p ∈ D.parts → p.1 + p.2.length ≤ 16777216
  many : D.parts.length ≤ D.calls * 16777216
  calls : D.calls ≤ 65536
  left : D.left ≤ 9223372036854775807

theorem crashF_append (sv : List Int) (p : Nat × List UInt8) : ∀ (ps : List (Nat × List UInt8)) (k : Nat) (c : List UInt8),
    crashF sv k (ps ++ [p]) c = if survives sv (k + ps.length) then putL (crashF sv k ps c) p.1 p.2 else crashF sv k ps c
  | [], k, c => by simp [crashF]
  | q :: ps, k, c => by
    simp only [List.cons_append, crashF]
    rw [crashF_append sv p ps]
    simp only [List.length_cons]
    rw [show k + 1 + ps.length = k + (ps.length + 1) by omega]
theorem crashF_le (sv : List Int) (m : Nat) : ∀ (ps : List (Nat × List UInt8)) (k : Nat) (c : List UInt8), c.length ≤ m → (∀ p, p ∈ ps → p.1 + p.2.length ≤ m) → (crashF sv k ps c).length ≤ m
  | [], k, c, h, _ => by simpa [crashF] using h
  | q :: ps, k, c, h, hp => by
    simp only [crashF]
    refine crashF_le sv m ps _ _ ?_ (fun p hm => hp p (by simp [hm]))
    split
    · rw [putL_length]; have := hp q (by simp); omega
    · exact h
theorem putParts_le (m : Nat) : ∀ (ps : List (Nat × List UInt8)) (c : List UInt8), c.length ≤ m → (∀ p, p ∈ ps → p.1 + p.2.length ≤ m) → (putParts c ps).length ≤ m
  | [], c, h, _ => by simpa [putParts] using h
  | q :: ps, c, h, hp => by
    simp only [putParts, List.foldl_cons]
    refine putParts_le m ps _ ?_ (fun p hm => hp p (by simp [hm]))
    rw [putL_length]; have := hp q (by simp); omega
theorem putParts_snoc (c : List UInt8) (ps : List (Nat × List UInt8)) (p : Nat × List UInt8) : putParts c (ps ++ [p]) = putL (putParts c ps) p.1 p.2 := by simp [putParts]
theorem partsL_in (m n : Nat) : ∀ (off : Nat) (s : List UInt8), s.length ≤ n → off + s.length ≤ m → ∀ p, p ∈ partsL off s → p.1 + p.2.length ≤ m := by
  induction n with
  | zero => intro off s h _; have : s = [] := List.eq_nil_of_length_eq_zero (by omega); subst this; simp [partsL_nil]
  | succ n ih =>
    intro off s h hm p hp
    by_cases h0 : s = []
    · subst h0; simp [partsL_nil] at hp
    · have hl : 0 < s.length := List.length_pos_iff.2 h0
      have hmm : off % 64 < 64 := Nat.mod_lt _ (by omega)
      rw [partsL_step off s h0] at hp
      rcases List.mem_cons.1 hp with rfl | hp
      · simp; omega
      · exact ih _ _ (by simp; omega) (by simp; omega) p hp

theorem DiskM.ok_empty : DiskM.empty.ok := ⟨by simp [DiskM.empty], by simp [DiskM.empty], by simp [DiskM.empty], by simp [DiskM.empty], by simp [DiskM.empty], by simp [DiskM.empty]⟩
theorem DiskM.ok.write {D : DiskM} (h : D.ok) (off : Nat) (s : List UInt8) (hs : off + s.length ≤ 16777216) (hc : D.calls < 65536) : (D.wrote off s).count.ok := by
  refine ⟨?_, h.synced, ?_, ?_, ?_, ?_⟩
  · simp only [DiskM.count, DiskM.wrote, putL_length]; have := h.now; omega
  · intro p hp
    simp only [DiskM.count, DiskM.wrote, List.mem_append] at hp
    rcases hp with hp | hp
    · exact h.parts p hp
    · exact partsL_in _ s.length off s (Nat.le_refl _) hs p hp
  · simp only [DiskM.count, DiskM.wrote, List.length_append]
    have := partsL_length s.length off s (Nat.le_refl _)
    have := h.many
    omega
  · simp only [DiskM.count, DiskM.wrote]; omega
  · show cond D.failing (D.left - 1) D.left ≤ _; have := h.left; cases D.failing <;> simp only [cond_true, cond_false] <;> omega
theorem DiskM.ok.sync {D : DiskM} (h : D.ok) (hc : D.calls < 65536) : (D.synced1).count.ok := by
  refine ⟨h.now, ?_, ?_, ?_, ?_, ?_⟩
  · simp only [DiskM.count, DiskM.synced1, putL_length, List.length_nil]
    have := putParts_le 16777216 D.parts D.synced h.synced h.parts
    have := h.now
    omega
  · simp [DiskM.count, DiskM.synced1]
  · simp [DiskM.count, DiskM.synced1]
  · simp only [DiskM.count, DiskM.synced1]; omega
  · show cond D.failing (D.left - 1) D.left ≤ _; have := h.left; cases D.failing <;> simp only [cond_true, cond_false] <;> omega
theorem DiskM.ok.crash {D : DiskM} (h : D.ok) (sv : List Int) : (D.crash sv).ok := by
  have := crashF_le sv 16777216 D.parts 0 D.synced h.synced h.parts
  exact ⟨this, this, by simp [DiskM.crash], by simp [DiskM.crash], by simp [DiskM.crash], by simp [DiskM.crash]⟩
theorem DiskM.ok.fail {D : DiskM} (h : D.ok) (n : Int) (hn : n ≤ 9223372036854775807) : (D.fail n).ok :=
  ⟨h.now, h.synced, h.parts, h.many, h.calls, by simp only [DiskM.fail]; omega⟩
end Go.Proofs.YtinpenoeohejoaaGreatDoor

namespace Go.Proofs.YtinpenoeohejoaaGreatDoor
open Go.RowKit

def partV (p : Nat × List UInt8) : List Value := [.int .i64 (p.1 : Int), strV p.2]
def partVals (ps : List (Nat × List UInt8)) : List Value := ps.flatMap partV

def DiskAt (w : World) (b : Nat) (D : DiskM) (S : List Nat) : Prop :=
  ∃ vc vs vp, w.heap[b]? = some (.cells #[vc, vs, vp, .int .i64 (D.calls : Int), .bool D.failing, .int .i64 (D.left : Int)] 91 (0, 0)) ∧
    w.ownsRow 0 5 1 vc D.now.length (byteVals D.now) ∧ w.ownsRow 0 5 1 vs D.synced.length (byteVals D.synced) ∧ w.ownsRow 0 107 2 vp D.parts.length (partVals D.parts) ∧
    S = b :: (foot vc ++ foot vs ++ foot vp) ∧ S.Nodup

theorem blk_lt {w : World} {b : Nat} {o : Obj} (h : w.heap[b]? = some o) : b < w.heap.size := (Array.getElem?_eq_some_iff.1 h).1

theorem DiskAt.same {w w' : World} {b : Nat} {D : DiskM} {S : List Nat} (h : DiskAt w b D S) (hs : ∀ k, k ∈ S → w'.heap[k]? = w.heap[k]?) : DiskAt w' b D S := by
  obtain ⟨vc, vs, vp, hb, hc, hy, hp, rfl, hn⟩ := h
  exact ⟨vc, vs, vp, (hs b (by simp)).trans hb, row_same hc (fun k hk => hs k (by simp [hk])), row_same hy (fun k hk => hs k (by simp [hk])), row_same hp (fun k hk => hs k (by simp [hk])), rfl, hn⟩
theorem DiskAt.lt {w : World} {b : Nat} {D : DiskM} {S : List Nat} (h : DiskAt w b D S) : ∀ k, k ∈ S → k < w.heap.size := by
  obtain ⟨vc, vs, vp, hb, hc, hy, hp, rfl, hn⟩ := h
  intro k hk
  simp only [List.mem_cons, List.mem_append] at hk
  rcases hk with rfl | (hk | hk) | hk
  · exact blk_lt hb
  · exact row_foot_lt hc k hk
  · exact row_foot_lt hy k hk
  · exact row_foot_lt hp k hk
theorem DiskAt.head {w : World} {b : Nat} {D : DiskM} {S : List Nat} (h : DiskAt w b D S) : b ∈ S := by
  obtain ⟨vc, vs, vp, hb, hc, hy, hp, rfl, hn⟩ := h; simp
theorem DiskAt.alloc {w : World} {b : Nat} {D : DiskM} {S : List Nat} (h : DiskAt w b D S) (o : Obj) : DiskAt (w.alloc o) b D S := h.same fun k hk => Below.heap_alloc _ _ _ (h.lt k hk)
theorem DiskAt.drewN {w : World} {b : Nat} {D : DiskM} {S : List Nat} (h : DiskAt w b D S) (n : Nat) : DiskAt (w.drewN n) b D S := h.same fun _ _ => rfl
theorem DiskAt.drew {w : World} {b : Nat} {D : DiskM} {S : List Nat} (h : DiskAt w b D S) : DiskAt w.drew b D S := h.same fun _ _ => rfl
theorem DiskAt.kept {w w' : World} {b : Nat} {D : DiskM} {S T T' : List Nat} (h : DiskAt w b D S) (hu : Upd T T' w w') (hd : ∀ k, k ∈ S → k ∉ T) : DiskAt w' b D S :=
  h.same fun k hk => hu.block k (h.lt k hk) (hd k hk)

set_option maxRecDepth 100000

set_option maxHeartbeats 400000 in
theorem new_disk (w : World) :
    Calls Tryz.prog 6 #[] w fun e w' => e = .returned (.pointer (some ⟨w.heap.size, 0, none⟩)) ∧ w' = w.alloc (.cells #[.slice none 0 0, .slice none 0 0, .slice none 0 0, .int .i64 0, .bool false, .int .i64 0] 91) := by
  go_enter Tryz.func6, Tryz.ntmps6
  go_wp2
  go_ret
  exact ⟨rfl, rfl⟩

theorem diskAt_zero (w : World) : DiskAt (w.alloc (.cells #[.slice none 0 0, .slice none 0 0, .slice none 0 0, .int .i64 0, .bool false, .int .i64 0] 91)) w.heap.size .empty [w.heap.size] :=
  ⟨.slice none 0 0, .slice none 0 0, .slice none 0 0, heap_alloc_new w _, World.ownsRow_nil _ _ _ _, World.ownsRow_nil _ _ _ _, World.ownsRow_nil _ _ _ _, rfl, by simp⟩

theorem New_any (w : World) :
    Calls Tryz.prog 6 #[] w fun e w' => e = .returned (.pointer (some ⟨w.heap.size, 0, none⟩)) ∧ DiskAt w' w.heap.size .empty [w.heap.size] ∧ Upd [] [w.heap.size] w w' := by
  refine (new_disk w).mono ?_
  rintro e w' ⟨rfl, rfl⟩
  exact ⟨rfl, diskAt_zero w, rfl, rfl, rfl, by simp, fun k hk _ => Below.heap_alloc _ _ _ hk, fun k hk => .inr (by simp at hk; omega)⟩

set_option maxHeartbeats 400000 in
theorem isOff_any (b : Nat) (D : DiskM) (S : List Nat) (w : World) (h : DiskAt w b D S) :
    Calls Tryz.prog 105 #[.pointer (some ⟨b, 0, none⟩)] w fun e w' => e = .returned (.bool D.off) ∧ w = w' := by
  obtain ⟨vc, vs, vp, hb, hc, hy, hp, rfl, hn⟩ := h
  have h4 : w.cell? ⟨b, 4, none⟩ = some (.bool D.failing) := cell_of_row w b 4 _ _ _ hb
  have h5 : w.cell? ⟨b, 5, none⟩ = some (.int .i64 (D.left : Int)) := cell_of_row w b 5 _ _ _ hb
  clear hb hc hy hp hn
  unfold DiskM.off
  obtain ⟨f, hf⟩ : ∃ f, f = D.failing := ⟨_, rfl⟩
  obtain ⟨l, hl⟩ : ∃ l, l = D.left := ⟨_, rfl⟩
  rw [← hf, ← hl]
  rw [← hf] at h4
  rw [← hl] at h5
  clear hf hl
  cases f
  · go_enter Tryz.func105, Tryz.ntmps105
    go_wp2
    go_ret
    exact ⟨rfl, rfl⟩
  · go_enter Tryz.func105, Tryz.ntmps105
    go_wp2
    go_ret
    refine ⟨?_, rfl⟩
    have : (((l : Nat) : Int) == 0) = (l == 0) := by rw [Bool.eq_iff_iff]; simp
    simp [this]

theorem DiskAt.field {w : World} {b : Nat} {D : DiskM} {S : List Nat} (h : DiskAt w b D S) (D' : DiskM) (i : Nat) (v : Value)
    (hv : ∀ vc vs vp : Value, (#[vc, vs, vp, .int .i64 (D.calls : Int), .bool D.failing, .int .i64 (D.left : Int)] : Array Value).setIfInBounds i v = #[vc, vs, vp, .int .i64 (D'.calls : Int), .bool D'.failing, .int .i64 (D'.left : Int)])
    (h1 : D'.now = D.now) (h2 : D'.synced = D.synced) (h3 : D'.parts = D.parts) : DiskAt (w.setCell ⟨b, i, none⟩ v) b D' S := by
  obtain ⟨vc, vs, vp, hb, hc, hy, hp, rfl, hn⟩ := h
  have hk : ∀ k, k ∈ foot vc ++ foot vs ++ foot vp → (w.setCell ⟨b, i, none⟩ v).heap[k]? = w.heap[k]? := fun k hk => heap_setCell_other w _ k v (fun e => by simp only at e; subst e; exact (List.nodup_cons.1 hn).1 hk)
  refine ⟨vc, vs, vp, ?_, ?_, ?_, ?_, rfl, hn⟩
  · rw [heap_setCell_same w b i _ _ v hb, hv]
  · rw [h1]; exact row_same hc (fun k h => hk k (by simp [h]))
  · rw [h2]; exact row_same hy (fun k h => hk k (by simp [h]))
  · rw [h3]; exact row_same hp (fun k h => hk k (by simp [h]))

set_option maxHeartbeats 400000 in
theorem count_any (b : Nat) (D : DiskM) (S : List Nat) (w : World) (h : DiskAt w b D S) (hok : D.calls ≤ 65536) (hl : D.left ≤ 9223372036854775807) (hoff : D.off = false) :
    Calls Tryz.prog 106 #[.pointer (some ⟨b, 0, none⟩)] w fun e w' => e = .returned (.tuple #[]) ∧ DiskAt w' b D.count S ∧ Upd S S w w' := by
  have hb0 := h
  obtain ⟨vc, vs, vp, hb, hc, hy, hp, rfl, hn⟩ := hb0
  have h3 : w.cell? ⟨b, 3, none⟩ = some (.int .i64 (D.calls : Int)) := cell_of_row w b 3 _ _ _ hb
  have h4 : w.cell? ⟨b, 4, none⟩ = some (.bool D.failing) := cell_of_row w b 4 _ _ _ hb
  have h5 : w.cell? ⟨b, 5, none⟩ = some (.int .i64 (D.left : Int)) := cell_of_row w b 5 _ _ _ hb
  have f3 : w.frozen? ⟨b, 3, none⟩ = false := frozen_of_row w b 3 _ _ hb
  have f5 : w.frozen? ⟨b, 5, none⟩ = false := frozen_of_row w b 5 _ _ hb
  clear hb hc hy hp hn
  have hd1 := h.field { D with calls := D.calls + 1 } 3 (.int .i64 ((D.calls : Int) + 1)) (fun _ _ _ => rfl) rfl rfl rfl
  have hu1 := (Upd.refl (b :: (foot vc ++ foot vs ++ foot vp)) w).setCell (p := ⟨b, 3, none⟩) (by simp) (.int .i64 ((D.calls : Int) + 1))
  by_cases hf : D.failing = true
  · have hl0 : 0 < D.left := by
      rcases Nat.eq_zero_or_pos D.left with e | e
      · simp [DiskM.off, hf, e] at hoff
      · exact e
    rw [hf] at h4
    have hd2 := hd1.field D.count 5 (.int .i64 ((D.left : Int) - 1)) (fun _ _ _ => by simp only [DiskM.count, hf, cond_true]; have e : ((D.left - 1 : Nat) : Int) = (D.left : Int) - 1 := by omega
                                                                                      rw [e]; rfl) rfl rfl rfl
    have hu2 := hu1.setCell (p := ⟨b, 5, none⟩) (by simp) (.int .i64 ((D.left : Int) - 1))
    have H2 := Lib.hid hd2
    have U2 := Lib.hid hu2
    clear hd1 hd2 hu1 hu2 hf hoff h
    generalize hcl : D.calls = cl at *
    generalize hlf : D.left = lf at *
    have K1 := Lib.hid hcl
    have K2 := Lib.hid hlf
    clear hcl hlf
    go_enter Tryz.func106, Tryz.ntmps106
    go_wp2
    go_end0
    exact ⟨rfl, H2.out, U2.out⟩
  · have hf : D.failing = false := by simpa using hf
    rw [hf] at h4
    have hE : ({ D with calls := D.calls + 1 } : DiskM) = D.count := by simp [DiskM.count, hf]
    rw [hE] at hd1
    have H2 := Lib.hid hd1
    have U2 := Lib.hid hu1
    clear hd1 hu1 hf hoff h hE
    generalize hcl : D.calls = cl at *
    have K1 := Lib.hid hcl
    clear hcl
    go_enter Tryz.func106, Tryz.ntmps106
    go_wp2
    go_end0
    exact ⟨rfl, H2.out, U2.out⟩
end Go.Proofs.YtinpenoeohejoaaGreatDoor

namespace Go.Proofs.YtinpenoeohejoaaGreatDoor
open Go.RowKit
set_option maxRecDepth 100000

theorem info_part : (Tryz.prog.info? 107).map (fun i => (i.zero, i.size, i.bytes)) = some (some (.agg #[.int .i64 0, .string ⟨#[]⟩]), 2, 24) := by kernel_rfl

set_option maxHeartbeats 400000 in
theorem add_raw (b : Nat) (vp : Value) (ps : List (Nat × List UInt8)) (p : Nat × List UInt8) (w : World) (hb : w.cell? ⟨b, 2, none⟩ = some vp) (hf : w.frozen? ⟨b, 2, none⟩ = false) (hnb : b ∉ foot vp)
    (hp : w.ownsRow 0 107 2 vp ps.length (partVals ps)) (hlen : ps.length ≤ 2199023255552) :
    Calls Tryz.prog 182 #[.pointer (some ⟨b, 2, none⟩), .agg #[.int .i64 (p.1 : Int), strV p.2]] w fun e w' => ∃ vp' w1, e = .returned (.tuple #[]) ∧ w' = w1.setCell ⟨b, 2, none⟩ vp' ∧
      w1.ownsRow 0 107 2 vp' (ps ++ [p]).length (partVals (ps ++ [p])) ∧ Upd (foot vp) (foot vp') w w1 ∧ w1.heap[b]? = w.heap[b]? := by
  obtain ⟨i0, hi, hz0, hz1, hz2⟩ := info_parts info_part
  have hbl : b < w.heap.size := World.block_lt_of_cell? _ _ hb
  obtain ⟨vp', w1, hr, hrow, hup⟩ := append_block (P := Tryz.prog) ((w.alloc (.cells #[.int .i64 (p.1 : Int), strV p.2] 107)).alloc (.cells #[.int .i64 (p.1 : Int), strV p.2] 107)).drew 87 87 107 i0 _ 2 24 Tryz.underlying87 hi hz0 hz1 hz2 rfl (by omega) vp ps.length (partVals ps)
    (row_same hp (fun k hk => by have := row_foot_lt hp k hk; rw [heap_drew, Below.heap_alloc _ _ _ (by simp; omega), Below.heap_alloc _ _ _ (by omega)])) ⟨w.heap.size + 1, 0, none⟩ 1 1 (partV p) rfl
    (by intro j u hj; match j, hj with
        | 0, hj => simp [partV] at hj; subst hj; simp [Addr.add]
        | 1, hj => simp [partV] at hj; subst hj; simp [Addr.add])
    (by intro u hu; simp [partV] at hu; rcases hu with rfl | rfl <;> rfl) (by omega) (by simp [maxLen]; omega)
  clear hi hz0 hz1 hz2
  have hup' : Upd (foot vp) (foot vp') w w1 := Upd.fore (Upd.fore (w := w.alloc _) ⟨hup.os, hup.tape, hup.output, hup.size, hup.block, hup.new⟩)
  have hbb : w1.heap[b]? = w.heap[b]? := hup'.block b hbl hnb
  have hb1 : w1.cell? ⟨b, 2, none⟩ = some vp := (World.cell?_of_block (a := ⟨b, 2, none⟩) hbb).trans hb
  have hf1 : w1.frozen? ⟨b, 2, none⟩ = false := (World.frozen?_of_block (a := ⟨b, 2, none⟩) hbb).trans hf
  obtain ⟨ao, cap, rfl, hcap, hcm⟩ := row_slice hp
  obtain ⟨ao', cap', rfl, hcap', hcm'⟩ := row_slice hrow
  have HR := Lib.hid hr
  have HB := Lib.hid hbb
  clear hr hbb
  obtain ⟨p1, p2⟩ := p
  simp only at HR hrow ⊢
  generalize strV p2 = sv at *
  go_enter Tryz.func182, Tryz.ntmps182
  go_wp2
  have hR : w1.ownsRow 0 107 2 (.slice ao' (ps.length + 1) cap') (ps ++ [(p1, p2)]).length (partVals (ps ++ [(p1, p2)])) := by simpa [partVals] using hrow
  have HF : Hid (w1.ownsRow 0 107 2 (.slice ao' (ps.length + 1) cap') (ps ++ [(p1, p2)]).length (partVals (ps ++ [(p1, p2)]))) := hR
  clear hR hrow
  go_region_law (refine step_append_run _ rfl _ _ _ _ rfl _ _ _ _ rfl rfl HR.out ?_)
  all_goals
    go_end0
    exact ⟨_, w1, rfl, rfl, HF.out, hup', HB.out⟩

theorem dAdd_any (b : Nat) (D : DiskM) (S : List Nat) (p : Nat × List UInt8) (w : World) (h : DiskAt w b D S) (hlen : D.parts.length ≤ 2199023255552) :
    Calls Tryz.prog 182 #[.pointer (some ⟨b, 2, none⟩), .agg #[.int .i64 (p.1 : Int), strV p.2]] w fun e w' => ∃ S', e = .returned (.tuple #[]) ∧ DiskAt w' b { D with parts := D.parts ++ [p] } S' ∧ Upd S S' w w' := by
  have h0 := h
  obtain ⟨vc, vs, vp, hb, hc, hy, hp, rfl, hn⟩ := h0
  have hn0 := hn
  rw [List.nodup_cons, List.nodup_append] at hn
  have hbp : b ∉ foot vp := fun e => hn.1 (by simp [e])
  refine (add_raw b vp D.parts p w (cell_of_row w b 2 _ _ _ hb) (frozen_of_row w b 2 _ _ hb) hbp hp hlen).mono ?_
  rintro e w' ⟨vp', w1, rfl, rfl, hrow, hup, hbb⟩
  have hl := h.lt
  have hnew : ∀ k, k ∈ foot vp' → k ∉ b :: (foot vc ++ foot vs) := by
    intro k hk hm
    rcases hup.new k hk with h1 | h1
    · rcases List.mem_cons.1 hm with rfl | hm
      · exact hn.1 (by simp [h1])
      · exact hn.2.2.2 k hm k h1 rfl
    · have : k < w.heap.size := hl k (by simp only [List.mem_cons, List.mem_append] at hm ⊢; rcases hm with h | h | h <;> simp [h])
      omega
  have hkeep : ∀ k, k ∈ foot vc ++ foot vs → (w1.setCell ⟨b, 2, none⟩ vp').heap[k]? = w.heap[k]? := by
    intro k hk
    have hkb : k ≠ b := fun e => hn.1 (by subst e; simp only [List.mem_append] at hk ⊢; exact .inl hk)
    rw [heap_setCell_other _ _ _ _ hkb]
    exact hup.block k (hl k (by simp only [List.mem_cons, List.mem_append] at hk ⊢; exact .inr (.inl hk))) (fun e => hn.2.2.2 k hk k e rfl)
  refine ⟨b :: (foot vc ++ foot vs ++ foot vp'), rfl, ⟨vc, vs, vp', ?_, ?_, ?_, ?_, rfl, ?_⟩, ?_⟩
  · rw [heap_setCell_same w1 b 2 _ _ vp' (hbb.trans hb)]; rfl
  · exact row_same hc (fun k hk => hkeep k (by simp [hk]))
  · exact row_same hy (fun k hk => hkeep k (by simp [hk]))
  · exact row_same hrow (fun k hk => heap_setCell_other _ _ _ _ (fun (e : k = b) => hnew k hk (by simp [e])))
  · rw [List.nodup_cons, List.nodup_append]
    refine ⟨?_, hn.2.1, ?_, ?_⟩
    · intro hm
      simp only [List.mem_append] at hm
      rcases hm with hm | hm
      · exact hn.1 (by simp only [List.mem_append]; exact .inl hm)
      · exact hnew b hm (by simp)
    · simp only [foot]; cases vp'.ownBlock <;> simp
    · intro x hx y hy e
      subst e
      exact hnew x hy (by simp only [List.mem_cons]; exact .inr hx)
  · refine Upd.setCell ?_ (by simp) _
    exact hup.mono (fun k hk => by simp [hk]) (fun k hk => by
      simp only [List.mem_cons, List.mem_append] at hk ⊢
      rcases hk with h | (h | h) | h
      · exact .inr (.inl h)
      · exact .inr (.inr (.inl (.inl h)))
      · exact .inr (.inr (.inl (.inr h)))
      · exact .inl h)

set_option maxHeartbeats 400000 in
theorem Size_any (b : Nat) (D : DiskM) (S : List Nat) (w : World) (h : DiskAt w b D S) :
    Calls Tryz.prog 53 #[.pointer (some ⟨b, 0, none⟩)] w fun e w' => e = .returned (.int .i64 (D.now.length : Int)) ∧ w = w' := by
  obtain ⟨vc, vs, vp, hb, hc, hy, hp, rfl, hn⟩ := h
  have h0 : w.cell? ⟨b, 0, none⟩ = some vc := cell_of_row w b 0 _ _ _ hb
  obtain ⟨ao, cap, rfl, hcap, hcm⟩ := row_slice hc
  clear hb hc hy hp hn hcm hcap
  generalize D.now.length = n at *
  go_enter Tryz.func53, Tryz.ntmps53
  go_wp2
  go_ret
  exact ⟨rfl, rfl⟩

set_option maxHeartbeats 400000 in
theorem Fail_any (b : Nat) (D : DiskM) (S : List Nat) (n : Int) (w : World) (h : DiskAt w b D S) :
    Calls Tryz.prog 11 #[.pointer (some ⟨b, 0, none⟩), .int .i64 n] w fun e w' => e = .returned (.tuple #[]) ∧ DiskAt w' b (D.fail n) S ∧ Upd S S w w' := by
  have h0 := h
  have hS := h.head
  obtain ⟨vc, vs, vp, hb, hc, hy, hp, hSe, hn⟩ := h0
  clear hSe
  have h4 : w.cell? ⟨b, 4, none⟩ = some (.bool D.failing) := cell_of_row w b 4 _ _ _ hb
  have h5 : w.cell? ⟨b, 5, none⟩ = some (.int .i64 (D.left : Int)) := cell_of_row w b 5 _ _ _ hb
  have f4 : w.frozen? ⟨b, 4, none⟩ = false := frozen_of_row w b 4 _ _ hb
  have f5 : w.frozen? ⟨b, 5, none⟩ = false := frozen_of_row w b 5 _ _ hb
  clear hb hc hy hp hn
  by_cases hn0 : 0 ≤ n
  · have hd1 := h.field { D with failing := true } 4 (.bool true) (fun _ _ _ => rfl) rfl rfl rfl
    have hd2 := hd1.field (D.fail n) 5 (.int .i64 n) (fun _ _ _ => by simp [DiskM.fail, hn0]; omega) rfl rfl rfl
    have hu2 := ((Upd.refl S w).setCell (p := ⟨b, 4, none⟩) hS (.bool true)).setCell (p := ⟨b, 5, none⟩) hS (.int .i64 n)
    have H2 := Lib.hid hd2
    have U2 := Lib.hid hu2
    clear hd1 hd2 hu2 h
    have hmax : ¬ n < 0 := by omega
    go_enter Tryz.func11, Tryz.ntmps11
    go_wp2
    all_goals
      go_end0
      exact ⟨rfl, H2.out, U2.out⟩
  · have hd1 := h.field { D with failing := false } 4 (.bool false) (fun _ _ _ => rfl) rfl rfl rfl
    have hd2 := hd1.field (D.fail n) 5 (.int .i64 0) (fun _ _ _ => by have : n.toNat = 0 := by omega
                                                                      simp [DiskM.fail, hn0, this]) rfl rfl rfl
    have hu2 := ((Upd.refl S w).setCell (p := ⟨b, 4, none⟩) hS (.bool false)).setCell (p := ⟨b, 5, none⟩) hS (.int .i64 0)
    have H2 := Lib.hid hd2
    have U2 := Lib.hid hu2
    clear hd1 hd2 hu2 h
    have hmax : n < 0 := by omega
    go_enter Tryz.func11, Tryz.ntmps11
    go_wp2
    all_goals
      go_end0
      exact ⟨rfl, H2.out, U2.out⟩

def dReadL (c : List UInt8) (off n : Int) : List UInt8 := if off < 0 ∨ (c.length : Int) ≤ off ∨ n < 1 then [] else (c.drop off.toNat).take n.toNat

set_option maxHeartbeats 400000 in
theorem Read_any (b : Nat) (D : DiskM) (S : List Nat) (off n : Int) (w : World) (h : DiskAt w b D S) (hl : D.now.length ≤ 1099511627776) :
    Calls Tryz.prog 55 #[.pointer (some ⟨b, 0, none⟩), .int .i64 off, .int .i64 n] w fun e w' => e = .returned (strV (dReadL D.now off n)) ∧ w = w' := by
  obtain ⟨vc, vs, vp, hb, hc, hy, hp, hSe, hn⟩ := h
  clear hSe
  have h0 : w.cell? ⟨b, 0, none⟩ = some vc := cell_of_row w b 0 _ _ _ hb
  clear hb hy hp hn
  generalize D.now = c at *
  by_cases hbad : off < 0 ∨ (c.length : Int) ≤ off ∨ n < 1
  · have hz : dReadL c off n = [] := if_pos hbad
    rw [hz]
    clear hz
    obtain ⟨ao, cap, rfl, hcap, hcm⟩ := row_slice hc
    clear hcap hcm hc
    generalize c.length = cl at *
    rcases hbad with hbad | hbad | hbad
    · go_enter Tryz.func55, Tryz.ntmps55
      go_wp2
      go_ret
      exact ⟨rfl, rfl⟩
    · by_cases h1 : off < 0
      all_goals
        go_enter Tryz.func55, Tryz.ntmps55
        go_wp2
        go_ret
        exact ⟨rfl, rfl⟩
    · by_cases h1 : off < 0
      · go_enter Tryz.func55, Tryz.ntmps55
        go_wp2
        go_ret
        exact ⟨rfl, rfl⟩
      · by_cases h2 : (cl : Int) ≤ off
        all_goals
          go_enter Tryz.func55, Tryz.ntmps55
          go_wp2
          go_ret
          exact ⟨rfl, rfl⟩
  · have hz : dReadL c off n = (c.drop off.toNat).take n.toNat := if_neg hbad
    rw [hz]
    clear hz
    have hb1 : 0 ≤ off := by omega
    have hb2 : off < c.length := by omega
    have hb3 : 1 ≤ n := by omega
    clear hbad
    obtain ⟨o, rfl⟩ := Int.eq_ofNat_of_zero_le hb1
    obtain ⟨m, rfl⟩ := Int.eq_ofNat_of_zero_le (show 0 ≤ n by omega)
    simp only [Int.toNat_natCast]
    obtain ⟨g, cap, cur, rfl, hg, hcap, hcm, hcs, htk⟩ := row_pos hc (by omega)
    have hcm : cap ≤ 9223372036854775807 := hcm
    rw [Nat.mul_one] at htk
    have hcv := conv_bytes (P := Tryz.prog) w 86 9 5 Tryz.underlying86 Tryz.underlying5 Tryz.underlying9 g cur _ _ hg c htk
    have HC := Lib.hid hcv
    clear hcv htk hcs hg hc
    by_cases hmn : m ≤ c.length - o
    · go_enter Tryz.func55, Tryz.ntmps55
      go_wp2
      rw [HC.out o _ _ (by omega)]
      go_wp2
      go_ret
      exact ⟨by congr 4, rfl⟩
    · have hz : (c.drop o).take m = (c.drop o).take (c.length - o) := by rw [List.take_of_length_le (by simp; omega), List.take_of_length_le (by simp)]
      rw [hz]
      clear hz
      go_enter Tryz.func55, Tryz.ntmps55
      go_wp2
      rw [HC.out o _ _ (by omega)]
      go_wp2
      go_ret
      exact ⟨by congr 4, rfl⟩
end Go.Proofs.YtinpenoeohejoaaGreatDoor

namespace Go.Proofs.YtinpenoeohejoaaGreatDoor
open Go.RowKit
set_option maxRecDepth 100000

theorem foot_nodup (v : Value) : (foot v).Nodup := by simp only [foot]; cases v.ownBlock <;> simp

theorem sep4 (b : Nat) (A B C : List Nat) : (b :: (A ++ B ++ C)).Nodup ↔ (b ∉ A ∧ b ∉ B ∧ b ∉ C) ∧ (A.Nodup ∧ B.Nodup ∧ C.Nodup) ∧ (∀ k, k ∈ A → k ∉ B) ∧ (∀ k, k ∈ A → k ∉ C) ∧ (∀ k, k ∈ B → k ∉ C) := by
  simp only [List.nodup_cons, List.nodup_append, List.mem_append, not_or, ne_eq]
  constructor
  · rintro ⟨⟨⟨h1, h2⟩, h3⟩, ⟨h4, h5, h6⟩, h7, h8⟩
    exact ⟨⟨h1, h2, h3⟩, ⟨h4, h5, h7⟩, fun k a c => h6 k a k c rfl, fun k a c => h8 k (.inl a) k c rfl, fun k a c => h8 k (.inr a) k c rfl⟩
  · rintro ⟨⟨h1, h2, h3⟩, ⟨h4, h5, h7⟩, h6, h8, h9⟩
    exact ⟨⟨⟨h1, h2⟩, h3⟩, ⟨h4, h5, fun k a j c e => h6 k a (e ▸ c)⟩, h7, fun k a j c e => by rcases a with a | a; exact h8 k a (e ▸ c); exact h9 k a (e ▸ c)⟩

theorem DiskAt.setNow {w w1 : World} {b : Nat} {D : DiskM} {vc vs vp vc' : Value} {c : List UInt8}
    (hb : w.heap[b]? = some (.cells #[vc, vs, vp, .int .i64 (D.calls : Int), .bool D.failing, .int .i64 (D.left : Int)] 91 (0, 0)))
    (_hc : w.ownsRow 0 5 1 vc D.now.length (byteVals D.now)) (hy : w.ownsRow 0 5 1 vs D.synced.length (byteVals D.synced)) (hp : w.ownsRow 0 107 2 vp D.parts.length (partVals D.parts))
    (hn : (b :: (foot vc ++ foot vs ++ foot vp)).Nodup) (hrow : w1.ownsRow 0 5 1 vc' c.length (byteVals c)) (hup : Upd (foot vc) (foot vc') w w1) :
    DiskAt (w1.setCell ⟨b, 0, none⟩ vc') b { D with now := c } (b :: (foot vc' ++ foot vs ++ foot vp)) ∧ Upd (b :: (foot vc ++ foot vs ++ foot vp)) (b :: (foot vc' ++ foot vs ++ foot vp)) w (w1.setCell ⟨b, 0, none⟩ vc') := by
  rw [sep4] at hn
  obtain ⟨⟨n1, n2, n3⟩, ⟨n4, n5, n6⟩, n7, n8, n9⟩ := hn
  have hbl := blk_lt hb
  have hyl := row_foot_lt hy
  have hpl := row_foot_lt hp
  have fresh : ∀ k, k < w.heap.size → k ∉ foot vc → k ∉ foot vc' := fun k h1 h2 h3 => by rcases hup.new k h3 with h | h; exact h2 h; omega
  have keep : ∀ k, k < w.heap.size → k ∉ foot vc → k ≠ b → (w1.setCell ⟨b, 0, none⟩ vc').heap[k]? = w.heap[k]? := fun k h1 h2 h3 => by rw [heap_setCell_other _ _ _ _ h3]; exact hup.block k h1 h2
  refine ⟨⟨vc', vs, vp, ?_, ?_, ?_, ?_, rfl, ?_⟩, ?_⟩
  · rw [heap_setCell_same w1 b 0 _ _ vc' ((hup.block b hbl n1).trans hb)]; rfl
  · exact row_same hrow (fun k hk => heap_setCell_other _ _ _ _ (fun (e : k = b) => fresh b hbl n1 (e ▸ hk)))
  · exact row_same hy (fun k hk => keep k (hyl k hk) (fun h => n7 k h hk) (fun e => n2 (e ▸ hk)))
  · exact row_same hp (fun k hk => keep k (hpl k hk) (fun h => n8 k h hk) (fun e => n3 (e ▸ hk)))
  · rw [sep4]
    exact ⟨⟨fresh b hbl n1, n2, n3⟩, ⟨foot_nodup _, n5, n6⟩, fun k h1 h2 => fresh k (hyl k h2) (fun h => n7 k h h2) h1, fun k h1 h2 => fresh k (hpl k h2) (fun h => n8 k h h2) h1, n9⟩
  · refine Upd.setCell ?_ (by simp) _
    refine hup.mono (fun k hk => by simp [hk]) (fun k hk => ?_)
    simp only [List.mem_cons, List.mem_append] at hk ⊢
    rcases hk with h | (h | h) | h
    · exact .inr (.inl h)
    · exact .inl h
    · exact .inr (.inr (.inl (.inr h)))
    · exact .inr (.inr (.inr h))

theorem DiskAt.setSynced {w w1 : World} {b : Nat} {D : DiskM} {vc vs vp vs' : Value} {c : List UInt8}
    (hb : w.heap[b]? = some (.cells #[vc, vs, vp, .int .i64 (D.calls : Int), .bool D.failing, .int .i64 (D.left : Int)] 91 (0, 0)))
    (hc : w.ownsRow 0 5 1 vc D.now.length (byteVals D.now)) (_hy : w.ownsRow 0 5 1 vs D.synced.length (byteVals D.synced)) (hp : w.ownsRow 0 107 2 vp D.parts.length (partVals D.parts))
    (hn : (b :: (foot vc ++ foot vs ++ foot vp)).Nodup) (hrow : w1.ownsRow 0 5 1 vs' c.length (byteVals c)) (hup : Upd (foot vs) (foot vs') w w1) :
    DiskAt (w1.setCell ⟨b, 1, none⟩ vs') b { D with synced := c } (b :: (foot vc ++ foot vs' ++ foot vp)) ∧ Upd (b :: (foot vc ++ foot vs ++ foot vp)) (b :: (foot vc ++ foot vs' ++ foot vp)) w (w1.setCell ⟨b, 1, none⟩ vs') := by
  rw [sep4] at hn
  obtain ⟨⟨n1, n2, n3⟩, ⟨n4, n5, n6⟩, n7, n8, n9⟩ := hn
  have hbl := blk_lt hb
  have hcl := row_foot_lt hc
  have hpl := row_foot_lt hp
  have fresh : ∀ k, k < w.heap.size → k ∉ foot vs → k ∉ foot vs' := fun k h1 h2 h3 => by rcases hup.new k h3 with h | h; exact h2 h; omega
  have keep : ∀ k, k < w.heap.size → k ∉ foot vs → k ≠ b → (w1.setCell ⟨b, 1, none⟩ vs').heap[k]? = w.heap[k]? := fun k h1 h2 h3 => by rw [heap_setCell_other _ _ _ _ h3]; exact hup.block k h1 h2
  refine ⟨⟨vc, vs', vp, ?_, ?_, ?_, ?_, rfl, ?_⟩, ?_⟩
  · rw [heap_setCell_same w1 b 1 _ _ vs' ((hup.block b hbl n2).trans hb)]; rfl
  · exact row_same hc (fun k hk => keep k (hcl k hk) (fun h => n7 k hk h) (fun e => n1 (e ▸ hk)))
  · exact row_same hrow (fun k hk => heap_setCell_other _ _ _ _ (fun (e : k = b) => fresh b hbl n2 (e ▸ hk)))
  · exact row_same hp (fun k hk => keep k (hpl k hk) (fun h => n9 k h hk) (fun e => n3 (e ▸ hk)))
  · rw [sep4]
    exact ⟨⟨n1, fresh b hbl n2, n3⟩, ⟨n4, foot_nodup _, n6⟩, fun k h1 h2 => fresh k (hcl k h1) (fun h => n7 k h1 h) h2, n8, fun k h1 h2 => fresh k (hpl k h2) (fun h => n9 k h h2) h1⟩
  · refine Upd.setCell ?_ (by simp) _
    refine hup.mono (fun k hk => by simp [hk]) (fun k hk => ?_)
    simp only [List.mem_cons, List.mem_append] at hk ⊢
    rcases hk with h | (h | h) | h
    · exact .inr (.inl h)
    · exact .inr (.inr (.inl (.inl h)))
    · exact .inl h
    · exact .inr (.inr (.inr h))

set_option maxHeartbeats 400000 in
theorem Write_off (b : Nat) (D : DiskM) (S : List Nat) (off : Int) (s : ByteArray) (w : World) (h : DiskAt w b D S) (hoff : D.off = true) (ho : 0 ≤ off) (ho2 : off ≤ 16777216 - (s.size : Int)) :
    Calls Tryz.prog 140 #[.pointer (some ⟨b, 0, none⟩), .int .i64 off, .string s] w fun e w' => e = .returned (.int .i64 70) ∧ w = w' := by
  have hi := isOff_any b D S w h
  rw [hoff] at hi
  have HI := Lib.hid hi
  clear hi hoff
  go_enter Tryz.func140, Tryz.ntmps140
  go_wp2_with fail
  refine HI.out.mono ?_
  rintro e w' ⟨rfl, rfl⟩
  go_wp2_with fail
  go_ret
  exact ⟨rfl, rfl⟩

def lenOf : Value → Nat | .string s => s.size | _ => 0

theorem dBs_extract (s : ByteArray) (a b : Nat) : bs (s.extract a b) = ((bs s).drop a).take (b - a) := by
  have e : s = ⟨(bs s).toArray⟩ := rfl
  conv => lhs; rw [e, ByteArray.extract_mk]
  rfl

theorem parts_round (o : Nat) (t : ByteArray) (m : Nat) (h : 0 < t.size) (hm : m = min t.size (64 - o % 64)) :
    partsL o (bs t) = (o, bs (t.extract 0 m)) :: partsL (o + m) (bs (t.extract m t.size)) := by
  have h0 : bs t ≠ [] := fun e => by have := congrArg List.length e; rw [bs_length] at this; have e0 : ([] : List UInt8).length = 0 := rfl; omega
  rw [partsL_step o (bs t) h0, bs_length, ← hm, dBs_extract, dBs_extract]
  congr 2
  rw [List.take_of_length_le (by rw [List.length_drop, bs_length]; exact Nat.le_refl _)]

theorem add_str (b : Nat) (D : DiskM) (S : List Nat) (o : Nat) (s : ByteArray) (w : World) (h : DiskAt w b D S) (hlen : D.parts.length ≤ 2199023255552) :
    Calls Tryz.prog 182 #[.pointer (some ⟨b, 2, none⟩), .agg #[.int .i64 (o : Int), .string s]] w fun e w' => ∃ S', e = .returned (.tuple #[]) ∧ DiskAt w' b { D with parts := D.parts ++ [(o, bs s)] } S' ∧ Upd S S' w w' :=
  dAdd_any b D S (o, bs s) w h hlen

set_option maxHeartbeats 800000 in
theorem Write_ok (b : Nat) (D : DiskM) (S : List Nat) (off : Nat) (s : ByteArray) (w : World) (h : DiskAt w b D S) (hok : D.ok) (hcl : D.calls < 65536) (hoff : D.off = false) (ho2 : off + s.size ≤ 16777216) :
    Calls Tryz.prog 140 #[.pointer (some ⟨b, 0, none⟩), .int .i64 (off : Int), .string s] w fun e w' => ∃ S', e = .returned (.int .i64 0) ∧ DiskAt w' b (D.wrote off (bs s)).count S' ∧ Upd S S' w w' := by
  have hi := isOff_any b D S w h
  rw [hoff] at hi
  have HI := Lib.hid hi
  have HO := Lib.hid hoff
  clear hi hoff
  obtain ⟨vc, vs, vp, hb, hc, hy, hp, hS, hn⟩ := h
  rw [hS] at hn
  have HS := Lib.hid hS
  clear hS
  have c0 : w.cell? ⟨b, 0, none⟩ = some vc := cell_of_row w b 0 _ _ _ hb
  have HB := Lib.hid hb
  clear hb
  have e1 : decide ((off : Int) < 0) = false := by simp
  have e2 : decide (16777216 - (s.size : Int) < (off : Int)) = false := by simp; omega
  go_enter Tryz.func140, Tryz.ntmps140
  go_wp2_with fail
  refine HI.out.mono ?_
  rintro e w' ⟨rfl, rfl⟩
  go_wp2_with fail
  refine (put_any vc D.now off s w hc (by omega) (by have := hok.now; omega)).mono ?_
  rintro e w1 ⟨vc', rfl, hrow, hup⟩
  have hh := DiskAt.setNow HB.out hc hy hp hn hrow hup
  obtain ⟨hd, hu⟩ := hh
  rw [← HS.out] at hu
  have hbb : w1.heap[b]? = w.heap[b]? := hup.block b (blk_lt HB.out) (fun e => (List.nodup_cons.1 hn).1 (by simp [e]))
  have d0 : w1.cell? ⟨b, 0, none⟩ = some vc := (World.cell?_of_block (a := ⟨b, 0, none⟩) hbb).trans c0
  have d1 : w1.frozen? ⟨b, 0, none⟩ = false := (World.frozen?_of_block (a := ⟨b, 0, none⟩) hbb).trans (frozen_of_row w b 0 _ _ HB.out)
  obtain ⟨ao, cap, rfl, _, _⟩ := row_slice hrow
  have HD := Lib.hid hd
  have HU := Lib.hid hu
  clear hd hu hbb hrow hup hc hy hp hn
  clear e1 e2
  go_wp2_with fail
  generalize w1.setCell ⟨b, 0, none⟩ (.slice ao (putL D.now off (bs s)).length cap) = w2 at *
  generalize (b :: (foot (.slice ao (putL D.now off (bs s)).length cap) ++ foot vs ++ foot vp)) = S2 at *
  clear d0 d1 c0
  go_loopw [1, 2] (fun o t wr => ∃ (o' : Nat) (t' : ByteArray) (ps : List (Nat × List UInt8)) (S' : List Nat), o = .int .i64 (o' : Int) ∧ t = .string t' ∧ Hid (partsL off (bs s) = ps ++ partsL o' (bs t')) ∧
      DiskAt wr b { D with now := putL D.now off (bs s), parts := D.parts ++ ps } S' ∧ Upd S S' w wr ∧ o' + t'.size ≤ 16777216 ∧ ps.length + t'.size ≤ 16777216) (fun _ t _ => lenOf t)
  case atStart =>
    refine ⟨off, s, [], S2, rfl, rfl, rfl, ?_, HU.out, ho2, by simp; omega⟩
    simpa using HD.out
  case round =>
    obtain ⟨o', t', ps, S', rfl, rfl, HP, hd, hu, hb1, hb2⟩ := hrel
    by_cases h0 : 0 < t'.size
    · have hps : D.parts.length + ps.length ≤ 1099511627776 + 16777216 := by have := hok.many; omega
      by_cases hm : t'.size ≤ 64 - o' % 64
      · have hx := parts_round o' t' t'.size h0 (by omega)
        have ex : t'.extract 0 t'.size = t' := ByteArray.extract_zero_size
        rw [ex] at hx
        have HX := Lib.hid hx
        clear hx ex
        go_wp2_with fail
        have HC := Lib.hid (add_str b _ S' o' t' wr.drew hd.drew (by simp; omega))
        go_region_with (go_at_call 182; ((with_reducible refine HC.out.mono ?_); rintro e w3 ⟨S3, rfl, hd3, hu3⟩))
        all_goals
          go_wp2_with fail
          have hX := HX.out
          have hP := HP.out
          rw [hX] at hP
          go_roundw
          case rel =>
            refine ⟨o' + t'.size, _, ps ++ [(o', bs t')], S3, by go_num, rfl, ?_, ?_, hu.trans (Upd.trans ((Upd.refl _ _).drew) hu3), ?_, ?_⟩
            · show partsL off (bs s) = _
              rw [hP]; simp
            · simpa using hd3
            · simp; omega
            · simp; omega
          case measure => simp [lenOf]; omega
      · have hx := parts_round o' t' (64 - o' % 64) h0 (by omega)
        have HX := Lib.hid hx
        clear hx
        obtain ⟨m, hm2⟩ : ∃ m : Nat, m = 64 - o' % 64 := ⟨_, rfl⟩
        have hm3 : 1 ≤ m := by omega
        have hm4 : m < t'.size := by omega
        have HM := Lib.hid hm2
        clear hm2
        go_wp2_with fail
        rw [show (64 : Int) - (o' : Int) % 64 = ((m : Nat) : Int) from by have := HM.out; omega]
        rw [← HM.out] at HX
        clear hm
        have HC := Lib.hid (add_str b _ S' o' (t'.extract 0 m) wr.drew hd.drew (by simp; omega))
        go_region_with (go_at_call 182; ((with_reducible refine HC.out.mono ?_); rintro e w3 ⟨S3, rfl, hd3, hu3⟩))
        all_goals
          go_wp2_with fail
          have hX := HX.out
          have hP := HP.out
          rw [hX] at hP
          go_roundw
          case rel =>
            refine ⟨o' + m, _, ps ++ [(o', bs (t'.extract 0 m))], S3, by go_num, rfl, ?_, ?_, hu.trans (Upd.trans ((Upd.refl _ _).drew) hu3), ?_, ?_⟩
            · show partsL off (bs s) = _
              rw [hP]; simp
            · simpa using hd3
            · simp; omega
            · simp; omega
          case measure => simp [lenOf]; omega
    · have ht : bs t' = [] := List.eq_nil_of_length_eq_zero (by rw [bs_length]; omega)
      have hP := HP.out
      rw [ht, partsL_nil, List.append_nil] at hP
      rw [← hP] at hd
      have HD2 : Hid (DiskAt wr b (D.wrote off (bs s)) S') := hd
      clear hd hP
      go_wp2_with fail
      refine (count_any b _ S' _ HD2.out (by show D.calls ≤ _; omega) (by exact hok.left) (by exact HO.out)).mono ?_
      rintro e w3 ⟨rfl, hd3, hu3⟩
      go_wp2_with fail
      go_ret
      exact ⟨S', rfl, hd3, hu.trans hu3⟩
end Go.Proofs.YtinpenoeohejoaaGreatDoor

namespace Go.Proofs.YtinpenoeohejoaaGreatDoor
open Go.RowKit
set_option maxRecDepth 100000

def DiskIs (w : World) (b : Nat) (D : DiskM) (vc vs vp : Value) : Prop :=
  w.heap[b]? = some (.cells #[vc, vs, vp, .int .i64 (D.calls : Int), .bool D.failing, .int .i64 (D.left : Int)] 91 (0, 0)) ∧
    w.ownsRow 0 5 1 vc D.now.length (byteVals D.now) ∧ w.ownsRow 0 5 1 vs D.synced.length (byteVals D.synced) ∧ w.ownsRow 0 107 2 vp D.parts.length (partVals D.parts) ∧
    (b :: (foot vc ++ foot vs ++ foot vp)).Nodup
theorem DiskIs.at {w : World} {b : Nat} {D : DiskM} {vc vs vp : Value} (h : DiskIs w b D vc vs vp) : DiskAt w b D (b :: (foot vc ++ foot vs ++ foot vp)) := by
  obtain ⟨hb, hc, hy, hp, hn⟩ := h; exact ⟨vc, vs, vp, hb, hc, hy, hp, rfl, hn⟩
theorem DiskAt.is {w : World} {b : Nat} {D : DiskM} {S : List Nat} (h : DiskAt w b D S) : ∃ vc vs vp, DiskIs w b D vc vs vp ∧ S = b :: (foot vc ++ foot vs ++ foot vp) := by
  obtain ⟨vc, vs, vp, hb, hc, hy, hp, rfl, hn⟩ := h; exact ⟨vc, vs, vp, ⟨hb, hc, hy, hp, hn⟩, rfl⟩
theorem DiskIs.same {w w' : World} {b : Nat} {D : DiskM} {vc vs vp : Value} (h : DiskIs w b D vc vs vp) (hs : ∀ k, k < w.heap.size → w'.heap[k]? = w.heap[k]?) : DiskIs w' b D vc vs vp := by
  obtain ⟨hb, hc, hy, hp, hn⟩ := h
  exact ⟨(hs b (blk_lt hb)).trans hb, row_same hc (fun k hk => hs k (row_foot_lt hc k hk)), row_same hy (fun k hk => hs k (row_foot_lt hy k hk)), row_same hp (fun k hk => hs k (row_foot_lt hp k hk)), hn⟩
theorem DiskIs.alloc {w : World} {b : Nat} {D : DiskM} {vc vs vp : Value} (h : DiskIs w b D vc vs vp) (o : Obj) : DiskIs (w.alloc o) b D vc vs vp := h.same fun _ hk => Below.heap_alloc _ _ _ hk
theorem DiskIs.drew {w : World} {b : Nat} {D : DiskM} {vc vs vp : Value} (h : DiskIs w b D vc vs vp) : DiskIs w.drew b D vc vs vp := h.same fun _ _ => rfl
theorem DiskIs.setSynced {w w1 : World} {b : Nat} {D : DiskM} {vc vs vp vs' : Value} {c : List UInt8} (h : DiskIs w b D vc vs vp) (hrow : w1.ownsRow 0 5 1 vs' c.length (byteVals c)) (hup : Upd (foot vs) (foot vs') w w1) :
    DiskIs (w1.setCell ⟨b, 1, none⟩ vs') b { D with synced := c } vc vs' vp ∧ Upd (b :: (foot vc ++ foot vs ++ foot vp)) (b :: (foot vc ++ foot vs' ++ foot vp)) w (w1.setCell ⟨b, 1, none⟩ vs') := by
  obtain ⟨hb, hc, hy, hp, hn⟩ := h
  rw [sep4] at hn
  obtain ⟨⟨n1, n2, n3⟩, ⟨n4, n5, n6⟩, n7, n8, n9⟩ := hn
  have hbl := blk_lt hb
  have hcl := row_foot_lt hc
  have hpl := row_foot_lt hp
  have fresh : ∀ k, k < w.heap.size → k ∉ foot vs → k ∉ foot vs' := fun k h1 h2 h3 => by rcases hup.new k h3 with h | h; exact h2 h; omega
  have keep : ∀ k, k < w.heap.size → k ∉ foot vs → k ≠ b → (w1.setCell ⟨b, 1, none⟩ vs').heap[k]? = w.heap[k]? := fun k h1 h2 h3 => by rw [heap_setCell_other _ _ _ _ h3]; exact hup.block k h1 h2
  refine ⟨⟨?_, ?_, ?_, ?_, ?_⟩, ?_⟩
  · rw [heap_setCell_same w1 b 1 _ _ vs' ((hup.block b hbl n2).trans hb)]; rfl
  · exact row_same hc (fun k hk => keep k (hcl k hk) (fun h => n7 k hk h) (fun e => n1 (e ▸ hk)))
  · exact row_same hrow (fun k hk => heap_setCell_other _ _ _ _ (fun (e : k = b) => fresh b hbl n2 (e ▸ hk)))
  · exact row_same hp (fun k hk => keep k (hpl k hk) (fun h => n9 k h hk) (fun e => n3 (e ▸ hk)))
  · rw [sep4]
    exact ⟨⟨n1, fresh b hbl n2, n3⟩, ⟨n4, foot_nodup _, n6⟩, fun k h1 h2 => fresh k (hcl k h1) (fun h => n7 k h1 h) h2, n8, fun k h1 h2 => fresh k (hpl k h2) (fun h => n9 k h h2) h1⟩
  · refine Upd.setCell ?_ (by simp) _
    refine hup.mono (fun k hk => by simp [hk]) (fun k hk => ?_)
    simp only [List.mem_cons, List.mem_append] at hk ⊢
    rcases hk with h | (h | h) | h
    · exact .inr (.inl h)
    · exact .inr (.inr (.inl (.inl h)))
    · exact .inl h
    · exact .inr (.inr (.inr h))

theorem partVals_at : ∀ (ps : List (Nat × List UInt8)) (k : Nat) (p : Nat × List UInt8), ps[k]? = some p → (partVals ps)[k * 2]? = some (.int .i64 (p.1 : Int)) ∧ (partVals ps)[k * 2 + 1]? = some (strV p.2)
  | [], k, p, h => by simp at h
  | q :: ps, 0, p, h => by simp at h; subst h; simp [partVals, partV]
  | q :: ps, k + 1, p, h => by
    have ih := partVals_at ps k p (by simpa using h)
    have e1 : (partVals (q :: ps)) = [.int .i64 (q.1 : Int), strV q.2] ++ partVals ps := by simp [partVals, partV]
    rw [e1, List.getElem?_append_right (by simp; omega), List.getElem?_append_right (by simp; omega)]
    simp only [List.length_cons, List.length_nil]
    rw [show (k + 1) * 2 - (0 + 1 + 1) = k * 2 by omega, show (k + 1) * 2 + 1 - (0 + 1 + 1) = k * 2 + 1 by omega]
    exact ih
theorem part_cells {w : World} {g : Nat} {cur : Array Value} {t : TypeId} {fr : Nat × Nat} {ps : List (Nat × List UInt8)} (hg : w.heap[g]? = some (.cells cur t fr)) (htk : cur.toList.take (ps.length * 2) = partVals ps) (k : Nat) (p : Nat × List UInt8) (hp : ps[k]? = some p) :
    w.cell? ⟨g, k * 2, none⟩ = some (.int .i64 (p.1 : Int)) ∧ w.cell? ⟨g, k * 2 + 1, none⟩ = some (.string ⟨p.2.toArray⟩) := by
  have hk : k < ps.length := (List.getElem?_eq_some_iff.1 hp).1
  obtain ⟨h1, h2⟩ := partVals_at ps k p hp
  rw [← htk, List.getElem?_take, if_pos (by omega)] at h1 h2
  exact ⟨by rw [cell_of_row w g _ cur t fr hg, ← Array.getElem?_toList]; exact h1, by rw [cell_of_row w g _ cur t fr hg, ← Array.getElem?_toList]; exact h2⟩

theorem put_synced {w : World} {b : Nat} {D : DiskM} {vc vs vp : Value} (h : DiskIs w b D vc vs vp) (off : Nat) (s : ByteArray) (hb : off + s.size ≤ 1099511627776) (hc : D.synced.length ≤ 1099511627776) :
    Calls Tryz.prog 36 #[vs, .int .i64 (off : Int), .string s] w fun e w' => ∃ ao n cap, e = .returned (.slice ao n cap) ∧ w'.cell? ⟨b, 1, none⟩ = some vs ∧ w'.frozen? ⟨b, 1, none⟩ = false ∧
      DiskIs (w'.setCell ⟨b, 1, none⟩ (.slice ao n cap)) b { D with synced := putL D.synced off (bs s) } vc (.slice ao n cap) vp ∧ Upd (b :: (foot vc ++ foot vs ++ foot vp)) (b :: (foot vc ++ foot (.slice ao n cap) ++ foot vp)) w (w'.setCell ⟨b, 1, none⟩ (.slice ao n cap)) := by
  refine (put_any vs D.synced off s w h.2.2.1 hb hc).mono ?_
  rintro e w' ⟨v', rfl, hrow, hup⟩
  obtain ⟨ao, cap, rfl, _, _⟩ := row_slice hrow
  have hbb : w'.heap[b]? = w.heap[b]? := hup.block b (blk_lt h.1) (fun e => (List.nodup_cons.1 h.2.2.2.2).1 (by simp [e]))
  obtain ⟨h1, h2⟩ := h.setSynced hrow hup
  exact ⟨ao, _, cap, rfl, (World.cell?_of_block (a := ⟨b, 1, none⟩) hbb).trans (cell_of_row w b 1 _ _ _ h.1), (World.frozen?_of_block (a := ⟨b, 1, none⟩) hbb).trans (frozen_of_row w b 1 _ _ h.1), h1, h2⟩

theorem DiskIs.clearParts {w : World} {b : Nat} {D : DiskM} {vc vs vp : Value} (h : DiskIs w b D vc vs vp) :
    DiskIs (w.setCell ⟨b, 2, none⟩ (.slice none 0 0)) b { D with parts := [] } vc vs (.slice none 0 0) ∧ Upd (b :: (foot vc ++ foot vs ++ foot vp)) (b :: (foot vc ++ foot vs ++ foot (.slice none 0 0))) w (w.setCell ⟨b, 2, none⟩ (.slice none 0 0)) := by
  obtain ⟨hb, hc, hy, hp, hn⟩ := h
  rw [sep4] at hn
  obtain ⟨⟨n1, n2, n3⟩, ⟨n4, n5, n6⟩, n7, n8, n9⟩ := hn
  refine ⟨⟨?_, ?_, ?_, World.ownsRow_nil _ _ _ _, ?_⟩, ?_⟩
  · rw [heap_setCell_same w b 2 _ _ _ hb]; rfl
  · exact row_same hc (fun k hk => heap_setCell_other _ _ _ _ (fun (e : k = b) => n1 (e ▸ hk)))
  · exact row_same hy (fun k hk => heap_setCell_other _ _ _ _ (fun (e : k = b) => n2 (e ▸ hk)))
  · rw [sep4]
    exact ⟨⟨n1, n2, by simp [foot, Value.ownBlock]⟩, ⟨n4, n5, foot_nodup _⟩, n7, by simp [foot, Value.ownBlock], by simp [foot, Value.ownBlock]⟩
  · refine Upd.setCell ?_ (by simp) _
    refine (Upd.refl (b :: (foot vc ++ foot vs ++ foot vp)) w).mono (fun k hk => hk) (fun k hk => .inr ?_)
    simp only [List.mem_cons, List.mem_append] at hk ⊢
    rcases hk with h | h | h
    · exact .inl h
    · exact .inr (.inl h)
    · simp [foot, Value.ownBlock] at h

set_option maxHeartbeats 400000 in
theorem Sync_off (b : Nat) (D : DiskM) (S : List Nat) (w : World) (h : DiskAt w b D S) (hoff : D.off = true) :
    Calls Tryz.prog 52 #[.pointer (some ⟨b, 0, none⟩)] w fun e w' => e = .returned (.int .i64 70) ∧ w = w' := by
  have hi := isOff_any b D S w h
  rw [hoff] at hi
  have HI := Lib.hid hi
  clear hi hoff
  go_enter Tryz.func52, Tryz.ntmps52
  go_wp2_with fail
  refine HI.out.mono ?_
  rintro e w' ⟨rfl, rfl⟩
  go_wp2_with fail
  go_ret
  exact ⟨rfl, rfl⟩

set_option maxHeartbeats 800000 in
theorem Sync_ok (b : Nat) (D : DiskM) (S : List Nat) (w : World) (h : DiskAt w b D S) (hok : D.ok) (hcl : D.calls < 65536) (hoff : D.off = false) :
    Calls Tryz.prog 52 #[.pointer (some ⟨b, 0, none⟩)] w fun e w' => ∃ S', e = .returned (.int .i64 0) ∧ DiskAt w' b D.synced1.count S' ∧ Upd S S' w w' := by
  have hi := isOff_any b D S w h
  rw [hoff] at hi
  have HI := Lib.hid hi
  have HO := Lib.hid hoff
  clear hi hoff
  obtain ⟨vc, vs, vp, hd, hS⟩ := h.is
  have HS := Lib.hid hS
  clear hS
  have c2 : w.cell? ⟨b, 2, none⟩ = some vp := cell_of_row w b 2 _ _ _ hd.1
  obtain ⟨ao, cap, rfl, hcap, hcm⟩ := row_slice hd.2.2.2.1
  have hlen : D.parts.length ≤ 1099511627776 := by have := hok.many; omega
  go_enter Tryz.func52, Tryz.ntmps52
  go_wp2_with fail
  refine HI.out.mono ?_
  rintro e w' ⟨rfl, rfl⟩
  go_wp2_with fail
  clear c2
  go_loopw [15] (fun i wr => ∃ (k : Nat) (vs' : Value), i = .int .i64 (k : Int) ∧ k ≤ D.parts.length ∧ DiskIs wr b { D with synced := putParts D.synced (D.parts.take k) } vc vs' (.slice ao D.parts.length cap) ∧
      Upd S (b :: (foot vc ++ foot vs' ++ foot (.slice ao D.parts.length cap))) w wr) (fun i _ => D.parts.length - (intOf i).toNat)
  case atStart =>
    refine ⟨0, vs, rfl, Nat.zero_le _, ?_, ?_⟩
    · simpa [putParts] using hd
    · rw [HS.out]; exact Upd.refl _ _
  case round =>
    obtain ⟨k, vs', rfl, hk, hd', hu'⟩ := hrel
    by_cases hlt : k < D.parts.length
    · obtain ⟨g, cap', cur, hv, hg, _, _, hcs, htk⟩ := row_pos hd'.2.2.2.1 (by show 0 < D.parts.length; omega)
      simp only [Value.slice.injEq] at hv
      obtain ⟨rfl, _, rfl⟩ := hv
      obtain ⟨p, hp⟩ : ∃ p, D.parts[k]? = some p := ⟨_, List.getElem?_eq_getElem hlt⟩
      obtain ⟨q1, q2⟩ := part_cells hg htk k p hp
      have c1 : wr.cell? ⟨b, 1, none⟩ = some vs' := cell_of_row wr b 1 _ _ _ hd'.1
      have hpb : p.1 + p.2.length ≤ 16777216 := hok.parts p (List.mem_of_getElem? hp)
      have htake : D.parts.take (k + 1) = D.parts.take k ++ [p] := by rw [List.take_add_one, hp]; rfl
      have HT := Lib.hid htake
      have hbl := blk_lt hd'.1
      clear hp htake hg hcs htk
      obtain ⟨p1, p2⟩ := p
      simp only at q1 q2 hpb
      obtain ⟨sp, hsp⟩ : ∃ sp : ByteArray, sp = ⟨p2.toArray⟩ := ⟨_, rfl⟩
      rw [← hsp] at q2
      have HSP := Lib.hid hsp
      clear hsp
      go_wp2_with fail
      have hdW := (hd'.alloc (.cells #[.int .i64 (p1 : Int), .string sp] 107)).drew
      have HC := Lib.hid (put_synced hdW p1 sp (by rw [HSP.out]; show p1 + p2.length ≤ _; omega) (by
        have := putParts_le 16777216 (D.parts.take k) D.synced hok.synced (fun q hq => hok.parts q (List.mem_of_mem_take hq)); show (putParts D.synced (D.parts.take k)).length ≤ _; omega))
      go_region_with (go_at_call 36; ((with_reducible refine HC.out.mono ?_); rintro e w3 ⟨ao3, n3, cap3, rfl, d0, d1, hd3, hu3⟩))
      all_goals
        have HD3 := Lib.hid hd3
        have HU3 := Lib.hid hu3
        clear hd3 hu3 d0 d1
        go_wp2_with fail
        go_roundw
        case rel =>
          refine ⟨k + 1, _, by go_num, by omega, ?_, hu'.trans (Upd.trans ((Upd.refl _ _).alloc _).drew HU3.out)⟩
          have hx := HD3.out
          rw [HSP.out] at hx
          rw [HT.out, putParts_snoc]
          exact hx
        case measure => simp [intOf]; omega
    · obtain ⟨rfl⟩ : k = D.parts.length := by omega
      rw [List.take_length] at hd'
      have c0 : wr.cell? ⟨b, 0, none⟩ = some vc := cell_of_row wr b 0 _ _ _ hd'.1
      have c1 : wr.cell? ⟨b, 1, none⟩ = some vs' := cell_of_row wr b 1 _ _ _ hd'.1
      obtain ⟨aoc, capc, rfl, _, _⟩ := row_slice hd'.2.1
      have hnl : D.now.length ≤ 1099511627776 := by have := hok.now; omega
      have HC := Lib.hid (put_synced hd'.drew D.now.length ⟨#[]⟩ (by show D.now.length + 0 ≤ _; omega) (by
        have := putParts_le 16777216 D.parts D.synced hok.synced hok.parts; show (putParts D.synced D.parts).length ≤ _; omega))
      go_wp2_with fail
      go_region_with (go_at_call 36; ((with_reducible refine HC.out.mono ?_); rintro e w3 ⟨ao3, n3, cap3, rfl, d0, d1, hd3, hu3⟩))
      all_goals
        have HD3 := Lib.hid hd3
        have HU3 := Lib.hid hu3
        have d2 : (w3.setCell ⟨b, 1, none⟩ (.slice ao3 n3 cap3)).cell? ⟨b, 2, none⟩ = some (.slice ao D.parts.length cap) := cell_of_row _ b 2 _ _ _ hd3.1
        have d3 : (w3.setCell ⟨b, 1, none⟩ (.slice ao3 n3 cap3)).frozen? ⟨b, 2, none⟩ = false := frozen_of_row _ b 2 _ _ hd3.1
        clear hd3 hu3 d0 d1
        generalize w3.setCell ⟨b, 1, none⟩ (.slice ao3 n3 cap3) = w4 at *
        go_wp2_with fail
        obtain ⟨hd5, hu5⟩ := HD3.out.clearParts
        have hd6 := hd5.at
        refine (count_any b _ _ _ hd6 (by show D.calls ≤ _; omega) (by exact hok.left) (by exact HO.out)).mono ?_
        rintro e w6 ⟨rfl, hd7, hu7⟩
        go_wp2_with fail
        go_ret
        exact ⟨_, rfl, hd7, hu'.trans (Upd.trans (Upd.refl _ _).drew (HU3.out.trans (hu5.trans hu7)))⟩
end Go.Proofs.YtinpenoeohejoaaGreatDoor

namespace Go.Proofs.YtinpenoeohejoaaGreatDoor
open Go.RowKit
set_option maxRecDepth 100000

def IntsAt (w : World) (v : Value) (zs : List Int) : Prop :=
  ∃ cap, (zs = [] ∧ ∃ ao, v = .slice ao 0 cap) ∨ ∃ b off, v = .slice (some ⟨b, off, none⟩) zs.length cap ∧ ∀ j z, zs[j]? = some z → w.cell? ⟨b, off + j, none⟩ = some (.int .i64 z)

theorem IntsAt.kept {w w' : World} {v : Value} {zs : List Int} {S S' : List Nat} (h : IntsAt w v zs) (hu : Upd S S' w w') (hd : ∀ b off n cap, v = .slice (some ⟨b, off, none⟩) n cap → b ∉ S) : IntsAt w' v zs := by
  obtain ⟨cap, h | ⟨b, off, rfl, hc⟩⟩ := h
  · exact ⟨cap, .inl h⟩
  · exact ⟨cap, .inr ⟨b, off, rfl, fun j z hz => by
      have h1 := hc j z hz
      rw [hu.cell (p := ⟨b, off + j, none⟩) (World.block_lt_of_cell? _ _ h1) (hd b off _ cap rfl)]
      exact h1⟩⟩

theorem crashF_take (sv : List Int) (ps : List (Nat × List UInt8)) (c : List UInt8) (k : Nat) (p : Nat × List UInt8) (hp : ps[k]? = some p) :
    crashF sv 0 (ps.take (k + 1)) c = if survives sv k then putL (crashF sv 0 (ps.take k) c) p.1 p.2 else crashF sv 0 (ps.take k) c := by
  have hk : k < ps.length := (List.getElem?_eq_some_iff.1 hp).1
  rw [List.take_add_one, hp]
  simp only [Option.toList_some]
  rw [crashF_append]
  simp only [List.length_take, Nat.zero_add]
  rw [Nat.min_eq_left (by omega)]

theorem putL_nil (s : List UInt8) : putL [] 0 s = s := by simp [putL]

set_option maxHeartbeats 1600000 in
theorem Crash_any (b : Nat) (D : DiskM) (S : List Nat) (v : Value) (sv : List Int) (w : World) (h : DiskAt w b D S) (hI : IntsAt w v sv) (hok : D.ok) :
    Calls Tryz.prog 12 #[.pointer (some ⟨b, 0, none⟩), v] w fun e w' => ∃ b' S', e = .returned (.pointer (some ⟨b', 0, none⟩)) ∧ DiskAt w' b' (D.crash sv) S' ∧ Upd [] S' w w' := by
  obtain ⟨vc, vs, vp, hd, hS⟩ := h.is
  clear hS h
  have c1 : w.cell? ⟨b, 1, none⟩ = some vs := cell_of_row w b 1 _ _ _ hd.1
  have c2 : w.cell? ⟨b, 2, none⟩ = some vp := cell_of_row w b 2 _ _ _ hd.1
  obtain ⟨ao, cap, rfl, hcap, hcm⟩ := row_slice hd.2.2.2.1
  have hlen : D.parts.length ≤ 1099511627776 := by have := hok.many; have := hok.calls; omega
  have hcv := conv_row (P := Tryz.prog) w 86 9 5 Tryz.underlying86 Tryz.underlying5 Tryz.underlying9 vs D.synced hd.2.2.1
  obtain ⟨sy, hsy⟩ : ∃ sy : ByteArray, sy = ⟨D.synced.toArray⟩ := ⟨_, rfl⟩
  have hcv' : (convert 86 9 vs).run Tryz.prog w = .ok (.string sy) w := by rw [hsy]; exact hcv
  have HCV := Lib.hid hcv'
  have HSY := Lib.hid hsy
  have hsyl : sy.size ≤ 16777216 := by rw [hsy]; exact hok.synced
  clear hcv hcv' hsy
  obtain ⟨sa, sc, ns, rfl, hns⟩ : ∃ sa sc ns, v = .slice sa ns sc ∧ ns = sv.length := by
    obtain ⟨cap, ⟨rfl, ao, rfl⟩ | ⟨b, off, rfl, _⟩⟩ := hI
    · exact ⟨_, _, _, rfl, rfl⟩
    · exact ⟨_, _, _, rfl, rfl⟩
  have HNS := Lib.hid hns
  clear hns
  go_enter Tryz.func12, Tryz.ntmps12
  go_wp2_with fail
  rw [HCV.out]
  go_wp2_with fail
  refine (put_any (.slice none 0 0) [] 0 sy w (World.ownsRow_nil _ _ _ _) (by omega) (by simp)).mono ?_
  rintro e w1 ⟨v1, rfl, hr1, hu1⟩
  have d2 : w1.cell? ⟨b, 2, none⟩ = some (.slice ao D.parts.length cap) := (hu1.cell (p := ⟨b, 2, none⟩) (World.block_lt_of_cell? _ _ c2) (by simp [foot, Value.ownBlock])).trans c2
  rw [putL_nil, HSY.out, bs_mk] at hr1
  clear c1 c2
  go_wp2_with fail
  clear d2
  go_loopw [5, 23] (fun v i wr => ∃ (k : Nat), i = .int .i64 (k : Int) ∧ k ≤ D.parts.length ∧ wr.ownsRow 0 5 1 v (crashF sv 0 (D.parts.take k) D.synced).length (byteVals (crashF sv 0 (D.parts.take k) D.synced)) ∧
      Upd [] (foot v) w wr) (fun _ i _ => D.parts.length - (intOf i).toNat)
  case atStart => exact ⟨0, rfl, Nat.zero_le _, hr1, hu1⟩
  case round =>
    obtain ⟨k, rfl, hk, hr, hu⟩ := hrel
    have hcl : (crashF sv 0 (D.parts.take k) D.synced).length ≤ 16777216 := crashF_le sv 16777216 (D.parts.take k) 0 D.synced hok.synced (fun q hq => hok.parts q (List.mem_of_mem_take hq))
    by_cases hlt : k < D.parts.length
    · obtain ⟨g, cap', cur, hv, hg, _, _, hcs, htk⟩ := row_pos hd.2.2.2.1 (by omega)
      simp only [Value.slice.injEq] at hv
      obtain ⟨rfl, _, rfl⟩ := hv
      obtain ⟨p, hp⟩ : ∃ p, D.parts[k]? = some p := ⟨_, List.getElem?_eq_getElem hlt⟩
      obtain ⟨q1', q2'⟩ := part_cells hg htk k p hp
      have q1 := (hu.cell (World.block_lt_of_cell? _ _ q1') (by simp)).trans q1'
      have q2 := (hu.cell (World.block_lt_of_cell? _ _ q2') (by simp)).trans q2'
      have hpb : p.1 + p.2.length ≤ 16777216 := hok.parts p (List.mem_of_getElem? hp)
      have HT := Lib.hid (crashF_take sv D.parts D.synced k p hp)
      clear hp hg hcs htk q1' q2'
      obtain ⟨p1, p2⟩ := p
      simp only at q1 q2 hpb HT
      obtain ⟨sp, hsp⟩ : ∃ sp : ByteArray, sp = ⟨p2.toArray⟩ := ⟨_, rfl⟩
      rw [← hsp] at q2
      have hspl : sp.size ≤ 16777216 - p1 := by rw [hsp]; show p2.length ≤ _; omega
      have HSP := Lib.hid hsp
      clear hsp
      generalize hcr : crashF sv 0 (D.parts.take k) D.synced = cr at *
      have HCR := Lib.hid hcr
      clear hcr
      have hrA := row_same (w' := wr.alloc (.cells #[.int .i64 (p1 : Int), .string sp] 107)) hr (fun j hj => Below.heap_alloc _ _ _ (row_foot_lt hr j hj))
      have HPUT := Lib.hid (put_any u5 cr p1 sp _ hrA (by omega) (by omega))
      clear hrA
      by_cases hs0 : sv.length = 0
      · have hsf : survives sv k = false := by simp [survives, hs0]
        have HT2 := HT.out
        rw [hsf] at HT2
        simp only [Bool.false_eq_true, if_false] at HT2
        have HT3 := Lib.hid HT2
        clear HT2 hsf
        obtain rfl : ns = 0 := by rw [HNS.out]; exact hs0
        go_wp2_with fail
        go_roundw
        case rel => exact ⟨k + 1, by go_num, by omega, by rw [HT3.out]; exact row_same hr (fun j hj => Below.heap_alloc _ _ _ (row_foot_lt hr j hj)), hu.alloc _⟩
        case measure => simp [intOf]; omega
      · obtain ⟨csx, ⟨e0, _⟩ | ⟨bsx, ofx, hvx, hcx⟩⟩ := hI
        · exact absurd (by rw [e0]; rfl) hs0
        · simp only [Value.slice.injEq] at hvx
          obtain ⟨rfl, rfl, rfl⟩ := hvx
          have hml : k % sv.length < sv.length := Nat.mod_lt _ (by omega)
          obtain ⟨z, hz⟩ : ∃ z, sv[k % sv.length]? = some z := ⟨_, List.getElem?_eq_getElem hml⟩
          have q3' := hcx _ z hz
          have q3 := (hu.cell (World.block_lt_of_cell? _ _ q3') (by simp)).trans q3'
          have hbx : bsx < wr.heap.size := World.block_lt_of_cell? _ _ q3
          have hsf : survives sv k = (z.tmod 2 != 0) := by simp [survives, hz]; intro; omega
          have HT2 := HT.out
          rw [hsf] at HT2
          have HT4 := Lib.hid HT2
          clear hcx hz q3' hsf HT2 hs0
          generalize sv.length = nsv at *
          have hnp : 0 < nsv := by omega
          by_cases hzb : (z.tmod 2 != 0) = true
          · have HT2 := HT4.out
            rw [if_pos hzb] at HT2
            have HT3 := Lib.hid HT2
            clear HT2
            go_wp2_with fail
            refine HPUT.out.mono ?_
            rintro e w3 ⟨v3, rfl, hr3, hu3⟩
            go_wp2_with fail
            go_roundw
            case rel =>
              refine ⟨k + 1, by go_num, by omega, ?_, hu.trans (hu3.fore)⟩
              rw [HT3.out]
              rw [HSP.out, bs_mk] at hr3
              exact hr3
            case measure => simp [intOf]; omega
          · have hzb : (z.tmod 2 != 0) = false := by simpa using hzb
            have HT2 := HT4.out
            rw [hzb] at HT2
            simp only [Bool.false_eq_true, if_false] at HT2
            have HT3 := Lib.hid HT2
            clear HT2
            go_wp2_with fail
            go_roundw
            case rel => exact ⟨k + 1, by go_num, by omega, by rw [HT3.out]; exact row_same hr (fun j hj => Below.heap_alloc _ _ _ (row_foot_lt hr j hj)), hu.alloc _⟩
            case measure => simp [intOf]; omega
    · obtain rfl : k = D.parts.length := by omega
      rw [List.take_length] at hr hcl
      have hcv2 := conv_row (P := Tryz.prog) wr 86 9 5 Tryz.underlying86 Tryz.underlying5 Tryz.underlying9 u5 _ hr
      generalize hcr : crashF sv 0 D.parts D.synced = cr at *
      have HCR := Lib.hid hcr
      clear hcr
      obtain ⟨cy, hcy⟩ : ∃ cy : ByteArray, cy = ⟨cr.toArray⟩ := ⟨_, rfl⟩
      have hcv3 : (convert 86 9 u5).run Tryz.prog wr = .ok (.string cy) wr := by rw [hcy]; exact hcv2
      have HCV2 := Lib.hid hcv3
      have HCY := Lib.hid hcy
      have hcyl : cy.size ≤ 16777216 := by rw [hcy]; exact hcl
      clear hcv2 hcv3 hcy
      go_wp2_with fail
      rw [HCV2.out]
      go_wp2_with fail
      refine (put_any (.slice none 0 0) [] 0 cy wr (World.ownsRow_nil _ _ _ _) (by omega) (by simp)).mono ?_
      rintro e w4 ⟨v4, rfl, hr4, hu4⟩
      rw [putL_nil, HCY.out, bs_mk] at hr4
      have hr5 := row_same (w' := w4) hr (fun j hj => hu4.block j (row_foot_lt hr j hj) (by simp [foot, Value.ownBlock]))
      obtain ⟨ao5, cap5, rfl, _, _⟩ := row_slice hr5
      obtain ⟨ao4, cap4, rfl, _, _⟩ := row_slice hr4
      go_wp2_with fail
      go_ret
      refine ⟨w4.heap.size, _, rfl, ⟨.slice ao5 cr.length cap5, .slice ao4 cr.length cap4, .slice none 0 0, ?_, ?_, ?_, ?_, rfl, ?_⟩, ?_⟩
      · exact heap_alloc_new w4 _
      · simp only [DiskM.crash, HCR.out]; exact row_same hr5 (fun j hj => Below.heap_alloc _ _ _ (row_foot_lt hr5 j hj))
      · simp only [DiskM.crash, HCR.out]; exact row_same hr4 (fun j hj => Below.heap_alloc _ _ _ (row_foot_lt hr4 j hj))
      · exact World.ownsRow_nil _ _ _ _
      · rw [sep4]
        refine ⟨⟨fun h => ?_, fun h => ?_, by simp [foot, Value.ownBlock]⟩, ⟨foot_nodup _, foot_nodup _, foot_nodup _⟩, fun j h1 h2 => ?_, by simp [foot, Value.ownBlock], by simp [foot, Value.ownBlock]⟩
        · have := row_foot_lt hr5 _ h; omega
        · have := row_foot_lt hr4 _ h; omega
        · have := row_foot_lt hr _ h1
          rcases hu4.new j h2 with h | h
          · simp [foot, Value.ownBlock] at h
          · omega
      · refine Upd.alloc ?_ _
        refine ⟨hu4.os.trans hu.os, hu4.tape.trans hu.tape, hu4.output.trans hu.output, Nat.le_trans hu.size hu4.size, fun j hj hn => (hu4.block j (Nat.lt_of_lt_of_le hj hu.size) (by simp [foot, Value.ownBlock])).trans (hu.block j hj hn), fun j hj => .inr ?_⟩
        simp only [List.mem_cons, List.mem_append] at hj
        rcases hj with rfl | (h | h) | h
        · exact Nat.le_trans hu.size hu4.size
        · rcases hu.new j h with h | h
          · simp at h
          · exact h
        · rcases hu4.new j h with h | h
          · simp [foot, Value.ownBlock] at h
          · exact Nat.le_trans hu.size h
        · simp [foot, Value.ownBlock] at h
end Go.Proofs.YtinpenoeohejoaaGreatDoor

namespace Go.Proofs.YtinpenoeohejoaaGreatDoor
open Go.RowKit
set_option maxRecDepth 100000

theorem dBs_append (a b : ByteArray) : bs (a ++ b) = bs a ++ bs b := by simp [bs]
theorem Upd.of_nil {S T : List Nat} {w w' : World} (h : Upd [] S w w') : Upd T (T ++ S) w w' :=
  ⟨h.os, h.tape, h.output, h.size, fun k hk _ => h.block k hk (by simp), fun k hk => by
    rcases List.mem_append.1 hk with h1 | h1
    · exact .inl h1
    · rcases h.new k h1 with h2 | h2
      · simp at h2
      · exact .inr h2⟩
theorem Upd.quiet {T : List Nat} {w w' : World} (h : Upd [] [] w w') : Upd T T w w' :=
  ⟨h.os, h.tape, h.output, h.size, fun k hk _ => h.block k hk (by simp), fun k hk => .inl hk⟩
theorem ext_getD (a b : List UInt8) (hl : a.length = b.length) (h : ∀ i, a.getD i 0 = b.getD i 0) : a = b := by
  apply List.ext_getElem hl
  intro i h1 h2
  have := h i
  simpa [List.getD, h1, h2] using this
theorem getD_ge (a : List UInt8) (i : Nat) (h : a.length ≤ i) : a.getD i 0 = 0 := by simp [List.getD, List.getElem?_eq_none h]
theorem getD_append_l (a b : List UInt8) (i : Nat) (h : i < a.length) : (a ++ b).getD i 0 = a.getD i 0 := by simp [List.getD, List.getElem?_append_left h]
theorem getD_append_r (a b : List UInt8) (i : Nat) (h : a.length ≤ i) : (a ++ b).getD i 0 = b.getD (i - a.length) 0 := by simp [List.getD, List.getElem?_append_right h]
theorem getD_replicate (k i : Nat) : (List.replicate k (0 : UInt8)).getD i 0 = 0 := by
  simp only [List.getD, List.getElem?_replicate]; split <;> rfl
theorem getD_pad (a : List UInt8) (k i : Nat) : (a ++ List.replicate k 0).getD i 0 = a.getD i 0 := by
  by_cases h : i < a.length
  · exact getD_append_l _ _ _ h
  · rw [getD_append_r _ _ _ (by omega), getD_replicate, getD_ge _ _ (by omega)]
theorem getD_take (a : List UInt8) (k i : Nat) (h : i < k) : (a.take k).getD i 0 = a.getD i 0 := by simp [List.getD, h]
theorem getD_drop (a : List UInt8) (k i : Nat) : (a.drop k).getD i 0 = a.getD (k + i) 0 := by simp [List.getD, List.getElem?_drop]
theorem putL_getD (c : List UInt8) (off : Nat) (s : List UInt8) (i : Nat) : (putL c off s).getD i 0 = if off ≤ i ∧ i < off + s.length then s.getD (i - off) 0 else c.getD i 0 := by
  unfold putL
  generalize hk : off + s.length - c.length = k
  have hp : ∀ j, (c ++ List.replicate k 0).getD j 0 = c.getD j 0 := fun j => getD_pad c k j
  have hlen : (c ++ List.replicate k (0 : UInt8)).length = c.length + k := by simp
  generalize c ++ List.replicate k (0 : UInt8) = c' at *
  have h1 : (c'.take off).length = off := by rw [List.length_take]; omega
  rw [List.append_assoc]
  by_cases ha : i < off
  · rw [getD_append_l _ _ _ (by omega), getD_take _ _ _ ha, hp, if_neg (by omega)]
  · rw [getD_append_r _ _ _ (by omega), h1]
    by_cases hb : i < off + s.length
    · rw [getD_append_l _ _ _ (by omega), if_pos (by omega)]
    · rw [getD_append_r _ _ _ (by omega), getD_drop, if_neg (by omega), hp]
      congr 1; omega
theorem pad_iff (A n : List UInt8) : putL A n.length [] = n ↔ A.length ≤ n.length ∧ ∀ i, A.getD i 0 = n.getD i 0 := by
  constructor
  · intro h
    refine ⟨?_, fun i => ?_⟩
    · have := congrArg List.length h; rw [putL_length] at this; simp at this; omega
    · have := congrArg (fun l => List.getD l i 0) h
      simp only [putL_getD] at this
      rw [if_neg (by simp)] at this
      exact this
  · rintro ⟨h1, h2⟩
    refine ext_getD _ _ (by rw [putL_length]; simp; omega) (fun i => ?_)
    rw [putL_getD, if_neg (by simp)]
    exact h2 i
theorem putParts_cons (c : List UInt8) (p : Nat × List UInt8) (ps : List (Nat × List UInt8)) : putParts c (p :: ps) = putParts (putL c p.1 p.2) ps := rfl
theorem putParts_append (c : List UInt8) (ps qs : List (Nat × List UInt8)) : putParts c (ps ++ qs) = putParts (putParts c ps) qs := by simp [putParts]
theorem putParts_partsL (n : Nat) : ∀ (off : Nat) (s c : List UInt8), s.length ≤ n → (∀ i, (putParts c (partsL off s)).getD i 0 = if off ≤ i ∧ i < off + s.length then s.getD (i - off) 0 else c.getD i 0) ∧
    (putParts c (partsL off s)).length = if s = [] then c.length else max c.length (off + s.length) := by
  induction n with
  | zero =>
    intro off s c h
    have : s = [] := List.eq_nil_of_length_eq_zero (by omega)
    subst this
    rw [partsL_nil]
    exact ⟨fun i => by rw [if_neg (by simp)]; rfl, by simp [putParts]⟩
  | succ n ih =>
    intro off s c h
    by_cases h0 : s = []
    · subst h0
      rw [partsL_nil]
      exact ⟨fun i => by rw [if_neg (by simp)]; rfl, by simp [putParts]⟩
    · have hl : 0 < s.length := List.length_pos_iff.2 h0
      have hm : off % 64 < 64 := Nat.mod_lt _ (by omega)
      rw [partsL_step off s h0, putParts_cons]
      generalize hmm : min s.length (64 - off % 64) = m
      have hm1 : 1 ≤ m := by omega
      have hm2 : m ≤ s.length := by omega
      obtain ⟨ih1, ih2⟩ := ih (off + m) (s.drop m) (putL c off (s.take m)) (by simp; omega)
      have ht : (s.take m).length = m := by simp; omega
      have hd : (s.drop m).length = s.length - m := by simp
      refine ⟨fun i => ?_, ?_⟩
      · rw [ih1 i, putL_getD, ht, hd]
        by_cases a1 : off + m ≤ i ∧ i < off + m + (s.length - m)
        · rw [if_pos a1, if_pos (by omega), getD_drop]; congr 1; omega
        · rw [if_neg a1]
          by_cases a2 : off ≤ i ∧ i < off + m
          · rw [if_pos a2, if_pos (by omega), getD_take _ _ _ (by omega)]
          · rw [if_neg a2, if_neg (by omega)]
      · rw [ih2, putL_length, ht, hd, if_neg h0]
        split
        · have : s.length - m = 0 := by rw [← hd]; rename_i e; rw [e]; rfl
          omega
        · omega
def DiskM.syncS (D : DiskM) : DiskM := if D.off then D else D.synced1.count
def SyncTo (b : Nat) (D : DiskM) (S : List Nat) (w : World) (e : Ending) (w' : World) : Prop := ∃ (S' : List Nat) (r : Int), Hid (r = if D.off then 70 else 0) ∧ e = .returned (.int .i64 r) ∧ DiskAt w' b D.syncS S' ∧ Upd S S' w w'
theorem Sync_any (b : Nat) (D : DiskM) (S : List Nat) (w : World) (h : DiskAt w b D S) (hok : D.ok) (hcl : D.calls < 65536) :
    Calls Tryz.prog 52 #[.pointer (some ⟨b, 0, none⟩)] w (SyncTo b D S w) := by
  unfold SyncTo DiskM.syncS
  cases ho : D.off with
  | true => refine (Sync_off b D S w h ho).mono ?_; rintro e w' ⟨rfl, rfl⟩; exact ⟨S, _, rfl, rfl, h, Upd.refl _ _⟩
  | false => refine (Sync_ok b D S w h hok hcl ho).mono ?_; rintro e w' ⟨S', rfl, h1, h2⟩; exact ⟨S', _, rfl, rfl, h1, h2⟩
def CrashTo (D : DiskM) (sv : List Int) (w : World) (e : Ending) (w' : World) : Prop := ∃ b' S', e = .returned (.pointer (some ⟨b', 0, none⟩)) ∧ DiskAt w' b' (D.crash sv) S' ∧ Upd [] S' w w'
theorem Crash_to (b : Nat) (D : DiskM) (S : List Nat) (v : Value) (sv : List Int) (w : World) (h : DiskAt w b D S) (hI : IntsAt w v sv) (hok : D.ok) :
    Calls Tryz.prog 12 #[.pointer (some ⟨b, 0, none⟩), v] w (CrashTo D sv w) := Crash_any b D S v sv w h hI hok
def Above (B : Nat) (S : List Nat) : Prop := ∀ k, k ∈ S → B ≤ k
theorem Upd.above {S S' : List Nat} {w w' : World} {B : Nat} (h : Upd S S' w w') (ha : Above B S) (hB : B ≤ w.heap.size) : Above B S' := fun k hk => by
  rcases h.new k hk with h1 | h1
  · exact ha k h1
  · omega
theorem above_nil (B : Nat) : Above B [] := fun _ h => by simp at h
theorem Upd.belowOf {S S' : List Nat} {w0 w w' : World} {B : Nat} (h : Upd S S' w w') (hb : Below B w0 w) (hS : Above B S) (hB : B ≤ w.heap.size) : Below B w0 w' := Upd.below hb h hB hS
def Born (w : World) (e : Ending) (w' : World) : Prop := ∃ b S, e = .returned (.pointer (some ⟨b, 0, none⟩)) ∧ DiskAt w' b .empty S ∧ Upd [] S w w'
theorem New_to (w : World) : Calls Tryz.prog 6 #[] w (Born w) := (New_any w).mono fun _ _ ⟨h1, h2, h3⟩ => ⟨_, _, h1, h2, h3⟩
def To (v : Int) (b : Nat) (D' : DiskM) (S : List Nat) (w : World) (e : Ending) (w' : World) : Prop := ∃ S', e = .returned (.int .i64 v) ∧ DiskAt w' b D' S' ∧ Upd S S' w w'
theorem Sync_to (b : Nat) (D : DiskM) (S : List Nat) (w : World) (v : Int) (h : DiskAt w b D S) (hok : D.ok) (hcl : D.calls < 65536) (hv : (if D.off then 70 else 0) = v) :
    Calls Tryz.prog 52 #[.pointer (some ⟨b, 0, none⟩)] w (To v b D.syncS S w) := by
  subst hv
  exact (Sync_any b D S w h hok hcl).mono fun _ _ ⟨S', r, h0, h1, h2, h3⟩ => ⟨S', by rw [← h0.out]; exact h1, h2, h3⟩
def Same (v : Value) (w : World) (e : Ending) (w' : World) : Prop := e = .returned v ∧ w = w'
theorem Size_to (b : Nat) (D : DiskM) (S : List Nat) (w : World) (v : Int) (h : DiskAt w b D S) (hv : (D.now.length : Int) = v) : Calls Tryz.prog 53 #[.pointer (some ⟨b, 0, none⟩)] w (Same (.int .i64 v) w) := by
  subst hv; exact Size_any b D S w h
theorem Read_to (b : Nat) (D : DiskM) (S : List Nat) (off n : Int) (w : World) (v : ByteArray) (h : DiskAt w b D S) (hl : D.now.length ≤ 1099511627776) (hv : dReadL D.now off n = bs v) : Calls Tryz.prog 55 #[.pointer (some ⟨b, 0, none⟩), .int .i64 off, .int .i64 n] w (Same (.string v) w) :=
  (Read_any b D S off n w h hl).mono fun _ _ ⟨h1, h2⟩ => ⟨by rw [h1, hv]; rfl, h2⟩

structure DiskOk (w0 : World) (B : Nat) (b : Nat) (D : DiskM) (S : List Nat) (wp : World) : Prop where
  at_ : DiskAt wp b D S
  above : Above B S
  below : Below B w0 wp
  size : B ≤ wp.heap.size

theorem DiskOk.step {w0 : World} {B b : Nat} {D D' : DiskM} {S S' : List Nat} {wp w1 : World} (h : DiskOk w0 B b D S wp) (hd : DiskAt w1 b D' S') (hu : Upd S S' wp w1) : DiskOk w0 B b D' S' w1 :=
  ⟨hd, hu.above h.above h.size, hu.belowOf h.below h.above h.size, Nat.le_trans h.size hu.size⟩
theorem DiskOk.other {w0 : World} {B b : Nat} {D : DiskM} {S T T' : List Nat} {wp w1 : World} (h : DiskOk w0 B b D S wp) (hu : Upd T T' wp w1) (hT : Above B T) (hd : ∀ k, k ∈ S → k ∉ T) : DiskOk w0 B b D S w1 :=
  ⟨h.at_.kept hu hd, h.above, hu.belowOf h.below hT h.size, Nat.le_trans h.size hu.size⟩
theorem DiskOk.first {w w1 : World} {b' : Nat} {D' : DiskM} {S' : List Nat} (hd : DiskAt w1 b' D' S') (hu : Upd [] S' w w1) : DiskOk w w.heap.size b' D' S' w1 :=
  ⟨hd, hu.above (above_nil _) (Nat.le_refl _), hu.belowOf (Below.refl _ _) (above_nil _) (Nat.le_refl _), hu.size⟩
theorem DiskOk.alloc {w0 : World} {B b : Nat} {D : DiskM} {S : List Nat} {wp : World} (h : DiskOk w0 B b D S wp) (o : Obj) : DiskOk w0 B b D S (wp.alloc o) :=
  h.other ((Upd.refl [] wp).alloc o) (above_nil B) (by simp)

theorem DiskOk.start {w0 w1 w2 : World} {B b : Nat} {D : DiskM} {S : List Nat} (hb : Below B w0 w1) (hB : B ≤ w1.heap.size) (hd : DiskAt w2 b D S) (hu : Upd [] S w1 w2) : DiskOk w0 B b D S w2 :=
  ⟨hd, hu.above (above_nil B) hB, hu.belowOf hb (above_nil B) hB, Nat.le_trans hB hu.size⟩
theorem DiskOk.quiet {w0 : World} {B b : Nat} {D : DiskM} {S T' : List Nat} {wp w1 : World} (h : DiskOk w0 B b D S wp) (hu : Upd [] T' wp w1) : DiskOk w0 B b D S w1 := h.other hu (above_nil B) (by simp)
end Go.Proofs.YtinpenoeohejoaaGreatDoor
