/- entry.reader: sized. Receipts appended; batches as texts, word by word. entry.ReadBatch: what its blocks hold. entry.ReadBatch: the walk. Big numbers as bytes and as digits to the base 2^24, plainly. sortesref01: Canon, Int, Of, small. -/
import Derived.Test.YtmnmhhbldbdpfaaGreatDoorGG
import Derived.Test.YtmnmhhbldbdpfaaGreatDoorGA
import Derived.Lib.Hide
import Derived.Test.YtmnmhhbldbdpfaaGreatDoorRows
import Derived.Test.YtmnmhhbldbdpfaaGreatDoorGC
import Derived.Test.YtmnmhhbldbdpfaaGreatDoorGD
namespace Go.Proofs.YtmnmhhbldbdpfaaGreatDoor
open Go.RowKit
set_option maxRecDepth 100000

/-- A text behind its length. -/
def MkSized (g : Nat) (rest : ByteArray) (wrong : Bool) (w : World) (e : Ending) (w' : World) : Prop :=
  ∃ (l r : ByteArray) (q : Bool), Hid (∀ t R : List UInt8, t.length ≤ 9223372036854775807 → wrong = false → bs rest = Lib.itoa (t.length : Int) ++ 58 :: (t ++ 32 :: R) → bs l = t ∧ bs r = R ∧ q = false) ∧ l.size ≤ rest.size ∧ r.size ≤ rest.size ∧ (q = false → r.size < rest.size) ∧ e = .returned (.string l) ∧ Hid (RdAt w' g r q) ∧ Upd [g] [] w w'

set_option maxHeartbeats 4000000 in
theorem sized_any (g : Nat) (rest : ByteArray) (wrong : Bool) (w W0 : World) (h0 : Upd [] [] W0 w) (hg : W0.heap.size ≤ g) (hr : RdAt w g rest wrong) (hs : rest.size ≤ 4000000000) (htab : Tabs W0) :
    Calls Tryz.prog 56 #[.pointer (some ⟨g, 0, none⟩)] w (MkSized g rest wrong w) := by
  go_enter Tryz.func56, Tryz.ntmps56
  go_wp2_with fail
  refine (until_any g rest wrong 58 w hr hs (htab.upd h0)).mono ?_
  rintro e w1 ⟨l, r, q, HH, hl, hrr, rfl, HR, hu⟩
  have h1 := h0.own2 hu hg
  have HU := Lib.hid hu
  clear hu hr
  go_wp2_with fail
  by_cases hv : ∃ v, Lib.atoiAll (bs l) = .ok v
  · obtain ⟨v, hv⟩ := hv
    have hvi : i64in v := Lib.atoiAll_bounds hv
    have HV := Lib.hid hv
    clear hv
    refine (atoi_ok l v w1 (by omega) HV.out).mono ?_
    rintro e w2 ⟨rfl, hu2⟩
    have r2 := HR.out.upd hu2
    have HU2 := Lib.hid (HU.out.then2 hu2)
    obtain ⟨k0, k1, f0, f1⟩ := r2.cells
    have HF : Hid (∀ t R : List UInt8, t.length ≤ 9223372036854775807 → bs rest = Lib.itoa (t.length : Int) ++ 58 :: (t ++ 32 :: R) → v = (t.length : Int) ∧ bs r = t ++ 32 :: R ∧ q = wrong) := by
      intro t R ht e
      obtain ⟨e1, e2, e3⟩ := HH.out _ _ (itoa_no58 _) e
      refine ⟨?_, e2, e3⟩
      have h := HV.out
      rw [e1, atoi_itoa _ (by unfold i64in; omega)] at h
      injection h with h
      exact h.symm
    have RT := Lib.hid (r2.setQ true)
    have R2 := Lib.hid r2
    have fail1 : ∀ (P : Prop), ¬ P → P → False := fun _ a b => a b
    clear hu2 h1 r2
    cases q with
    | true =>
      go_wp2_with fail
      go_ret
      refine ⟨ByteArray.empty, r, true, fun t R ht hw e => ?_, Nat.zero_le _, hrr, fun h => (by cases h), rfl, RT.out, HU2.out.setOld 1 _⟩
      have := (HF.out t R ht e).2.2
      rw [hw] at this
      cases this
    | false =>
      by_cases hn : v < 0
      · go_wp2_with fail
        go_ret
        refine ⟨ByteArray.empty, r, true, fun t R ht hw e => ?_, Nat.zero_le _, hrr, fun h => (by cases h), rfl, RT.out, HU2.out.setOld 1 _⟩
        have := (HF.out t R ht e).1
        omega
      · obtain ⟨n, rfl⟩ : ∃ n : Nat, v = (n : Int) := ⟨v.toNat, by omega⟩
        have hn0 : (0 : Int) ≤ (n : Int) := by omega
        have dn : decide ((n : Int) < 0) = false := decide_eq_false hn
        by_cases hge : r.size ≤ n
        · have hgeI : (r.size : Int) ≤ (n : Int) := by omega
          go_wp2_with fail
          go_ret
          refine ⟨ByteArray.empty, r, true, fun t R ht hw e => ?_, Nat.zero_le _, hrr, fun h => (by cases h), rfl, RT.out, HU2.out.setOld 1 _⟩
          obtain ⟨p1, p2, p3⟩ := HF.out t R ht e
          have := congrArg List.length p2
          rw [bs_length, List.length_append, List.length_cons] at this
          omega
        · have hlt : n < r.size := by omega
          have hltI : (n : Int) < (r.size : Int) := by omega
          by_cases h32 : (r[n].toNat : Int) = 32
          · have hb : ((r[n].toNat : Int) != 32) = false := by rw [bne_eq_false_iff_eq]; exact h32
            have hn1 : ((n : Int) + 1) ≤ (r.size : Int) := by omega
            have RS := Lib.hid (heap_setCell_same w2 g 0 _ _ (.string (r.extract (n + 1) r.size)) R2.out)
            clear h32
            go_wp2_with fail
            go_ret
            refine ⟨r.extract 0 n, r.extract (n + 1) r.size, false, fun t R ht hw e => ?_, by rw [ByteArray.size_extract]; omega, by rw [ByteArray.size_extract]; omega, fun _ => by rw [ByteArray.size_extract]; omega, rfl, RS.out, HU2.out.setOld 0 _⟩
            obtain ⟨p1, p2, p3⟩ := HF.out t R ht e
            have hnt : n = t.length := by omega
            rw [bs_left, bs_right, p2, hnt]
            refine ⟨List.take_left, ?_, rfl⟩
            rw [← List.drop_drop, List.drop_left]
            rfl
          · have hb : ((r[n].toNat : Int) != 32) = true := by rw [bne_iff_ne]; exact h32
            have HNB : Hid (∀ t R : List UInt8, t.length = n → bs r = t ++ 32 :: R → False) := by
              intro t R ht e
              have h := bs_get' r n hlt
              rw [e, List.getElem?_append_right (by omega), ht, Nat.sub_self] at h
              simp at h
              exact h32 (by rw [← h]; rfl)
            clear h32
            go_wp2_with fail
            go_ret
            refine ⟨ByteArray.empty, r, true, fun t R ht hw e => ?_, Nat.zero_le _, hrr, fun h => (by cases h), rfl, RT.out, HU2.out.setOld 1 _⟩
            obtain ⟨p1, p2, p3⟩ := HF.out t R ht e
            exact (HNB.out t R (by omega) p2).elim
  · have hv' : ∀ v, Lib.atoiAll (bs l) ≠ .ok v := fun v e => hv ⟨v, e⟩
    have HV := Lib.hid hv'
    clear hv hv'
    refine (atoi_bad l w1 (by omega) HV.out (htab.upd h1)).mono ?_
    rintro e w2 ⟨v, N, rfl, hvi, hu2⟩
    have r2 := HR.out.upd hu2
    have HU2 := Lib.hid (HU.out.then2 hu2)
    obtain ⟨k0, k1, f0, f1⟩ := r2.cells
    have RT := Lib.hid (r2.setQ true)
    clear hu2 h1 r2
    cases q
    all_goals
      go_wp2_with fail
      go_ret
      refine ⟨ByteArray.empty, r, true, fun t R ht hw e => ?_, Nat.zero_le _, hrr, fun h => (by cases h), rfl, RT.out, HU2.out.setOld 1 _⟩
      obtain ⟨e1, e2, e3⟩ := HH.out _ _ (itoa_no58 _) e
      exact absurd (by rw [e1]; exact atoi_itoa _ (by unfold i64in; omega)) (HV.out (t.length : Int))
end Go.Proofs.YtmnmhhbldbdpfaaGreatDoor

namespace Go.Proofs.YtmnmhhbldbdpfaaGreatDoor
open Go.RowKit
set_option maxRecDepth 100000

theorem rcI : ∃ i, Tryz.prog.info? 33 = some i ∧ i.zero = some (.agg (rcV Rc.zero).toArray) ∧ i.size = 102 ∧ i.bytes = 152 := by
  have h : (Tryz.prog.info? 33).map (fun i => (i.zero, i.size, i.bytes)) = some (some (.agg (rcV Rc.zero).toArray), 102, 152) := by kernel_rfl
  obtain ⟨i, hi, he⟩ := Option.map_eq_some_iff.1 h
  simp only [Prod.mk.injEq] at he
  exact ⟨i, hi, he.1, he.2.1, he.2.2⟩
theorem rc_range : (Array.range (1 * 102)).map ((rcV Rc.zero).toArray[· % (rcV Rc.zero).toArray.size]!) = (rcV Rc.zero).toArray := by kernel_rfl
/-- []Receipt{x} -/
theorem rc_build (x : Rc) (hx : x.ok) (w : World) : (Instr.buildSlice 44 1 #[(0, .agg (rcV x).toArray)]).run Tryz.prog w = .ok (.slice (some ⟨w.heap.size, 0, none⟩) 1 1) (w.alloc (.cells (rcV x).toArray 33)) := by
  obtain ⟨ie, hi, hz, hs, _⟩ := rcI
  refine run_buildSlice w 44 33 1 _ (rcV x).toArray ie _ Tryz.underlying44 hi hz (by rw [hs]; omega) (by rw [hs]; omega) ?_
  rw [hs]
  show Instr.fill _ ((Array.range (1 * 102)).map ((rcV Rc.zero).toArray[· % (rcV Rc.zero).toArray.size]!)) [(0, Value.agg (rcV x).toArray)] = _
  rw [rc_range]
  have h := fill_mid (pl := fun i => some (i * 102, 102)) (i := 0) (off := 0) (n := 102) (v := .agg (rcV x).toArray) (V := rcV x) (A := []) (B := rcV Rc.zero) (C := []) (r := []) rfl rfl (rcV_len hx) rfl (rcV_len Rc.zero_ok)
  rw [List.nil_append, List.append_nil, List.nil_append, List.append_nil] at h
  rw [h]
  rfl
/-- The cells of receipts. -/
def rcVals (l : List Rc) : List Value := l.flatMap rcV
theorem rcVals_snoc (l : List Rc) (x : Rc) : rcVals (l ++ [x]) = rcVals l ++ rcV x := by simp [rcVals]
/-- append(l, x) -/
theorem append_rc (wr : World) (v : Value) (l : List Rc) (x : Rc) (hx : x.ok) (hown : wr.ownsRow 0 33 102 v l.length (rcVals l)) (hk : l.length ≤ 4000000000) :
    ∃ v' w', (Builtin.append_ #[44, 44] 44 #[v, .slice (some ⟨wr.heap.size, 0, none⟩) 1 1]).run Tryz.prog (wr.alloc (.cells (rcV x).toArray 33)) = .ok v' w' ∧ w'.ownsRow 0 33 102 v' (l ++ [x]).length (rcVals (l ++ [x])) ∧ Upd (foot v) (foot v') wr w' := by
  have hrow : (wr.alloc (.cells (rcV x).toArray 33)).ownsRow 0 33 102 v l.length (rcVals l) := row_same hown (fun j hj => Below.heap_alloc _ _ _ (row_foot_lt hown j hj))
  have hw1 : (wr.alloc (.cells (rcV x).toArray 33)).heap[wr.heap.size]? = some (.cells (rcV x).toArray 33 (0, 0)) := heap_alloc_new _ _
  obtain ⟨iu, u1, u2, u3', u4⟩ := rcI
  obtain ⟨v', w', hrun, hown', hup'⟩ := append_block (P := Tryz.prog) (wr.alloc (.cells (rcV x).toArray 33)) 44 44 33 iu _ 102 152 Tryz.underlying44 u1 u2 u3' u4 (by show (rcV Rc.zero).toArray.size = 102; simp [rcV_len Rc.zero_ok]) (by omega) v l.length _ hrow ⟨wr.heap.size, 0, none⟩ 1 1 (rcV x) (by rw [rcV_len hx]) (by
    intro j u hj
    have e : (⟨wr.heap.size, 0, none⟩ : Addr).add j = ⟨wr.heap.size, j, none⟩ := by simp [Addr.add]; exact fun h => h.symm
    rw [e, cell_of_row _ _ _ _ _ _ hw1, List.getElem?_toArray]
    exact hj) (rcV_one x) (by omega) (by simp only [maxLen]; omega)
  refine ⟨v', w', hrun, ?_, ((Upd.refl _ _).alloc _).trans hup'⟩
  rw [rcVals_snoc, List.length_append]
  exact hown'

/-- What is still to be read, a blank behind it. -/
def tailT : List Rc → List UInt8
  | [] => []
  | x :: r => Lib.itoa ((textL x).length : Int) ++ 58 :: (textL x ++ 32 :: tailT r)
theorem recsT_tail : ∀ l : List Rc, recsT l ++ [32] = 32 :: tailT l
  | [] => rfl
  | x :: r => by
    have ih := recsT_tail r
    rw [recsT, tailT, ← ih]
    simp
theorem batchL_tail (k : Int) (l : List Rc) : batchL k l ++ [32] = wBa ++ 32 :: (Lib.itoa k ++ 32 :: (Lib.itoa (l.length : Int) ++ 32 :: tailT l)) := by
  unfold batchL
  rw [← recsT_tail l]
  simp
theorem recsT_text {l : List Rc} {x : Rc} (hx : x ∈ l) : (textL x).length ≤ (recsT l).length := by
  induction l with
  | nil => simp at hx
  | cons y r ih =>
    rw [recsT, List.length_cons, List.length_append, List.length_cons, List.length_append]
    rcases List.mem_cons.1 hx with rfl | h
    · omega
    · have := ih h
      omega
theorem recsT_many (l : List Rc) : l.length ≤ (recsT l).length := by
  induction l with
  | nil => simp
  | cons y r ih =>
    rw [recsT, List.length_cons, List.length_cons, List.length_append, List.length_cons, List.length_append]
    omega
/-- What a reader of a batch's text gives. -/
def btOk (s : List UInt8) (k : Int) (l : List Rc) (ok : Bool) : Prop := i64in k ∧ (∀ x ∈ l, x.ok) ∧ (ok = true → s = batchL k l) ∧ (ok = false → k = 0 ∧ l = [] ∧ ∀ k' l', i64in k' → (∀ x ∈ l', x.ok) → s ≠ batchL k' l')
theorem btOk_unique {s : List UInt8} {k k' : Int} {l l' : List Rc} {p q : Bool} (hs : s.length ≤ 9223372036854775807) (h : btOk s k l p) (g : btOk s k' l' q) : k = k' ∧ l = l' ∧ p = q := by
  have hlen : ∀ {k : Int} {l : List Rc}, s = batchL k l → l.length ≤ 9223372036854775807 ∧ ∀ x ∈ l, (textL x).length ≤ 9223372036854775807 := by
    intro k l e
    have h1 := recsT_many l
    have h2 : (recsT l).length ≤ s.length := by
      rw [e]
      unfold batchL
      simp only [List.length_append, List.length_cons]
      omega
    exact ⟨by omega, fun x hx => by have := recsT_text hx; omega⟩
  cases p with
  | true =>
    have e := h.2.2.1 rfl
    cases q with
    | true =>
      have e' := g.2.2.1 rfl
      have a := batchL_inj h.1 g.1 (hlen e).1 (hlen e').1 (fun x hx => ⟨h.2.1 x hx, (hlen e).2 x hx⟩) (fun x hx => ⟨g.2.1 x hx, (hlen e').2 x hx⟩) (e.symm.trans e')
      exact ⟨a.1, a.2, rfl⟩
    | false => exact absurd e ((g.2.2.2 rfl).2.2 k l h.1 h.2.1)
  | false =>
    cases q with
    | true => exact absurd (g.2.2.1 rfl) ((h.2.2.2 rfl).2.2 k' l' g.1 g.2.1)
    | false => exact ⟨(h.2.2.2 rfl).1.trans (g.2.2.2 rfl).1.symm, (h.2.2.2 rfl).2.1.trans (g.2.2.2 rfl).2.1.symm, rfl⟩
end Go.Proofs.YtmnmhhbldbdpfaaGreatDoor

namespace Go.Proofs.YtmnmhhbldbdpfaaGreatDoor
open Go.RowKit
set_option maxRecDepth 100000

/-- The blocks of entry.ReadBatch. -/
structure RbSt (w wr : World) (rest : ByteArray) (q : Bool) (k : Int) (v : Value) (l : List Rc) (B : Nat) : Prop where
  rz : wr.heap[w.heap.size]? = some (.cells #[.int .i64 0, .slice none 0 0] 46 (0, 0))
  rd : RdAt wr (w.heap.size + 1) rest q
  bb : wr.heap[B]? = some (.cells #[.int .i64 k, v] 46 (0, 0))
  own : wr.ownsRow 0 33 102 v l.length (rcVals l)
  fo : ∀ x, x ∈ foot v → w.heap.size + 1 < x ∧ x ≠ B
  hB : w.heap.size + 1 < B
  up : Upd [] [] w wr
  oks : ∀ x ∈ l, x.ok ∧ x.draw.size ≤ 1000000
theorem RbSt.upd {w wr wj : World} {rest : ByteArray} {q : Bool} {k : Int} {v : Value} {l : List Rc} {B : Nat} (h : RbSt w wr rest q k v l B) (u : Upd [] [] wr wj) : RbSt w wj rest q k v l B :=
  ⟨row_updH h.rz u, h.rd.upd u, row_updH h.bb u, row_same h.own (fun j hj => u.block j (row_foot_lt h.own j hj) (by simp)), h.fo, h.hB, h.up.trans u, h.oks⟩
theorem RbSt.step {w wr wj : World} {rest r' : ByteArray} {q q' : Bool} {k : Int} {v : Value} {l : List Rc} {B : Nat} (h : RbSt w wr rest q k v l B) (u : Upd [w.heap.size + 1] [] wr wj) (d : RdAt wj (w.heap.size + 1) r' q') : RbSt w wj r' q' k v l B :=
  ⟨row_updG h.rz u (by omega), d, row_updG h.bb u (by have := h.hB; omega), row_same h.own (fun j hj => u.block j (row_foot_lt h.own j hj) (by have := (h.fo j hj).1; simp; omega)), h.fo, h.hB, h.up.own2 u (by omega), h.oks⟩
theorem RbSt.setQ {w wr : World} {rest : ByteArray} {q : Bool} {k : Int} {v : Value} {l : List Rc} {B : Nat} (h : RbSt w wr rest q k v l B) (q' : Bool) : RbSt w (wr.setCell ⟨w.heap.size + 1, 1, none⟩ (.bool q')) rest q' k v l B :=
  h.step ((Upd.refl [] wr).wide.setOld 1 _) (h.rd.setQ q')
theorem RbSt.append {w wr wj : World} {rest : ByteArray} {q : Bool} {k : Int} {v v' : Value} {l : List Rc} {x : Rc} {B : Nat} (h : RbSt w wr rest q k v l B) (hx : x.ok ∧ x.draw.size ≤ 1000000) (u : Upd (foot v) (foot v') wr wj) (ho : wj.ownsRow 0 33 102 v' (l ++ [x]).length (rcVals (l ++ [x]))) :
    RbSt w (wj.setCell ⟨B, 1, none⟩ v') rest q k v' (l ++ [x]) B := by
  have hf : ∀ y, y ∈ foot v' → w.heap.size + 1 < y ∧ y ≠ B := by
    intro y hy
    rcases u.new y hy with h1 | h1
    · exact h.fo y h1
    · have h2 := (Array.getElem?_eq_some_iff.1 h.bb).1
      have := h.hB
      omega
  have keep : ∀ (g : Nat) (o : Obj), g ≤ w.heap.size + 1 ∨ g = B → wr.heap[g]? = some o → wj.heap[g]? = some o := by
    intro g o hg ho
    rw [u.block g (Array.getElem?_eq_some_iff.1 ho).1 (fun hm => by
      have := h.fo g hm
      rcases hg with hg | hg
      · omega
      · exact this.2 hg)]
    exact ho
  have hu : Upd [] [] w wj := ⟨u.os.trans h.up.os, u.tape.trans h.up.tape, u.output.trans h.up.output, Nat.le_trans h.up.size u.size, fun i hi _ => (u.block i (Nat.lt_of_lt_of_le hi h.up.size) (fun hm => by have := (h.fo i hm).1; omega)).trans (h.up.block i hi (by simp)), fun _ hk => absurd hk (by simp)⟩
  have hB := h.hB
  refine ⟨row_otherE (keep _ _ (.inl (by omega)) h.rz) (by omega) _, row_otherE (keep _ _ (.inl (Nat.le_refl _)) h.rd) (by omega) _, heap_setCell_same _ B 1 _ _ v' (keep _ _ (.inr rfl) h.bb), row_same ho (fun j hj => ?_), hf, hB, hu.setNew (p := ⟨B, 1, none⟩) (by show w.heap.size ≤ B; omega) _, fun y hy => ?_⟩
  · obtain ⟨o, ho⟩ : ∃ o, wj.heap[j]? = some o := ⟨_, Array.getElem?_eq_getElem (row_foot_lt ho j hj)⟩
    rw [ho, row_otherE ho (hf j hj).2 v']
  · rcases List.mem_append.1 hy with hy | hy
    · exact h.oks y hy
    · rw [List.mem_singleton] at hy
      rw [hy]
      exact hx
/-- How far a reader has still to go. -/
def rdM (w : World) (g : Nat) : Nat := match w.cell? ⟨g, 1, none⟩, w.cell? ⟨g, 0, none⟩ with
  | some (.bool false), some (.string r) => r.size + 1
  | _, _ => 0
theorem rdM_at {w : World} {g : Nat} {r : ByteArray} {q : Bool} (h : RdAt w g r q) : rdM w g = if q then 0 else r.size + 1 := by
  unfold rdM
  rw [h.cells.1, h.cells.2.1]
  cases q <;> rfl
/-- The receipts of a row, in a slice. -/
theorem rcs_of_row {w : World} {v : Value} {l : List Rc} (h : w.ownsRow 0 33 102 v l.length (rcVals l)) (ho : ∀ x ∈ l, x.ok ∧ x.draw.size ≤ 1000000) : ∃ ao cap, v = .slice ao l.length cap ∧ l.length ≤ cap ∧ RcsIn w ao l := by
  rcases h.2 with ⟨rfl, hn⟩ | ⟨g, cap, cur, rfl, _, hg, hc, _, hcs, ht⟩
  · refine ⟨none, 0, by rw [hn], by omega, fun k m hk => ?_⟩
    have := (List.getElem?_eq_some_iff.1 hk).1
    omega
  · refine ⟨_, cap, rfl, hc, fun k x hk => ⟨(ho x (List.mem_of_getElem? hk)).1, (ho x (List.mem_of_getElem? hk)).2, g, 0, rfl, (Array.getElem?_eq_some_iff.1 hg).1, ?_⟩⟩
    have hkl := (List.getElem?_eq_some_iff.1 hk).1
    have atk : ∀ (l : List Rc) (k : Nat) (x : Rc), (∀ y ∈ l, y.ok) → l[k]? = some x → ∀ j v, (rcV x)[j]? = some v → (rcVals l)[k * 102 + j]? = some v := by
      intro l
      clear h ho hg ht hk hkl hc
      induction l with
      | nil => intro k x _ h; simp at h
      | cons a r ih =>
        intro k x hok h j v hv
        have la := rcV_len (hok a (by simp))
        unfold rcVals at ih ⊢
        rw [List.flatMap_cons]
        cases k with
        | zero =>
          simp at h
          subst h
          rw [List.getElem?_append_left (by have := (List.getElem?_eq_some_iff.1 hv).1; omega)]
          simpa using hv
        | succ k =>
          rw [List.getElem?_append_right (by omega), la, show (k + 1) * 102 + j - 102 = k * 102 + j by omega]
          exact ih k x (fun y hy => hok y (List.mem_cons_of_mem _ hy)) (by simpa using h) j v hv
    intro j v hv
    have hjl := (List.getElem?_eq_some_iff.1 hv).1
    rw [rcV_len (ho x (List.mem_of_getElem? hk)).1] at hjl
    have e := atk l k x (fun y hy => (ho y hy).1) hk j v hv
    rw [Nat.zero_add, cell_of_row _ _ _ _ _ _ hg]
    rw [← ht, List.getElem?_take, if_pos (by omega), Array.getElem?_toList] at e
    exact e
end Go.Proofs.YtmnmhhbldbdpfaaGreatDoor

namespace Go.Proofs.YtmnmhhbldbdpfaaGreatDoor
open Go.RowKit
set_option maxRecDepth 100000

/-- What a reader of a batch's text gives. -/
def MkBt (s : List UInt8) (w : World) (e : Ending) (w' : World) : Prop := ∃ (k : Int) (l : List Rc) (v : Value) (ok : Bool), Hid (btOk s k l ok) ∧ (∀ x ∈ l, x.ok ∧ x.draw.size ≤ 1000000) ∧ Hid (w'.ownsRow 0 33 102 v l.length (rcVals l)) ∧ (∀ x, x ∈ foot v → w.heap.size ≤ x) ∧ e = .returned (.tuple #[.agg #[.int .i64 k, v], .bool ok]) ∧ Upd [] [] w w'

/-- A slice literal, its run known. -/
theorem wpList_buildRun {P : Program} {ops : Array Oper} {rest : List Oper} {o : Oper} {a : Act} {w : World} {Q : Exit → Act → World → Prop} (hg : o.guard = none) (t : TypeId) (len : Nat) (parts : Array (Nat × Operand)) (ho : o.op = .buildSlice t len parts)
    (v : Value) (w' : World) (hr : (Instr.buildSlice t len (parts.map fun (i, x) => (i, a.eval x))).run P w = .ok v w')
    (h : wpList P ops Q rest (a.put o.dst v) w') : wpList P ops Q (o :: rest) a w :=
  wpList_plain hg fun _ hK => by
    unfold Oper.wp execOp
    simp only [ho, Sem.run_bind, hr, Result.andThen_ok]
    exact hK _ _ h

set_option maxHeartbeats 4000000 in
theorem readBatch22_any (s : ByteArray) (w : World) (hs : s.size ≤ 5000) (htab : Tabs w) : Calls Tryz.prog 18 #[.string s] w (MkBt (bs s) w) := by
  have hmf : ∀ (fn : Fn) (first cap : Array Value) (w : World), (Instr.makeFunc fn first cap).run Tryz.prog w = .ok (.func fn first cap) w := fun _ _ _ _ => rfl
  have g0 : w.heap.size ≤ w.heap.size + 1 := by omega
  have hq1 : (ByteArray.mk #[32]).size = 1 := rfl
  obtain ⟨S, hS⟩ : ∃ S : ByteArray, s ++ ByteArray.mk #[32] = S := ⟨_, rfl⟩
  have hSs : S.size = s.size + 1 := by rw [← hS, ByteArray.size_append]; rfl
  have HSB : Hid (bs S = bs s ++ [32]) := by show _ = _; rw [← hS, bs_append]; rfl
  have z0 : ((w.alloc (.cells #[.int .i64 0, .slice none 0 0] 46)).alloc (.cells #[.string S, .bool false] 85)).heap[w.heap.size]? = some (.cells #[.int .i64 0, .slice none 0 0] 46 (0, 0)) := row_updH (heap_alloc_new w _) ((Upd.refl [] _).alloc _)
  have d0 : RdAt ((w.alloc (.cells #[.int .i64 0, .slice none 0 0] 46)).alloc (.cells #[.string S, .bool false] 85)) (w.heap.size + 1) S false := by
    have h := heap_alloc_new (w.alloc (.cells #[.int .i64 0, .slice none 0 0] 46)) (.cells #[.string S, .bool false] 85)
    rw [World.size_alloc] at h
    exact h
  have u0 : Upd [] [] w ((w.alloc (.cells #[.int .i64 0, .slice none 0 0] 46)).alloc (.cells #[.string S, .bool false] 85)) := ((Upd.refl _ _).alloc _).alloc _
  go_enter Tryz.func18, Tryz.ntmps18
  go_wp2_with fail
  refine (word_any (w.heap.size + 1) S false _ d0 (by omega) (htab.upd u0)).mono ?_
  rintro e w1 ⟨t1, r1, q1, H1, lt1, l1, rfl, D1, hu⟩
  have z1 := row_updG z0 hu (by omega)
  have u1 := u0.own2 hu g0
  clear hu z0 u0 d0
  go_wp2_with fail
  refine (rdNum_any (w.heap.size + 1) r1 q1 w1 w u1 g0 D1.out (by omega) htab).mono ?_
  rintro e w2 ⟨k, r2, q2, H2, hk, l2, rfl, D2, hu⟩
  have z2 := row_updG z1 hu (by omega)
  have u2 := u1.own2 hu g0
  have hw2 : w.heap.size + 1 < w2.heap.size := (Array.getElem?_eq_some_iff.1 D2.out).1
  have S2 : RbSt w (w2.alloc (.cells #[.int .i64 k, .slice none 0 0] 46)) r2 q2 k (.slice none 0 0) [] w2.heap.size :=
    ⟨row_updH z2 ((Upd.refl [] _).alloc _), D2.out.upd ((Upd.refl [] _).alloc _), heap_alloc_new _ _, World.ownsRow_nil _ _ _ _, (fun x h => by cases h), hw2, u2.alloc _, (fun x h => by cases h)⟩
  clear hu z1 z2 u1 u2 D1 D2
  go_wp2_with fail
  refine (rdNum_any (w.heap.size + 1) r2 q2 _ w S2.up g0 S2.rd (by omega) htab).mono ?_
  rintro e w3 ⟨n, r3, q3, H3, hn, l3, rfl, D3, hu⟩
  have S3 := S2.step hu D3.out
  obtain ⟨B, hB⟩ : ∃ B, B = w2.heap.size := ⟨_, rfl⟩
  rw [← hB] at S3 ⊢
  clear hu S2 D3 hw2 hB w2
  have HST : Hid (∀ k' l', i64in k' → (∀ x ∈ l', Rc.ok x) → bs s = batchL k' l' → k = k' ∧ n = (l'.length : Int) ∧ q3 = false ∧ bs r3 = tailT l') := by
    intro k' l' hk' hl' e
    have e0 : bs S = wBa ++ 32 :: (Lib.itoa k' ++ 32 :: (Lib.itoa (l'.length : Int) ++ 32 :: tailT l')) := by rw [HSB.out, e, batchL_tail]
    have hlen : l'.length ≤ 5000 := by
      have h1 := recsT_many l'
      have h2 := congrArg List.length e
      rw [bs_length] at h2
      unfold batchL at h2
      simp only [List.length_append, List.length_cons] at h2
      omega
    obtain ⟨_, a1, a2⟩ := H1.out _ _ (by decide) e0
    obtain ⟨b0, b1, b2⟩ := H2.out _ _ hk' a1
    obtain ⟨c0, c1, c2⟩ := H3.out _ _ (by unfold i64in; omega) b1
    exact ⟨b0, c0, by rw [c2, b2, a2], c1⟩
  have S3H := Lib.hid S3
  clear H1 H2 H3 S3
  go_wp2_with fail
  go_loopw [10, 11, 12] (fun iv _ _ wr => ∃ (j : Nat) (rest : ByteArray) (q : Bool) (v : Value) (l : List Rc), iv = .int .i64 (j : Int) ∧ l.length = j ∧ j ≤ S.size + 1 ∧ (q = false → j + rest.size ≤ S.size) ∧ rest.size ≤ S.size ∧ Hid (RbSt w wr rest q k v l B) ∧ Hid (∀ k' l', i64in k' → (∀ x ∈ l', Rc.ok x) → bs s = batchL k' l' → k = k' ∧ n = (l'.length : Int) ∧ q = false ∧ j ≤ l'.length ∧ l = l'.take j ∧ bs rest = tailT (l'.drop j))) (fun _ _ _ wr => rdM wr (w.heap.size + 1))
  case atStart => exact ⟨0, r3, q3, _, [], rfl, rfl, Nat.zero_le _, fun _ => by omega, by omega, S3H.out, fun k' l' hk' hl' e => (by obtain ⟨a, b, c, d⟩ := HST.out k' l' hk' hl' e; exact ⟨a, b, c, Nat.zero_le _, rfl, d⟩)⟩
  case round =>
    obtain ⟨j, rest, q, v, l, rfl, hlj, hjS, hqr, hrs, HS, HH⟩ := hrel
    obtain ⟨k0, k1, f0, f1⟩ := HS.out.rd.cells
    by_cases hgo : (j : Int) < n ∧ q = false
    · obtain ⟨hlt, rfl⟩ := hgo
      have hjr := hqr rfl
      have dj : decide ((j : Int) < n) = true := decide_eq_true hlt
      have HRM := Lib.hid (rdM_at HS.out.rd)
      go_wp2_with fail
      refine (sized_any (w.heap.size + 1) rest false wr w HS.out.up g0 HS.out.rd (by omega) htab).mono ?_
      rintro e wA ⟨t, r', q', HZ, lt, lr, lq, rfl, DA, hu⟩
      have SA := Lib.hid (HS.out.step hu DA.out)
      clear hu DA k0 k1 f0 f1
      go_wp2_with fail
      refine (read22_any t wA (by omega) (htab.upd SA.out.up)).mono ?_
      rintro e wB ⟨X, ok, HX, rfl, hq⟩
      have SB := Lib.hid (SA.out.upd hq)
      have hXo : X.ok := HX.out.1
      have hXd : X.draw.size ≤ 1000000 := by
        cases ok with
        | true =>
          have h1 := congrArg List.length (HX.out.2.1 rfl)
          rw [bs_length] at h1
          unfold textL bodyL at h1
          simp only [List.length_append, List.length_cons, bs_length] at h1
          omega
        | false => rw [(HX.out.2.2 rfl).1]; exact Nat.zero_le _
      obtain ⟨C, hC⟩ : ∃ C, C = (rcV X).toArray := ⟨_, rfl⟩
      rw [← hC]
      have HCI : Hid ((Tryz.prog.info? 33).map (·.size) = some C.size) := by show _ = _; rw [hC]; exact rcSz hXo
      have HCO : Hid (C.all (·.oneCell') = true) := by show _ = _; rw [hC]; exact rcOne _
      have HCZ : Hid ((Tryz.zeroCells33).size = C.size) := by show _ = _; rw [hC]; simp [rcV_len hXo]
      have hz5 : (wB.alloc (.cells Tryz.zeroCells33 33)).heap[wB.heap.size]? = some (.cells Tryz.zeroCells33 33 (0, 0)) := heap_alloc_new _ _
      have hr5 := setRow_heap _ _ _ C _ _ hz5
      have hu5 : Upd [] [] wB ((wB.alloc (.cells Tryz.zeroCells33 33)).setRow wB.heap.size C) := ((Upd.refl _ _).alloc _).setRowNew (Nat.le_refl _) _
      have hGB : w.heap.size + 1 < wB.heap.size := (Array.getElem?_eq_some_iff.1 SB.out.rd).1
      obtain ⟨wC, hwC⟩ : ∃ wC, (wB.alloc (.cells Tryz.zeroCells33 33)).setRow wB.heap.size C = wC := ⟨_, rfl⟩
      rw [hwC] at hr5 hu5
      have HWC := Lib.hid hwC
      have HZ5 := Lib.hid hz5
      have SC := Lib.hid (SB.out.upd hu5)
      have hBB := (Array.getElem?_eq_some_iff.1 SB.out.bb).1
      have hBG := SB.out.hB
      have MK : Hid (∀ Q : Bool, ∃ (a' : Option Addr) (n' c' : Nat) (wE : World), Hid ((Builtin.append_ #[44, 44] 44 #[v, .slice (some ⟨(wC.setCell ⟨w.heap.size + 1, 1, none⟩ (.bool Q)).heap.size, 0, none⟩) 1 1]).run Tryz.prog ((wC.setCell ⟨w.heap.size + 1, 1, none⟩ (.bool Q)).alloc (.cells C 33)) = .ok (.slice a' n' c') wE) ∧ Hid (RbSt w (wE.setCell ⟨B, 1, none⟩ (.slice a' n' c')) r' Q k (.slice a' n' c') (l ++ [X]) B) ∧ Hid ((wC.setCell ⟨w.heap.size + 1, 1, none⟩ (.bool Q)).heap[wB.heap.size]? = some (.cells C 33 (0, 0))) ∧ Hid (wE.heap[B]? = some (.cells #[.int .i64 k, v] 46 (0, 0)))) := by
        intro Q
        have SD := SC.out.setQ Q
        obtain ⟨v', wE, hrun, hown, hup⟩ := append_rc (wC.setCell ⟨w.heap.size + 1, 1, none⟩ (.bool Q)) v l X hXo SD.own (by omega)
        rw [hC]
        obtain ⟨a', n', c', rfl⟩ : ∃ a' n' c', v' = .slice a' n' c' := by
          rcases hown.2 with ⟨h, _⟩ | ⟨g, cap, cur, h, _⟩
          · exact ⟨_, _, _, h⟩
          · exact ⟨_, _, _, h⟩
        refine ⟨a', n', c', wE, hrun, SD.append ⟨hXo, hXd⟩ hup hown, ?_, ?_⟩
        · rw [← hC]
          exact row_otherE hr5 (by omega) _
        · show _ = _
          rw [hup.block B (Array.getElem?_eq_some_iff.1 SD.bb).1 (fun hm => (SD.fo B hm).2 rfl)]
          exact SD.bb
      have HBR : Hid (∀ W : World, (Instr.buildSlice 44 1 #[(0, .agg C)]).run Tryz.prog W = .ok (.slice (some ⟨W.heap.size, 0, none⟩) 1 1) (W.alloc (.cells C 33))) := by
        intro W
        rw [hC]
        exact rc_build X hXo W
      have HNX : Hid (∀ k' l', i64in k' → (∀ x ∈ l', Rc.ok x) → bs s = batchL k' l' → k = k' ∧ n = (l'.length : Int) ∧ q' = false ∧ ok = true ∧ j + 1 ≤ l'.length ∧ l ++ [X] = l'.take (j + 1) ∧ bs r' = tailT (l'.drop (j + 1))) := by
        intro k' l' hk' hl' e
        obtain ⟨a1, a2, _, a4, a5, a6⟩ := HH.out k' l' hk' hl' e
        have hjl : j < l'.length := by omega
        rw [List.drop_eq_getElem_cons hjl, tailT] at a6
        have htl : (textL l'[j]).length ≤ 9223372036854775807 := by
          have h1 := congrArg List.length a6
          rw [bs_length] at h1
          simp only [List.length_append, List.length_cons] at h1
          omega
        obtain ⟨b1, b2, b3⟩ := HZ.out _ _ htl (by first | rfl | trivial) a6
        have hxx := HX.out
        rw [b1] at hxx
        obtain ⟨c1, c2⟩ := rcOk_text (hl' _ (List.getElem_mem hjl)) hxx
        refine ⟨a1, a2, b3, c2, by omega, ?_, b2⟩
        rw [List.take_add_one, List.getElem?_eq_getElem hjl, a5, c1]
        rfl
      clear hC hr5 hu5 hz5 hwC SA SB HX HZ hq HS HH
      obtain ⟨k0, k1, f0, f1⟩ := SC.out.rd.cells
      cases q' <;> cases ok
      · obtain ⟨a', n', c', wE, HRN, SE, HXR, HBB⟩ := MK.out true
        have SDc := (SC.out.setQ true)
        have cb := World.cell?_of_block (w := wC.setCell ⟨w.heap.size + 1, 1, none⟩ (.bool true)) (w' := wC.setCell ⟨w.heap.size + 1, 1, none⟩ (.bool true)) (a := ⟨B, 1, none⟩) rfl
        have cv : (wC.setCell ⟨w.heap.size + 1, 1, none⟩ (.bool true)).cell? ⟨B, 1, none⟩ = some v := by rw [cell_of_row _ _ _ _ _ _ SDc.bb]; rfl
        have ce : wE.cell? ⟨B, 1, none⟩ = some v := by rw [cell_of_row _ _ _ _ _ _ HBB.out]; rfl
        have fe : wE.frozen? ⟨B, 1, none⟩ = false := frozen_of_row _ _ _ _ _ HBB.out
        have HM2 := Lib.hid (rdM_at SE.out.rd)
        clear SDc cb
        go_wp2_with (first | (refine wpList_store_rowAs rfl 33 _ _ rfl wB.heap.size C rfl rfl _ _ HZ5.out HCI.out HCZ.out HCO.out wC HWC.out ?_) | (refine wpList_load_row rfl 33 _ rfl wB.heap.size rfl _ C _ _ HXR.out Tryz.underlying33 rfl HCI.out ?_) | (refine wpList_buildRun rfl 44 1 _ rfl _ _ (Eq.trans (congrArg (fun z => (Instr.buildSlice 44 1 z).run Tryz.prog (wC.setCell ⟨w.heap.size + 1, 1, none⟩ (.bool true))) (by kernel_rfl)) (HBR.out _)) ?_) | (refine wpList_append_run _ rfl _ _ _ _ rfl _ _ (.slice a' n' c') wE rfl rfl HRN.out ?_))
        refine ⟨⟨j + 1, r', true, .slice a' n' c', l ++ [X], by first | rfl | go_num, by simp [hlj], by omega, fun h => (by first | exact absurd h (by decide) | (have hlq := lq (by first | rfl | trivial); omega)), by omega, SE, fun k' l' hk' hl' e => (by obtain ⟨a1, a2, a3, a4, a5, a6, a7⟩ := HNX.out k' l' hk' hl' e; first | exact absurd a3 (by decide) | exact absurd a4 (by decide) | exact ⟨a1, a2, rfl, a5, a6, a7⟩)⟩, ?_⟩
        show rdM _ _ < rdM _ _
        rw [HM2.out, HRM.out]
        simp only [if_true, if_false, Bool.false_eq_true]
        first
          | omega
          | (have hlq := lq (by first | rfl | trivial); omega)
      · obtain ⟨a', n', c', wE, HRN, SE, HXR, HBB⟩ := MK.out false
        have SDc := (SC.out.setQ false)
        have cb := World.cell?_of_block (w := wC.setCell ⟨w.heap.size + 1, 1, none⟩ (.bool false)) (w' := wC.setCell ⟨w.heap.size + 1, 1, none⟩ (.bool false)) (a := ⟨B, 1, none⟩) rfl
        have cv : (wC.setCell ⟨w.heap.size + 1, 1, none⟩ (.bool false)).cell? ⟨B, 1, none⟩ = some v := by rw [cell_of_row _ _ _ _ _ _ SDc.bb]; rfl
        have ce : wE.cell? ⟨B, 1, none⟩ = some v := by rw [cell_of_row _ _ _ _ _ _ HBB.out]; rfl
        have fe : wE.frozen? ⟨B, 1, none⟩ = false := frozen_of_row _ _ _ _ _ HBB.out
        have HM2 := Lib.hid (rdM_at SE.out.rd)
        clear SDc cb
        go_wp2_with (first | (refine wpList_store_rowAs rfl 33 _ _ rfl wB.heap.size C rfl rfl _ _ HZ5.out HCI.out HCZ.out HCO.out wC HWC.out ?_) | (refine wpList_load_row rfl 33 _ rfl wB.heap.size rfl _ C _ _ HXR.out Tryz.underlying33 rfl HCI.out ?_) | (refine wpList_buildRun rfl 44 1 _ rfl _ _ (Eq.trans (congrArg (fun z => (Instr.buildSlice 44 1 z).run Tryz.prog (wC.setCell ⟨w.heap.size + 1, 1, none⟩ (.bool false))) (by kernel_rfl)) (HBR.out _)) ?_) | (refine wpList_append_run _ rfl _ _ _ _ rfl _ _ (.slice a' n' c') wE rfl rfl HRN.out ?_))
        refine ⟨⟨j + 1, r', false, .slice a' n' c', l ++ [X], by first | rfl | go_num, by simp [hlj], by omega, fun h => (by first | exact absurd h (by decide) | (have hlq := lq (by first | rfl | trivial); omega)), by omega, SE, fun k' l' hk' hl' e => (by obtain ⟨a1, a2, a3, a4, a5, a6, a7⟩ := HNX.out k' l' hk' hl' e; first | exact absurd a3 (by decide) | exact absurd a4 (by decide) | exact ⟨a1, a2, rfl, a5, a6, a7⟩)⟩, ?_⟩
        show rdM _ _ < rdM _ _
        rw [HM2.out, HRM.out]
        simp only [if_false, Bool.false_eq_true]
        first
          | omega
          | (have hlq := lq (by first | rfl | trivial); omega)
      · obtain ⟨a', n', c', wE, HRN, SE, HXR, HBB⟩ := MK.out true
        have SDc := (SC.out.setQ true)
        have cb := World.cell?_of_block (w := wC.setCell ⟨w.heap.size + 1, 1, none⟩ (.bool true)) (w' := wC.setCell ⟨w.heap.size + 1, 1, none⟩ (.bool true)) (a := ⟨B, 1, none⟩) rfl
        have cv : (wC.setCell ⟨w.heap.size + 1, 1, none⟩ (.bool true)).cell? ⟨B, 1, none⟩ = some v := by rw [cell_of_row _ _ _ _ _ _ SDc.bb]; rfl
        have ce : wE.cell? ⟨B, 1, none⟩ = some v := by rw [cell_of_row _ _ _ _ _ _ HBB.out]; rfl
        have fe : wE.frozen? ⟨B, 1, none⟩ = false := frozen_of_row _ _ _ _ _ HBB.out
        have HM2 := Lib.hid (rdM_at SE.out.rd)
        clear SDc cb
        go_wp2_with (first | (refine wpList_store_rowAs rfl 33 _ _ rfl wB.heap.size C rfl rfl _ _ HZ5.out HCI.out HCZ.out HCO.out wC HWC.out ?_) | (refine wpList_load_row rfl 33 _ rfl wB.heap.size rfl _ C _ _ HXR.out Tryz.underlying33 rfl HCI.out ?_) | (refine wpList_buildRun rfl 44 1 _ rfl _ _ (Eq.trans (congrArg (fun z => (Instr.buildSlice 44 1 z).run Tryz.prog (wC.setCell ⟨w.heap.size + 1, 1, none⟩ (.bool true))) (by kernel_rfl)) (HBR.out _)) ?_) | (refine wpList_append_run _ rfl _ _ _ _ rfl _ _ (.slice a' n' c') wE rfl rfl HRN.out ?_))
        refine ⟨⟨j + 1, r', true, .slice a' n' c', l ++ [X], by first | rfl | go_num, by simp [hlj], by omega, fun h => (by first | exact absurd h (by decide) | (have hlq := lq (by first | rfl | trivial); omega)), by omega, SE, fun k' l' hk' hl' e => (by obtain ⟨a1, a2, a3, a4, a5, a6, a7⟩ := HNX.out k' l' hk' hl' e; first | exact absurd a3 (by decide) | exact absurd a4 (by decide) | exact ⟨a1, a2, rfl, a5, a6, a7⟩)⟩, ?_⟩
        show rdM _ _ < rdM _ _
        rw [HM2.out, HRM.out]
        simp only [if_true, if_false, Bool.false_eq_true]
        first
          | omega
          | (have hlq := lq (by first | rfl | trivial); omega)
      · obtain ⟨a', n', c', wE, HRN, SE, HXR, HBB⟩ := MK.out true
        have SDc := (SC.out.setQ true)
        have cb := World.cell?_of_block (w := wC.setCell ⟨w.heap.size + 1, 1, none⟩ (.bool true)) (w' := wC.setCell ⟨w.heap.size + 1, 1, none⟩ (.bool true)) (a := ⟨B, 1, none⟩) rfl
        have cv : (wC.setCell ⟨w.heap.size + 1, 1, none⟩ (.bool true)).cell? ⟨B, 1, none⟩ = some v := by rw [cell_of_row _ _ _ _ _ _ SDc.bb]; rfl
        have ce : wE.cell? ⟨B, 1, none⟩ = some v := by rw [cell_of_row _ _ _ _ _ _ HBB.out]; rfl
        have fe : wE.frozen? ⟨B, 1, none⟩ = false := frozen_of_row _ _ _ _ _ HBB.out
        have HM2 := Lib.hid (rdM_at SE.out.rd)
        clear SDc cb
        go_wp2_with (first | (refine wpList_store_rowAs rfl 33 _ _ rfl wB.heap.size C rfl rfl _ _ HZ5.out HCI.out HCZ.out HCO.out wC HWC.out ?_) | (refine wpList_load_row rfl 33 _ rfl wB.heap.size rfl _ C _ _ HXR.out Tryz.underlying33 rfl HCI.out ?_) | (refine wpList_buildRun rfl 44 1 _ rfl _ _ (Eq.trans (congrArg (fun z => (Instr.buildSlice 44 1 z).run Tryz.prog (wC.setCell ⟨w.heap.size + 1, 1, none⟩ (.bool true))) (by kernel_rfl)) (HBR.out _)) ?_) | (refine wpList_append_run _ rfl _ _ _ _ rfl _ _ (.slice a' n' c') wE rfl rfl HRN.out ?_))
        refine ⟨⟨j + 1, r', true, .slice a' n' c', l ++ [X], by first | rfl | go_num, by simp [hlj], by omega, fun h => (by first | exact absurd h (by decide) | (have hlq := lq (by first | rfl | trivial); omega)), by omega, SE, fun k' l' hk' hl' e => (by obtain ⟨a1, a2, a3, a4, a5, a6, a7⟩ := HNX.out k' l' hk' hl' e; first | exact absurd a3 (by decide) | exact absurd a4 (by decide) | exact ⟨a1, a2, rfl, a5, a6, a7⟩)⟩, ?_⟩
        show rdM _ _ < rdM _ _
        rw [HM2.out, HRM.out]
        simp only [if_true, if_false, Bool.false_eq_true]
        first
          | omega
          | (have hlq := lq (by first | rfl | trivial); omega)
    · have hz := HS.out.rz
      have c0 : wr.cell? ⟨w.heap.size, 0, none⟩ = some (.int .i64 0) := by rw [cell_of_row _ _ _ _ _ _ hz]; rfl
      have c1 : wr.cell? ⟨w.heap.size, 1, none⟩ = some (.slice none 0 0) := by rw [cell_of_row _ _ _ _ _ _ hz]; rfl
      have e0 : wr.frozen? ⟨w.heap.size, 0, none⟩ = false := frozen_of_row _ _ _ _ _ hz
      have e1 : wr.frozen? ⟨w.heap.size, 1, none⟩ = false := frozen_of_row _ _ _ _ _ hz
      have UPX := HS.out.up
      cases q with
      | true =>
        have HBAD : Hid (btOk (bs s) 0 [] false) := ⟨⟨by decide, by decide⟩, (fun x h => by cases h), (fun h => by cases h), fun _ => ⟨rfl, rfl, fun k' l' hk' hl' e => by have := (HH.out k' l' hk' hl' e).2.2.1; cases this⟩⟩
        clear hgo
        by_cases hlt : (j : Int) < n
        · have dj : decide ((j : Int) < n) = true := decide_eq_true hlt
          go_wp2_with fail
          refine bodyPost_ret (v := .tuple #[.agg #[.int .i64 0, .slice none 0 0], .bool false]) (by simp [results, Tryz.results18, go_sem, c0, c1]) rfl ⟨0, [], .slice none 0 0, false, HBAD.out, (fun x h => by cases h), World.ownsRow_nil _ _ _ _, (fun x h => by cases h), rfl, (UPX.setNew (p := ⟨w.heap.size, 0, none⟩) (Nat.le_refl _) _).setNew (p := ⟨w.heap.size, 1, none⟩) (Nat.le_refl _) _⟩
        · have dj : decide ((j : Int) < n) = false := decide_eq_false hlt
          go_wp2_with fail
          refine bodyPost_ret (v := .tuple #[.agg #[.int .i64 0, .slice none 0 0], .bool false]) (by simp [results, Tryz.results18, go_sem, c0, c1]) rfl ⟨0, [], .slice none 0 0, false, HBAD.out, (fun x h => by cases h), World.ownsRow_nil _ _ _ _, (fun x h => by cases h), rfl, (UPX.setNew (p := ⟨w.heap.size, 0, none⟩) (Nat.le_refl _) _).setNew (p := ⟨w.heap.size, 1, none⟩) (Nat.le_refl _) _⟩
      | false =>
        have hlt : ¬ (j : Int) < n := fun h => hgo ⟨h, rfl⟩
        have dj : decide ((j : Int) < n) = false := decide_eq_false hlt
        have HEND : Hid (∀ k' l', i64in k' → (∀ x ∈ l', Rc.ok x) → bs s = batchL k' l' → k = k' ∧ l = l' ∧ bs rest = []) := by
          intro k' l' hk' hl' e
          obtain ⟨a1, a2, _, a4, a5, a6⟩ := HH.out k' l' hk' hl' e
          have hj : j = l'.length := by omega
          rw [hj, List.drop_length] at a6
          rw [hj, List.take_length] at a5
          exact ⟨a1, a5, a6⟩
        clear hgo hlt
        subst hlj
        by_cases hre : rest = ByteArray.mk #[]
        · subst hre
          obtain ⟨ao, cap, rfl, hcap, hin⟩ := rcs_of_row HS.out.own HS.out.oks
          have HCT := Lib.hid (batchText_any k l ao cap wr hk (by omega) hcap hin (htab.upd UPX))
          have b0 : wr.cell? ⟨B, 0, none⟩ = some (.int .i64 k) := by rw [cell_of_row _ _ _ _ _ _ HS.out.bb]; rfl
          have b1 : wr.cell? ⟨B, 1, none⟩ = some (.slice ao l.length cap) := by rw [cell_of_row _ _ _ _ _ _ HS.out.bb]; rfl
          go_wp2_with fail
          refine HCT.out.mono ?_
          rintro e wF ⟨y, HY, hy, rfl, hq⟩
          have HSF := Lib.hid (HS.out.upd hq)
          have hzF := HSF.out.rz
          have UPF := HSF.out.up
          clear k0 k1 f0 f1 c0 c1 e0 e1 b0 b1 hz UPX hq HCT
          have c0 : wF.cell? ⟨w.heap.size, 0, none⟩ = some (.int .i64 0) := by rw [cell_of_row _ _ _ _ _ _ hzF]; rfl
          have c1 : wF.cell? ⟨w.heap.size, 1, none⟩ = some (.slice none 0 0) := by rw [cell_of_row _ _ _ _ _ _ hzF]; rfl
          have e0 : wF.frozen? ⟨w.heap.size, 0, none⟩ = false := frozen_of_row _ _ _ _ _ hzF
          have e1 : wF.frozen? ⟨w.heap.size, 1, none⟩ = false := frozen_of_row _ _ _ _ _ hzF
          have b0 : wF.cell? ⟨B, 0, none⟩ = some (.int .i64 k) := by rw [cell_of_row _ _ _ _ _ _ HSF.out.bb]; rfl
          have b1 : wF.cell? ⟨B, 1, none⟩ = some (.slice ao l.length cap) := by rw [cell_of_row _ _ _ _ _ _ HSF.out.bb]; rfl
          by_cases hys : y = s
          · subst hys
            have HGOOD : Hid (btOk (bs y) k l true) := ⟨hk, fun x hx => (HSF.out.oks x hx).1, fun _ => HY.out, fun h => by cases h⟩
            have HOW : Hid (((wF.setCell ⟨w.heap.size, 0, none⟩ (.int .i64 k)).setCell ⟨w.heap.size, 1, none⟩ (.slice ao l.length cap)).ownsRow 0 33 102 (.slice ao l.length cap) l.length (rcVals l)) := by
              refine row_same HSF.out.own (fun i hi => ?_)
              obtain ⟨o, ho⟩ : ∃ o, wF.heap[i]? = some o := ⟨_, Array.getElem?_eq_getElem (row_foot_lt HSF.out.own i hi)⟩
              have hne : i ≠ w.heap.size := by have := (HSF.out.fo i hi).1; omega
              rw [ho]
              exact row_otherE (row_otherE ho hne _) hne _
            have HFO := Lib.hid (fun (x : Nat) (hx : x ∈ foot (.slice ao l.length cap)) => (show w.heap.size ≤ x from by have := (HSF.out.fo x hx).1; omega))
            have HOK := Lib.hid HSF.out.oks
            go_wp2_with fail
            refine bodyPost_ret (v := .tuple #[.agg #[.int .i64 k, .slice ao l.length cap], .bool true]) (by simp [results, Tryz.results18, go_sem, c0, c1]) rfl ⟨k, l, .slice ao l.length cap, true, HGOOD.out, HOK.out, HOW.out, HFO.out, rfl, (UPF.setNew (p := ⟨w.heap.size, 0, none⟩) (Nat.le_refl _) _).setNew (p := ⟨w.heap.size, 1, none⟩) (Nat.le_refl _) _⟩
          · have HBAD : Hid (btOk (bs s) 0 [] false) := ⟨⟨by decide, by decide⟩, (fun x h => by cases h), (fun h => by cases h), fun _ => ⟨rfl, rfl, fun k' l' hk' hl' e => by
              obtain ⟨a1, a2, _⟩ := HEND.out k' l' hk' hl' e
              rw [← a1, ← a2, ← HY.out] at e
              exact hys (bs_injE e.symm)⟩⟩
            have hb4 : (y.toList == s.toList) = false := beq_eq_false_iff_ne.2 (fun e => hys (bs_injE (by rw [ByteArray.toList_eq, ByteArray.toList_eq] at e; exact e)))
            have UPX := UPF
            go_wp2_with fail
            refine bodyPost_ret (v := .tuple #[.agg #[.int .i64 0, .slice none 0 0], .bool false]) (by simp [results, Tryz.results18, go_sem, c0, c1]) rfl ⟨0, [], .slice none 0 0, false, HBAD.out, (fun x h => by cases h), World.ownsRow_nil _ _ _ _, (fun x h => by cases h), rfl, (UPX.setNew (p := ⟨w.heap.size, 0, none⟩) (Nat.le_refl _) _).setNew (p := ⟨w.heap.size, 1, none⟩) (Nat.le_refl _) _⟩
        · have HBAD : Hid (btOk (bs s) 0 [] false) := ⟨⟨by decide, by decide⟩, (fun x h => by cases h), (fun h => by cases h), fun _ => ⟨rfl, rfl, fun k' l' hk' hl' e => hre (bs_injE ((HEND.out k' l' hk' hl' e).2.2))⟩⟩
          have hl0 : ¬ rest.toList = [] := fun e => hre (bs_injE (by rw [ByteArray.toList_eq] at e; exact e))
          have hb4 : (rest.toList == []) = false := beq_eq_false_iff_ne.2 hl0
          have hb5 : rest.toList.isEmpty = false := by simpa using hl0
          have hb6 : (rest.toList == (ByteArray.mk #[]).toList) = false := beq_eq_false_iff_ne.2 (fun e => hl0 (by rw [e, ByteArray.toList_eq]))
          clear hl0
          go_wp2_with fail
          refine bodyPost_ret (v := .tuple #[.agg #[.int .i64 0, .slice none 0 0], .bool false]) (by simp [results, Tryz.results18, go_sem, c0, c1]) rfl ⟨0, [], .slice none 0 0, false, HBAD.out, (fun x h => by cases h), World.ownsRow_nil _ _ _ _, (fun x h => by cases h), rfl, (UPX.setNew (p := ⟨w.heap.size, 0, none⟩) (Nat.le_refl _) _).setNew (p := ⟨w.heap.size, 1, none⟩) (Nat.le_refl _) _⟩
end Go.Proofs.YtmnmhhbldbdpfaaGreatDoor

namespace Go.Proofs.YtmnmhhbldbdpfaaGreatDoor
set_option maxRecDepth 100000

theorem snoc_ind {α : Type} {p : List α → Prop} (h0 : p []) (h1 : ∀ l b, p l → p (l ++ [b])) (l : List α) : p l := by
  rw [← List.reverse_reverse l]
  induction l.reverse with
  | nil => exact h0
  | cons a r ih => rw [List.reverse_cons]; exact h1 _ _ ih

/-- The number that bytes spell, the most significant one first. -/
def natB (l : List UInt8) : Nat := l.foldl (fun a b => a * 256 + b.toNat) 0
theorem natB_nil : natB [] = 0 := rfl
theorem natB_snoc (l : List UInt8) (b : UInt8) : natB (l ++ [b]) = natB l * 256 + b.toNat := by simp [natB]
theorem natB_append (a : List UInt8) : ∀ b, natB (a ++ b) = natB a * 256 ^ b.length + natB b := by
  intro b
  induction b using snoc_ind with
  | h0 => simp [natB_nil]
  | h1 l b ih =>
    rw [← List.append_assoc, natB_snoc, ih, natB_snoc, List.length_append, List.length_singleton, Nat.pow_succ, Nat.add_mul, Nat.mul_assoc, Nat.add_assoc]
theorem natB_cons (a : UInt8) (r : List UInt8) : natB (a :: r) = a.toNat * 256 ^ r.length + natB r := by
  have := natB_append [a] r
  simpa [natB] using this
theorem natB_take_le (l : List UInt8) (k : Nat) : natB (l.take k) ≤ natB l := by
  have h := natB_append (l.take k) (l.drop k)
  rw [List.take_append_drop] at h
  have h1 : natB (l.take k) * 1 ≤ natB (l.take k) * 256 ^ (l.drop k).length := Nat.mul_le_mul_left _ (Nat.pow_pos (by omega))
  omega
theorem natB_lt (l : List UInt8) : natB l < 256 ^ l.length := by
  induction l using snoc_ind with
  | h0 => simp [natB_nil]
  | h1 l b ih =>
    have := b.toNat_lt
    rw [natB_snoc, List.length_append, List.length_singleton, Nat.pow_succ]
    omega

/-- The bytes of a number, without zeros in front. -/
def be (n : Nat) : List UInt8 := if n = 0 then [] else be (n / 256) ++ [UInt8.ofNat (n % 256)]
termination_by n
decreasing_by omega
theorem be_zero : be 0 = [] := by rw [be]; rfl
theorem be_pos {n : Nat} (h : 0 < n) : be n = be (n / 256) ++ [UInt8.ofNat (n % 256)] := by rw [be, if_neg (by omega)]
theorem be_snoc (x : Nat) (b : UInt8) (h : 0 < x * 256 + b.toNat) : be (x * 256 + b.toNat) = be x ++ [b] := by
  have hb := b.toNat_lt
  rw [be_pos h, show (x * 256 + b.toNat) / 256 = x by omega, show (x * 256 + b.toNat) % 256 = b.toNat by omega, UInt8.ofNat_toNat]
theorem natB_be (n : Nat) : natB (be n) = n := by
  induction n using Nat.strongRecOn with
  | ind n ih =>
    by_cases h : n = 0
    · subst h; rw [be_zero]; rfl
    · rw [be_pos (by omega), natB_snoc, ih (n / 256) (by omega), UInt8.toNat_ofNat']
      omega
theorem be_inj {m n : Nat} (h : be m = be n) : m = n := by rw [← natB_be m, h, natB_be]
theorem be_len (n : Nat) : n < 256 ^ (be n).length := by
  have := natB_lt (be n)
  rwa [natB_be] at this
theorem be_len_le : ∀ (k n : Nat), n < 256 ^ k → (be n).length ≤ k
  | 0, n, h => by
    have : n = 0 := by simpa using h
    subst this; rw [be_zero]; simp
  | k + 1, n, h => by
    by_cases h0 : n = 0
    · subst h0; rw [be_zero]; simp
    · rw [be_pos (by omega), List.length_append, List.length_singleton]
      have := be_len_le k (n / 256) (by rw [Nat.pow_succ] at h; omega)
      omega
theorem be_ne {n : Nat} (h : 0 < n) : 0 < (be n).length := by
  rw [be_pos h]; simp
theorem be_small {n k : Nat} (h : (be n).length ≤ k) : n < 256 ^ k := Nat.lt_of_lt_of_le (be_len n) (Nat.pow_le_pow_right (by omega) h)

/-- Without zeros in front. -/
def canonL (l : List UInt8) : List UInt8 := l.dropWhile (· == 0)
theorem canon_be (l : List UInt8) : canonL l = be (natB l) := by
  induction l using snoc_ind with
  | h0 => rw [natB_nil, be_zero]; rfl
  | h1 l b ih =>
    rw [canonL, List.dropWhile_append, natB_snoc]
    have ih' : List.dropWhile (· == 0) l = be (natB l) := ih
    rw [ih']
    by_cases h0 : natB l = 0
    · rw [h0, be_zero]
      simp only [List.isEmpty_nil, if_true]
      by_cases hb : b = 0
      · subst hb
        rw [show 0 * 256 + (0 : UInt8).toNat = 0 from rfl, be_zero]
        rfl
      · have hb' : 0 < b.toNat := by
          rcases Nat.eq_zero_or_pos b.toNat with h | h
          · exact absurd (UInt8.toNat_inj.1 h) hb
          · exact h
        rw [be_snoc 0 b (by omega), be_zero]
        have : (b == 0) = false := by rw [beq_eq_false_iff_ne]; exact hb
        simp [List.dropWhile, this]
    · have hne : (be (natB l)).isEmpty = false := by
        have := be_ne (n := natB l) (by omega)
        cases hh : be (natB l) with
        | nil => rw [hh] at this; simp at this
        | cons => rfl
      rw [hne, be_snoc _ _ (by omega)]
      rfl
theorem canon_step {l : List UInt8} {k : Nat} (h : l[k]? = some 0) : canonL (l.drop k) = canonL (l.drop (k + 1)) := by
  obtain ⟨hk, he⟩ := List.getElem?_eq_some_iff.1 h
  rw [List.drop_eq_getElem_cons hk, he, canonL, List.dropWhile_cons]
  simp [canonL]
theorem canon_stop {l : List UInt8} {k : Nat} {b : UInt8} (h : l[k]? = some b) (hb : b ≠ 0) : canonL (l.drop k) = l.drop k := by
  obtain ⟨hk, he⟩ := List.getElem?_eq_some_iff.1 h
  rw [List.drop_eq_getElem_cons hk, he, canonL, List.dropWhile_cons]
  have : (b == 0) = false := by rw [beq_eq_false_iff_ne]; exact hb
  simp [this]

theorem natB_len8 (n : Nat) (h : n < 18446744073709551616) : natB (len8 n) = n := by
  have e : len8 n = [UInt8.ofNat (n / 2 ^ 56), UInt8.ofNat (n / 2 ^ 48), UInt8.ofNat (n / 2 ^ 40), UInt8.ofNat (n / 2 ^ 32), UInt8.ofNat (n / 2 ^ 24), UInt8.ofNat (n / 2 ^ 16), UInt8.ofNat (n / 2 ^ 8), UInt8.ofNat (n / 2 ^ 0)] := rfl
  rw [e]
  simp only [natB, List.foldl_cons, List.foldl_nil, UInt8.toNat_ofNat']
  omega

theorem be_div (x : Nat) : be (x / 256) = (be x).take ((be x).length - 1) := by
  by_cases h : x = 0
  · subst h; rw [show 0 / 256 = 0 from rfl, be_zero]; rfl
  · rw [be_pos (n := x) (by omega)]; simp
theorem be_div_len (x : Nat) : (be (x / 256)).length = (be x).length - 1 := by rw [be_div, List.length_take]; omega
theorem be_div3 (x : Nat) : be (x / 16777216) = (be x).take ((be x).length - 3) := by
  have e : x / 16777216 = x / 256 / 256 / 256 := by omega
  rw [e, be_div (x / 256 / 256), be_div (x / 256), be_div x]
  simp only [List.length_take, List.take_take]
  congr 1
  omega
theorem be_mod3 (x : Nat) : natB ((be x).drop ((be x).length - 3)) = x % 16777216 := by
  have h := natB_append ((be x).take ((be x).length - 3)) ((be x).drop ((be x).length - 3))
  rw [List.take_append_drop, natB_be, ← be_div3, natB_be, List.length_drop] at h
  by_cases h3 : 3 ≤ (be x).length
  · rw [show (be x).length - ((be x).length - 3) = 3 by omega, show (256 : Nat) ^ 3 = 16777216 from rfl] at h
    omega
  · have hx : x < 16777216 := by
      have := be_small (n := x) (k := 3) (by omega)
      simpa using this
    rw [show (be x).length - 3 = 0 by omega, List.drop_zero, natB_be]
    omega

/-- The number with some digits to the base 2^24, the least significant one first. -/
def valL : List Nat → Nat
  | [] => 0
  | d :: r => d + 16777216 * valL r
def okL (l : List Nat) : Prop := ∀ d ∈ l, d < 16777216
/-- The digits of a number. -/
def dg (n : Nat) : List Nat := if n = 0 then [] else n % 16777216 :: dg (n / 16777216)
termination_by n
decreasing_by omega
theorem dg_zero : dg 0 = [] := by rw [dg]; rfl
theorem dg_pos {n : Nat} (h : 0 < n) : dg n = n % 16777216 :: dg (n / 16777216) := by rw [dg, if_neg (by omega)]
theorem valL_dg (n : Nat) : valL (dg n) = n := by
  induction n using Nat.strongRecOn with
  | ind n ih =>
    by_cases h : n = 0
    · subst h; rw [dg_zero]; rfl
    · rw [dg_pos (by omega), valL, ih (n / 16777216) (by omega)]
      omega
theorem dg_ok (n : Nat) : okL (dg n) := by
  induction n using Nat.strongRecOn with
  | ind n ih =>
    by_cases h : n = 0
    · subst h; rw [dg_zero]; intro d hd; simp at hd
    · rw [dg_pos (by omega)]
      intro d hd
      rcases List.mem_cons.1 hd with rfl | hd
      · omega
      · exact ih (n / 16777216) (by omega) d hd
theorem valL_append : ∀ (a b : List Nat), valL (a ++ b) = valL a + 16777216 ^ a.length * valL b
  | [], b => by simp [valL]
  | d :: r, b => by
    simp only [List.cons_append, valL, valL_append r b, List.length_cons, Nat.pow_succ]
    rw [Nat.mul_add, Nat.add_assoc, ← Nat.mul_assoc, Nat.mul_comm (16777216 ^ r.length) 16777216]
theorem valL_snoc (a : List Nat) (d : Nat) : valL (a ++ [d]) = valL a + 16777216 ^ a.length * d := by rw [valL_append]; simp [valL]
theorem okL_nil : okL [] := fun d hd => by simp at hd
theorem okL_snoc {l : List Nat} {d : Nat} (h : okL l) (hd : d < 16777216) : okL (l ++ [d]) := by
  intro x hx
  rcases List.mem_append.1 hx with hx | hx
  · exact h x hx
  · rw [List.mem_singleton] at hx; omega
theorem okL_take {l : List Nat} (h : okL l) (k : Nat) : okL (l.take k) := fun d hd => h d (List.mem_of_mem_take hd)
theorem valL_lt : ∀ {l : List Nat}, okL l → valL l < 16777216 ^ l.length
  | [], _ => by simp [valL]
  | d :: r, h => by
    have h1 := h d (by simp)
    have h2 := valL_lt (l := r) (fun x hx => h x (by simp [hx]))
    simp only [valL, List.length_cons, Nat.pow_succ]
    omega
/-- Digits without zeros at the end are those of their number. -/
theorem dg_of_last : ∀ {c : List Nat}, okL c → (∀ d, c.getLast? = some d → d ≠ 0) → c = dg (valL c)
  | [], _, _ => by rw [valL, dg_zero]
  | d :: r, h, hl => by
    have hd := h d (by simp)
    cases r with
    | nil =>
      have : d ≠ 0 := hl d (by simp)
      simp only [valL, Nat.mul_zero, Nat.add_zero]
      rw [dg_pos (by omega), show d % 16777216 = d by omega, show d / 16777216 = 0 by omega, dg_zero]
    | cons e r =>
      have ih := dg_of_last (c := e :: r) (fun x hx => h x (by simp [List.mem_cons.1 hx])) (fun x hx => hl x (by simpa using hx))
      have hpos : 0 < valL (e :: r) := by
        rcases Nat.eq_zero_or_pos (valL (e :: r)) with h0 | h0
        · rw [h0, dg_zero] at ih; cases ih
        · exact h0
      rw [valL, dg_pos (by omega), show (d + 16777216 * valL (e :: r)) % 16777216 = d by omega, show (d + 16777216 * valL (e :: r)) / 16777216 = valL (e :: r) by omega, ← ih]
theorem dg_last (n : Nat) : ∀ d, (dg n).getLast? = some d → d ≠ 0 := by
  induction n using Nat.strongRecOn with
  | ind n ih =>
    intro d hd
    by_cases h : n = 0
    · subst h; rw [dg_zero] at hd; cases hd
    · rw [dg_pos (by omega)] at hd
      by_cases hq : n / 16777216 = 0
      · rw [hq, dg_zero] at hd
        simp at hd
        omega
      · have hne : dg (n / 16777216) ≠ [] := by rw [dg_pos (by omega)]; simp
        obtain ⟨a, r, har⟩ := List.exists_cons_of_ne_nil hne
        rw [har, List.getLast?_cons_cons, ← har] at hd
        exact ih (n / 16777216) (by omega) d hd
theorem dg_len_le : ∀ (k n : Nat), n < 16777216 ^ k → (dg n).length ≤ k
  | 0, n, h => by
    have : n = 0 := by simpa using h
    subst this; rw [dg_zero]; simp
  | k + 1, n, h => by
    by_cases h0 : n = 0
    · subst h0; rw [dg_zero]; simp
    · rw [dg_pos (by omega), List.length_cons]
      have := dg_len_le k (n / 16777216) (by rw [Nat.pow_succ] at h; omega)
      omega
theorem dg_lt (n : Nat) : n < 16777216 ^ (dg n).length := by
  have := valL_lt (dg_ok n)
  rwa [valL_dg] at this
/-- The longer number is the greater one. -/
theorem dg_len_lt {x y : Nat} (h : (dg x).length < (dg y).length) : x < y := by
  rcases Nat.lt_or_ge x y with h1 | h1
  · exact h1
  · have := dg_len_le (dg x).length y (Nat.lt_of_le_of_lt h1 (dg_lt x))
    omega
/-- Where digits differ first from the top, they decide. -/
theorem val_cmp {u v : List Nat} {k a b : Nat} (hu : okL u) (hk : u.drop (k + 1) = v.drop (k + 1)) (ha : u[k]? = some a) (hb : v[k]? = some b) (hab : a < b) : valL u < valL v := by
  obtain ⟨hku, rfl⟩ := List.getElem?_eq_some_iff.1 ha
  obtain ⟨hkv, rfl⟩ := List.getElem?_eq_some_iff.1 hb
  have eu := valL_append (u.take k) (u.drop k)
  have ev := valL_append (v.take k) (v.drop k)
  rw [List.take_append_drop, List.drop_eq_getElem_cons hku, valL] at eu
  rw [List.take_append_drop, List.drop_eq_getElem_cons hkv, valL, ← hk] at ev
  rw [List.length_take, Nat.min_eq_left (by omega)] at eu ev
  have hlt := valL_lt (okL_take hu k)
  rw [List.length_take, Nat.min_eq_left (by omega)] at hlt
  generalize 16777216 ^ k = m at *
  generalize 16777216 * valL (u.drop (k + 1)) = z at *
  have h2 : m * (u[k] + z) + m ≤ m * (v[k] + z) := by
    rw [← Nat.mul_succ]
    exact Nat.mul_le_mul_left _ (by omega)
  omega
theorem valL_drop_step {l : List Nat} {k d : Nat} (h : l[k]? = some d) : valL (l.drop k) = d + 16777216 * valL (l.drop (k + 1)) := by
  obtain ⟨hk, rfl⟩ := List.getElem?_eq_some_iff.1 h
  rw [List.drop_eq_getElem_cons hk, valL]
theorem take_step {α : Type} {l : List α} {k : Nat} {d : α} (h : l[k]? = some d) : l.take (k + 1) = l.take k ++ [d] := by
  rw [List.take_add_one, h]; rfl
theorem valL_take_step {l : List Nat} {k d : Nat} (h : l[k]? = some d) : valL (l.take (k + 1)) = valL (l.take k) + 16777216 ^ k * d := by
  have hk := (List.getElem?_eq_some_iff.1 h).1
  rw [take_step h, valL_snoc, List.length_take, Nat.min_eq_left (by omega)]

/-- One step of a product with a digit. -/
theorem times_step {u out : List Nat} {k x d c : Nat} (hx : u[k]? = some x) (hl : out.length = k) (h : valL out + 16777216 ^ k * c = valL (u.take k) * d) :
    valL (out ++ [(x * d + c) % 16777216]) + 16777216 ^ (k + 1) * ((x * d + c) / 16777216) = valL (u.take (k + 1)) * d := by
  rw [valL_snoc, hl, valL_take_step hx, Nat.add_mul, ← h, Nat.pow_succ, Nat.mul_assoc (16777216 ^ k) 16777216, Nat.add_assoc, ← Nat.mul_add, Nat.mul_assoc (16777216 ^ k) x d, Nat.add_assoc, ← Nat.mul_add]
  congr 2
  omega
theorem times_carry {x d c : Nat} (hx : x < 16777216) (hd : d < 16777216) (hc : c < 16777216) : (x * d + c) / 16777216 < 16777216 ∧ x * d + c < 281474976710656 := by
  have h : x * d ≤ 16777215 * 16777215 := Nat.mul_le_mul (by omega) (by omega)
  omega
/-- One step of a difference of digits. -/
theorem minus_step {u v out : List Nat} {k x r b b' : Nat} (hx : u[k]? = some x) (hl : out.length = k) (h : valL out + valL (v.take k) = valL (u.take k) + 16777216 ^ k * b) (hs : x + 16777216 * b' = r + b + v.getD k 0) :
    valL (out ++ [r]) + valL (v.take (k + 1)) = valL (u.take (k + 1)) + 16777216 ^ (k + 1) * b' := by
  have hv : valL (v.take (k + 1)) = valL (v.take k) + 16777216 ^ k * v.getD k 0 := by
    by_cases hk : k < v.length
    · have he : v[k]? = some v[k] := List.getElem?_eq_getElem hk
      rw [valL_take_step he, List.getD_eq_getElem?_getD, he]
      rfl
    · rw [List.take_of_length_le (by omega), List.take_of_length_le (by omega), List.getD_eq_getElem?_getD, List.getElem?_eq_none (by omega)]
      simp
  have e : 16777216 ^ k * (x + 16777216 * b') = 16777216 ^ k * (r + b + v.getD k 0) := by rw [hs]
  rw [Nat.mul_add, Nat.mul_add, Nat.mul_add, ← Nat.mul_assoc] at e
  rw [valL_snoc, hl, valL_take_step hx, hv, Nat.pow_succ]
  omega
theorem minus_end {u v out : List Nat} {b : Nat} (hl : out.length = u.length) (ho : okL out) (hv : v.length ≤ u.length) (hle : valL v ≤ valL u) (h : valL out + valL (v.take u.length) = valL (u.take u.length) + 16777216 ^ u.length * b) : valL out = valL u - valL v := by
  rw [List.take_of_length_le hv, List.take_length] at h
  have h1 := valL_lt ho
  rw [hl] at h1
  cases b with
  | zero => omega
  | succ b => rw [Nat.mul_succ] at h; omega
theorem dg_len_mono {x y : Nat} (h : y ≤ x) : (dg y).length ≤ (dg x).length := by
  rcases Nat.lt_or_ge (dg x).length (dg y).length with h1 | h1
  · have := dg_len_lt h1; omega
  · exact h1

/-- Three bytes of a digit. -/
theorem natB_three (l : List UInt8) (d : Nat) (h : d < 16777216) : natB (l ++ [UInt8.ofNat (d / 65536), UInt8.ofNat (d / 256), UInt8.ofNat d]) = natB l * 16777216 + d := by
  have e : l ++ [UInt8.ofNat (d / 65536), UInt8.ofNat (d / 256), UInt8.ofNat d] = ((l ++ [UInt8.ofNat (d / 65536)]) ++ [UInt8.ofNat (d / 256)]) ++ [UInt8.ofNat d] := by simp
  rw [e, natB_snoc, natB_snoc, natB_snoc]
  simp only [UInt8.toNat_ofNat']
  omega

/-- One step of a long division. -/
theorem quo_step {X q Q y r x : Nat} (h : X = Q * y + r) (hq : q = (x + 16777216 * r) / y) : x + 16777216 * X = (q + 16777216 * Q) * y + (x + 16777216 * r) % y := by
  have := Nat.div_add_mod (x + 16777216 * r) y
  rw [← hq] at this
  rw [h, Nat.add_mul, Nat.mul_assoc, Nat.mul_add, Nat.mul_comm q y]
  omega
theorem quo_digit {y r x : Nat} (hr : r < y) (hx : x < 16777216) : (x + 16777216 * r) / y < 16777216 := by
  rw [Nat.div_lt_iff_lt_mul (by omega)]
  have : 16777216 * (r + 1) ≤ 16777216 * y := Nat.mul_le_mul_left _ (by omega)
  rw [Nat.mul_comm 16777216 y] at this
  omega
/-- The search of a digit: the middle. -/
theorem digit_low {u y m : Nat} (_hy : 0 < y) (h : y * m ≤ u) : m ≤ u / y := (Nat.le_div_iff_mul_le _hy).2 (by rw [Nat.mul_comm]; exact h)
theorem digit_high {u y m : Nat} (_hy : 0 < y) (h : u < y * m) : u / y < m := (Nat.div_lt_iff_lt_mul _hy).2 (by rw [Nat.mul_comm]; exact h)
end Go.Proofs.YtmnmhhbldbdpfaaGreatDoor

namespace Go.Proofs.YtmnmhhbldbdpfaaGreatDoor
open Go.RowKit
set_option maxRecDepth 100000

/-- It returns the bytes of a number; the world is as it was. -/
def RetNat (n : Nat) (w : World) (e : Ending) (w' : World) : Prop := ∃ r : ByteArray, Hid (bs r = be n) ∧ e = .returned (.string r) ∧ w = w'
/-- The same; only new blocks have come. -/
def MkNat (n : Nat) (w : World) (e : Ending) (w' : World) : Prop := ∃ r : ByteArray, Hid (bs r = be n) ∧ e = .returned (.string r) ∧ Upd [] [] w w'

theorem u8_zero {b : UInt8} (h : (b.toNat : Int) = 0) : b = 0 := UInt8.toNat_inj.1 (by have : (0 : UInt8).toNat = 0 := rfl; omega)
theorem bs_get (s : ByteArray) (k : Nat) (h : k < s.size) : (bs s)[k]? = some s[k] := by
  have : k < (bs s).length := h
  rw [List.getElem?_eq_getElem this]; rfl

theorem bs_cons' (s : ByteArray) (h : 0 < s.size) : bs s = s[0] :: (bs s).drop 1 := by
  have h2 : 0 < (bs s).length := h
  exact List.drop_eq_getElem_cons h2

theorem canon_any (s : ByteArray) (w : World) (hs : s.size ≤ 1000000000000) : Calls Tryz.prog 116 #[.string s] w (RetNat (natB (bs s)) w) := by
  go_enter Tryz.func116, Tryz.ntmps116
  go_wp2_with fail
  go_loop [3] (fun i => ∃ k : Nat, i = .int .i64 (k : Int) ∧ k ≤ s.size ∧ Hid (canonL ((bs s).drop k) = canonL (bs s))) (fun i => s.size - (intOf i).toNat)
  case atStart => exact ⟨0, rfl, Nat.zero_le _, rfl⟩
  case round =>
    obtain ⟨k, rfl, hk, HK⟩ := hrel
    by_cases hlt : k < s.size
    · by_cases h0 : (s[k].toNat : Int) = 0
      · have hb : ((s[k].toNat : Int) == 0) = true := by rw [beq_iff_eq]; exact h0
        have hst : canonL ((bs s).drop (k + 1)) = canonL (bs s) := by
          rw [← canon_step (by rw [bs_get s k hlt, u8_zero h0]), HK.out]
        have HST := Lib.hid hst
        clear hst h0
        go_wp2_with fail
        exact ⟨⟨k + 1, by go_num, by omega, HST.out⟩, by simp [intOf]; omega⟩
      · have hb : ((s[k].toNat : Int) == 0) = false := by rw [beq_eq_false_iff_ne]; exact h0
        have hst : (bs s).drop k = be (natB (bs s)) := by
          rw [← canon_be, ← HK.out, canon_stop (bs_get s k hlt) (fun e => h0 (by rw [e]; rfl))]
        have HST := Lib.hid hst
        clear hst h0
        go_wp2_with fail
        go_ret
        refine ⟨s.extract k s.size, ?_, rfl, rfl⟩
        show _ = _
        rw [bs_extract, HST.out, ← HST.out, List.take_of_length_le (by simp [bs_length])]
    · obtain rfl : k = s.size := by omega
      have hst : be (natB (bs s)) = [] := by
        rw [← canon_be, ← HK.out, List.drop_of_length_le (by simp [bs_length])]
        rfl
      have HST := Lib.hid hst
      clear hst
      go_wp2_with fail
      go_ret
      refine ⟨ByteArray.empty, ?_, rfl, rfl⟩
      show _ = _
      rw [HST.out]
      rfl

theorem size_of_be {r : ByteArray} {x : Nat} (h : bs r = be x) : r.size = (be x).length := by rw [← h, bs_length]

set_option maxHeartbeats 1000000 in
theorem int_any (s : ByteArray) (x : Nat) (w : World) (hs : s.size ≤ 1000000000000) (hx : x = natB (bs s)) (hb : x < 9223372036854775808) :
    Calls Tryz.prog 118 #[.string s] w (fun e w' => e = .returned (.tuple #[.int .i64 (x : Int), .bool true]) ∧ w = w') := by
  have HX := Lib.hid hx
  clear hx
  go_enter Tryz.func118, Tryz.ntmps118
  go_wp2_with fail
  refine (canon_any s w hs).mono ?_
  rintro e w' ⟨r, HR, rfl, rfl⟩
  have hr : bs r = be x := by rw [HR.out, HX.out]
  have hl : r.size ≤ 8 := by
    rw [size_of_be hr]
    exact be_len_le 8 x (Nat.lt_trans hb (by decide))
  have HRR := Lib.hid hr
  clear HR
  have hnat : natB (bs r) = x := by rw [hr, natB_be]
  have HN := Lib.hid hnat
  clear hr
  by_cases h8 : r.size = 8
  case' pos =>
    have hg : 0 < r.size := by omega
    have h0 : (r[0]'hg).toNat ≤ 127 := by
      have h1 := natB_cons (r[0]'hg) ((bs r).drop 1)
      have h2 := bs_cons' r hg
      have h3 : (bs r).length = 8 := h8
      rw [← h2, hnat, List.length_drop, h3] at h1
      have e : (256 : Nat) ^ (8 - 1) = 72057594037927936 := by decide
      rw [e] at h1
      omega
    have hb8 : ((r.size : Int) == 8) = true := by rw [beq_iff_eq]; omega
  case' neg =>
    have hb8 : ((r.size : Int) == 8) = false := by rw [beq_eq_false_iff_ne]; omega
  all_goals
    clear hnat h8
    go_wp2_with fail
    go_loop [4, 5] (fun n i => ∃ k m : Nat, n = .int .i64 (m : Int) ∧ i = .int .i64 (k : Int) ∧ k ≤ r.size ∧ m ≤ x ∧ Hid (m = natB ((bs r).take k))) (fun _ i => r.size - (intOf i).toNat)
    case atStart => exact ⟨0, 0, rfl, rfl, Nat.zero_le _, Nat.zero_le _, rfl⟩
    case round =>
      obtain ⟨k, m, rfl, rfl, hk, hm, HM⟩ := hrel
      by_cases hlt : k < r.size
      · have hst : natB ((bs r).take (k + 1)) = m * 256 + r[k].toNat := by
          rw [take_step (bs_get r k hlt), natB_snoc, ← HM.out]
        have hle : m * 256 + r[k].toNat ≤ x := by
          rw [← hst, ← HN.out]
          exact natB_take_le _ _
        have HST := Lib.hid hst
        have h1 : (m : Int) * 256 ≤ 9223372036854775807 := by omega
        have h2 : (m : Int) * 256 + (r[k].toNat : Int) ≤ 9223372036854775807 := by omega
        clear hst
        go_wp2_with fail
        exact ⟨⟨k + 1, m * 256 + r[k].toNat, by go_num, by go_num, by omega, hle, HST.out.symm⟩, by simp [intOf]; omega⟩
      · obtain rfl : k = r.size := by omega
        have hmx : m = x := by rw [HM.out, List.take_of_length_le (by simp [bs_length]), HN.out]
        have HMX := Lib.hid hmx
        clear hmx
        go_wp2_with fail
        go_ret2
        refine ⟨?_, rfl⟩
        rw [HMX.out]
        rfl

theorem small_ok (s : ByteArray) (x : Nat) (w : World) (hs : s.size ≤ 1000000000000) (hx : x = natB (bs s)) (hb : (be x).length ≤ 7) :
    Calls Tryz.prog 149 #[.string s, .int .i64 7] w (fun e w' => e = .returned (.tuple #[.int .i64 (x : Int), .bool true]) ∧ w = w') := by
  have HX := Lib.hid hx
  clear hx
  have hlt : x < 9223372036854775808 := by
    have := be_small hb
    have e : (256 : Nat) ^ 7 = 72057594037927936 := by decide
    omega
  go_enter Tryz.func149, Tryz.ntmps149
  go_wp2_with fail
  refine (canon_any s w hs).mono ?_
  rintro e w' ⟨r, HR, rfl, rfl⟩
  have hl : r.size ≤ 7 := by
    have := size_of_be HR.out
    rw [← HX.out] at this
    omega
  clear hb
  go_wp2_with fail
  refine (int_any s x w hs HX.out hlt).mono ?_
  rintro e w' ⟨rfl, rfl⟩
  go_wp2_with fail
  go_ret2
  exact ⟨rfl, rfl⟩
theorem small_big (s : ByteArray) (x : Nat) (w : World) (hs : s.size ≤ 1000000000000) (hx : x = natB (bs s)) (hb : 7 < (be x).length) :
    Calls Tryz.prog 149 #[.string s, .int .i64 7] w (fun e w' => e = .returned (.tuple #[.int .i64 0, .bool false]) ∧ w = w') := by
  have HX := Lib.hid hx
  clear hx
  go_enter Tryz.func149, Tryz.ntmps149
  go_wp2_with fail
  refine (canon_any s w hs).mono ?_
  rintro e w' ⟨r, HR, rfl, rfl⟩
  have hl : 7 < r.size := by
    have := size_of_be HR.out
    rw [← HX.out] at this
    omega
  clear hb
  go_wp2_with fail
  go_ret2
  exact ⟨rfl, rfl⟩

set_option maxHeartbeats 1000000 in
theorem of_int (n : Nat) (w : World) (hn : n < 9223372036854775808) : Calls Tryz.prog 85 #[.int .i64 (n : Int)] w (MkNat n w) := by
  by_cases h0 : 0 < n
  case neg =>
    obtain rfl : n = 0 := by omega
    go_enter Tryz.func85, Tryz.ntmps85
    go_wp2_with fail
    go_loop [3, 4] (fun t i => t = .slice none 0 0 ∧ i = .int .i64 56) (fun _ _ => 0)
    case atStart => exact ⟨rfl, rfl⟩
    case round =>
      obtain ⟨rfl, rfl⟩ := hrel
      have hcv := conv_row (P := Tryz.prog) w 40 124 5 Tryz.underlying40 Tryz.underlying5 Tryz.underlying124 (.slice none 0 0) [] (World.ownsRow_nil _ _ _ _)
      have HCV := Lib.hid hcv
      clear hcv
      go_wp2_with fail
      rw [HCV.out]
      go_wp2_with fail
      refine (canon_any _ w (by decide)).mono ?_
      rintro e w' ⟨r, HR, rfl, rfl⟩
      go_wp2_with fail
      go_ret
      exact ⟨r, HR, rfl, Upd.refl _ _⟩
  go_enter Tryz.func85, Tryz.ntmps85
  go_wp2_with fail
  go_loopw [3, 4] (fun t i wr => ∃ (k : Nat) (z : Int), i = .int .i64 z ∧ z = 56 - 8 * (k : Int) ∧ k ≤ 8 ∧ Hid (wr.ownsRow 0 5 1 t k (byteVals ((len8 n).take k))) ∧ Hid (Upd [] (foot t) w wr)) (fun _ i _ => (intOf i + 8).toNat)
  case atStart => exact ⟨0, 56, rfl, rfl, Nat.zero_le _, ⟨by simp [byteVals], .inl ⟨rfl, rfl⟩⟩, Upd.refl _ _⟩
  case round =>
    obtain ⟨k, z, rfl, hz, hk, HR, HU⟩ := hrel
    by_cases hlt : k < 8
    · obtain ⟨m, rfl⟩ : ∃ m : Nat, z = (m : Int) := ⟨(56 - 8 * k), by omega⟩
      obtain ⟨b, hb⟩ : ∃ b, b = UInt8.ofNat (n / 2 ^ m) := ⟨_, rfl⟩
      have hb1 : (n : Int) / 2 ^ m % 256 = (b.toNat : Int) := by
        have : (UInt8.ofNat (n / 2 ^ m)).toNat = n / 2 ^ m % 256 := by simp
        rw [hb, this]
        simp
      have hm7 : m ≤ 56 := by omega
      have hl : (len8 n).take (k + 1) = (len8 n).take k ++ [b] := by
        rw [List.take_succ_eq_append_getElem (by rw [len8_length]; omega)]
        congr 1
        rw [hb]
        have hm : m = 8 * (7 - k) := by omega
        simp [len8, hm]
      have HL := Lib.hid hl
      have HMZ := Lib.hid hz
      have hown := HR.out
      have hup := HU.out
      have hrow : (wr.alloc (.cells #[.int .u8 (b.toNat : Int)] 5)).ownsRow 0 5 1 u3 k (byteVals ((len8 n).take k)) := row_same hown (fun j hj => Below.heap_alloc _ _ _ (row_foot_lt hown j hj))
      have hw1 : (wr.alloc (.cells #[.int .u8 (b.toNat : Int)] 5)).heap[wr.heap.size]? = some (.cells #[.int .u8 (b.toNat : Int)] 5 (0, 0)) := heap_alloc_new _ _
      obtain ⟨iu, u1, u2, u3', u4⟩ := u8_parts
      obtain ⟨v', w', hrun, hown', hup'⟩ := append_block (P := Tryz.prog) (wr.alloc (.cells #[.int .u8 (b.toNat : Int)] 5)) 40 40 5 iu (.int .u8 0) 1 1 Tryz.underlying40 u1 u2 u3' u4 rfl (by omega) u3 k _ hrow ⟨wr.heap.size, 0, none⟩ 1 1 [byteV b] rfl (by
        intro j u hj
        have : j = 0 := by
          cases j with
          | zero => rfl
          | succ j => simp at hj
        subst this
        simp only [List.getElem?_cons_zero, Option.some.injEq] at hj
        subst hj
        have e : (⟨wr.heap.size, 0, none⟩ : Addr).add 0 = ⟨wr.heap.size, 0, none⟩ := by simp [Addr.add]
        rw [e, cell_of_row _ _ _ _ _ _ hw1]
        rfl) (byteVals_one [b]) (by omega) (by simp only [maxLen]; omega)
      have HRUN := Lib.hid hrun
      have HOWN := Lib.hid hown'
      have HUP := Lib.hid ((hup.alloc (.cells #[.int .u8 (b.toNat : Int)] 5)).trans hup')
      clear u1 u2 u3' u4
      clear hb hz hl hown hup hrow hw1 hrun hown' hup' HR HU
      go_wp2_with (refine wpList_append_run _ rfl _ _ _ _ rfl _ _ v' w' rfl rfl HRUN.out ?_)
      refine ⟨⟨k + 1, _, rfl, ?_, by omega, ?_, HUP.out⟩, ?_⟩
      · have := HMZ.out; omega
      · show World.ownsRow _ _ _ _ _ _ _
        rw [HL.out, byteVals_append]
        exact HOWN.out
      · first | (simp [intOf]; done) | (simp [intOf]; omega)
    · obtain rfl : z = -8 := by omega
      have hk8 : k = 8 := by omega
      have hown := HR.out
      rw [hk8, List.take_of_length_le (by rw [len8_length]; omega)] at hown
      have hcv := conv_row (P := Tryz.prog) wr 40 124 5 Tryz.underlying40 Tryz.underlying5 Tryz.underlying124 u3 (len8 n) (by rw [len8_length]; exact hown)
      have HCV := Lib.hid hcv
      clear hlt hz hk hk8 hown hcv HR
      go_wp2_with fail
      rw [HCV.out]
      go_wp2_with fail
      refine (canon_any _ wr (by show (len8 n).length ≤ _; rw [len8_length]; omega)).mono ?_
      rintro e w' ⟨r, HR, rfl, rfl⟩
      go_wp2_with fail
      go_ret
      refine ⟨r, ?_, rfl, HU.out.mono (fun _ h => h) (fun _ h => absurd h (by simp))⟩
      show _ = _
      rw [HR.out, bs_mk, natB_len8 n (by omega)]
end Go.Proofs.YtmnmhhbldbdpfaaGreatDoor
