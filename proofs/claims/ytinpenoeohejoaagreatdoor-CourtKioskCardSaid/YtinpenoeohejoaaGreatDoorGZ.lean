/- Rows that a call or an object owns, footprints, and the run equations of append, append of a made slice, copy of a string, conversions. Over any program. The steps of a region that draws its order, their side conditions shown by themselves. Bytes in rows: the run equations for strings. Over any program. -/
import Derived.WalkKit
import Derived.WalkSpells
import Derived.WalkLawsBesides
import Derived.Laws.CopyOwn
import Derived.Deep.RegionLaw
import Derived.Deep.RegionHeld3
import Derived.Deep.QuietTactic
import Derived.BigQuiet
import Derived.StillTailTactics
import Derived.Lib.Hide
import Derived.Deep.Upon
namespace Go.Proofs.YtinpenoeohejoaaGreatDoor
open Go.RowKit
set_option maxRecDepth 100000

def foot (v : Value) : List Nat := v.ownBlock.toList

structure Upd (S S' : List Nat) (w w' : World) : Prop where
  os : w'.os = w.os
  tape : w'.tape = w.tape
  output : w'.output = w.output
  size : w.heap.size ≤ w'.heap.size
  block : ∀ k, k < w.heap.size → k ∉ S → w'.heap[k]? = w.heap[k]?
  new : ∀ k, k ∈ S' → k ∈ S ∨ w.heap.size ≤ k

theorem Upd.refl (S : List Nat) (w : World) : Upd S S w w := ⟨rfl, rfl, rfl, Nat.le_refl _, fun _ _ _ => rfl, fun _ h => .inl h⟩

theorem Upd.trans {S S' S'' : List Nat} {a b c : World} (h : Upd S S' a b) (k : Upd S' S'' b c) : Upd S S'' a c :=
  ⟨k.os.trans h.os, k.tape.trans h.tape, k.output.trans h.output, Nat.le_trans h.size k.size,
   fun i hi hn => (k.block i (Nat.lt_of_lt_of_le hi h.size) (fun hm => by rcases h.new i hm with h1 | h1; exact hn h1; omega)).trans (h.block i hi hn),
   fun i hi => by
    rcases k.new i hi with h1 | h1
    · exact h.new i h1
    · exact .inr (Nat.le_trans h.size h1)⟩

theorem Upd.drewN {S S' : List Nat} {w w' : World} (h : Upd S S' w w') (n : Nat) : Upd S S' w (w'.drewN n) := ⟨h.os, h.tape, h.output, h.size, h.block, h.new⟩
theorem Upd.drew {S S' : List Nat} {w w' : World} (h : Upd S S' w w') : Upd S S' w w'.drew := ⟨h.os, h.tape, h.output, h.size, h.block, h.new⟩
theorem Upd.alloc {S S' : List Nat} {w w' : World} (h : Upd S S' w w') (o : Obj) : Upd S S' w (w'.alloc o) :=
  ⟨h.os, h.tape, h.output, by simp; exact Nat.le_succ_of_le h.size, fun k hk hn => (Below.heap_alloc _ _ _ (Nat.lt_of_lt_of_le hk h.size)).trans (h.block k hk hn), h.new⟩
theorem Upd.setCell {S S' : List Nat} {w w' : World} (h : Upd S S' w w') {p : Addr} (hp : p.block ∈ S) (u : Value) : Upd S S' w (w'.setCell p u) :=
  ⟨h.os, h.tape, h.output, by simp; exact h.size, fun k hk hn => (Below.heap_setCell _ _ _ _ (fun (e : k = p.block) => hn (by rw [e]; exact hp))).trans (h.block k hk hn), h.new⟩
theorem Upd.setNew {S S' : List Nat} {w w' : World} (h : Upd S S' w w') {p : Addr} (hp : w.heap.size ≤ p.block) (u : Value) : Upd S S' w (w'.setCell p u) :=
  ⟨h.os, h.tape, h.output, by simp; exact h.size, fun k hk hn => (Below.heap_setCell _ _ _ _ (fun e => by omega)).trans (h.block k hk hn), h.new⟩
theorem Upd.fore {S S' : List Nat} {w w' : World} {o : Obj} (h : Upd S S' (w.alloc o) w') : Upd S S' w w' :=
  ⟨h.os, h.tape, h.output, by have := h.size; simp at this; omega, fun k hk hn => (h.block k (by simp; omega) hn).trans (Below.heap_alloc _ _ _ hk),
   fun k hk => by rcases h.new k hk with h1 | h1; exact .inl h1; simp at h1; exact .inr (by omega)⟩
theorem Upd.mono {S S' T T' : List Nat} {w w' : World} (h : Upd S S' w w') (hs : ∀ k, k ∈ S → k ∈ T) (ht : ∀ k, k ∈ T' → k ∈ S' ∨ k ∈ T) : Upd T T' w w' :=
  ⟨h.os, h.tape, h.output, h.size, fun k hk hn => h.block k hk (fun e => hn (hs k e)), fun k hk => by
    rcases ht k hk with h1 | h1
    · rcases h.new k h1 with h2 | h2
      · exact .inl (hs k h2)
      · exact .inr h2
    · exact .inl h1⟩
theorem Upd.below {S S' : List Nat} {w0 w w' : World} {B : Nat} (hb : Below B w0 w) (h : Upd S S' w w') (hB : B ≤ w.heap.size) (hS : ∀ k, k ∈ S → B ≤ k) : Below B w0 w' :=
  hb.trans ⟨h.os, h.tape, h.output, h.size, fun k hk => h.block k (by omega) (fun e => by have := hS k e; omega)⟩
theorem Upd.cell {S S' : List Nat} {w w' : World} (h : Upd S S' w w') {p : Addr} (hk : p.block < w.heap.size) (hn : p.block ∉ S) : w'.cell? p = w.cell? p := World.cell?_of_block (h.block _ hk hn)
theorem Upd.frozen {S S' : List Nat} {w w' : World} (h : Upd S S' w w') {p : Addr} (hk : p.block < w.heap.size) (hn : p.block ∉ S) : w'.frozen? p = w.frozen? p := World.frozen?_of_block (h.block _ hk hn)

theorem upd_of_grown {w w' : World} {v v' : Value} (h : w.grownBy w' v.ownBlock) (hv : v'.ownBlock = v.ownBlock ∨ v'.ownBlock = some w.heap.size) : Upd (foot v) (foot v') w w' :=
  ⟨h.os, h.tape, h.output, h.size, fun k hk hn => h.block k hk (fun e => hn (by simp [foot, ← e])), fun k hk => by
    rcases hv with hv | hv
    · left; simpa [foot, hv] using hk
    · right; simp [foot, hv] at hk; omega⟩

theorem row_same {w w' : World} {e : TypeId} {size : Nat} {v : Value} {n : Nat} {xs : List Value} (h : w.ownsRow 0 e size v n xs) (hs : ∀ k, k ∈ foot v → w'.heap[k]? = w.heap[k]?) : w'.ownsRow 0 e size v n xs := by
  obtain ⟨h1, h2⟩ := h
  refine ⟨h1, ?_⟩
  rcases h2 with h2 | ⟨g, cap, cur, hv, hg, hh, r⟩
  · exact .inl h2
  · exact .inr ⟨g, cap, cur, hv, hg, by rw [hs g (by simp [foot, hv, Value.ownBlock])]; exact hh, r⟩

theorem row_foot_lt {w : World} {e : TypeId} {size : Nat} {v : Value} {n : Nat} {xs : List Value} (h : w.ownsRow 0 e size v n xs) : ∀ k, k ∈ foot v → k < w.heap.size := by
  intro k hk
  simp only [foot, Option.mem_toList] at hk
  exact (h.lt k hk).2

theorem row_slice {w : World} {e : TypeId} {size : Nat} {v : Value} {n : Nat} {xs : List Value} (h : w.ownsRow 0 e size v n xs) : ∃ ao cap, v = .slice ao n cap ∧ n ≤ cap ∧ cap ≤ maxLen := by
  rcases h.2 with ⟨rfl, rfl⟩ | ⟨g, cap, cur, rfl, _, _, h1, h2, _⟩
  · exact ⟨none, 0, rfl, Nat.le_refl _, by simp⟩
  · exact ⟨_, cap, rfl, h1, h2⟩

theorem row_pos {w : World} {e : TypeId} {size : Nat} {v : Value} {n : Nat} {xs : List Value} (h : w.ownsRow 0 e size v n xs) (hn : 0 < n) : ∃ g cap cur, v = .slice (some ⟨g, 0, none⟩) n cap ∧ w.heap[g]? = some (.cells cur e (0, 0)) ∧ n ≤ cap ∧ cap ≤ maxLen ∧ cur.size = cap * size ∧ cur.toList.take (n * size) = xs := by
  rcases h.2 with ⟨rfl, rfl⟩ | ⟨g, cap, cur, rfl, _, r⟩
  · omega
  · exact ⟨g, cap, cur, rfl, r⟩

section
variable {P : Program} (w : World)

theorem append_block (t ty e : TypeId) (i : TypeInfo) (z : Value) (size bytes : Nat) (ht : P.underlying t = some (.slice e)) (hi : P.info? e = some i) (hz : i.zero = some z)
    (hsize : i.size = size) (hby : i.bytes = bytes) (hzs : z.cells.size = size) (hsz : 0 < size)
    (v : Value) (n : Nat) (xs : List Value) (hown : w.ownsRow 0 e size v n xs)
    (a : Addr) (m c : Nat) (news : List Value) (hl : news.length = m * size) (hnews : ∀ j u, news[j]? = some u → w.cell? (a.add j) = some u) (h1 : ∀ u ∈ news, u.oneCell' = true)
    (hbytes : (n + m) * bytes ≤ 140737488355328) (h63 : n + m ≤ maxLen) :
    ∃ v' w', (Builtin.append_ #[t, t] ty #[v, .slice (some a) m c]).run P w = .ok v' w' ∧ w'.ownsRow 0 e size v' (n + m) (xs ++ news) ∧ Upd (foot v) (foot v') w w' := by
  obtain ⟨v', w', hr, h2, h3, h4⟩ := run_append_own (P := P) w 0 t ty e i z size bytes ht hi hz hsize hby hzs hsz v n xs hown a m c news hl hnews h1 h63 hbytes (Nat.zero_le _)
  refine ⟨v', w', hr, h2, upd_of_grown h3 ?_⟩
  subst hsize
  subst hby
  rcases hown.2 with ⟨rfl, rfl⟩ | ⟨g, cap, cur, rfl, hbg, hg, hnc, hcm, hcs, htake⟩
  · by_cases hm : m = 0
    · left; rw [h4.2 ⟨rfl, hm⟩]
    · have hq := run_append_nil (P := P) w t ty e i z ht hi hz a m c news hl hnews (by omega) (by simp only [maxLen] at h63; omega) (by simp only [Nat.zero_add] at hbytes; omega)
      rw [hr] at hq
      right
      simp only [Result.ok.injEq] at hq
      rw [hq.1]; rfl
  · by_cases hroom : n + m ≤ cap
    · have hfit : n * i.size + news.length ≤ cur.size := by rw [hl, hcs, ← Nat.add_mul]; exact Nat.mul_le_mul_right _ hroom
      have hq := run_append_room (P := P) w t ty e i ht hi g n cap cur hg a m c news hl hnews h1 hroom hfit
      rw [hr] at hq
      left
      simp only [Result.ok.injEq] at hq
      rw [hq.1]; rfl
    · have holds : ∀ j u, xs[j]? = some u → w.cell? ((⟨g, 0, none⟩ : Addr).add j) = some u := hown.cells (g := g) rfl
      have hq := run_append_grow (P := P) w t ty e i z ht hi hz ⟨g, 0, none⟩ n cap xs hown.1 holds a m c news hl hnews (by omega) (by simp only [maxLen] at h63; omega) (growslice_fits (by omega) hbytes)
      rw [hr] at hq
      right
      simp only [Result.ok.injEq] at hq
      rw [hq.1]; rfl

theorem zeroCells_one (z : Value) (n : Nat) (h1 : z.cells = #[z]) : (Builtin.zeroCells z.cells n) = (List.replicate n z).toArray := by
  rw [h1]
  apply Array.ext
  · simp [Builtin.zeroCells]
  · intro i hi1 hi2
    simp [Builtin.zeroCells, Nat.mod_one]

theorem append_made (t tI ty e : TypeId) (kI : IntKind) (i : TypeInfo) (z : Value) (bytes : Nat) (ht : P.underlying t = some (.slice e)) (htI : P.underlying tI = some (.int kI)) (hi : P.info? e = some i) (hz : i.zero = some z)
    (hsize : i.size = 1) (hby : i.bytes = bytes) (hzs : z.cells = #[z]) (hz1 : z.oneCell' = true)
    (v : Value) (n : Nat) (xs : List Value) (hown : w.ownsRow 0 e 1 v n xs) (k : Nat) (hk : 0 < k)
    (hbytes : (n + k) * bytes ≤ 140737488355328) (h63 : n + k ≤ 140737488355328) :
    ∃ v' w', (Builtin.append_ #[t, tI] ty #[v, .int .i64 (k : Int)]).run P w = .ok v' w' ∧ w'.ownsRow 0 e 1 v' (n + k) (xs ++ List.replicate k z) ∧ Upd (foot v) (foot v') w w' := by
  subst hby
  have hw : IntKind.i64.wrap (k : Int) = k := by rw [IntKind.wrap_i64]; omega
  have hk0 : ¬ (k : Int) < 0 := by omega
  have hkb : k * i.bytes ≤ 140737488355328 := Nat.le_trans (Nat.mul_le_mul_right _ (by omega)) hbytes
  have hkb' : ¬ (281474976710656 < (k : Int) * (i.bytes : Int)) := by
    have : ((k * i.bytes : Nat) : Int) ≤ 140737488355328 := by omega
    rw [Int.natCast_mul] at this; omega
  have hkn : k ≠ 0 := by omega
  have grown : ∀ (v : Value) (old : Nat), old < n + k → 
      (w.drew.alloc (.cells (xs.toArray ++ (List.replicate k z).toArray ++ Builtin.zeroCells z.cells (grownCap w (n + k) old e - (n + k))) e)).ownsRow 0 e 1
        (.slice (some ⟨w.heap.size, 0, none⟩) (n + k) (grownCap w (n + k) old e)) (n + k) (xs ++ List.replicate k z) ∧
      Upd (foot v) (foot (.slice (some ⟨w.heap.size, 0, none⟩) (n + k) (grownCap w (n + k) old e))) w (w.drew.alloc (.cells (xs.toArray ++ (List.replicate k z).toArray ++ Builtin.zeroCells z.cells (grownCap w (n + k) old e - (n + k))) e)) := by
    intro v old ho
    have hge := grownCap_ge w (n + k) old e
    have hx1 : xs.length = n * 1 := hown.1
    have hcm : grownCap w (n + k) old e ≤ maxLen := grownCap_le_maxLen w (n + k) old e (by simp only [maxLen]; omega)
    refine ⟨⟨by simp [hx1], .inr ⟨w.heap.size, _, _, rfl, Nat.zero_le _, heap_alloc_new w.drew _, hge, hcm, ?_, ?_⟩⟩, ⟨rfl, rfl, rfl, by simp, fun j hj _ => Below.heap_alloc w.drew _ j hj, fun k hk => ?_⟩⟩
    · simp [size_zeroCells, hzs, hx1]; omega
    · simp only [Array.toList_append, List.append_assoc]
      rw [← List.append_assoc]
      have hle : (n + k) * 1 = (xs ++ List.replicate k z).length := by simp [hx1]
      rw [hle]
      exact List.take_left
    · simp [foot, Value.ownBlock] at hk; omega
  rcases hown.2 with ⟨rfl, rfl⟩ | ⟨g, cap, cur, rfl, hbg, hg, hnc, hcm, hcs, htake⟩
  · have hx : xs = [] := List.eq_nil_of_length_eq_zero (by simpa using hown.1)
    subst hx
    have h63' : ¬ (9223372036854775807 < (k : Int)) := by omega
    have h48' : ¬ (281474976710656 < Builtin.nextslicecap k 0 * i.bytes) := by rw [nextslicecap_zero hk]; omega
    have hgr := grown (.slice none 0 0) 0 (by omega)
    simp only [Nat.zero_add, List.nil_append, Array.empty_append] at hgr ⊢
    refine ⟨_, _, ?_, hgr.1, hgr.2⟩
    simp [Builtin.append_, run_underlying ht, run_underlying htI, asInt, asIntOf, sizeOf, typeInfo, zeroValue, hi, hz, hsize, hw, hk0, hkb', hkn, h63', h48', Question.forced, run_firstCells_none, newRow, grownCap, zeroCells_one z _ hzs]
  · by_cases hroom : n + k ≤ cap
    · have hst := run_storeCells_at P g (n * 1) e (List.replicate k z) 0 cur w hg (by simp [hcs]; omega) (by intro v hv; rw [List.eq_of_mem_replicate hv]; exact hz1)
      simp only [Nat.add_zero, Nat.mul_one] at hst
      refine ⟨.slice (some ⟨g, 0, none⟩) (n + k) cap, w.setRow g (cur.toList.take n ++ List.replicate k z ++ cur.toList.drop (n + (List.replicate k z).length)).toArray, ?_, ⟨?_, .inr ⟨g, cap, _, rfl, hbg, setRow_heap w g cur _ e _ hg, hroom, hcm, ?_, ?_⟩⟩, ⟨rfl, rfl, rfl, by simp, fun j _ hj => setRow_other w g j _ (fun e => hj (by simp [foot, Value.ownBlock, e])), fun j hj => .inl hj⟩⟩
      · simp [Builtin.append_, run_underlying ht, run_underlying htI, asInt, asIntOf, sizeOf, typeInfo, zeroValue, hi, hz, hsize, hw, hk0, hkb', hkn, hroom, zeroCells_one z _ hzs, Addr.add_lit, hst]
      · simp [hown.1]
      · simp [hcs]; omega
      · simp only [Nat.mul_one] at htake ⊢
        have hxl : xs.length = n := by simpa using hown.1
        rw [htake]
        have hle : n + k = (xs ++ List.replicate k z).length := by simp [hxl]
        rw [hle]
        exact List.take_left
    · have holds : ∀ j u, xs[j]? = some u → w.cell? ((⟨g, 0, none⟩ : Addr).add j) = some u := hown.cells (g := g) rfl
      have hfo := run_firstCells_some (P := P) w.drew 1 n ⟨g, 0, none⟩ n cap xs hown.1 (by simpa using holds)
      have h63' : ¬ (9223372036854775807 < ((n : Int) + (k : Int))) := by omega
      have h48' : ¬ (281474976710656 < Builtin.nextslicecap (n + k) cap * i.bytes) := by have := growslice_fits (need := n + k) (old := cap) (bytes := i.bytes) (by omega) hbytes; omega
      have hgr := grown (.slice (some ⟨g, 0, none⟩) n cap) cap (by omega)
      refine ⟨_, _, ?_, hgr.1, hgr.2⟩
      simp [Builtin.append_, run_underlying ht, run_underlying htI, asInt, asIntOf, sizeOf, typeInfo, zeroValue, hi, hz, hsize, hw, hk0, hkb', hkn, hroom, h63', h48', Question.forced, hfo, newRow, grownCap, zeroCells_one z _ hzs]

theorem wpList_append_run {ops : Array Oper} {rest : List Oper} {o : Oper} {a : Act} {Q : Exit → Act → World → Prop} (hgd : o.guard = none) (s x : Operand) (t tx : TypeId)
    (ho : o.op = .call { callee := .builtin .append, args := #[s, x], argTypes := #[t, tx] }) (v xv v' : Value) (w' : World) (hs : a.eval s = v) (hx : a.eval x = xv)
    (hr : (Builtin.append_ #[t, tx] o.type #[v, xv]).run P w = .ok v' w') (h : wpList P ops Q rest (a.put o.dst v') w') : wpList P ops Q (o :: rest) a w := by
  refine wpList_plain hgd fun K hK => ?_
  unfold Oper.wp execOp
  simp only [ho, resolve, invoke, builtin, Sem.run_bind, Sem.run_pure, Result.andThen_ok, List.map_toArray, List.map_cons, List.map_nil, hs, hx, hr]
  exact hK _ _ h

theorem step_append_run {ops : Array Oper} {o : Oper} {a : Act} {K : Act → World → Prop} {Q : Exit → Act → World → Prop} {E : Prop} (hgd : o.guard = none) (s x : Operand) (t tx : TypeId)
    (ho : o.op = .call { callee := .builtin .append, args := #[s, x], argTypes := #[t, tx] }) (v xv v' : Value) (w' : World) (hs : a.eval s = v) (hx : a.eval x = xv)
    (hr : (Builtin.append_ #[t, tx] o.type #[v, xv]).run P w = .ok v' w') (h : K (a.put o.dst v') w') : if Region.wanted o (yielded ops a.tmps) = true then Oper.wp P o a w K Q else E := by
  have hw : Region.wanted o (yielded ops a.tmps) = true := by simp [Region.wanted, hgd]
  rw [if_pos hw]
  unfold Oper.wp execOp
  simp only [ho, resolve, invoke, builtin, Sem.run_bind, Sem.run_pure, Result.andThen_ok, List.map_toArray, List.map_cons, List.map_nil, hs, hx, hr]
  exact h

end
end Go.Proofs.YtinpenoeohejoaaGreatDoor

namespace Go.Proofs.YtinpenoeohejoaaGreatDoor
open Go.RowKit
set_option maxRecDepth 100000

section
variable {P : Program} {ops : Array Oper} {Q : Exit → Act → World → Prop} {md : Region.Mode} {S : World → Prop} {oi : Oper} {v : Value} {fuel : Nat} {listed L' : Array Bool} {a a' : Act} {w : World}
theorem tkY (i : Nat) (hS : S w) (h : wpAnyH P md ops Q S fuel L' a' w) (hi : ops[i]? = some oi := by (first | simp only [List.getElem?_toArray, List.getElem?_cons_succ, List.getElem?_cons_zero] <;> rfl | rfl)) (hs : Region.noSelect ops = true := by kernel_rfl) (hf : Region.free md ops listed i = true := by kernel_rfl) (hr : (Region.ready md ops listed).contains i = true := by kernel_rfl)
    (hw : Region.wanted oi (yielded ops a.tmps) = true := by rfl) (hy : ∀ w, S w → (execOp a.eval oi).run P w = .ok (.value v) w := by (intro w hSw; (try dsimp only at hSw); go_simp; first | done | with_reducible rfl | rfl))
    (hQ : ∀ c a w, Q (.panic c) (a.put oi.dst v) w → Q (.panic c) a w := by exact fun _ _ _ h => h)
    (e1 : listed.setIfInBounds i true = L' := by (try simp only [List.setIfInBounds_toArray, List.set_cons_zero, List.set_cons_succ]) <;> rfl) (e2 : a.put oi.dst v = a' := by (try simp only [Act.put, List.setIfInBounds_toArray, List.set_cons_zero, List.set_cons_succ]) <;> rfl)
    : wpAnyH P md ops Q S (fuel + 1) listed a w :=
  wpAnyH_take hi hs hf hr hQ (.inl ⟨hw, hy⟩) hS (by rw [e1, e2]; exact h)
theorem tkN (i : Nat) (hS : S w) (h : wpAnyH P md ops Q S fuel L' a' w) (hi : ops[i]? = some oi := by (first | simp only [List.getElem?_toArray, List.getElem?_cons_succ, List.getElem?_cons_zero] <;> rfl | rfl)) (hs : Region.noSelect ops = true := by kernel_rfl) (hf : Region.free md ops listed i = true := by kernel_rfl) (hr : (Region.ready md ops listed).contains i = true := by kernel_rfl)
    (hw : Region.wanted oi (yielded ops a.tmps) = false := by rfl)
    (hQ : ∀ c a w, Q (.panic c) (a.put oi.dst undef) w → Q (.panic c) a w := by exact fun _ _ _ h => h)
    (e1 : listed.setIfInBounds i true = L' := by (try simp only [List.setIfInBounds_toArray, List.set_cons_zero, List.set_cons_succ]) <;> rfl) (e2 : a.put oi.dst undef = a' := by (try simp only [Act.put, List.setIfInBounds_toArray, List.set_cons_zero, List.set_cons_succ]) <;> rfl)
    : wpAnyH P md ops Q S (fuel + 1) listed a w :=
  wpAnyH_take hi hs hf hr hQ (.inr ⟨hw, rfl⟩) hS (by rw [e1, e2]; exact h)
theorem tkL {ty : TypeId} {x : Operand} {v : Value} (i : Nat) (hS : S w) (C : Array Value) (hl : ∀ w, S w → (Instr.loadAt ty v).run P w = .ok (.agg C) w) (h : wpAnyH P md ops Q S fuel L' a' w) (hi : ops[i]? = some oi := by (first | simp only [List.getElem?_toArray, List.getElem?_cons_succ, List.getElem?_cons_zero] <;> rfl | rfl)) (hs : Region.noSelect ops = true := by kernel_rfl) (hf : Region.free md ops listed i = true := by kernel_rfl) (hr : (Region.ready md ops listed).contains i = true := by kernel_rfl)
    (hw : Region.wanted oi (yielded ops a.tmps) = true := by rfl) (ho : oi.op = .load ty x := by rfl) (hx : a.eval x = v := by rfl)
    (hQ : ∀ c a w, Q (.panic c) (a.put oi.dst (.agg C)) w → Q (.panic c) a w := by exact fun _ _ _ h => h)
    (e1 : listed.setIfInBounds i true = L' := by (try simp only [List.setIfInBounds_toArray, List.set_cons_zero, List.set_cons_succ]) <;> rfl) (e2 : a.put oi.dst (.agg C) = a' := by (try simp only [Act.put, List.setIfInBounds_toArray, List.set_cons_zero, List.set_cons_succ]) <;> rfl)
    : wpAnyH P md ops Q S (fuel + 1) listed a w := by
  refine wpAnyH_take hi hs hf hr hQ (.inl ⟨hw, fun w hw' => ?_⟩) hS (by rw [e1, e2]; exact h)
  unfold execOp
  simp only [ho, hx, Sem.run_bind, Sem.run_pure, Result.andThen_ok, hl w hw']
end
end Go.Proofs.YtinpenoeohejoaaGreatDoor

namespace Go.Proofs.YtinpenoeohejoaaGreatDoor
open Go.RowKit
set_option maxRecDepth 100000

def bs (s : ByteArray) : List UInt8 := s.data.toList
def byteV (b : UInt8) : Value := .int .u8 (b.toNat : Int)
def byteVals (l : List UInt8) : List Value := l.map byteV
def strV (l : List UInt8) : Value := .string ⟨l.toArray⟩

theorem bs_length (s : ByteArray) : (bs s).length = s.size := rfl
theorem strV_bs (s : ByteArray) : strV (bs s) = .string s := rfl
theorem bs_mk (l : List UInt8) : bs ⟨l.toArray⟩ = l := rfl
theorem byteVals_length (l : List UInt8) : (byteVals l).length = l.length := by simp [byteVals]
theorem byteVals_one (l : List UInt8) : ∀ u ∈ byteVals l, u.oneCell' = true := by
  intro u hu; simp only [byteVals, List.mem_map] at hu; obtain ⟨b, _, rfl⟩ := hu; rfl
theorem byteVals_append (a b : List UInt8) : byteVals (a ++ b) = byteVals a ++ byteVals b := by simp [byteVals]
theorem byteVals_take (a : List UInt8) (k : Nat) : byteVals (a.take k) = (byteVals a).take k := by simp [byteVals]
theorem byteVals_drop (a : List UInt8) (k : Nat) : byteVals (a.drop k) = (byteVals a).drop k := by simp [byteVals]
theorem byteVals_replicate (k : Nat) (x : UInt8) : byteVals (List.replicate k x) = List.replicate k (byteV x) := by simp [byteVals]

def putL (c : List UInt8) (off : Nat) (s : List UInt8) : List UInt8 :=
  (c ++ List.replicate (off + s.length - c.length) 0).take off ++ s ++ (c ++ List.replicate (off + s.length - c.length) 0).drop (off + s.length)

theorem putL_length (c : List UInt8) (off : Nat) (s : List UInt8) : (putL c off s).length = max c.length (off + s.length) := by
  simp [putL]; omega

section
variable {P : Program} (w : World)

theorem copy_string (t tS ty e : TypeId) (i : TypeInfo) (ht : P.underlying t = some (.slice e)) (hi : P.info? e = some i) (_hsize : i.size = 1)
    (g off n cap : Nat) (cur : Array Value) (hg : w.heap[g]? = some (.cells cur e (0, 0))) (hn : n ≤ cap) (hcs : cur.size = cap)
    (ao : Option Addr) (dCap : Nat) (s : ByteArray) (hfit : off + s.size ≤ n) (ha : 0 < s.size → ao = some ⟨g, off, none⟩) :
    (Builtin.copy_ #[t, tS] ty #[.slice ao (n - off) dCap, .string s]).run P w = .ok (.int .i64 (s.size : Int)) (w.setRow g (cur.toList.take off ++ byteVals (bs s) ++ cur.toList.drop (off + s.size)).toArray) := by
  have hmin : Nat.min s.size (n - off) = s.size := Nat.min_eq_left (by omega)
  have htk : List.take s.size (List.map (fun b : UInt8 => Value.int .u8 (b.toNat : Int)) s.data.toList) = byteVals (bs s) := List.take_of_length_le (by rw [List.length_map]; exact Nat.le_refl _)
  by_cases h0 : 0 < s.size
  · have hao := ha h0
    subst hao
    have hst := run_storeCells_at P g off e (byteVals (bs s)) 0 cur w hg (by rw [byteVals_length, bs_length]; omega) (byteVals_one _)
    simp only [Nat.add_zero, byteVals_length, bs_length] at hst
    simp [Builtin.copy_, run_underlying ht, sizeOf, typeInfo, hi, Builtin.lenOf, hmin, Builtin.firstCells, goInt]
    rw [htk, hst]
    simp
  · have hz : s.size = 0 := by omega
    have hbn : bs s = [] := List.eq_nil_of_length_eq_zero (by rw [bs_length, hz])
    have hself := setRow_self w g cur e (0, 0) hg
    rw [hbn]
    simp only [byteVals, List.map_nil, List.append_nil, hz, Nat.add_zero, List.take_append_drop, Array.toArray_toList, hself]
    cases ao <;> simp [Builtin.copy_, run_underlying ht, sizeOf, typeInfo, hi, Builtin.lenOf, hz, Builtin.firstCells, goInt, storeCells]

theorem conv_bytes (src dst e : TypeId) (hs : P.underlying src = some (.slice e)) (he : P.underlying e = some (.int .u8)) (hd : P.underlying dst = some .string)
    (g : Nat) (cur : Array Value) (fr : Nat × Nat) (t : TypeId) (hg : w.heap[g]? = some (.cells cur t fr)) (c : List UInt8) (htk : cur.toList.take c.length = byteVals c) (o m k : Nat) (h : o + m ≤ c.length) :
    (convert src dst (.slice (some ⟨g, o, none⟩) m k)).run P w = .ok (strV ((c.drop o).take m)) w := by
  have hlen : ((c.drop o).take m).length = m := by simp; omega
  have hr := run_convert_bytes_back (P := P) w src dst e ⟨g, o, none⟩ k ((c.drop o).take m) hs he hd (by
    intro j hj
    have hj' : j < m := by omega
    have hadd : (⟨g, o, none⟩ : Addr).add j = ⟨g, o + j, none⟩ := by unfold Addr.add; split <;> simp_all
    rw [hadd, cell_of_row w g (o + j) cur t fr hg]
    have h1 : (cur.toList.take c.length)[o + j]? = (byteVals c)[o + j]? := by rw [htk]
    rw [List.getElem?_take, if_pos (by omega)] at h1
    rw [← Array.getElem?_toList, h1]
    simp only [byteVals, List.getElem?_map]
    rw [List.getElem?_eq_getElem (by omega)]
    simp [byteV])
  rw [hlen] at hr
  exact hr

theorem conv_row (src dst e : TypeId) (hs : P.underlying src = some (.slice e)) (he : P.underlying e = some (.int .u8)) (hd : P.underlying dst = some .string)
    (v : Value) (c : List UInt8) (h : w.ownsRow 0 e 1 v c.length (byteVals c)) : (convert src dst v).run P w = .ok (strV c) w := by
  rcases h.2 with ⟨rfl, h0⟩ | ⟨g, cap, cur, rfl, _, hg, _, _, _, htk⟩
  · have hc : c = [] := List.eq_nil_of_length_eq_zero h0
    subst hc
    rw [run_convert_bytes_string w src dst e none 0 0 hs he hd]
    rfl
  · rw [Nat.mul_one] at htk
    have := conv_bytes (P := P) w src dst e hs he hd g cur _ e hg c htk 0 c.length cap (by omega)
    simpa using this

end
end Go.Proofs.YtinpenoeohejoaaGreatDoor
