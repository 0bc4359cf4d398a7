/- A journal in memory; lists of strings; the contracts of count and Many. -/
import Derived.Test.YtbpbmigdfjnneaaJRec
import Derived.OwnWalkIn
namespace Go.Proofs.Ytbpbmigdfjnneaa
open Go.RowKit
set_option maxRecDepth 100000

structure JM where
  fin : Nat
  many : Nat
  space : Nat
  broken : Bool

/-- The journal M lies at block jb; its disk lies at b. -/
def JAt (w : World) (jb b : Nat) (M : JM) : Prop :=
  w.heap[jb]? = some (.cells #[.pointer (some ⟨b, 0, none⟩), .int .i64 (M.fin : Int), .int .i64 (M.many : Int), .int .i64 (M.space : Int), .bool M.broken] 93 (0, 0))

theorem JAt.lt {w : World} {jb b : Nat} {M : JM} (h : JAt w jb b M) : jb < w.heap.size := blk_lt h
theorem JAt.same {w w' : World} {jb b : Nat} {M : JM} (h : JAt w jb b M) (hs : w'.heap[jb]? = w.heap[jb]?) : JAt w' jb b M := hs.trans h
theorem JAt.kept {w w' : World} {jb b : Nat} {M : JM} {T T' : List Nat} (h : JAt w jb b M) (hu : Upd T T' w w') (hd : jb ∉ T) : JAt w' jb b M := h.same (hu.block jb h.lt hd)
theorem JAt.c0 {w : World} {jb b : Nat} {M : JM} (h : JAt w jb b M) : w.cell? ⟨jb, 0, none⟩ = some (.pointer (some ⟨b, 0, none⟩)) := cell_of_row w jb 0 _ _ _ h
theorem JAt.c1 {w : World} {jb b : Nat} {M : JM} (h : JAt w jb b M) : w.cell? ⟨jb, 1, none⟩ = some (.int .i64 (M.fin : Int)) := cell_of_row w jb 1 _ _ _ h
theorem JAt.c2 {w : World} {jb b : Nat} {M : JM} (h : JAt w jb b M) : w.cell? ⟨jb, 2, none⟩ = some (.int .i64 (M.many : Int)) := cell_of_row w jb 2 _ _ _ h
theorem JAt.c3 {w : World} {jb b : Nat} {M : JM} (h : JAt w jb b M) : w.cell? ⟨jb, 3, none⟩ = some (.int .i64 (M.space : Int)) := cell_of_row w jb 3 _ _ _ h
theorem JAt.c4 {w : World} {jb b : Nat} {M : JM} (h : JAt w jb b M) : w.cell? ⟨jb, 4, none⟩ = some (.bool M.broken) := cell_of_row w jb 4 _ _ _ h
theorem JAt.free {w : World} {jb b : Nat} {M : JM} (h : JAt w jb b M) (i : Nat) : w.frozen? ⟨jb, i, none⟩ = false := frozen_of_row w jb i _ _ h
theorem JAt.set {w : World} {jb b : Nat} {M : JM} (h : JAt w jb b M) (M' : JM) (i : Nat) (v : Value)
    (hv : (#[.pointer (some ⟨b, 0, none⟩), .int .i64 (M.fin : Int), .int .i64 (M.many : Int), .int .i64 (M.space : Int), .bool M.broken] : Array Value).setIfInBounds i v = #[.pointer (some ⟨b, 0, none⟩), .int .i64 (M'.fin : Int), .int .i64 (M'.many : Int), .int .i64 (M'.space : Int), .bool M'.broken]) :
    JAt (w.setCell ⟨jb, i, none⟩ v) jb b M' := by
  unfold JAt
  rw [heap_setCell_same w jb i _ _ v h, hv]

set_option maxHeartbeats 400000 in
theorem jcount_any (jb b : Nat) (M : JM) (r : ByteArray) (w : World) (h : JAt w jb b M) (hm : M.many ≤ 1099511627776) (hs : M.space ≤ 1099511627776) (hr : r.size ≤ 1099511627776) :
    Calls Try.prog 58 #[.pointer (some ⟨jb, 0, none⟩), .string r] w fun e w' => e = .returned (.tuple #[]) ∧ JAt w' jb b { M with many := M.many + 1, space := M.space + r.size + 16 } ∧ Upd [jb] [jb] w w' := by
  have c2 := h.c2
  have c3 := h.c3
  have f2 := h.free 2
  have f3 := h.free 3
  have h1 := h.set { M with many := M.many + 1 } 2 (.int .i64 ((M.many : Int) + 1)) (by simp)
  have h2 := h1.set { M with many := M.many + 1, space := M.space + r.size + 16 } 3 (.int .i64 ((M.space : Int) + ((r.size : Int) + 16))) (by simp; omega)
  have hu := ((Upd.refl [jb] w).setCell (p := ⟨jb, 2, none⟩) (by simp) (.int .i64 ((M.many : Int) + 1))).setCell (p := ⟨jb, 3, none⟩) (by simp) (.int .i64 ((M.space : Int) + ((r.size : Int) + 16)))
  have H2 := Lib.hid h2
  have HU := Lib.hid hu
  clear h h1 h2 hu
  go_enter Try.func58, Try.ntmps58
  go_wp2
  go_end0
  exact ⟨rfl, H2.out, HU.out⟩

set_option maxHeartbeats 400000 in
theorem Many_any (jb b : Nat) (M : JM) (w : World) (h : JAt w jb b M) :
    Calls Try.prog 42 #[.pointer (some ⟨jb, 0, none⟩)] w (Same (.int .i64 (M.many : Int)) w) := by
  have c2 := h.c2
  clear h
  go_enter Try.func42, Try.ntmps42
  go_wp2
  go_ret
  exact ⟨rfl, rfl⟩

/-! ### rows of strings -/
def strVals (ss : List (List UInt8)) : List Value := ss.map strV
theorem strVals_length (ss : List (List UInt8)) : (strVals ss).length = ss.length := by simp [strVals]
/-- The slice value v owns the strings ss. -/
def StrRow (w : World) (v : Value) (ss : List (List UInt8)) : Prop := w.ownsRow 0 9 1 v ss.length (strVals ss)

theorem info_str : (Try.prog.info? 9).map (fun i => (i.zero, i.size, i.bytes)) = some (some (.string ⟨#[]⟩), 1, 16) := by kernel_rfl

theorem StrRow.same {w w' : World} {v : Value} {ss : List (List UInt8)} (h : StrRow w v ss) (hs : ∀ k, k ∈ foot v → w'.heap[k]? = w.heap[k]?) : StrRow w' v ss := row_same h hs
theorem StrRow.lt {w : World} {v : Value} {ss : List (List UInt8)} (h : StrRow w v ss) : ∀ k, k ∈ foot v → k < w.heap.size := row_foot_lt h
theorem strRow_nil (w : World) : StrRow w (.slice none 0 0) [] := World.ownsRow_nil _ _ _ _

/-- append(v, s) -/
theorem append_str (w : World) (v : Value) (ss : List (List UInt8)) (r : ByteArray) (h : StrRow w v ss) (hl : ss.length ≤ 1099511627776) :
    ∃ v' w1, (Builtin.append_ #[61, 61] 61 #[v, .slice (some ⟨w.heap.size, 0, none⟩) 1 1]).run Try.prog (w.alloc (.cells #[.string r] 9)) = .ok v' w1 ∧
      StrRow w1 v' (ss ++ [bs r]) ∧ Upd (foot v) (foot v') w w1 := by
  obtain ⟨i0, hi, hz0, hz1, hz2⟩ := info_parts info_str
  obtain ⟨v', w1, hr, hrow, hup⟩ := append_block (P := Try.prog) (w.alloc (.cells #[.string r] 9)) 61 61 9 i0 _ 1 16 Try.underlying61 hi hz0 hz1 hz2 rfl (by omega) v ss.length (strVals ss)
    (row_same h (fun k hk => Below.heap_alloc _ _ _ (h.lt k hk))) ⟨w.heap.size, 0, none⟩ 1 1 [.string r] rfl
    (by intro j u hj; match j, hj with
        | 0, hj => simp at hj; subst hj; simp [Addr.add])
    (by intro u hu; simp at hu; subst hu; rfl) (by omega) (by simp [maxLen]; omega)
  refine ⟨v', w1, hr, ?_, hup.fore⟩
  unfold StrRow
  have e : strVals (ss ++ [bs r]) = strVals ss ++ [.string r] := by simp [strVals, strV_bs]
  rw [e, List.length_append]
  exact hrow

/-- An append whose run is known, inside a fence. -/
theorem wpListIn_append_run {F : Fence} {n : Nat} {P : Program} (w : World) {ops : Array Oper} {rest : List Oper} {o : Oper} {a : Act} {Q : Exit → Act → World → Prop} (hgd : o.guard = none) (s x : Operand) (t tx : TypeId)
    (ho : o.op = .call { callee := .builtin .append, args := #[s, x], argTypes := #[t, tx] }) (v xv v' : Value) (w' : World) (hs : a.eval s = v) (hx : a.eval x = xv)
    (hr : (Builtin.append_ #[t, tx] o.type #[v, xv]).run P w = .ok v' w') (h : wpListIn F n P ops Q rest (a.put o.dst v') w') : wpListIn F n P ops Q (o :: rest) a w := by
  refine wpListIn_plain hgd fun K hK => ?_
  unfold Oper.wpIn
  refine ⟨?_, ?_⟩
  · simp [Oper.about, ho, resolve, Target.leads, Sem.run_pure]
  · rw [Oper.semAt_plain F _ _ (by rw [ho]; intro c hc'; cases hc')]
    simp only [execOp, ho, resolve, invoke, builtin, Sem.run_bind, Sem.run_pure, Result.andThen_ok, List.map_toArray, List.map_cons, List.map_nil, hs, hx, hr]
    exact hK _ _ h
end Go.Proofs.Ytbpbmigdfjnneaa
