/- strconv.Itoa and Atoi in this text's forms; sign.Text, sign.Read. What a row's listed variables give the walks; a world for the witnesses. Small things that the rows share. Values of plain types (numbers, texts, truth values, arrays and structs of them), opened cell by cell. How much the arguments hold: the bound of the second form, for texts. Six ints, opened. Court's example: the signature of the first text does not serve for the second. -/
import Derived.Test.YtcimcodljjcmgaaGreatDoorGAE
import Derived.Test.YtcimcodljjcmgaaGreatDoorCards
import Derived.Test.YtcimcodljjcmgaaGreatDoorTie
import Derived.ProofKit
import Derived.OpenShut
import Derived.ShutString
import Derived.ChangeOld
import Derived.Lib.SmallJoins
import Derived.Deep.Slices
import Derived.Deep.DeepHandedRow
import Derived.Deep.DeepWitnessRowRef
import Derived.Lib.LaidTab
import Derived.Stop.LaidErr
import Derived.LaidMore
import Derived.HandedShaped
namespace Go.Proofs.YtcimcodljjcmgaaGreatDoor
open Go.RowKit
set_option maxRecDepth 100000

theorem upd_grow (os : Array Obj) (w : World) : Upd [] [] w (Go.Sort.grow w os) :=
  ⟨rfl, rfl, rfl, by simp [Go.Sort.grow], fun k hk _ => by simp [Go.Sort.grow, Array.getElem?_append, hk], fun _ hk => absurd hk (by simp)⟩

theorem itoa_any (n : Int) (w : World) (hn : i64in n) (htab : Tabs w) : Calls Tryz.prog 19 #[.int .i64 n] w (MkS (Lib.itoa n) w) := by
  refine (Tryz.strconv_Itoa n hn.1 hn.2 w htab.p).mono ?_
  rintro e w' ⟨rfl, k, os, rfl⟩
  exact ⟨⟨(Lib.itoa n).toArray⟩, rfl, Nat.le_refl _, rfl, ((Upd.refl [] w).drewN k).trans (upd_grow os _)⟩

theorem upd_bytes (w : World) (e : TypeId) (t : ByteArray) : Upd [] [] w (Lib.bytesWorld w e t) := by
  exact upd_of_below (Lib.bytesWorld_below _ _ _)

theorem atoi_ok (s : ByteArray) (v : Int) (w : World) (hs : s.size ≤ 140737488355000) (h : Lib.atoiAll (bs s) = .ok v) :
    Calls Tryz.prog 92 #[.string s] w (fun e w' => e = .returned (.tuple #[.int .i64 v, .nilIface]) ∧ Upd [] [] w w') := by
  refine (Tryz.strconv_Atoi_ok s (by omega) v h w).mono ?_
  rintro e w' ⟨rfl, hw⟩
  refine ⟨rfl, ?_⟩
  rcases hw with rfl | ⟨t, rfl⟩
  · exact Upd.refl _ _
  · exact upd_bytes _ _ _

def AtoiBad (w : World) (e : Ending) (w' : World) : Prop := ∃ (v : Int) (N : Nat), e = .returned (.tuple #[.int .i64 v, .iface 236 (.pointer (some ⟨N, 0, none⟩))]) ∧ i64in v ∧ Upd [] [] w w'
theorem atoi_bad (s : ByteArray) (w : World) (hs : s.size ≤ 140737488355000) (h : ∀ v, Lib.atoiAll (bs s) ≠ .ok v) (htab : Tabs w) :
    Calls Tryz.prog 92 #[.string s] w (AtoiBad w) := by
  cases hq : Lib.atoiAll (bs s) with
  | ok v => exact absurd hq (h v)
  | «syntax» =>
    obtain ⟨tp, p, hv⟩ := htab.es
    refine (Tryz.strconv_Atoi_syntax_var s (by omega) hq tp p w hv).mono ?_
    rintro e w' ⟨N, rfl, _, _, hb⟩
    exact ⟨0, N, rfl, ⟨by omega, by omega⟩, upd_of_below hb⟩
  | range =>
    obtain ⟨tp, p, hv⟩ := htab.er
    refine (Tryz.strconv_Atoi_range_var s (by omega) hq tp p w hv).mono ?_
    rintro e w' ⟨N, rfl, _, _, hb⟩
    refine ⟨_, N, rfl, ?_, upd_of_below hb⟩
    unfold Lib.atoiSat i64in
    split <;> omega

theorem SigAt.free {w wp : World} {r s : Int} (h : SigAt w wp r s) : wp.frozen? ⟨w.heap.size, 0, none⟩ = false ∧ wp.frozen? ⟨w.heap.size, 1, none⟩ = false :=
  ⟨frozen_of_row _ _ _ _ _ h.row, frozen_of_row _ _ _ _ _ h.row⟩

theorem bs_inj {a b : ByteArray} (h : bs a = bs b) : a = b := by
  cases a; cases b
  simp only [bs, Array.toList_inj] at h
  rw [h]

end Go.Proofs.YtcimcodljjcmgaaGreatDoor

namespace Go.Proofs.YtcimcodljjcmgaaGreatDoor
open Go.ChangeShapes Go.WideShapes Go.ChangeAt Go.RowKit
set_option maxRecDepth 100000

theorem own_knob : ownKnob Tryz.prog.godebug = none := by kernel_rfl
theorem laid_out : laidOutB Tryz.prog = true := by kernel_rfl

def laidL : List (String × DataW Unit) := Rows.courtContradictsRow.laid

theorem gP10 : Tryz.prog.globalNamed "internal/strconv.uint64pow10" = some 0 := by kernel_rfl
theorem gER : Tryz.prog.globalNamed "strconv.ErrRange" = some 3 := by kernel_rfl
theorem gES : Tryz.prog.globalNamed "strconv.ErrSyntax" = some 2 := by kernel_rfl
theorem starE : ("*" ++ "errors.errorString" : String) = "*errors.errorString" := by decide
theorem rowE (u : TypeId) (h : Tryz.prog.typeName? 3 u = some "*errors.errorString") : u = 282 :=
  typeName_ptr_named (nm := "errors.errorString") (by rw [starE]; kernel_rfl) (by kernel_rfl) (by decide) u (by rw [starE]; exact h)

theorem tabs_of_laid {W : World} (h : laidMetH Tryz.prog laidL W) (hsh : W.ShapedOpen Tryz.prog) : Tabs W := by
  have h0 : laidMet Tryz.prog laidL W := h
  have h3 := h0.tail.tail
  have h3x := h3
  have h3x := h3.tail
  have h4 := h3x.tail
  have h5 := h4.tail
  have h6 := h5.tail
  have h7 := h6.tail
  obtain ⟨a1, s1, hv1, _⟩ := laid_sentinel h4 gER (by kernel_rfl) Tryz.underlying104 rowE Tryz.underlying282 Tryz.underlying284 rfl rfl Tryz.underlying9 (by kernel_rfl) (by kernel_rfl)
  obtain ⟨a2, s2, hv2, _⟩ := laid_sentinel h5 gES (by kernel_rfl) Tryz.underlying104 rowE Tryz.underlying282 Tryz.underlying284 rfl rfl Tryz.underlying9 (by kernel_rfl) (by kernel_rfl)
  refine ⟨?_, ?_, ?_, ⟨_, _, hv1⟩, ⟨_, _, hv2⟩, ?_⟩
  · exact Lib.tabIs_of_head (rest := _) gK (by kernel_rfl) Tryz.underlying285 Tryz.underlying116 (by kernel_rfl) (by kernel_rfl) h7
  · exact Lib.tabIs_of_head (rest := _) gF (by kernel_rfl) Tryz.underlying264 Tryz.underlying116 (by kernel_rfl) (by kernel_rfl) h6
  · exact Lib.tabIs_of_head (rest := _) gP10 (by kernel_rfl) Tryz.underlying230 Tryz.underlying79 (by kernel_rfl) (by kernel_rfl) h3
  · exact Go.Proofs.cell_of_shapedOpen_int (zero := #[.int .i64 0]) (t := 3) hsh (of_decide_eq_true (by kernel_rfl)) (by kernel_rfl) rfl (by kernel_rfl) (by kernel_rfl) Tryz.underlying3
end Go.Proofs.YtcimcodljjcmgaaGreatDoor

namespace Go.Proofs.YtcimcodljjcmgaaGreatDoor
open Go.RowKit
set_option maxRecDepth 100000
theorem below_of_upd {w w' : World} (h : Upd [] [] w w') : Below w.heap.size w w' := ⟨h.os, h.tape, h.output, h.size, fun k hk => h.block k hk (by simp)⟩
end Go.Proofs.YtcimcodljjcmgaaGreatDoor

namespace Go.Proofs.YtcimcodljjcmgaaGreatDoor
open Go.ChangeShapes Go.WideShapes Go.ChangeAt Go.RowKit Go.Deep Go.Joins
set_option maxRecDepth 100000

inductive Kd where
  | i (k : IntKind)
  | s
  | b
def Kd.ok : Kd → Value → Prop
  | .i k, v => ∃ n : Int, v = .int k n ∧ (Lit.int k n).wf = true
  | .s, v => ∃ s : ByteArray, v = .string s ∧ s.size ≤ maxLen
  | .b, v => ∃ b : Bool, v = .bool b

def flatF (P : Program) (fl : TypeId → Option (List Kd)) : Nat → List Field → Option (List Kd)
  | _, [] => some []
  | off, f :: r => match fl f.type with
    | some l => if f.offset = off ∧ l.length = P.cellsOf f.type then (flatF P fl (off + l.length) r).map (l ++ ·) else none
    | none => none
def flatK (P : Program) : Nat → TypeId → Option (List Kd)
  | 0, _ => none
  | f + 1, t => match P.underlying t with
    | some (.int k) => some [.i k]
    | some .string => some [.s]
    | some .bool => some [.b]
    | some (.array n e) => match flatK P f e with
      | some l => if l.length = P.cellsOf e ∧ n * l.length = P.cellsOf t ∧ 0 < l.length then some (List.replicate n l).flatten else none
      | none => none
    | some (.struct fs) => match flatF P (flatK P f) 0 fs.toList with
      | some l => if l.length = P.cellsOf t then some l else none
      | none => none
    | _ => none

def Mt (ks : List Kd) (cs : List Value) : Prop := cs.length = ks.length ∧ ∀ (i : Nat) k, ks[i]? = some k → ∃ v, cs[i]? = some v ∧ k.ok v

theorem Mt.one {k : Kd} {v : Value} (h : k.ok v) : Mt [k] [v] := by
  refine ⟨rfl, fun i k' hi => ?_⟩
  cases i with
  | zero => simp at hi; subst hi; exact ⟨v, rfl, h⟩
  | succ i => simp at hi

theorem flatten_get {α : Type} (l : List α) (m : Nat) (hm : l.length = m) (h0 : 0 < m) : ∀ (n i : Nat) (a : α), (List.replicate n l).flatten[i]? = some a → i / m < n ∧ l[i % m]? = some a
  | 0, i, a, h => by simp at h
  | n + 1, i, a, h => by
    rw [List.replicate_succ, List.flatten_cons] at h
    by_cases hi : i < m
    · rw [List.getElem?_append_left (by omega)] at h
      rw [Nat.div_eq_of_lt hi, Nat.mod_eq_of_lt hi]
      exact ⟨by omega, h⟩
    · rw [List.getElem?_append_right (by omega), hm] at h
      have ih := flatten_get l m hm h0 n (i - m) a h
      have e1 : i / m = (i - m) / m + 1 := by rw [Nat.div_eq_sub_div h0 (by omega)]
      have e2 : i % m = (i - m) % m := by rw [Nat.mod_eq_sub_mod (by omega)]
      rw [e1, e2]
      exact ⟨by omega, ih.2⟩

theorem chunk_get {cs : List Value} {off sz j : Nat} {v : Value} (h : ((cs.drop off).take sz)[j]? = some v) : cs[off + j]? = some v := by
  rw [List.getElem?_take] at h
  split at h
  · rw [List.getElem?_drop] at h; exact h
  · cases h

section
variable {H : Type} {enc : TypeId × Value → H} {P : Program} {w : World} {base : Nat} {sp : Nat → Bool} {hd : Bool}

theorem flatF_ok {fl : TypeId → Option (List Kd)} {cs : List Value} : ∀ (fs : List Field) (off : Nat) (ks : List Kd), flatF P fl off fs = some ks →
    (∀ f ∈ fs, ∀ l, fl f.type = some l → Mt l ((cs.drop f.offset).take (P.cellsOf f.type))) → ∀ (i : Nat) k, ks[i]? = some k → ∃ v, cs[off + i]? = some v ∧ k.ok v
  | [], off, ks, h, _, i, k, hi => by
    simp only [flatF, Option.some.injEq] at h
    subst h
    simp at hi
  | f :: r, off, ks, h, hf, i, k, hi => by
    simp only [flatF] at h
    split at h
    · rename_i l hl
      split at h
      · rename_i hc
        obtain ⟨ks', hk', rfl⟩ := Option.map_eq_some_iff.1 h
        by_cases hil : i < l.length
        · rw [List.getElem?_append_left hil] at hi
          obtain ⟨v, hv, hok⟩ := (hf f (by simp) l hl).2 i k hi
          have := chunk_get hv
          rw [hc.1] at this
          exact ⟨v, this, hok⟩
        · rw [List.getElem?_append_right (by omega)] at hi
          obtain ⟨v, hv, hok⟩ := flatF_ok r (off + l.length) ks' hk' (fun f' hf' => hf f' (by simp [hf'])) (i - l.length) k hi
          rw [show off + l.length + (i - l.length) = off + i by omega] at hv
          exact ⟨v, hv, hok⟩
      · cases h
    · cases h

theorem flatK_ok : ∀ (f : Nat) (t : TypeId) (ks : List Kd) (fuel : Nat) (cs : List Value) (x : DataW H × List MemPlace), flatK P f t = some ks → DataW.trod enc P w base sp hd fuel t cs = some x → Mt ks cs
  | 0, t, ks, fuel, cs, x, h, _ => by simp [flatK] at h
  | f + 1, t, ks, fuel, cs, x, h, hx => by
    simp only [flatK] at h
    split at h
    · rename_i k hu
      obtain ⟨n, rfl, _, hw⟩ := DataW.trod_int hu hx
      simp only [Option.some.injEq] at h
      subst h
      exact Mt.one ⟨n, rfl, hw⟩
    · rename_i hu
      obtain ⟨s, rfl, _, hs⟩ := DataW.trod_string hu hx
      simp only [Option.some.injEq] at h
      subst h
      exact Mt.one ⟨s, rfl, hs⟩
    · rename_i hu
      obtain ⟨b, rfl, _⟩ := DataW.trod_bool hu hx
      simp only [Option.some.injEq] at h
      subst h
      exact Mt.one ⟨b, rfl⟩
    · rename_i n e hu
      split at h
      · rename_i l hl
        split at h
        · rename_i hc
          simp only [Option.some.injEq] at h
          subst h
          obtain ⟨xs, m, _, _, hlen, hxl, hi⟩ := DataW.trod_array hu hx
          refine ⟨by rw [hlen, ← hc.2.1]; simp, fun i k hk => ?_⟩
          obtain ⟨hq, hr⟩ := flatten_get l (P.cellsOf e) hc.1 (by omega) n i k hk
          have h1 := hi (i / P.cellsOf e) hq
          have e0 : xs[i / P.cellsOf e]? = some (xs[i / P.cellsOf e]'(by omega)) := List.getElem?_eq_getElem (by omega)
          rw [e0] at h1
          obtain ⟨v, hv, hok⟩ := (flatK_ok f e l m _ _ hl h1).2 (i % P.cellsOf e) k hr
          have := chunk_get hv
          rw [Nat.mul_comm, Nat.div_add_mod] at this
          exact ⟨v, this, hok⟩
        · cases h
      · cases h
    · rename_i fs hu
      split at h
      · rename_i l hl
        split at h
        · rename_i hc
          simp only [Option.some.injEq] at h
          subst h
          obtain ⟨xs, m, _, _, hlen, hxl, hi⟩ := DataW.trod_struct hu hx
          refine ⟨by rw [hlen, hc], fun i k hk => ?_⟩
          have := flatF_ok fs.toList 0 l hl (fun fd hfd lf hlf => by
            obtain ⟨j, hj⟩ := List.getElem?_of_mem hfd
            have h1 := hi j fd (by simpa using hj)
            have hjl : j < xs.length := by
              have := (List.getElem?_eq_some_iff.1 hj).1
              simp at this
              omega
            have e0 : xs[j]? = some (xs[j]'hjl) := List.getElem?_eq_getElem hjl
            rw [e0] at h1
            exact flatK_ok f fd.type lf m _ _ hlf h1) i k hk
          rw [Nat.zero_add] at this
          exact this
        · cases h
      · cases h
    · cases h

theorem open_flat {t : TypeId} {v : Value} {d : DataW H} {p : List MemPlace} {ks : List Kd} {r : Reach} {b0 : Nat} (f : Nat) (hk : flatK P f t = some ks) (hv : Value.okWide P w r b0 t v) (h : DataW.Trod enc P w base sp hd t v d p) (ha : (∃ n e, P.underlying t = some (.array n e)) ∨ ∃ fs, P.underlying t = some (.struct fs)) :
    ∃ cs : Array Value, v = .agg cs ∧ Mt ks cs.toList := by
  obtain ⟨fuel, hf⟩ := h
  have hm := flatK_ok f t ks fuel _ _ hk hf
  rcases ha with ⟨n, e, hu⟩ | ⟨fs, hu⟩
  · simp only [Value.okWide, hu] at hv
    obtain ⟨cs, rfl, _⟩ := hv
    exact ⟨cs, rfl, hm⟩
  · simp only [Value.okWide, hu] at hv
    obtain ⟨cs, rfl, _⟩ := hv
    exact ⟨cs, rfl, hm⟩

theorem Mt.get {ks : List Kd} {cs : List Value} (h : Mt ks cs) {i : Nat} {k : Kd} (hk : ks[i]? = some k) : ∃ v, cs[i]? = some v ∧ k.ok v := h.2 i k hk
theorem Mt.i64 {ks : List Kd} {cs : List Value} (h : Mt ks cs) {i : Nat} (hk : ks[i]? = some (.i .i64)) : ∃ n : Int, cs[i]? = some (.int .i64 n) ∧ -9223372036854775808 ≤ n ∧ n ≤ 9223372036854775807 := by
  obtain ⟨v, hv, n, rfl, hw⟩ := h.2 i _ hk
  exact ⟨n, hv, bounds_i64 hw⟩
theorem Mt.bool {ks : List Kd} {cs : List Value} (h : Mt ks cs) {i : Nat} (hk : ks[i]? = some .b) : ∃ b : Bool, cs[i]? = some (.bool b) := by
  obtain ⟨v, hv, n, rfl⟩ := h.2 i _ hk
  exact ⟨n, hv⟩
theorem Mt.u8 {ks : List Kd} {cs : List Value} (h : Mt ks cs) {i : Nat} (hk : ks[i]? = some (.i .u8)) : ∃ n : Int, cs[i]? = some (.int .u8 n) ∧ 0 ≤ n ∧ n ≤ 255 := by
  obtain ⟨v, hv, n, rfl, hw⟩ := h.2 i _ hk
  exact ⟨n, hv, bounds_u8 hw⟩
end
end Go.Proofs.YtcimcodljjcmgaaGreatDoor

namespace Go.Proofs.YtcimcodljjcmgaaGreatDoor
open Go.ChangeShapes Go.WideShapes Go.ChangeAt Go.RowKit Go.Deep Go.Joins
set_option maxRecDepth 100000

section
variable {H : Type} {enc : TypeId × Value → H} {P : Program} {w : World} {base : Nat} {sp : Nat → Bool} {hd : Bool}
theorem bulkAll_mem : ∀ {l : List (DataW H)} {d : DataW H}, d ∈ l → Rows.uptoBulk d ≤ Rows.uptoBulkAll l
  | x :: r, d, h => by
    simp only [Rows.uptoBulkAll]
    rcases List.mem_cons.1 h with rfl | h
    · omega
    · have := bulkAll_mem h
      omega
theorem bulk_of {ds : List (DataW H)} {d : DataW H} (hk : Rows.uptoSmall H ds = true) (h : d ∈ ds) : Rows.uptoBulk d ≤ 1048576 :=
  Nat.le_trans (bulkAll_mem h) (of_decide_eq_true hk)
theorem bulk_str {ds : List (DataW H)} {s : ByteArray} (hk : Rows.uptoSmall H ds = true) (h : DataW.lit (.string s.data.toList) ∈ ds) : s.size ≤ 1048576 := by
  have := bulk_of hk h
  simp only [Rows.uptoBulk, Array.length_toList] at this
  have e : s.data.size = s.size := rfl
  omega

end
end Go.Proofs.YtcimcodljjcmgaaGreatDoor

namespace Go.Proofs.YtcimcodljjcmgaaGreatDoor
open Go.ChangeShapes Go.WideShapes Go.ChangeAt Go.RowKit Go.Deep Go.Joins
set_option maxRecDepth 100000

section
variable {H : Type} {enc : TypeId × Value → H} {P : Program} {w : World} {base : Nat} {sp : Nat → Bool} {hd : Bool}
theorem open_ints6 {t : TypeId} {v : Value} {d : DataW H} {p : List MemPlace} {r : Reach} {b0 : Nat} (f : Nat) (hk : flatK P f t = some [.i .i64, .i .i64, .i .i64, .i .i64, .i .i64, .i .i64]) (hv : Value.okWide P w r b0 t v) (h : DataW.Trod enc P w base sp hd t v d p) (ha : (∃ n e, P.underlying t = some (.array n e)) ∨ ∃ fs, P.underlying t = some (.struct fs)) :
    ∃ a b c e g i : Int, v = .agg #[.int .i64 a, .int .i64 b, .int .i64 c, .int .i64 e, .int .i64 g, .int .i64 i] ∧ i64in a ∧ i64in b ∧ i64in c ∧ i64in e ∧ i64in g ∧ i64in i := by
  obtain ⟨cs, rfl, hm⟩ := open_flat f hk hv h ha
  obtain ⟨a, ha, wa⟩ := hm.i64 (i := 0) rfl
  obtain ⟨b, hb, wb⟩ := hm.i64 (i := 1) rfl
  obtain ⟨c, hc, wc⟩ := hm.i64 (i := 2) rfl
  obtain ⟨e, he, we⟩ := hm.i64 (i := 3) rfl
  obtain ⟨g, hg, wg⟩ := hm.i64 (i := 4) rfl
  obtain ⟨i, hi, wi⟩ := hm.i64 (i := 5) rfl
  have hl : cs.toList.length = 6 := hm.1
  refine ⟨a, b, c, e, g, i, ?_, wa, wb, wc, we, wg, wi⟩
  congr 1
  apply Array.ext'
  match h : cs.toList, hl with
  | [x, y, z, u, v, t], _ =>
    rw [h] at ha hb hc he hg hi
    simp at ha hb hc he hg hi
    rw [ha, hb, hc, he, hg, hi]
end
end Go.Proofs.YtcimcodljjcmgaaGreatDoor

namespace Go.Proofs.YtcimcodljjcmgaaGreatDoor
set_option maxRecDepth 100000

def zeros64 : List UInt8 := List.replicate 64 48
def tPre : List UInt8 := [101, 118, 101, 110, 116, 32, 53, 32, 52, 32, 51, 32, 48, 32, 48, 32] ++ (zeros64 ++ [32, 49, 58])
def tA : List UInt8 := tPre ++ [97]
def tB : List UInt8 := tPre ++ [98]
def three : List UInt8 := [116, 104, 114, 101, 101]
theorem k_three : keyN three = 157892282797220714 := by decide +kernel
theorem k_nonce : nonceN 157892282797220714 tA = 582795021020609833 := by decide +kernel
theorem k_pub : gP 157892282797220714 = 1329328167538474094 := by
  rw [gP, ← pmF_eq Pn 64 4 157892282797220714 (by decide)]
  decide +kernel
theorem k_r : gP 582795021020609833 = 1933573506679164813 := by
  rw [gP, ← pmF_eq Pn 64 4 582795021020609833 (by decide)]
  decide +kernel
theorem k_ca : chalN 1933573506679164813 1329328167538474094 tA = 159858859656014421 := by decide +kernel
theorem k_cb : chalN 1933573506679164813 1329328167538474094 tB = 223578461168602368 := by decide +kernel
theorem forged_no : verB (gP (keyN three) : Int) tB (gP (nonceN (keyN three) tA) : Int) (sWith (keyN three) (nonceN (keyN three) tA) tA : Int) = false := by
  cases h : verB (gP (keyN three) : Int) tB (gP (nonceN (keyN three) tA) : Int) (sWith (keyN three) (nonceN (keyN three) tA) tA : Int) with
  | false => rfl
  | true =>
    rcases ver_two (ver_with (keyN three) (nonceN (keyN three) tA) tA) h with k | k
    · rw [k_three, k_nonce, k_pub, k_r, k_ca, k_cb] at k
      exact absurd k (by decide)
    · rw [k_three, k_pub] at k
      exact absurd k (by decide)
end Go.Proofs.YtcimcodljjcmgaaGreatDoor
