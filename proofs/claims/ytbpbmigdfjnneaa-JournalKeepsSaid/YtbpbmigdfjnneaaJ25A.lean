/- sortesref25: Same, New, Fits, Append; sorteslaw25.short. -/
import Derived.Test.YtbpbmigdfjnneaaJAppB
namespace Go.Proofs.Ytbpbmigdfjnneaa
open Go.RowKit
set_option maxRecDepth 100000

/-- v is a slice of strings, wherever it lies. -/
def StrsAt (w : World) (v : Value) (ss : List (List UInt8)) : Prop :=
  ∃ cap, cap ≤ 9223372036854775807 ∧ ss.length ≤ cap ∧ ((ss = [] ∧ ∃ ao, v = .slice ao 0 cap) ∨ ∃ b off, v = .slice (some ⟨b, off, none⟩) ss.length cap ∧ ∀ j s, ss[j]? = some s → w.cell? ⟨b, off + j, none⟩ = some (strV s))

theorem StrRow.strs {w : World} {v : Value} {ss : List (List UInt8)} (h : StrRow w v ss) : StrsAt w v ss := by
  obtain ⟨ao, cap, hv, hc, hm⟩ := row_slice h
  refine ⟨cap, hm, hc, ?_⟩
  by_cases h0 : ss.length = 0
  · exact .inl ⟨List.eq_nil_of_length_eq_zero h0, ao, by rw [hv, h0]⟩
  · obtain ⟨g, cap', cur, hv', hg, _, _, hcs, htk⟩ := row_pos h (by omega)
    rw [hv] at hv'
    cases hv'
    rw [Nat.mul_one] at htk
    refine .inr ⟨g, 0, hv, fun j s hj => ?_⟩
    rw [Nat.zero_add, cell_of_row w g j cur _ _ hg]
    have hjl : j < ss.length := (List.getElem?_eq_some_iff.1 hj).1
    have h1 : (cur.toList.take ss.length)[j]? = (strVals ss)[j]? := by rw [htk]
    rw [List.getElem?_take, if_pos hjl] at h1
    rw [← Array.getElem?_toList, h1]
    simp [strVals, hj]

theorem StrsAt.same {w w' : World} {v : Value} {ss : List (List UInt8)} (h : StrsAt w v ss) (hs : ∀ b off n cap, v = .slice (some ⟨b, off, none⟩) n cap → b < w.heap.size → w'.heap[b]? = w.heap[b]?) : StrsAt w' v ss := by
  obtain ⟨cap, h1, h2, h3 | ⟨b, off, rfl, hc⟩⟩ := h
  · exact ⟨cap, h1, h2, .inl h3⟩
  · exact ⟨cap, h1, h2, .inr ⟨b, off, rfl, fun j s hj => by
      have h4 := hc j s hj
      rw [World.cell?_of_block (a := ⟨b, off + j, none⟩) (hs b off _ cap rfl (World.block_lt_of_cell? _ _ h4))]
      exact h4⟩⟩
theorem StrsAt.below {w w' : World} {v : Value} {ss : List (List UInt8)} (h : StrsAt w v ss) (hb : Below w.heap.size w w') : StrsAt w' v ss := h.same fun b _ _ _ _ hl => hb.block b hl
theorem StrsAt.alloc {w : World} {v : Value} {ss : List (List UInt8)} (h : StrsAt w v ss) (o : Obj) : StrsAt (w.alloc o) v ss := h.same fun _ _ _ _ _ hl => Below.heap_alloc _ _ _ hl
theorem StrsAt.drew {w : World} {v : Value} {ss : List (List UInt8)} (h : StrsAt w v ss) : StrsAt w.drew v ss := h.same fun _ _ _ _ _ _ => rfl
theorem StrsAt.drewN {w : World} {v : Value} {ss : List (List UInt8)} (h : StrsAt w v ss) (n : Nat) : StrsAt (w.drewN n) v ss := h.same fun _ _ _ _ _ _ => rfl
theorem StrsAt.slice {w : World} {v : Value} {ss : List (List UInt8)} (h : StrsAt w v ss) : ∃ ao cap, v = .slice ao ss.length cap ∧ ss.length ≤ cap ∧ cap ≤ 9223372036854775807 := by
  obtain ⟨cap, h1, h2, ⟨rfl, ao, rfl⟩ | ⟨b, off, rfl, _⟩⟩ := h
  · exact ⟨ao, cap, rfl, h2, h1⟩
  · exact ⟨_, cap, rfl, h2, h1⟩

/-- Two lists are alike, byte for byte, up to k. -/
def sameTo (a b : List (List UInt8)) (k : Nat) : Prop := ∀ j, j < k → a[j]? = b[j]?

theorem strs_eq (a b : List UInt8) : ((⟨a.toArray⟩ : ByteArray).toList == (⟨b.toArray⟩ : ByteArray).toList) = decide (a = b) := by
  rw [bs_toList, bs_toList, bs_mk, bs_mk, Bool.eq_iff_iff]; simp

set_option maxHeartbeats 1000000 in
theorem Same_any (va vb : Value) (a b : List (List UInt8)) (w : World) (ha : StrsAt w va a) (hb : StrsAt w vb b) :
    Calls Try.prog 44 #[va, vb] w (DrawnTo (.bool (decide (a = b))) w) := by
  obtain ⟨aoa, capa, rfl, hca, hma⟩ := ha.slice
  obtain ⟨aob, capb, rfl, hcb, hmb⟩ := hb.slice
  by_cases hlen : a.length = b.length
  · go_enter Try.func44, Try.ntmps44
    have e1 : ((a.length : Int) != (b.length : Int)) = false := by simp [hlen]
    have HLEN := Lib.hid hlen
    clear hlen
    go_wp2_with fail
    go_loopw [5] (fun i wr => ∃ (k n : Nat), i = .int .i64 (k : Int) ∧ k ≤ a.length ∧ sameTo a b k ∧ wr = w.drewN n) (fun i _ => a.length - (intOf i).toNat)
    case atStart => exact ⟨0, 0, rfl, Nat.zero_le _, fun j hj => by omega, rfl⟩
    case round =>
      obtain ⟨k, n, rfl, hk, hs, hw⟩ := hrel
      by_cases hlt : k < a.length
      · have hltb : k < b.length := by rw [← HLEN.out]; exact hlt
        obtain ⟨sa, hsa⟩ : ∃ s, a[k]? = some s := ⟨_, List.getElem?_eq_getElem hlt⟩
        obtain ⟨sb, hsb⟩ : ∃ s, b[k]? = some s := ⟨_, List.getElem?_eq_getElem hltb⟩
        obtain ⟨capa', _, _, ⟨h0, _⟩ | ⟨ba, oa, hva, hca'⟩⟩ := ha
        · rw [h0] at hlt; simp at hlt
        obtain ⟨capb', _, _, ⟨h0, _⟩ | ⟨bb, ob, hvb, hcb'⟩⟩ := hb
        · rw [h0] at hltb; simp at hltb
        cases hva
        cases hvb
        have ca : wr.cell? ⟨ba, oa + k, none⟩ = some (.string ⟨sa.toArray⟩) := by rw [hw]; exact hca' k sa hsa
        have cb : wr.cell? ⟨bb, ob + k, none⟩ = some (.string ⟨sb.toArray⟩) := by rw [hw]; exact hcb' k sb hsb
        have hne := strs_eq sa sb
        obtain ⟨ya, hya⟩ : ∃ y : ByteArray, y = ⟨sa.toArray⟩ := ⟨_, rfl⟩
        obtain ⟨yb, hyb⟩ : ∃ y : ByteArray, y = ⟨sb.toArray⟩ := ⟨_, rfl⟩
        rw [← hya] at ca hne
        rw [← hyb] at cb hne
        have HW := Lib.hid hw
        have HS := Lib.hid hs
        have HSA := Lib.hid hsa
        have HSB := Lib.hid hsb
        clear hw hs hsa hsb hca' hcb' hya hyb
        have hk0 : (0 : Int) ≤ (k : Int) := by omega
        have hk1 : (k : Int) < (a.length : Int) := by omega
        have hk2 : (k : Int) < (b.length : Int) := by omega
        by_cases hab : sa = sb
        · rw [decide_eq_true hab] at hne
          go_wp2_with fail
          go_quiet (fail)
          go_wp2_with fail
          go_roundw
          case rel =>
            refine ⟨k + 1, n + nq, by go_num, by omega, fun j hj => ?_, by rw [HW.out]; exact World.drewN_drewN w n nq⟩
            by_cases hjk : j = k
            · subst hjk; rw [HSA.out, HSB.out, hab]
            · exact HS.out j (by omega)
          case measure => simp [intOf]; omega
        · rw [decide_eq_false hab] at hne
          go_wp2_with fail
          go_quiet (fail)
          go_wp2_with fail
          go_ret
          have : decide (a = b) = false := decide_eq_false (fun e => hab (by
            have h1 := HSA.out
            rw [e, HSB.out] at h1
            exact (Option.some.inj h1).symm))
          exact ⟨n + nq, by rw [this]; rfl, by rw [HW.out]; exact World.drewN_drewN w n nq⟩
      · have HW := Lib.hid hw
        have HS := Lib.hid hs
        clear hw hs
        go_wp2_with fail
        go_ret
        refine ⟨n, ?_, HW.out⟩
        have : a = b := List.ext_getElem? (fun j => by
          by_cases hj : j < k
          · exact HS.out j hj
          · rw [List.getElem?_eq_none (by omega), List.getElem?_eq_none (by have := HLEN.out; omega)])
        rw [decide_eq_true this]
        rfl
  · go_enter Try.func44, Try.ntmps44
    have e1 : ((a.length : Int) != (b.length : Int)) = true := by rw [bne_iff_ne]; omega
    have hd : decide (a = b) = false := decide_eq_false (fun e => hlen (by rw [e]))
    have HD := Lib.hid hd
    clear hlen hd
    go_wp2_with fail
    go_ret
    exact ⟨0, by rw [HD.out]; rfl, rfl⟩

/-- short -/
def shortL (s : List UInt8) : List UInt8 := s.take 200
theorem short_any (s : ByteArray) (w : World) (hs : s.size ≤ 9223372036854775807) : Calls Try.prog 40 #[.string s] w (fun e w' => ∃ r : ByteArray, Hid (bs r = shortL (bs s)) ∧ e = .returned (.string r) ∧ w = w') := by
  by_cases h : s.size ≤ 200
  · go_enter Try.func40, Try.ntmps40
    go_wp2
    go_ret
    refine ⟨s, ?_, by simp, rfl⟩
    show bs s = (bs s).take 200
    rw [List.take_of_length_le (by rw [bs_length]; exact h)]
  · have h2 : ¬ ((s.size : Int) < 200) := by omega
    go_enter Try.func40, Try.ntmps40
    go_wp2
    go_ret
    refine ⟨s.extract 0 200, ?_, rfl, rfl⟩
    show bs (s.extract 0 200) = (bs s).take 200
    rw [bs_extract]; rfl

/-- append(v, xs...) -/
theorem append_strs (w : World) (v vx : Value) (ss xs : List (List UInt8)) (h : StrRow w v ss) (hx : StrsAt w vx xs) (hl : ss.length + xs.length ≤ 1099511627776) :
    ∃ v' w1, (Builtin.append_ #[61, 61] 61 #[v, vx]).run Try.prog w = .ok v' w1 ∧ StrRow w1 v' (ss ++ xs) ∧ Upd (foot v) (foot v') w w1 := by
  obtain ⟨i0, hi, hz0, hz1, hz2⟩ := info_parts info_str
  have key : ∀ (a : Addr) (c : Nat), (∀ j u, (strVals xs)[j]? = some u → w.cell? (a.add j) = some u) →
      ∃ v' w1, (Builtin.append_ #[61, 61] 61 #[v, .slice (some a) xs.length c]).run Try.prog w = .ok v' w1 ∧ StrRow w1 v' (ss ++ xs) ∧ Upd (foot v) (foot v') w w1 := by
    intro a c hc
    obtain ⟨v', w1, hr, hrow, hup⟩ := append_block (P := Try.prog) w 61 61 9 i0 _ 1 16 Try.underlying61 hi hz0 hz1 hz2 rfl (by omega) v ss.length (strVals ss) h a xs.length c (strVals xs) (by simp [strVals]) hc
      (by intro u hu; simp only [strVals, List.mem_map] at hu; obtain ⟨x, _, rfl⟩ := hu; rfl) (by omega) (by simp [maxLen]; omega)
    refine ⟨v', w1, hr, ?_, hup⟩
    unfold StrRow
    rw [List.length_append, show strVals (ss ++ xs) = strVals ss ++ strVals xs by simp [strVals]]
    exact hrow
  obtain ⟨cap, _, _, ⟨rfl, ao, rfl⟩ | ⟨b, off, rfl, hc⟩⟩ := hx
  · cases ao with
    | none =>
      refine ⟨v, w, ?_, by simpa using h, Upd.refl _ _⟩
      obtain ⟨h1, h2⟩ := h
      rcases h2 with ⟨rfl, h0⟩ | ⟨g, c, cur, rfl, hg, hh, hnc, hcm, hcs, htk⟩
      · simp [Builtin.append_, run_underlying Try.underlying61, sizeOf, typeInfo, hi, Builtin.lenOf, Builtin.firstCells]
      · simp [Builtin.append_, run_underlying Try.underlying61, sizeOf, typeInfo, hi, Builtin.lenOf, Builtin.firstCells, hnc, storeCells]
    | some a => exact key a cap (by intro j u hj; simp [strVals] at hj)
  · refine key ⟨b, off, none⟩ cap (fun j u hj => ?_)
    simp only [strVals, List.getElem?_map, Option.map_eq_some_iff] at hj
    obtain ⟨s, hs, rfl⟩ := hj
    have e : (⟨b, off, none⟩ : Addr).add j = ⟨b, off + j, none⟩ := by unfold Addr.add; split <;> simp_all
    rw [e]
    exact hc j s hs

/-- The model of a journal. -/
structure RJ where
  L : List (List UInt8)
  maybe : List (List UInt8)
  broken : Bool
  bytes : Nat
def RJ.empty : RJ := ⟨[], [], false, 0⟩

def RJAt (w : World) (rb : Nat) (R : RJ) (S : List Nat) : Prop :=
  ∃ vl vm, w.heap[rb]? = some (.cells #[vl, vm, .bool R.broken, .int .i64 (R.bytes : Int)] 72 (0, 0)) ∧ StrRow w vl R.L ∧ StrRow w vm R.maybe ∧ S = rb :: (foot vl ++ foot vm) ∧ S.Nodup

theorem RJAt.same {w w' : World} {rb : Nat} {R : RJ} {S : List Nat} (h : RJAt w rb R S) (hs : ∀ k, k ∈ S → w'.heap[k]? = w.heap[k]?) : RJAt w' rb R S := by
  obtain ⟨vl, vm, hb, hl, hm, rfl, hn⟩ := h
  exact ⟨vl, vm, (hs rb (by simp)).trans hb, hl.same (fun k hk => hs k (by simp [hk])), hm.same (fun k hk => hs k (by simp [hk])), rfl, hn⟩
theorem RJAt.lt {w : World} {rb : Nat} {R : RJ} {S : List Nat} (h : RJAt w rb R S) : ∀ k, k ∈ S → k < w.heap.size := by
  obtain ⟨vl, vm, hb, hl, hm, rfl, hn⟩ := h
  intro k hk
  simp only [List.mem_cons, List.mem_append] at hk
  rcases hk with rfl | hk | hk
  · exact blk_lt hb
  · exact hl.lt k hk
  · exact hm.lt k hk
theorem RJAt.kept {w w' : World} {rb : Nat} {R : RJ} {S T T' : List Nat} (h : RJAt w rb R S) (hu : Upd T T' w w') (hd : ∀ k, k ∈ S → k ∉ T) : RJAt w' rb R S := h.same fun k hk => hu.block k (h.lt k hk) (hd k hk)

def RJBorn (w : World) (e : Ending) (w' : World) : Prop := ∃ rb S, e = .returned (.pointer (some ⟨rb, 0, none⟩)) ∧ RJAt w' rb .empty S ∧ Upd [] S w w'
theorem RJNew_any (w : World) : Calls Try.prog 38 #[] w (RJBorn w) := by
  go_enter Try.func38, Try.ntmps38
  go_wp2
  go_ret
  refine ⟨w.heap.size, [w.heap.size], rfl, ⟨.slice none 0 0, .slice none 0 0, heap_alloc_new _ _, strRow_nil _, strRow_nil _, rfl, by simp⟩, rfl, rfl, rfl, by simp, fun k hk _ => Below.heap_alloc _ _ _ hk, fun k hk => .inr (by simp at hk; omega)⟩

def fitsB (R : RJ) (n : Nat) : Bool := decide (R.bytes + n + 16 + 256 ≤ 16777216)
theorem Fits_any (rb : Nat) (R : RJ) (S : List Nat) (r : ByteArray) (w : World) (h : RJAt w rb R S) (hb : R.bytes ≤ 1099511627776) (hr : r.size ≤ 1099511627776) :
    Calls Try.prog 62 #[.pointer (some ⟨rb, 0, none⟩), .string r] w (Same (.bool (fitsB R r.size)) w) := by
  obtain ⟨vl, vm, hbk, hl, hm, rfl, hn⟩ := h
  have c3 : w.cell? ⟨rb, 3, none⟩ = some (.int .i64 (R.bytes : Int)) := cell_of_row w rb 3 _ _ _ hbk
  clear hbk hl hm hn
  go_enter Try.func62, Try.ntmps62
  go_wp2
  go_ret
  refine ⟨?_, rfl⟩
  have : fitsB R r.size = decide ((R.bytes : Int) + (r.size : Int) + 16 + 256 ≤ 16777216) := by unfold fitsB; rw [Bool.eq_iff_iff]; simp; omega
  rw [this]
  rfl
end Go.Proofs.Ytbpbmigdfjnneaa
