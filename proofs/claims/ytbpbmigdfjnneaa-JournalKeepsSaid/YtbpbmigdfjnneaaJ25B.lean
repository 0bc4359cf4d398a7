/- sortesref25: Append and Opens. -/
import Derived.Test.YtbpbmigdfjnneaaJ25A
namespace Go.Proofs.Ytbpbmigdfjnneaa
open Go.RowKit
set_option maxRecDepth 100000

theorem sep3 (b : Nat) (A B : List Nat) : (b :: (A ++ B)).Nodup ↔ (b ∉ A ∧ b ∉ B) ∧ (A.Nodup ∧ B.Nodup) ∧ (∀ k, k ∈ A → k ∉ B) := by
  simp only [List.nodup_cons, List.nodup_append, List.mem_append, not_or, ne_eq]
  constructor
  · rintro ⟨⟨h1, h2⟩, h3, h4, h5⟩
    exact ⟨⟨h1, h2⟩, ⟨h3, h4⟩, fun k a c => h5 k a k c rfl⟩
  · rintro ⟨⟨h1, h2⟩, ⟨h3, h4⟩, h5⟩
    exact ⟨⟨h1, h2⟩, h3, h4, fun k a j c e => h5 k a (e ▸ c)⟩

def RJIs (w : World) (rb : Nat) (R : RJ) (vl vm : Value) : Prop :=
  w.heap[rb]? = some (.cells #[vl, vm, .bool R.broken, .int .i64 (R.bytes : Int)] 72 (0, 0)) ∧ StrRow w vl R.L ∧ StrRow w vm R.maybe ∧ (rb :: (foot vl ++ foot vm)).Nodup
theorem RJAt.is {w : World} {rb : Nat} {R : RJ} {S : List Nat} (h : RJAt w rb R S) : ∃ vl vm, RJIs w rb R vl vm ∧ S = rb :: (foot vl ++ foot vm) := by
  obtain ⟨vl, vm, hb, hl, hm, rfl, hn⟩ := h; exact ⟨vl, vm, ⟨hb, hl, hm, hn⟩, rfl⟩
theorem RJIs.at {w : World} {rb : Nat} {R : RJ} {vl vm : Value} (h : RJIs w rb R vl vm) : RJAt w rb R (rb :: (foot vl ++ foot vm)) := ⟨vl, vm, h.1, h.2.1, h.2.2.1, rfl, h.2.2.2⟩
theorem RJIs.same {w w' : World} {rb : Nat} {R : RJ} {vl vm : Value} (h : RJIs w rb R vl vm) (hs : ∀ k, k ∈ rb :: (foot vl ++ foot vm) → w'.heap[k]? = w.heap[k]?) : RJIs w' rb R vl vm :=
  ⟨(hs rb (by simp)).trans h.1, h.2.1.same (fun k hk => hs k (by simp [hk])), h.2.2.1.same (fun k hk => hs k (by simp [hk])), h.2.2.2⟩
theorem RJIs.lt {w : World} {rb : Nat} {R : RJ} {vl vm : Value} (h : RJIs w rb R vl vm) : ∀ k, k ∈ rb :: (foot vl ++ foot vm) → k < w.heap.size := h.at.lt
theorem RJIs.field {w : World} {rb : Nat} {R : RJ} {vl vm : Value} (h : RJIs w rb R vl vm) (R' : RJ) (i : Nat) (v : Value)
    (hv : (#[vl, vm, .bool R.broken, .int .i64 (R.bytes : Int)] : Array Value).setIfInBounds i v = #[vl, vm, .bool R'.broken, .int .i64 (R'.bytes : Int)]) (h1 : R'.L = R.L) (h2 : R'.maybe = R.maybe) : RJIs (w.setCell ⟨rb, i, none⟩ v) rb R' vl vm := by
  obtain ⟨hb, hl, hm, hn⟩ := h
  have hk : ∀ k, k ∈ foot vl ++ foot vm → (w.setCell ⟨rb, i, none⟩ v).heap[k]? = w.heap[k]? := fun k hk => heap_setCell_other _ _ _ _ (fun (e : k = rb) => (List.nodup_cons.1 hn).1 (e ▸ hk))
  exact ⟨by rw [heap_setCell_same w rb i _ _ v hb, hv], by rw [h1]; exact hl.same (fun k m => hk k (by simp [m])), by rw [h2]; exact hm.same (fun k m => hk k (by simp [m])), hn⟩

/-- a new list L, stored -/
theorem RJIs.setL {w w1 : World} {rb : Nat} {R : RJ} {vl vm vl' : Value} {L' : List (List UInt8)} (h : RJIs w rb R vl vm) (hrow : StrRow w1 vl' L') (hup : Upd (foot vl) (foot vl') w w1) :
    RJIs (w1.setCell ⟨rb, 0, none⟩ vl') rb { R with L := L' } vl' vm ∧ Upd (rb :: (foot vl ++ foot vm)) (rb :: (foot vl' ++ foot vm)) w (w1.setCell ⟨rb, 0, none⟩ vl') := by
  obtain ⟨hb, hl, hm, hn⟩ := h
  rw [sep3] at hn
  obtain ⟨⟨n1, n2⟩, ⟨n3, n4⟩, n5⟩ := hn
  have hbl := blk_lt hb
  have fresh : ∀ k, k < w.heap.size → k ∉ foot vl → k ∉ foot vl' := fun k h1 h2 h3 => by rcases hup.new k h3 with h | h; exact h2 h; omega
  refine ⟨⟨?_, ?_, ?_, ?_⟩, ?_⟩
  · rw [heap_setCell_same w1 rb 0 _ _ vl' ((hup.block rb hbl n1).trans hb)]; rfl
  · exact hrow.same (fun k hk => heap_setCell_other _ _ _ _ (fun (e : k = rb) => fresh rb hbl n1 (e ▸ hk)))
  · exact hm.same (fun k hk => by rw [heap_setCell_other _ _ _ _ (fun (e : k = rb) => n2 (e ▸ hk))]; exact hup.block k (hm.lt k hk) (fun h => n5 k h hk))
  · rw [sep3]; exact ⟨⟨fresh rb hbl n1, n2⟩, ⟨foot_nodup _, n4⟩, fun k h1 h2 => fresh k (hm.lt k h2) (fun h => n5 k h h2) h1⟩
  · refine Upd.setCell ?_ (by simp) _
    refine hup.mono (fun k hk => by simp [hk]) (fun k hk => ?_)
    simp only [List.mem_cons, List.mem_append] at hk ⊢
    rcases hk with h | h | h
    · exact .inr (.inl h)
    · exact .inl h
    · exact .inr (.inr (.inr h))
/-- a new list Maybe, stored -/
theorem RJIs.setM {w w1 : World} {rb : Nat} {R : RJ} {vl vm vm' : Value} {L' : List (List UInt8)} (h : RJIs w rb R vl vm) (hrow : StrRow w1 vm' L') (hup : Upd (foot vm) (foot vm') w w1) :
    RJIs (w1.setCell ⟨rb, 1, none⟩ vm') rb { R with maybe := L' } vl vm' ∧ Upd (rb :: (foot vl ++ foot vm)) (rb :: (foot vl ++ foot vm')) w (w1.setCell ⟨rb, 1, none⟩ vm') := by
  obtain ⟨hb, hl, hm, hn⟩ := h
  rw [sep3] at hn
  obtain ⟨⟨n1, n2⟩, ⟨n3, n4⟩, n5⟩ := hn
  have hbl := blk_lt hb
  have fresh : ∀ k, k < w.heap.size → k ∉ foot vm → k ∉ foot vm' := fun k h1 h2 h3 => by rcases hup.new k h3 with h | h; exact h2 h; omega
  refine ⟨⟨?_, ?_, ?_, ?_⟩, ?_⟩
  · rw [heap_setCell_same w1 rb 1 _ _ vm' ((hup.block rb hbl n2).trans hb)]; rfl
  · exact hl.same (fun k hk => by rw [heap_setCell_other _ _ _ _ (fun (e : k = rb) => n1 (e ▸ hk))]; exact hup.block k (hl.lt k hk) (fun h => n5 k hk h))
  · exact hrow.same (fun k hk => heap_setCell_other _ _ _ _ (fun (e : k = rb) => fresh rb hbl n2 (e ▸ hk)))
  · rw [sep3]; exact ⟨⟨n1, fresh rb hbl n2⟩, ⟨n3, foot_nodup _⟩, fun k h1 h2 => fresh k (hl.lt k h1) (fun h => n5 k h1 h) h2⟩
  · refine Upd.setCell ?_ (by simp) _
    refine hup.mono (fun k hk => by simp [hk]) (fun k hk => ?_)
    simp only [List.mem_cons, List.mem_append] at hk ⊢
    rcases hk with h | h | h
    · exact .inr (.inl h)
    · exact .inr (.inr (.inl h))
    · exact .inl h

def rapp (R : RJ) (r : List UInt8) (power : Bool) : RJ × Int :=
  if R.broken then (R, 70) else if fitsB R r.length then (if power then ({ R with L := R.L ++ [r], bytes := R.bytes + r.length + 16 }, 0) else ({ R with broken := true, maybe := R.maybe ++ [r] }, 70)) else (R, 2)

def RAppPost (rb : Nat) (R' : RJ) (x : Int) (S : List Nat) (w : World) (e : Ending) (w' : World) : Prop := ∃ S', e = .returned (.int .i64 x) ∧ RJAt w' rb R' S' ∧ Upd S S' w w'

set_option maxHeartbeats 400000 in
theorem RJAppend_any (rb : Nat) (R : RJ) (S : List Nat) (r : ByteArray) (power : Bool) (w : World) (R' : RJ) (x : Int) (h : RJAt w rb R S) (hb : R.bytes ≤ 1099511627776) (hr : r.size ≤ 1099511627776) (hl : R.L.length ≤ 16777216) (hm : R.maybe.length ≤ 16777216) (ha : rapp R (bs r) power = (R', x)) :
    Calls Try.prog 41 #[.pointer (some ⟨rb, 0, none⟩), .string r, .bool power] w (RAppPost rb R' x S w) := by
  have hft := Fits_any rb R S r w h hb hr
  obtain ⟨vl, vm, hi, rfl⟩ := h.is
  unfold rapp at ha
  have c2 : w.cell? ⟨rb, 2, none⟩ = some (.bool R.broken) := cell_of_row w rb 2 _ _ _ hi.1
  rw [bs_length] at ha
  cases hbr : R.broken with
  | true =>
    rw [hbr] at ha c2
    simp only [if_true] at ha
    obtain ⟨rfl, rfl⟩ := Prod.mk.inj ha
    clear ha hbr hft
    go_enter Try.func41, Try.ntmps41
    go_wp2_with fail
    go_ret
    exact ⟨_, rfl, h, Upd.refl _ _⟩
  | false =>
    rw [hbr] at ha c2
    simp only [Bool.false_eq_true, if_false] at ha
    cases hf : fitsB R r.size with
    | false =>
      rw [hf] at ha hft
      simp only [Bool.false_eq_true, if_false] at ha
      obtain ⟨rfl, rfl⟩ := Prod.mk.inj ha
      have HFT := Lib.hid hft
      clear ha hbr hft hf
      go_enter Try.func41, Try.ntmps41
      go_wp2_with fail
      refine HFT.out.mono ?_
      rintro e w' ⟨rfl, rfl⟩
      go_wp2_with fail
      go_ret
      exact ⟨_, rfl, h, Upd.refl _ _⟩
    | true =>
      rw [hf] at ha hft
      simp only [if_true] at ha
      have HFT := Lib.hid hft
      clear hft
      cases power with
      | false =>
        simp only [Bool.false_eq_true, if_false] at ha
        obtain ⟨rfl, rfl⟩ := Prod.mk.inj ha
        have hi1 := hi.field { R with broken := true } 2 (.bool true) rfl rfl rfl
        have hu1 := (Upd.refl (rb :: (foot vl ++ foot vm)) w).setCell (p := ⟨rb, 2, none⟩) (by simp) (.bool true)
        have f2 : w.frozen? ⟨rb, 2, none⟩ = false := frozen_of_row w rb 2 _ _ hi.1
        obtain ⟨vm', w1, hap, hrow, hup⟩ := append_str _ vm R.maybe r hi1.2.2.1 (by omega)
        obtain ⟨hi2, hu2⟩ := hi1.setM hrow hup
        have cm : (w.setCell ⟨rb, 2, none⟩ (.bool true)).cell? ⟨rb, 1, none⟩ = some vm := cell_of_row _ rb 1 _ _ _ hi1.1
        have hb1 : w1.heap[rb]? = _ := (hup.block rb (blk_lt hi1.1) (fun m => (List.nodup_cons.1 hi.2.2.2).1 (by simp [m]))).trans hi1.1
        have cm1 : w1.cell? ⟨rb, 1, none⟩ = some vm := cell_of_row _ rb 1 _ _ _ hb1
        have fm1 : w1.frozen? ⟨rb, 1, none⟩ = false := frozen_of_row _ rb 1 _ _ hb1
        obtain ⟨ao, cap, rfl, _, _⟩ := row_slice hi.2.2.1
        obtain ⟨ao', cap', rfl, _, _⟩ := row_slice hrow
        have el : (R.maybe ++ [bs r]).length = R.maybe.length + 1 := by simp
        rw [el] at hap hi2 hu2
        clear el
        have HAP := Lib.hid hap
        have HI2 := Lib.hid hi2.at
        have HU := Lib.hid (hu1.trans hu2)
        clear ha hap hi2 hu1 hu2 hi1 hi hrow hup hb1 h hbr hf
        rw [World.size_setCell] at HAP
        go_enter Try.func41, Try.ntmps41
        go_wp2_with fail
        refine HFT.out.mono ?_
        rintro e w' ⟨rfl, rfl⟩
        go_wp2_with (at_builtin; refine wpList_append_run _ rfl _ _ _ _ rfl _ _ _ _ rfl rfl HAP.out ?_)
        go_ret
        exact ⟨_, rfl, HI2.out, HU.out⟩
      | true =>
        simp only [if_true] at ha
        obtain ⟨rfl, rfl⟩ := Prod.mk.inj ha
        obtain ⟨vl', w1, hap, hrow, hup⟩ := append_str _ vl R.L r hi.2.1 (by omega)
        obtain ⟨hi2, hu2⟩ := hi.setL hrow hup
        have cl : w.cell? ⟨rb, 0, none⟩ = some vl := cell_of_row _ rb 0 _ _ _ hi.1
        have hb1 : w1.heap[rb]? = _ := (hup.block rb (blk_lt hi.1) (fun m => (List.nodup_cons.1 hi.2.2.2).1 (by simp [m]))).trans hi.1
        have cl1 : w1.cell? ⟨rb, 0, none⟩ = some vl := cell_of_row _ rb 0 _ _ _ hb1
        have fl1 : w1.frozen? ⟨rb, 0, none⟩ = false := frozen_of_row _ rb 0 _ _ hb1
        have c3 : (w1.setCell ⟨rb, 0, none⟩ vl').cell? ⟨rb, 3, none⟩ = some (.int .i64 (R.bytes : Int)) := cell_of_row _ rb 3 _ _ _ hi2.1
        have f3 : (w1.setCell ⟨rb, 0, none⟩ vl').frozen? ⟨rb, 3, none⟩ = false := frozen_of_row _ rb 3 _ _ hi2.1
        have hi3 := hi2.field { R with L := R.L ++ [bs r], bytes := R.bytes + r.size + 16 } 3 (.int .i64 ((R.bytes : Int) + (r.size : Int) + 16)) (by simp) rfl rfl
        have hu3 := hu2.setCell (p := ⟨rb, 3, none⟩) (by simp) (.int .i64 ((R.bytes : Int) + (r.size : Int) + 16))
        obtain ⟨ao, cap, rfl, _, _⟩ := row_slice hi.2.1
        obtain ⟨ao', cap', rfl, _, _⟩ := row_slice hrow
        have el : (R.L ++ [bs r]).length = R.L.length + 1 := by simp
        rw [el] at hap hi3 hu3 c3 f3
        clear el
        have HAP := Lib.hid hap
        have HI3 := Lib.hid hi3.at
        have HU := Lib.hid hu3
        have HBR := Lib.hid hbr
        clear ha hap hi2 hu2 hi3 hu3 hi hrow hup hb1 h hbr hf
        go_enter Try.func41, Try.ntmps41
        go_wp2_with fail
        refine HFT.out.mono ?_
        rintro e w' ⟨rfl, rfl⟩
        go_wp2_with (at_builtin; refine wpList_append_run _ rfl _ _ _ _ rfl _ _ _ _ rfl rfl HAP.out ?_)
        go_ret
        have h3 := HI3.out
        rw [HBR.out] at h3
        exact ⟨_, rfl, h3, HU.out⟩

end Go.Proofs.Ytbpbmigdfjnneaa
