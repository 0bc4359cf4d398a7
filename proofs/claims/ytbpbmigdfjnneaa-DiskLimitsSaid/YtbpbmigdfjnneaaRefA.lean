/- The reference model of the disk in memory, and the contracts of package sortesref24 (1). -/
import Derived.Test.YtbpbmigdfjnneaaDiskE
namespace Go.Proofs.Ytbpbmigdfjnneaa
open Go.RowKit
set_option maxRecDepth 100000

structure RefM where
  now : List UInt8
  synced : List UInt8
  parts : List (Nat × List UInt8)
  n : Int
  left : Int
  limit : Bool
def RefM.empty : RefM := ⟨[], [], [], 0, 0, false⟩

def RefAt (w : World) (b : Nat) (M : RefM) (S : List Nat) : Prop :=
  ∃ vp, w.heap[b]? = some (.cells #[strV M.now, strV M.synced, vp, .int .i64 M.n, .int .i64 M.left, .bool M.limit] 83 (0, 0)) ∧
    w.ownsRow 0 90 2 vp M.parts.length (partVals M.parts) ∧ S = b :: foot vp ∧ S.Nodup

theorem RefAt.same {w w' : World} {b : Nat} {M : RefM} {S : List Nat} (h : RefAt w b M S) (hs : ∀ k, k ∈ S → w'.heap[k]? = w.heap[k]?) : RefAt w' b M S := by
  obtain ⟨vp, hb, hp, rfl, hn⟩ := h
  exact ⟨vp, (hs b (by simp)).trans hb, row_same hp (fun k hk => hs k (by simp [hk])), rfl, hn⟩
theorem RefAt.lt {w : World} {b : Nat} {M : RefM} {S : List Nat} (h : RefAt w b M S) : ∀ k, k ∈ S → k < w.heap.size := by
  obtain ⟨vp, hb, hp, rfl, hn⟩ := h
  intro k hk
  simp only [List.mem_cons] at hk
  rcases hk with rfl | hk
  · exact blk_lt hb
  · exact row_foot_lt hp k hk
theorem RefAt.head {w : World} {b : Nat} {M : RefM} {S : List Nat} (h : RefAt w b M S) : b ∈ S := by
  obtain ⟨vp, hb, hp, rfl, hn⟩ := h; simp
theorem RefAt.alloc {w : World} {b : Nat} {M : RefM} {S : List Nat} (h : RefAt w b M S) (o : Obj) : RefAt (w.alloc o) b M S := h.same fun k hk => Below.heap_alloc _ _ _ (h.lt k hk)
theorem RefAt.drew {w : World} {b : Nat} {M : RefM} {S : List Nat} (h : RefAt w b M S) : RefAt w.drew b M S := h.same fun _ _ => rfl
theorem RefAt.drewN {w : World} {b : Nat} {M : RefM} {S : List Nat} (h : RefAt w b M S) (n : Nat) : RefAt (w.drewN n) b M S := h.same fun _ _ => rfl
theorem RefAt.kept {w w' : World} {b : Nat} {M : RefM} {S T T' : List Nat} (h : RefAt w b M S) (hu : Upd T T' w w') (hd : ∀ k, k ∈ S → k ∉ T) : RefAt w' b M S :=
  h.same fun k hk => hu.block k (h.lt k hk) (hd k hk)
/-- A store into a field that is no slice. -/
theorem RefAt.field {w : World} {b : Nat} {M : RefM} {S : List Nat} (h : RefAt w b M S) (M' : RefM) (i : Nat) (v : Value)
    (hv : ∀ vp : Value, (#[strV M.now, strV M.synced, vp, .int .i64 M.n, .int .i64 M.left, .bool M.limit] : Array Value).setIfInBounds i v = #[strV M'.now, strV M'.synced, vp, .int .i64 M'.n, .int .i64 M'.left, .bool M'.limit])
    (h3 : M'.parts = M.parts) : RefAt (w.setCell ⟨b, i, none⟩ v) b M' S := by
  obtain ⟨vp, hb, hp, rfl, hn⟩ := h
  refine ⟨vp, ?_, ?_, rfl, hn⟩
  · rw [heap_setCell_same w b i _ _ v hb, hv]
  · rw [h3]; exact row_same hp (fun k hk => heap_setCell_other _ _ _ _ (fun (e : k = b) => (List.nodup_cons.1 hn).1 (e ▸ hk)))

theorem str_eq {X : ByteArray} {L : List UInt8} (h : bs X = L) : Value.string X = strV L := by subst h; rfl
theorem bs_append (a b : ByteArray) : bs (a ++ b) = bs a ++ bs b := by simp [bs]

def modG (n m : Int) : Int := (n.tmod m + m).tmod m
theorem modG_eq (n m : Int) (hm : 0 < m) : modG n m = n % m := by
  unfold modG
  have h1 : n.tmod m < m := Int.tmod_lt_of_pos n hm
  have h2 : -m < n.tmod m := Int.lt_tmod_of_pos n hm
  rw [Int.tmod_eq_emod_of_nonneg (by omega)]
  rw [Int.add_emod_right]
  have := Int.emod_emod_of_dvd n (Int.dvd_refl m)
  rcases Int.lt_or_le n 0 with h | h
  · have e : n.tmod m = -((-n) % m) := by rw [← Int.tmod_eq_emod_of_nonneg (show 0 ≤ -n by omega), Int.neg_tmod, Int.neg_neg]
    rw [e]
    have e2 : (-n) % m = -n - m * (-n / m) := by have := Int.mul_ediv_add_emod (-n) m; omega
    rw [e2]
    have e3 : -(-n - m * (-n / m)) = n + m * (-n / m) := by omega
    rw [e3, Int.add_mul_emod_self_left]
  · rw [Int.tmod_eq_emod_of_nonneg h]; exact this

set_option maxHeartbeats 400000 in
theorem Mod_any (n m : Int) (w : World) (hm : 0 < m) (hm2 : m ≤ 4611686018427387904) :
    Calls Try.prog 20 #[.int .i64 n, .int .i64 m] w fun e w' => e = .returned (.int .i64 (n % m)) ∧ w = w' := by
  rw [← modG_eq n m hm]
  have h1 : n.tmod m < m := Int.tmod_lt_of_pos n hm
  have h2 : -m < n.tmod m := Int.lt_tmod_of_pos n hm
  have hm0 : (m == 0) = false := by simp; omega
  unfold modG
  go_enter Try.func20, Try.ntmps20
  go_wp2
  go_ret
  exact ⟨by rw [Int.tmod_eq_emod_of_nonneg (a := n.tmod m + m) (by omega)]; rfl, rfl⟩

theorem putL_from (c : List UInt8) (off : Nat) (s : List UInt8) (h : off ≤ c.length) : putL c off s = c.take off ++ s ++ c.drop (off + s.length) := by
  unfold putL
  rw [List.take_append_of_le_length h]
  congr 1
  rw [List.drop_append]
  have : List.drop (off + s.length - c.length) (List.replicate (off + s.length - c.length) (0 : UInt8)) = [] := List.drop_eq_nil_of_le (by simp)
  rw [this, List.append_nil]
theorem putL_pad (c : List UInt8) (off : Nat) (s : List UInt8) (h : c.length ≤ off) : putL (c ++ List.replicate (off - c.length) 0) off s = putL c off s := by
  have e : off + s.length - (c ++ List.replicate (off - c.length) (0 : UInt8)).length = s.length := by simp; omega
  have e2 : off + s.length - c.length = (off - c.length) + s.length := by omega
  unfold putL
  rw [e, e2, ← List.replicate_append_replicate]
  simp only [List.append_assoc]

set_option maxHeartbeats 400000 in
theorem RNew_raw (w : World) :
    Calls Try.prog 19 #[] w fun e w' => e = .returned (.pointer (some ⟨w.heap.size, 0, none⟩)) ∧ w' = w.alloc (.cells #[.string ⟨#[]⟩, .string ⟨#[]⟩, .slice none 0 0, .int .i64 0, .int .i64 0, .bool false] 83) := by
  go_enter Try.func19, Try.ntmps19
  go_wp2
  go_ret
  exact ⟨rfl, rfl⟩

theorem RNew_any (w : World) :
    Calls Try.prog 19 #[] w fun e w' => e = .returned (.pointer (some ⟨w.heap.size, 0, none⟩)) ∧ RefAt w' w.heap.size .empty [w.heap.size] ∧ Upd [] [w.heap.size] w w' := by
  refine (RNew_raw w).mono ?_
  rintro e w' ⟨rfl, rfl⟩
  exact ⟨rfl, ⟨.slice none 0 0, heap_alloc_new w _, World.ownsRow_nil _ _ _ _, rfl, by simp⟩, rfl, rfl, rfl, by simp, fun k hk _ => Below.heap_alloc _ _ _ hk, fun k hk => .inr (by simp at hk; omega)⟩

set_option maxHeartbeats 400000 in
theorem RSize_any (b : Nat) (M : RefM) (S : List Nat) (w : World) (h : RefAt w b M S) :
    Calls Try.prog 34 #[.pointer (some ⟨b, 0, none⟩)] w fun e w' => e = .returned (.int .i64 (M.now.length : Int)) ∧ w = w' := by
  obtain ⟨vp, hb, hp, hS, hn⟩ := h
  have h0 : w.cell? ⟨b, 0, none⟩ = some (.string ⟨M.now.toArray⟩) := cell_of_row w b 0 _ _ _ hb
  clear hb hp hS hn
  go_enter Try.func34, Try.ntmps34
  go_wp2
  go_ret
  exact ⟨rfl, rfl⟩

set_option maxHeartbeats 400000 in
theorem RCalls_any (b : Nat) (M : RefM) (S : List Nat) (w : World) (h : RefAt w b M S) :
    Calls Try.prog 51 #[.pointer (some ⟨b, 0, none⟩)] w fun e w' => e = .returned (.int .i64 M.n) ∧ w = w' := by
  obtain ⟨vp, hb, hp, hS, hn⟩ := h
  have h0 : w.cell? ⟨b, 3, none⟩ = some (.int .i64 M.n) := cell_of_row w b 3 _ _ _ hb
  clear hb hp hS hn
  go_enter Try.func51, Try.ntmps51
  go_wp2
  go_ret
  exact ⟨rfl, rfl⟩

set_option maxHeartbeats 400000 in
theorem RFail_any (b : Nat) (M : RefM) (S : List Nat) (n : Int) (w : World) (h : RefAt w b M S) :
    Calls Try.prog 47 #[.pointer (some ⟨b, 0, none⟩), .int .i64 n] w fun e w' => e = .returned (.tuple #[]) ∧ RefAt w' b { M with limit := decide (0 ≤ n), left := n } S ∧ Upd S S w w' := by
  have h0 := h
  have hS := h.head
  obtain ⟨vp, hb, hp, hSe, hn⟩ := h0
  have h4 : w.cell? ⟨b, 4, none⟩ = some (.int .i64 M.left) := cell_of_row w b 4 _ _ _ hb
  have h5 : w.cell? ⟨b, 5, none⟩ = some (.bool M.limit) := cell_of_row w b 5 _ _ _ hb
  have f4 : w.frozen? ⟨b, 4, none⟩ = false := frozen_of_row w b 4 _ _ hb
  have f5 : w.frozen? ⟨b, 5, none⟩ = false := frozen_of_row w b 5 _ _ hb
  clear hb hp hn hSe
  have hd1 := h.field { M with limit := decide (0 ≤ n) } 5 (.bool (decide (0 ≤ n))) (fun _ => rfl) rfl
  have hd2 := hd1.field { M with limit := decide (0 ≤ n), left := n } 4 (.int .i64 n) (fun _ => rfl) rfl
  have hu2 := ((Upd.refl S w).setCell (p := ⟨b, 5, none⟩) hS (.bool (decide (0 ≤ n)))).setCell (p := ⟨b, 4, none⟩) hS (.int .i64 n)
  have H2 := Lib.hid hd2
  have U2 := Lib.hid hu2
  clear hd1 hd2 hu2 h
  go_enter Try.func47, Try.ntmps47
  go_wp2
  go_end0
  exact ⟨rfl, H2.out, U2.out⟩

def RefM.off (M : RefM) : Bool := M.limit && M.left == 0

set_option maxHeartbeats 400000 in
theorem Roff_yes (b : Nat) (M : RefM) (S : List Nat) (w : World) (h : RefAt w b M S) (ho : M.off = true) :
    Calls Try.prog 55 #[.pointer (some ⟨b, 0, none⟩)] w fun e w' => e = .returned (.bool true) ∧ w = w' := by
  obtain ⟨vp, hb, hp, hSe, hn⟩ := h
  simp only [RefM.off, Bool.and_eq_true, beq_iff_eq] at ho
  have h4 : w.cell? ⟨b, 4, none⟩ = some (.int .i64 0) := by rw [← ho.2]; exact cell_of_row w b 4 _ _ _ hb
  have h5 : w.cell? ⟨b, 5, none⟩ = some (.bool true) := by rw [← ho.1]; exact cell_of_row w b 5 _ _ _ hb
  clear hb hp hn hSe ho
  go_enter Try.func55, Try.ntmps55
  go_wp2
  go_ret
  exact ⟨rfl, rfl⟩

def RefM.count (M : RefM) : RefM := { M with left := M.left - 1, n := M.n + 1 }

set_option maxHeartbeats 400000 in
theorem Roff_no (b : Nat) (M : RefM) (S : List Nat) (w : World) (h : RefAt w b M S) (ho : M.off = false) (hn1 : -1000000 ≤ M.n) (hn2 : M.n ≤ 1000000) (hl1 : -1000000 ≤ M.left) (hl2 : M.left ≤ 9223372036854775807) :
    Calls Try.prog 55 #[.pointer (some ⟨b, 0, none⟩)] w fun e w' => e = .returned (.bool false) ∧ RefAt w' b M.count S ∧ Upd S S w w' := by
  have h0 := h
  have hS := h.head
  obtain ⟨vp, hb, hp, hSe, hn⟩ := h0
  have h3 : w.cell? ⟨b, 3, none⟩ = some (.int .i64 M.n) := cell_of_row w b 3 _ _ _ hb
  have h4 : w.cell? ⟨b, 4, none⟩ = some (.int .i64 M.left) := cell_of_row w b 4 _ _ _ hb
  have h5 : w.cell? ⟨b, 5, none⟩ = some (.bool M.limit) := cell_of_row w b 5 _ _ _ hb
  have f3 : w.frozen? ⟨b, 3, none⟩ = false := frozen_of_row w b 3 _ _ hb
  have f4 : w.frozen? ⟨b, 4, none⟩ = false := frozen_of_row w b 4 _ _ hb
  clear hb hp hn hSe
  have hd1 := h.field { M with left := M.left - 1 } 4 (.int .i64 (M.left - 1)) (fun _ => rfl) rfl
  have hd2 := hd1.field M.count 3 (.int .i64 (M.n + 1)) (fun _ => rfl) rfl
  have hu2 := ((Upd.refl S w).setCell (p := ⟨b, 4, none⟩) hS (.int .i64 (M.left - 1))).setCell (p := ⟨b, 3, none⟩) hS (.int .i64 (M.n + 1))
  have H2 := Lib.hid hd2
  have U2 := Lib.hid hu2
  clear hd1 hd2 hu2 h
  cases hlim : M.limit with
  | false =>
    rw [hlim] at h5
    clear hlim ho
    go_enter Try.func55, Try.ntmps55
    go_wp2
    go_ret
    exact ⟨rfl, H2.out, U2.out⟩
  | true =>
    rw [hlim] at h5
    have ho : (M.left == 0) = false := by simpa [RefM.off, hlim] using ho
    clear hlim
    go_enter Try.func55, Try.ntmps55
    go_wp2
    go_ret
    exact ⟨rfl, H2.out, U2.out⟩

set_option maxHeartbeats 400000 in
theorem RSync_yes (b : Nat) (M : RefM) (S : List Nat) (w : World) (h : RefAt w b M S) (ho : M.off = true) :
    Calls Try.prog 45 #[.pointer (some ⟨b, 0, none⟩)] w fun e w' => e = .returned (.int .i64 70) ∧ w = w' := by
  have HC := Lib.hid (Roff_yes b M S w h ho)
  clear ho
  go_enter Try.func45, Try.ntmps45
  go_wp2_with fail
  refine HC.out.mono ?_
  rintro e w' ⟨rfl, rfl⟩
  go_wp2_with fail
  go_ret
  exact ⟨rfl, rfl⟩

set_option maxHeartbeats 400000 in
theorem RSync_no (b : Nat) (M : RefM) (S : List Nat) (w : World) (h : RefAt w b M S) (ho : M.off = false) (hn1 : -1000000 ≤ M.n) (hn2 : M.n ≤ 1000000) (hl1 : -1000000 ≤ M.left) (hl2 : M.left ≤ 9223372036854775807) :
    Calls Try.prog 45 #[.pointer (some ⟨b, 0, none⟩)] w fun e w' => ∃ S', e = .returned (.int .i64 0) ∧ RefAt w' b { M.count with synced := M.now, parts := [] } S' ∧ Upd S S' w w' := by
  have HC := Lib.hid (Roff_no b M S w h ho hn1 hn2 hl1 hl2)
  clear ho hn1 hn2 hl1 hl2 h
  go_enter Try.func45, Try.ntmps45
  go_wp2_with fail
  refine HC.out.mono ?_
  rintro e w1 ⟨rfl, h1, hu1⟩
  have hS := h1.head
  have h2 := h1.field { M.count with synced := M.now } 1 (strV M.now) (fun _ => rfl) rfl
  have hu2 := hu1.setCell (p := ⟨b, 1, none⟩) hS (strV M.now)
  obtain ⟨vp, hb, hp, hSe, hn⟩ := h1
  have c0 : w1.cell? ⟨b, 0, none⟩ = some (strV M.now) := cell_of_row w1 b 0 _ _ _ hb
  have c1 : w1.cell? ⟨b, 1, none⟩ = some (strV M.synced) := cell_of_row w1 b 1 _ _ _ hb
  have f1 : w1.frozen? ⟨b, 1, none⟩ = false := frozen_of_row w1 b 1 _ _ hb
  clear hb hp hn hSe
  obtain ⟨vp, hb, hp, hSe, hn⟩ := h2
  have c2 : (w1.setCell ⟨b, 1, none⟩ (strV M.now)).cell? ⟨b, 2, none⟩ = some vp := cell_of_row _ b 2 _ _ _ hb
  have f2 : (w1.setCell ⟨b, 1, none⟩ (strV M.now)).frozen? ⟨b, 2, none⟩ = false := frozen_of_row _ b 2 _ _ hb
  have h3 : RefAt ((w1.setCell ⟨b, 1, none⟩ (strV M.now)).setCell ⟨b, 2, none⟩ (.slice none 0 0)) b { M.count with synced := M.now, parts := [] } [b] := by
    refine ⟨.slice none 0 0, ?_, World.ownsRow_nil _ _ _ _, rfl, by simp⟩
    rw [heap_setCell_same _ b 2 _ _ _ hb]; rfl
  have hu3 := (hu2.setCell (p := ⟨b, 2, none⟩) hS (.slice none 0 0)).mono (T' := [b]) (fun k hk => hk) (fun k hk => .inl (by simp at hk; subst hk; exact hS))
  have H3 := Lib.hid h3
  have U3 := Lib.hid hu3
  clear h3 hu3 hu2 hu1 hb hp hn hSe HC
  unfold strV at *
  go_wp2_with fail
  go_ret
  exact ⟨[b], rfl, H3.out, U3.out⟩
end Go.Proofs.Ytbpbmigdfjnneaa
