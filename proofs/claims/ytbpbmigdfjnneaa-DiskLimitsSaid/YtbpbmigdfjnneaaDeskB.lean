/- do at a Write, a Read, a Fail, a Crash. -/
import Derived.Test.YtbpbmigdfjnneaaDeskA
namespace Go.Proofs.Ytbpbmigdfjnneaa
open Go.RowKit
set_option maxRecDepth 100000

theorem whereL_in (off : Int) (h1 : -9223372036854775808 ≤ off) (h2 : off ≤ 9223372036854775807) : -9223372036854775808 ≤ whereL off ∧ whereL off ≤ 9223372036854775807 := by
  unfold whereL; split <;> omega

/-- A desk, and a box of four cells beside it, at some world on the way from w0. -/
def Good (w0 : World) (S : List Nat) (B x bd bm : Nat) (v0 v1 v2 v3 : Value) (D : DiskM) (M : RefM) (Sd Sm : List Nat) (wp : World) : Prop :=
  DeskIs wp x D M bd bm Sd Sm ∧ wp.heap[B]? = some (.cells #[v0, v1, v2, v3] 33 (0, 0)) ∧ (B ∉ x :: (Sd ++ Sm)) ∧ Upd S (x :: (Sd ++ Sm)) w0 wp
section
variable {w0 : World} {S : List Nat} {B x bd bm : Nat} {v0 v1 v2 v3 : Value} {D : DiskM} {M : RefM} {Sd Sm : List Nat} {wp w1 : World}
theorem Good.quiet (h : Good w0 S B x bd bm v0 v1 v2 v3 D M Sd Sm wp) (hu : Upd [] [] wp w1) : Good w0 S B x bd bm v0 v1 v2 v3 D M Sd Sm w1 :=
  ⟨h.1.kept hu (by simp), (hu.block B (blk_lt h.2.1) (by simp)).trans h.2.1, h.2.2.1, h.2.2.2.trans hu.quiet⟩
theorem Good.drew (h : Good w0 S B x bd bm v0 v1 v2 v3 D M Sd Sm wp) : Good w0 S B x bd bm v0 v1 v2 v3 D M Sd Sm wp.drew :=
  ⟨h.1.drew, h.2.1, h.2.2.1, h.2.2.2.drew⟩
theorem Good.drewN (h : Good w0 S B x bd bm v0 v1 v2 v3 D M Sd Sm wp) (n : Nat) : Good w0 S B x bd bm v0 v1 v2 v3 D M Sd Sm (wp.drewN n) :=
  ⟨h.1.same (fun _ _ => rfl), h.2.1, h.2.2.1, h.2.2.2.drewN n⟩
theorem Good.disk {D' : DiskM} {Sd' : List Nat} (h : Good w0 S B x bd bm v0 v1 v2 v3 D M Sd Sm wp) (hd : DiskAt w1 bd D' Sd') (hu : Upd Sd Sd' wp w1) : Good w0 S B x bd bm v0 v1 v2 v3 D' M Sd' Sm w1 := by
  obtain ⟨h1, h2, h3, h4⟩ := h
  obtain ⟨g1, g2⟩ := h1.disk hd hu
  have hBl := blk_lt h2
  simp only [List.mem_cons, List.mem_append, not_or] at h3
  refine ⟨g1, (hu.block B hBl h3.2.1).trans h2, ?_, h4.trans g2⟩
  simp only [List.mem_cons, List.mem_append, not_or]
  exact ⟨h3.1, fun e => by rcases hu.new B e with h | h; exact h3.2.1 h; omega, h3.2.2⟩
theorem Good.ref {M' : RefM} {Sm' : List Nat} (h : Good w0 S B x bd bm v0 v1 v2 v3 D M Sd Sm wp) (hd : RefAt w1 bm M' Sm') (hu : Upd Sm Sm' wp w1) : Good w0 S B x bd bm v0 v1 v2 v3 D M' Sd Sm' w1 := by
  obtain ⟨h1, h2, h3, h4⟩ := h
  obtain ⟨g1, g2⟩ := h1.ref hd hu
  have hBl := blk_lt h2
  simp only [List.mem_cons, List.mem_append, not_or] at h3
  refine ⟨g1, (hu.block B hBl h3.2.2).trans h2, ?_, h4.trans g2⟩
  simp only [List.mem_cons, List.mem_append, not_or]
  exact ⟨h3.1, h3.2.1, fun e => by rcases hu.new B e with h | h; exact h3.2.2 h; omega⟩
theorem Good.cells (h : Good w0 S B x bd bm v0 v1 v2 v3 D M Sd Sm wp) : wp.cell? ⟨x, 0, none⟩ = some (.pointer (some ⟨bd, 0, none⟩)) ∧ wp.cell? ⟨x, 1, none⟩ = some (.pointer (some ⟨bm, 0, none⟩)) ∧
    wp.cell? ⟨B, 0, none⟩ = some v0 ∧ wp.cell? ⟨B, 1, none⟩ = some v1 ∧ wp.cell? ⟨B, 2, none⟩ = some v2 ∧ wp.cell? ⟨B, 3, none⟩ = some v3 :=
  ⟨h.1.cells.1, h.1.cells.2, cell_of_row wp B 0 _ _ _ h.2.1, cell_of_row wp B 1 _ _ _ h.2.1, cell_of_row wp B 2 _ _ _ h.2.1, cell_of_row wp B 3 _ _ _ h.2.1⟩
theorem Good.dat (h : Good w0 S B x bd bm v0 v1 v2 v3 D M Sd Sm wp) : DiskAt wp bd D Sd := h.1.2.1
theorem Good.rat (h : Good w0 S B x bd bm v0 v1 v2 v3 D M Sd Sm wp) : RefAt wp bm M Sm := h.1.2.2.1
end
theorem good_start {w : World} {x : Nat} {D : DiskM} {M : RefM} {bd bm : Nat} {Sd Sm : List Nat} (h : DeskIs w x D M bd bm Sd Sm) (v0 v1 v2 v3 : Value) :
    Good w (x :: (Sd ++ Sm)) w.heap.size x bd bm v0 v1 v2 v3 D M Sd Sm (w.alloc (.cells #[v0, v1, v2, v3] 33)) :=
  ⟨h.alloc _, heap_alloc_new _ _, fun e => by have := h.lt _ e; omega, (Upd.refl _ _).alloc _⟩

set_option maxHeartbeats 1600000 in
theorem do_write (x : Nat) (D : DiskM) (M : RefM) (S : List Nat) (kind off n : Int) (text : ByteArray) (w : World) (h : DeskAt w x D M S) (hr : Rel D M) (hc : D.calls < 65536) (hk : kind % 8 < 4)
    (ho1 : -9223372036854775808 ≤ off) (ho2 : off ≤ 9223372036854775807) (hts : text.size ≤ 9223372036854775807) :
    Calls Try.prog 21 #[.pointer (some ⟨x, 0, none⟩), .agg #[.int .i64 kind, .int .i64 off, .int .i64 n, .string text]] w (Did x S (D.writeS (whereL off) (longL (bs text) n)) (M.writeS (whereL off) (longL (bs text) n)) w) := by
  obtain ⟨bd, bm, Sd, Sm, hd, rfl⟩ := h
  obtain ⟨k8, hk8⟩ : ∃ k8, k8 = kind % 8 := ⟨_, rfl⟩
  have hk0 : 0 ≤ k8 := by omega
  rw [← hk8] at hk
  have HK := Lib.hid hk8
  clear hk8
  have t4 : (k8 == 4) = false := by simp; omega
  have t5 : (k8 == 5) = false := by simp; omega
  have t6 : (k8 == 6) = false := by simp; omega
  have t7 : (k8 == 7) = false := by simp; omega
  have hgood := good_start hd (.int .i64 kind) (.int .i64 off) (.int .i64 n) (.string text)
  clear hd
  have hwi := whereL_in off ho1 ho2
  have hlen := longL_length (bs text) n
  go_enter Try.func21, Try.ntmps21
  go_wp2_with fail
  refine (Mod_any kind 8 _ (by omega) (by omega)).mono ?_
  rintro e w' ⟨rfl, rfl⟩
  rw [← HK.out]
  go_wp2_with fail
  generalize w.alloc (.cells #[.int .i64 kind, .int .i64 off, .int .i64 n, .string text] 33) = W at *
  generalize w.heap.size = B at *
  clear t4 t5 t6 t7 hk hk0
  have g0 := hgood.drew
  have k0 := g0.cells
  clear hgood
  go_region_held3 (fun wp => wp.cell? ⟨x, 0, none⟩ = some (.pointer (some ⟨bd, 0, none⟩)) ∧ wp.cell? ⟨x, 1, none⟩ = some (.pointer (some ⟨bm, 0, none⟩)) ∧
    wp.cell? ⟨B, 0, none⟩ = some (.int .i64 kind) ∧ wp.cell? ⟨B, 1, none⟩ = some (.int .i64 off) ∧ wp.cell? ⟨B, 2, none⟩ = some (.int .i64 n) ∧ wp.cell? ⟨B, 3, none⟩ = some (.string text)) (first | exact k0 | assumption)
    (first
      | (go_at_call 46; ((with_reducible refine (Where_any kind off n text _).mono ?_); rintro e wq ⟨rfl, hq⟩; have gq := Good.quiet (by assumption) hq; have kq := gq.cells; clear hq))
      | (go_at_call 48; ((with_reducible refine (Long_any kind off n text _ hts).mono ?_); rintro e wq ⟨tq, htq, rfl, hq⟩; have gq := Good.quiet (by assumption) hq; have kq := gq.cells; have hsq : tq.size ≤ 200 := (by have := congrArg List.length htq; rw [bs_length] at this; omega); have HTQ := Lib.hid htq; clear hq htq))
      | (go_at_call 27; ((with_reducible refine (Write_any bd D Sd (whereL off) _ _ (Good.dat (by assumption)) hr.ok hc (by omega)).mono ?_); rintro e wq ⟨Sq, rD, hrD, rfl, hdq, hq⟩; rw [HTQ.out] at hrD hdq; have gq := Good.disk (by assumption) hdq hq; have kq := gq.cells; clear hq hdq))
      | (go_at_call 33; ((with_reducible refine (RWrite_any bm M Sm (whereL off) _ _ (Good.rat (by assumption)) D hr (by omega) hwi.1 hwi.2).mono ?_); rintro e wq ⟨Sq, rM, hrM, rfl, hdq, hq⟩; rw [HTQ.out] at hrM hdq; have gq := Good.ref (by assumption) hdq hq; have kq := gq.cells; clear hq hdq)))
  have hrr : (rD == rM) = true := by rw [hrD.out, hrM.out, hr.off]; simp
  rw [hrr]
  clear hrr
  go_wp2_with fail
  go_ret
  exact ⟨_, rfl, gq.1.at, gq.2.2.2⟩

def ReadTo (l : List UInt8) (w : World) (e : Ending) (w' : World) : Prop := ∃ r : ByteArray, Hid (bs r = l) ∧ e = .returned (.string r) ∧ w = w'
def RReadTo (l : List UInt8) (w : World) (e : Ending) (w' : World) : Prop := ∃ (r : ByteArray) (n : Nat), Hid (bs r = l) ∧ e = .returned (.string r) ∧ w' = w.drewN n
theorem Read_str (b : Nat) (D : DiskM) (S : List Nat) (off n : Int) (w : World) (h : DiskAt w b D S) (hl : D.now.length ≤ 1099511627776) :
    Calls Try.prog 30 #[.pointer (some ⟨b, 0, none⟩), .int .i64 off, .int .i64 n] w (ReadTo (readL D.now off n) w) :=
  (Read_any b D S off n w h hl).mono fun _ _ ⟨h1, h2⟩ => ⟨⟨(readL D.now off n).toArray⟩, rfl, h1, h2⟩
theorem RRead_str (b : Nat) (M : RefM) (S : List Nat) (off n : Int) (w : World) (h : RefAt w b M S) (hl : M.now.length ≤ 1099511627776) :
    Calls Try.prog 32 #[.pointer (some ⟨b, 0, none⟩), .int .i64 off, .int .i64 n] w (RReadTo (readL M.now off n) w) :=
  (RRead_any b M S off n w h hl).mono fun _ _ ⟨nq, h1, h2⟩ => ⟨⟨(readL M.now off n).toArray⟩, nq, rfl, h1, h2⟩
theorem bs_toList (r : ByteArray) : r.toList = bs r := ByteArray.toList_eq r

set_option maxHeartbeats 1600000 in
theorem do_read (x : Nat) (D : DiskM) (M : RefM) (S : List Nat) (kind off n : Int) (text : ByteArray) (w : World) (h : DeskAt w x D M S) (hr : Rel D M) (hk : kind % 8 = 5) :
    Calls Try.prog 21 #[.pointer (some ⟨x, 0, none⟩), .agg #[.int .i64 kind, .int .i64 off, .int .i64 n, .string text]] w (Did x S D M w) := by
  obtain ⟨bd, bm, Sd, Sm, hd, rfl⟩ := h
  have HK := Lib.hid hk
  clear hk
  have hgood := good_start hd (.int .i64 kind) (.int .i64 off) (.int .i64 n) (.string text)
  clear hd
  go_enter Try.func21, Try.ntmps21
  go_wp2_with fail
  refine (Mod_any kind 8 _ (by omega) (by omega)).mono ?_
  rintro e w' ⟨rfl, rfl⟩
  rw [HK.out]
  go_wp2_with fail
  generalize w.alloc (.cells #[.int .i64 kind, .int .i64 off, .int .i64 n, .string text] 33) = W at *
  generalize w.heap.size = B at *
  have g0 := hgood.drew
  have k0 := g0.cells
  clear hgood
  have hn1 : D.now.length ≤ 1099511627776 := by have := hr.ok.now; omega
  have hn2 : M.now.length ≤ 1099511627776 := by rw [hr.now]; exact hn1
  go_region_held3 (fun wp => wp.cell? ⟨x, 0, none⟩ = some (.pointer (some ⟨bd, 0, none⟩)) ∧ wp.cell? ⟨x, 1, none⟩ = some (.pointer (some ⟨bm, 0, none⟩)) ∧
    wp.cell? ⟨B, 0, none⟩ = some (.int .i64 kind) ∧ wp.cell? ⟨B, 1, none⟩ = some (.int .i64 off) ∧ wp.cell? ⟨B, 2, none⟩ = some (.int .i64 n) ∧ wp.cell? ⟨B, 3, none⟩ = some (.string text)) (first | exact k0 | assumption)
    (first
      | (go_at_call 46; ((with_reducible refine (Where_any kind off n text _).mono ?_); rintro e wq ⟨rfl, hq⟩; have gq := Good.quiet (by assumption) hq; have kq := gq.cells; clear hq))
      | (go_at_call 30; ((with_reducible refine (Read_str bd D Sd (whereL off) n _ (Good.dat (by assumption)) hn1).mono ?_); rintro e wq ⟨rD, hrD, rfl, rfl⟩))
      | (go_at_call 32; ((with_reducible refine (RRead_str bm M Sm (whereL off) n _ (Good.rat (by assumption)) hn2).mono ?_); rintro e wq ⟨rM, nq, hrM, rfl, rfl⟩; have gq := Good.drewN (by assumption) nq; have kq := gq.cells)))
  have hrr : (rD.toList == rM.toList) = true := by rw [bs_toList, bs_toList, hrD.out, hrM.out, hr.now]; simp
  rw [hrr]
  clear hrr
  go_wp2_with fail
  go_ret
  exact ⟨_, rfl, gq.1.at, gq.2.2.2⟩

set_option maxHeartbeats 1600000 in
theorem do_fail (x : Nat) (D : DiskM) (M : RefM) (S : List Nat) (kind off n : Int) (text : ByteArray) (w : World) (h : DeskAt w x D M S) (_hr : Rel D M) (hk : kind % 8 = 6) :
    Calls Try.prog 21 #[.pointer (some ⟨x, 0, none⟩), .agg #[.int .i64 kind, .int .i64 off, .int .i64 n, .string text]] w (Did x S (D.fail (n % 9 - 1)) { M with limit := decide (0 ≤ n % 9 - 1), left := n % 9 - 1 } w) := by
  obtain ⟨bd, bm, Sd, Sm, hd, rfl⟩ := h
  have HK := Lib.hid hk
  clear hk
  have hgood := good_start hd (.int .i64 kind) (.int .i64 off) (.int .i64 n) (.string text)
  clear hd
  obtain ⟨m, hm⟩ : ∃ m, m = n % 9 := ⟨_, rfl⟩
  have hm1 : 0 ≤ m := by omega
  have hm2 : m < 9 := by omega
  rw [← hm]
  have HM := Lib.hid hm
  clear hm
  go_enter Try.func21, Try.ntmps21
  go_wp2_with fail
  refine (Mod_any kind 8 _ (by omega) (by omega)).mono ?_
  rintro e w' ⟨rfl, rfl⟩
  rw [HK.out]
  generalize w.alloc (.cells #[.int .i64 kind, .int .i64 off, .int .i64 n, .string text] 33) = W at *
  generalize w.heap.size = B at *
  obtain ⟨k0, k1, k2, k3, k4, k5⟩ := hgood.cells
  go_wp2_with fail
  refine (Mod_any n 9 _ (by omega) (by omega)).mono ?_
  rintro e w' ⟨rfl, rfl⟩
  rw [← HM.out]
  go_wp2_with fail
  refine (Fail_any bd D Sd (m - 1) _ hgood.dat).mono ?_
  rintro e w1 ⟨rfl, hd1, hu1⟩
  have g1 := hgood.disk hd1 hu1
  obtain ⟨j0, j1, j2, j3, j4, j5⟩ := g1.cells
  clear hu1 hd1 k0 k1 k2 k3 k4 k5
  go_wp2_with fail
  refine (RFail_any bm M Sm (m - 1) _ g1.rat).mono ?_
  rintro e w2 ⟨rfl, hd2, hu2⟩
  have g2 := g1.ref hd2 hu2
  clear hu2 hd2
  have G2 := Lib.hid g2
  clear g2 g1 hgood j0 j1 j2 j3 j4 j5
  go_wp2_with fail
  go_ret
  exact ⟨_, rfl, G2.out.1.at, G2.out.2.2.2⟩

theorem deskAt_set0 {w w1 : World} {x bd' : Nat} {D D' : DiskM} {M : RefM} {bd bm : Nat} {Sd Sm S' : List Nat} (h : DeskIs w x D M bd bm Sd Sm) (hd : DiskAt w1 bd' D' S') (hu : Upd [] S' w w1) :
    DeskIs (w1.setCell ⟨x, 0, none⟩ (.pointer (some ⟨bd', 0, none⟩))) x D' M bd' bm S' Sm ∧ Upd (x :: (Sd ++ Sm)) (x :: (S' ++ Sm)) w (w1.setCell ⟨x, 0, none⟩ (.pointer (some ⟨bd', 0, none⟩))) := by
  obtain ⟨h1, h2, h3, n1, n2, n3⟩ := h
  have hxl := blk_lt h1
  have hml := h3.lt
  have hnew : ∀ k, k ∈ S' → w.heap.size ≤ k := fun k hk => by rcases hu.new k hk with h | h; simp at h; exact h
  have hxb : w1.heap[x]? = w.heap[x]? := hu.block x hxl (by simp)
  refine ⟨⟨?_, hd.same (fun k hk => heap_setCell_other _ _ _ _ (fun (e : k = x) => by have := hnew k hk; omega)), (h3.kept hu (by simp)).same (fun k hk => heap_setCell_other _ _ _ _ (fun (e : k = x) => n2 (e ▸ hk))), ?_, n2, ?_⟩, ?_⟩
  · rw [heap_setCell_same w1 x 0 _ _ _ (hxb.trans h1)]; rfl
  · intro e; have := hnew x e; omega
  · intro k hk hm; have := hnew k hk; have := hml k hm; omega
  · refine Upd.setCell ?_ (by simp) _
    refine hu.mono (by simp) (fun k hk => ?_)
    simp only [List.mem_cons, List.mem_append] at hk ⊢
    rcases hk with h | h | h
    · exact .inr (.inl h)
    · exact .inl h
    · exact .inr (.inr (.inr h))
theorem deskAt_set1 {w w1 : World} {x bm' : Nat} {D : DiskM} {M M' : RefM} {bd bm : Nat} {Sd Sm S' : List Nat} (h : DeskIs w x D M bd bm Sd Sm) (hd : RefAt w1 bm' M' S') (hu : Upd [] S' w w1) :
    DeskIs (w1.setCell ⟨x, 1, none⟩ (.pointer (some ⟨bm', 0, none⟩))) x D M' bd bm' Sd S' ∧ Upd (x :: (Sd ++ Sm)) (x :: (Sd ++ S')) w (w1.setCell ⟨x, 1, none⟩ (.pointer (some ⟨bm', 0, none⟩))) := by
  obtain ⟨h1, h2, h3, n1, n2, n3⟩ := h
  have hxl := blk_lt h1
  have hdl := h2.lt
  have hnew : ∀ k, k ∈ S' → w.heap.size ≤ k := fun k hk => by rcases hu.new k hk with h | h; simp at h; exact h
  have hxb : w1.heap[x]? = w.heap[x]? := hu.block x hxl (by simp)
  refine ⟨⟨?_, (h2.kept hu (by simp)).same (fun k hk => heap_setCell_other _ _ _ _ (fun (e : k = x) => n1 (e ▸ hk))), hd.same (fun k hk => heap_setCell_other _ _ _ _ (fun (e : k = x) => by have := hnew k hk; omega)), n1, ?_, ?_⟩, ?_⟩
  · rw [heap_setCell_same w1 x 1 _ _ _ (hxb.trans h1)]; rfl
  · intro e; have := hnew x e; omega
  · intro k hk hm; have := hnew k hm; have := hdl k hk; omega
  · refine Upd.setCell ?_ (by simp) _
    refine hu.mono (by simp) (fun k hk => ?_)
    simp only [List.mem_cons, List.mem_append] at hk ⊢
    rcases hk with h | h | h
    · exact .inr (.inl h)
    · exact .inr (.inr (.inl h))
    · exact .inl h
end Go.Proofs.Ytbpbmigdfjnneaa
