/- The desk of layer 24's laws: a disk and its model side by side; survive, and do at a Sync. -/
import Derived.Test.YtbpbmigdfjnneaaDeskP
namespace Go.Proofs.Ytbpbmigdfjnneaa
open Go.RowKit
set_option maxRecDepth 100000

def DeskIs (w : World) (x : Nat) (D : DiskM) (M : RefM) (bd bm : Nat) (Sd Sm : List Nat) : Prop :=
  w.heap[x]? = some (.cells #[.pointer (some ⟨bd, 0, none⟩), .pointer (some ⟨bm, 0, none⟩)] 31 (0, 0)) ∧ DiskAt w bd D Sd ∧ RefAt w bm M Sm ∧
    (x ∉ Sd ∧ x ∉ Sm ∧ ∀ k, k ∈ Sd → k ∉ Sm)
def DeskAt (w : World) (x : Nat) (D : DiskM) (M : RefM) (S : List Nat) : Prop := ∃ bd bm Sd Sm, DeskIs w x D M bd bm Sd Sm ∧ S = x :: (Sd ++ Sm)

theorem DeskIs.at {w : World} {x : Nat} {D : DiskM} {M : RefM} {bd bm : Nat} {Sd Sm : List Nat} (h : DeskIs w x D M bd bm Sd Sm) : DeskAt w x D M (x :: (Sd ++ Sm)) := ⟨bd, bm, Sd, Sm, h, rfl⟩
theorem DeskIs.same {w w' : World} {x : Nat} {D : DiskM} {M : RefM} {bd bm : Nat} {Sd Sm : List Nat} (h : DeskIs w x D M bd bm Sd Sm) (hs : ∀ k, k ∈ x :: (Sd ++ Sm) → w'.heap[k]? = w.heap[k]?) : DeskIs w' x D M bd bm Sd Sm := by
  obtain ⟨h1, h2, h3, h4⟩ := h
  exact ⟨(hs x (by simp)).trans h1, h2.same (fun k hk => hs k (by simp [hk])), h3.same (fun k hk => hs k (by simp [hk])), h4⟩
theorem DeskIs.lt {w : World} {x : Nat} {D : DiskM} {M : RefM} {bd bm : Nat} {Sd Sm : List Nat} (h : DeskIs w x D M bd bm Sd Sm) : ∀ k, k ∈ x :: (Sd ++ Sm) → k < w.heap.size := by
  obtain ⟨h1, h2, h3, h4⟩ := h
  intro k hk
  simp only [List.mem_cons, List.mem_append] at hk
  rcases hk with rfl | hk | hk
  · exact blk_lt h1
  · exact h2.lt k hk
  · exact h3.lt k hk
theorem DeskIs.kept {w w' : World} {x : Nat} {D : DiskM} {M : RefM} {bd bm : Nat} {Sd Sm T T' : List Nat} (h : DeskIs w x D M bd bm Sd Sm) (hu : Upd T T' w w') (hd : ∀ k, k ∈ x :: (Sd ++ Sm) → k ∉ T) : DeskIs w' x D M bd bm Sd Sm :=
  h.same fun k hk => hu.block k (h.lt k hk) (hd k hk)
theorem DeskIs.alloc {w : World} {x : Nat} {D : DiskM} {M : RefM} {bd bm : Nat} {Sd Sm : List Nat} (h : DeskIs w x D M bd bm Sd Sm) (o : Obj) : DeskIs (w.alloc o) x D M bd bm Sd Sm := h.same fun k hk => Below.heap_alloc _ _ _ (h.lt k hk)
theorem DeskIs.drew {w : World} {x : Nat} {D : DiskM} {M : RefM} {bd bm : Nat} {Sd Sm : List Nat} (h : DeskIs w x D M bd bm Sd Sm) : DeskIs w.drew x D M bd bm Sd Sm := h.same fun _ _ => rfl

/-- The disk of a desk has turned. -/
theorem DeskIs.disk {w w1 : World} {x : Nat} {D D' : DiskM} {M : RefM} {bd bm : Nat} {Sd Sd' Sm : List Nat} (h : DeskIs w x D M bd bm Sd Sm) (hd : DiskAt w1 bd D' Sd') (hu : Upd Sd Sd' w w1) :
    DeskIs w1 x D' M bd bm Sd' Sm ∧ Upd (x :: (Sd ++ Sm)) (x :: (Sd' ++ Sm)) w w1 := by
  obtain ⟨h1, h2, h3, n1, n2, n3⟩ := h
  have hxl := blk_lt h1
  have hml := h3.lt
  have fresh : ∀ k, k < w.heap.size → k ∉ Sd → k ∉ Sd' := fun k a1 a2 a3 => by rcases hu.new k a3 with h | h; exact a2 h; omega
  refine ⟨⟨(hu.block x hxl n1).trans h1, hd, h3.kept hu (fun k hk hc => n3 k hc hk), fresh x hxl n1, n2, fun k a1 a2 => fresh k (hml k a2) (fun c => n3 k c a2) a1⟩, ?_⟩
  refine hu.mono (fun k hk => by simp [hk]) (fun k hk => ?_)
  simp only [List.mem_cons, List.mem_append] at hk ⊢
  rcases hk with h | h | h
  · exact .inr (.inl h)
  · exact .inl h
  · exact .inr (.inr (.inr h))
/-- The model of a desk has turned. -/
theorem DeskIs.ref {w w1 : World} {x : Nat} {D : DiskM} {M M' : RefM} {bd bm : Nat} {Sd Sm Sm' : List Nat} (h : DeskIs w x D M bd bm Sd Sm) (hd : RefAt w1 bm M' Sm') (hu : Upd Sm Sm' w w1) :
    DeskIs w1 x D M' bd bm Sd Sm' ∧ Upd (x :: (Sd ++ Sm)) (x :: (Sd ++ Sm')) w w1 := by
  obtain ⟨h1, h2, h3, n1, n2, n3⟩ := h
  have hxl := blk_lt h1
  have hdl := h2.lt
  have fresh : ∀ k, k < w.heap.size → k ∉ Sm → k ∉ Sm' := fun k a1 a2 a3 => by rcases hu.new k a3 with h | h; exact a2 h; omega
  refine ⟨⟨(hu.block x hxl n2).trans h1, h2.kept hu (fun k hk hc => n3 k hk hc), hd, n1, fresh x hxl n2, fun k a1 a2 => fresh k (hdl k a1) (fun c => n3 k a1 c) a2⟩, ?_⟩
  refine hu.mono (fun k hk => by simp [hk]) (fun k hk => ?_)
  simp only [List.mem_cons, List.mem_append] at hk ⊢
  rcases hk with h | h | h
  · exact .inr (.inl h)
  · exact .inr (.inr (.inl h))
  · exact .inl h
theorem DeskIs.cells {w : World} {x : Nat} {D : DiskM} {M : RefM} {bd bm : Nat} {Sd Sm : List Nat} (h : DeskIs w x D M bd bm Sd Sm) :
    w.cell? ⟨x, 0, none⟩ = some (.pointer (some ⟨bd, 0, none⟩)) ∧ w.cell? ⟨x, 1, none⟩ = some (.pointer (some ⟨bm, 0, none⟩)) := ⟨cell_of_row w x 0 _ _ _ h.1, cell_of_row w x 1 _ _ _ h.1⟩

def survL (n : Int) : List Int := [n, n.tdiv 2, n.tdiv 3, n.tdiv 5, n.tdiv 7].take (n % 6).toNat
def Survived (n : Int) (w : World) (e : Ending) (w' : World) : Prop := ∃ v, e = .returned v ∧ IntsAt w' v (survL n) ∧ Upd [] [] w w'

set_option maxHeartbeats 400000 in
theorem survive_any (n : Int) (w : World) (h1 : -9223372036854775808 ≤ n) (h2 : n ≤ 9223372036854775807) : Calls Try.prog 24 #[.int .i64 n] w (Survived n w) := by
  obtain ⟨k, hk⟩ : ∃ k : Nat, ((k : Nat) : Int) = n % 6 := ⟨(n % 6).toNat, by omega⟩
  have hk2 : k < 6 := by omega
  have HK := Lib.hid hk
  clear hk
  go_enter Try.func24, Try.ntmps24
  go_wp2_with (go_at_call 20; refine (Mod_any n 6 _ (by omega) (by omega)).mono ?_; rintro e w' ⟨rfl, rfl⟩; rw [← HK.out])
  go_ret
  refine ⟨_, rfl, ⟨5, .inr ⟨w.heap.size, 0, ?_, ?_⟩⟩, (Upd.refl _ _).alloc _⟩
  · have : (survL n).length = k := by simp only [survL, List.length_take, List.length_cons, List.length_nil]; have := HK.out; omega
    rw [this]; rfl
  · intro j z hz
    unfold survL at hz
    rw [show (n % 6).toNat = k from by have := HK.out; omega] at hz
    rw [List.getElem?_take] at hz
    split at hz
    · rename_i hj
      have hj2 : j < 5 := by
        rcases Nat.lt_or_ge j 5 with h | h
        · exact h
        · simp [List.getElem?_eq_none (show [n, n.tdiv 2, n.tdiv 3, n.tdiv 5, n.tdiv 7].length ≤ j by simpa using h)] at hz
      match j, hj2, hz with
      | 0, _, hz => simp at hz; subst hz; simp
      | 1, _, hz => simp at hz; subst hz; simp
      | 2, _, hz => simp at hz; subst hz; simp
      | 3, _, hz => simp at hz; subst hz; simp
      | 4, _, hz => simp at hz; subst hz; simp
    · cases hz

def DiskM.syncS (D : DiskM) : DiskM := if D.off then D else D.synced1.count
def RefM.syncS (M : RefM) : RefM := if M.off then M else { M.count with synced := M.now, parts := [] }
theorem Rel.syncS {D : DiskM} {M : RefM} (h : Rel D M) (hc : D.calls < 65536) : Rel D.syncS M.syncS := by
  unfold DiskM.syncS RefM.syncS
  rw [h.off]
  cases ho : D.off with
  | true => exact h
  | false => exact h.sync ho hc

def SyncTo (b : Nat) (D : DiskM) (S : List Nat) (w : World) (e : Ending) (w' : World) : Prop := ∃ (S' : List Nat) (r : Int), Hid (r = if D.off then 70 else 0) ∧ e = .returned (.int .i64 r) ∧ DiskAt w' b D.syncS S' ∧ Upd S S' w w'
theorem Sync_any (b : Nat) (D : DiskM) (S : List Nat) (w : World) (h : DiskAt w b D S) (hok : D.ok) (hcl : D.calls < 65536) :
    Calls Try.prog 28 #[.pointer (some ⟨b, 0, none⟩)] w (SyncTo b D S w) := by
  unfold SyncTo DiskM.syncS
  cases ho : D.off with
  | true => refine (Sync_off b D S w h ho).mono ?_; rintro e w' ⟨rfl, rfl⟩; exact ⟨S, _, rfl, rfl, h, Upd.refl _ _⟩
  | false => refine (Sync_ok b D S w h hok hcl ho).mono ?_; rintro e w' ⟨S', rfl, h1, h2⟩; exact ⟨S', _, rfl, rfl, h1, h2⟩
def RSyncTo (b : Nat) (M : RefM) (S : List Nat) (w : World) (e : Ending) (w' : World) : Prop := ∃ (S' : List Nat) (r : Int), Hid (r = if M.off then 70 else 0) ∧ e = .returned (.int .i64 r) ∧ RefAt w' b M.syncS S' ∧ Upd S S' w w'
theorem RSync_any (b : Nat) (M : RefM) (S : List Nat) (w : World) (h : RefAt w b M S) (D : DiskM) (hr : Rel D M) :
    Calls Try.prog 45 #[.pointer (some ⟨b, 0, none⟩)] w (RSyncTo b M S w) := by
  unfold RSyncTo RefM.syncS
  have hc := hr.ok.calls
  have := hr.n
  have := hr.low
  have := hr.high
  cases ho : M.off with
  | true => refine (RSync_yes b M S w h ho).mono ?_; rintro e w' ⟨rfl, rfl⟩; exact ⟨S, _, rfl, rfl, h, Upd.refl _ _⟩
  | false => refine (RSync_no b M S w h ho (by omega) (by omega) (by omega) (by omega)).mono ?_; rintro e w' ⟨S', rfl, h1, h2⟩; exact ⟨S', _, rfl, rfl, h1, h2⟩

/-- What do leaves: true, and both as they should be. -/
def Did (x : Nat) (S : List Nat) (D : DiskM) (M : RefM) (w : World) (e : Ending) (w' : World) : Prop := ∃ S', e = .returned (.bool true) ∧ DeskAt w' x D M S' ∧ Upd S S' w w'

set_option maxHeartbeats 800000 in
theorem do_sync (x : Nat) (D : DiskM) (M : RefM) (S : List Nat) (kind off n : Int) (text : ByteArray) (w : World) (h : DeskAt w x D M S) (hr : Rel D M) (hc : D.calls < 65536) (hk : kind % 8 = 4) :
    Calls Try.prog 21 #[.pointer (some ⟨x, 0, none⟩), .agg #[.int .i64 kind, .int .i64 off, .int .i64 n, .string text]] w (Did x S D.syncS M.syncS w) := by
  obtain ⟨bd, bm, Sd, Sm, hd, hS⟩ := h
  have HS := Lib.hid hS
  clear hS
  have HK := Lib.hid hk
  clear hk
  have hxl := blk_lt hd.1
  obtain ⟨c0, c1⟩ := hd.cells
  have HD := Lib.hid hd
  clear hd
  go_enter Try.func21, Try.ntmps21
  go_wp2_with fail
  refine (Mod_any kind 8 _ (by omega) (by omega)).mono ?_
  rintro e w' ⟨rfl, rfl⟩
  rw [HK.out]
  go_wp2_with fail
  have hdW := HD.out.alloc (.cells #[.int .i64 kind, .int .i64 off, .int .i64 n, .string text] 33)
  have huW : Upd S S w (w.alloc (.cells #[.int .i64 kind, .int .i64 off, .int .i64 n, .string text] 33)) := (Upd.refl _ _).alloc _
  generalize w.alloc (.cells #[.int .i64 kind, .int .i64 off, .int .i64 n, .string text] 33) = W at *
  obtain ⟨d0, d1⟩ := hdW.cells
  have HDW := Lib.hid hdW
  clear hdW c0 c1
  have HC1 := Lib.hid (Sync_any bd D Sd W.drew HDW.out.drew.2.1 hr.ok hc)
  go_region_held3 (fun w' => w'.cell? ⟨x, 0, none⟩ = some (.pointer (some ⟨bd, 0, none⟩)) ∧ w'.cell? ⟨x, 1, none⟩ = some (.pointer (some ⟨bm, 0, none⟩))) (first | exact ⟨d0, d1⟩ | assumption)
    (first
      | (go_at_call 28; refine HC1.out.mono ?_; rintro e w1 ⟨S1, r1, hr1, rfl, hd1, hu1⟩; obtain ⟨hx1, hv1⟩ := HDW.out.drew.disk hd1 hu1; have hcc1 := hx1.cells)
      | (go_at_call 45; refine (RSync_any bm M Sm _ (by exact hx1.2.2.1) D hr).mono ?_; rintro e w2 ⟨S2, r2, hr2, rfl, hm2, hu2⟩; obtain ⟨hx2, hv2⟩ := hx1.ref hm2 hu2; have hcc2 := hx2.cells))
  have hrr : (r1 == r2) = true := by rw [hr1.out, hr2.out, hr.off]; simp
  rw [hrr]
  clear hrr
  go_wp2_with fail
  go_ret
  exact ⟨_, rfl, hx2.at, by rw [HS.out] at huW ⊢; exact huW.trans (Upd.trans (Upd.refl _ _).drew (hv1.trans hv2))⟩

def badOff (off : Int) (k : Nat) : Bool := decide (off < 0 ∨ 16777216 - (k : Int) < off)
def DiskM.writeS (D : DiskM) (off : Int) (s : List UInt8) : DiskM := if badOff off s.length then D else if D.off then D else (D.wrote off.toNat s).count
def RefM.writeS (M : RefM) (off : Int) (s : List UInt8) : RefM := if badOff off s.length then M else if M.off then M else { M.count with now := putL M.now off.toNat s, parts := M.parts ++ partsL off.toNat s }
theorem Rel.writeS {D : DiskM} {M : RefM} (h : Rel D M) (hc : D.calls < 65536) (off : Int) (s : List UInt8) : Rel (D.writeS off s) (M.writeS off s) := by
  unfold DiskM.writeS RefM.writeS
  rw [h.off]
  cases hb : badOff off s.length with
  | true => exact h
  | false =>
    cases ho : D.off with
    | true => exact h
    | false =>
      have hb2 : ¬ (off < 0 ∨ 16777216 - (s.length : Int) < off) := of_decide_eq_false hb
      exact h.write ho hc off.toNat s (by omega)
def errR (b o : Bool) : Int := if b then 1 else if o then 70 else 0

def WriteTo (b : Nat) (D : DiskM) (S : List Nat) (off : Int) (s : List UInt8) (w : World) (e : Ending) (w' : World) : Prop := ∃ (S' : List Nat) (r : Int), Hid (r = errR (badOff off s.length) D.off) ∧ e = .returned (.int .i64 r) ∧ DiskAt w' b (D.writeS off s) S' ∧ Upd S S' w w'
theorem Write_any (b : Nat) (D : DiskM) (S : List Nat) (off : Int) (s : ByteArray) (w : World) (h : DiskAt w b D S) (hok : D.ok) (hcl : D.calls < 65536) (hs : s.size ≤ 1099511627776) :
    Calls Try.prog 27 #[.pointer (some ⟨b, 0, none⟩), .int .i64 off, .string s] w (WriteTo b D S off (bs s) w) := by
  unfold WriteTo DiskM.writeS errR
  rw [bs_length]
  cases hb : badOff off s.size with
  | true =>
    refine (Write_arg b off s w (by omega) (of_decide_eq_true hb)).mono ?_
    rintro e w' ⟨rfl, rfl⟩
    exact ⟨S, _, rfl, rfl, h, Upd.refl _ _⟩
  | false =>
    have hb2 : ¬ (off < 0 ∨ 16777216 - (s.size : Int) < off) := of_decide_eq_false hb
    cases ho : D.off with
    | true =>
      refine (Write_off b D S off s w h ho (by omega) (by omega)).mono ?_
      rintro e w' ⟨rfl, rfl⟩
      exact ⟨S, _, rfl, rfl, h, Upd.refl _ _⟩
    | false =>
      obtain ⟨o, rfl⟩ := Int.eq_ofNat_of_zero_le (show 0 ≤ off by omega)
      refine (Write_ok b D S o s w h hok hcl ho (by omega)).mono ?_
      rintro e w' ⟨S', rfl, h1, h2⟩
      exact ⟨S', _, rfl, rfl, h1, h2⟩
def RWriteTo (b : Nat) (M : RefM) (S : List Nat) (off : Int) (s : List UInt8) (w : World) (e : Ending) (w' : World) : Prop := ∃ (S' : List Nat) (r : Int), Hid (r = errR (badOff off s.length) M.off) ∧ e = .returned (.int .i64 r) ∧ RefAt w' b (M.writeS off s) S' ∧ Upd S S' w w'
theorem RWrite_any (b : Nat) (M : RefM) (S : List Nat) (off : Int) (s : ByteArray) (w : World) (h : RefAt w b M S) (D : DiskM) (hr : Rel D M) (hs : s.size ≤ 1099511627776) (ho1 : -9223372036854775808 ≤ off) (ho2 : off ≤ 9223372036854775807) :
    Calls Try.prog 33 #[.pointer (some ⟨b, 0, none⟩), .int .i64 off, .string s] w (RWriteTo b M S off (bs s) w) := by
  unfold RWriteTo RefM.writeS errR
  rw [bs_length]
  have hc := hr.ok.calls
  have := hr.n
  have := hr.low
  have := hr.high
  have q1 := hr.ok.now
  have q2 := hr.ok.many
  rw [← hr.now] at q1
  rw [← hr.parts] at q2
  cases hb : badOff off s.size with
  | true =>
    refine (RWrite_arg b off s w (by omega) (of_decide_eq_true hb) ho1 ho2 hs).mono ?_
    rintro e w' ⟨rfl, rfl⟩
    exact ⟨S, _, rfl, rfl, h, Upd.refl _ _⟩
  | false =>
    have hb2 : ¬ (off < 0 ∨ 16777216 - (s.size : Int) < off) := of_decide_eq_false hb
    cases ho : M.off with
    | true =>
      refine (RWrite_off b M S off s w h ho (by omega) (by omega)).mono ?_
      rintro e w' ⟨rfl, rfl⟩
      exact ⟨S, _, rfl, rfl, h, Upd.refl _ _⟩
    | false =>
      obtain ⟨o, rfl⟩ := Int.eq_ofNat_of_zero_le (show 0 ≤ off by omega)
      refine (RWrite_ok b M S o s w h ho (by omega) (by omega) (by omega) (by omega) (by omega) (by omega) (by omega)).mono ?_
      rintro e w' ⟨S', rfl, h1, h2⟩
      exact ⟨S', _, rfl, rfl, h1, h2⟩
end Go.Proofs.Ytbpbmigdfjnneaa
