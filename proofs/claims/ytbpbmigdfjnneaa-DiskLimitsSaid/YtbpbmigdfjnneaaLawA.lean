/- Layer 24's laws: what their walks share. -/
import Derived.Test.YtbpbmigdfjnneaaSanD
namespace Go.Proofs.Ytbpbmigdfjnneaa
open Go.RowKit
set_option maxRecDepth 100000

def RBorn (w : World) (e : Ending) (w' : World) : Prop := ∃ b S, e = .returned (.pointer (some ⟨b, 0, none⟩)) ∧ RefAt w' b .empty S ∧ Upd [] S w w'
theorem RNew_to (w : World) : Calls Try.prog 19 #[] w (RBorn w) := (RNew_any w).mono fun _ _ ⟨h1, h2, h3⟩ => ⟨_, _, h1, h2, h3⟩

theorem DeskIs.dat {w : World} {x : Nat} {D : DiskM} {M : RefM} {bd bm : Nat} {Sd Sm : List Nat} (h : DeskIs w x D M bd bm Sd Sm) : DiskAt w bd D Sd := h.2.1
theorem DeskIs.rat {w : World} {x : Nat} {D : DiskM} {M : RefM} {bd bm : Nat} {Sd Sm : List Nat} (h : DeskIs w x D M bd bm Sd Sm) : RefAt w bm M Sm := h.2.2.1

structure DeskOk (w0 : World) (B x : Nat) (D : DiskM) (M : RefM) (S : List Nat) (wp : World) : Prop where
  at_ : DeskAt wp x D M S
  above : Above B S
  below : Below B w0 wp
  size : B ≤ wp.heap.size
  rel : Rel D M

theorem DeskAt.same {w w' : World} {x : Nat} {D : DiskM} {M : RefM} {S : List Nat} (h : DeskAt w x D M S) (hs : ∀ k, k ∈ S → w'.heap[k]? = w.heap[k]?) : DeskAt w' x D M S := by
  obtain ⟨bd, bm, Sd, Sm, h, rfl⟩ := h; exact ⟨bd, bm, Sd, Sm, h.same hs, rfl⟩
theorem DeskAt.lt {w : World} {x : Nat} {D : DiskM} {M : RefM} {S : List Nat} (h : DeskAt w x D M S) : ∀ k, k ∈ S → k < w.heap.size := by
  obtain ⟨bd, bm, Sd, Sm, h, rfl⟩ := h; exact h.lt
theorem DeskAt.kept {w w' : World} {x : Nat} {D : DiskM} {M : RefM} {S T T' : List Nat} (h : DeskAt w x D M S) (hu : Upd T T' w w') (hd : ∀ k, k ∈ S → k ∉ T) : DeskAt w' x D M S :=
  h.same fun k hk => hu.block k (h.lt k hk) (hd k hk)
theorem DeskAt.cell0 {w : World} {x : Nat} {D : DiskM} {M : RefM} {S : List Nat} (h : DeskAt w x D M S) : ∃ bd bm, w.cell? ⟨x, 0, none⟩ = some (.pointer (some ⟨bd, 0, none⟩)) ∧ w.cell? ⟨x, 1, none⟩ = some (.pointer (some ⟨bm, 0, none⟩)) := by
  obtain ⟨bd, bm, Sd, Sm, h, rfl⟩ := h; exact ⟨bd, bm, h.cells⟩

section
variable {w0 : World} {B x : Nat} {D D' : DiskM} {M M' : RefM} {S S' T T' : List Nat} {wp w1 : World}
theorem DeskOk.step (h : DeskOk w0 B x D M S wp) (hd : DeskAt w1 x D' M' S') (hu : Upd S S' wp w1) (hr : Rel D' M') : DeskOk w0 B x D' M' S' w1 :=
  ⟨hd, hu.above h.above h.size, hu.belowOf h.below h.above h.size, Nat.le_trans h.size hu.size, hr⟩
theorem DeskOk.other (h : DeskOk w0 B x D M S wp) (hu : Upd T T' wp w1) (hT : Above B T) (hd : ∀ k, k ∈ S → k ∉ T) : DeskOk w0 B x D M S w1 :=
  ⟨h.at_.kept hu hd, h.above, hu.belowOf h.below hT h.size, Nat.le_trans h.size hu.size, h.rel⟩
theorem DeskOk.quiet (h : DeskOk w0 B x D M S wp) (hu : Upd [] T' wp w1) : DeskOk w0 B x D M S w1 := h.other hu (above_nil B) (by simp)
theorem DeskOk.alloc (h : DeskOk w0 B x D M S wp) (o : Obj) : DeskOk w0 B x D M S (wp.alloc o) := h.quiet ((Upd.refl [] wp).alloc o)
theorem DeskOk.drew (h : DeskOk w0 B x D M S wp) : DeskOk w0 B x D M S wp.drew := h.quiet (Upd.refl [] wp).drew
theorem DeskOk.drewN (h : DeskOk w0 B x D M S wp) (n : Nat) : DeskOk w0 B x D M S (wp.drewN n) := h.quiet ((Upd.refl [] wp).drewN n)
end

/-- A new desk round a disk and a model. -/
theorem desk_boxed {w0 wp w1 : World} {B bd bm : Nat} {D : DiskM} {M : RefM} {Sd Sm : List Nat} (hb : Below B w0 wp) (hB : B ≤ wp.heap.size) (hd : DiskAt w1 bd D Sd) (hm : RefAt w1 bm M Sm) (ha1 : Above B Sd) (ha2 : Above B Sm) (hdj : ∀ k, k ∈ Sd → k ∉ Sm) (hu : Below B wp w1) (hr : Rel D M) :
    DeskOk w0 B w1.heap.size D M (w1.heap.size :: (Sd ++ Sm)) (w1.alloc (.cells #[.pointer (some ⟨bd, 0, none⟩), .pointer (some ⟨bm, 0, none⟩)] 31)) := by
  have hs := hu.size
  refine ⟨⟨bd, bm, Sd, Sm, ⟨heap_alloc_new _ _, hd.alloc _, hm.alloc _, fun e => ?_, fun e => ?_, hdj⟩, rfl⟩, ?_, ?_, ?_, hr⟩
  · have := hd.lt _ e; omega
  · have := hm.lt _ e; omega
  · intro k hk
    simp only [List.mem_cons, List.mem_append] at hk
    rcases hk with rfl | h | h
    · omega
    · exact ha1 k h
    · exact ha2 k h
  · exact (hb.trans hu).alloc (by omega) _
  · simp; omega

def DidAny (x : Nat) (S : List Nat) (D : DiskM) (w : World) (e : Ending) (w' : World) : Prop := ∃ D' M' S', e = .returned (.bool true) ∧ DeskAt w' x D' M' S' ∧ Upd S S' w w' ∧ Rel D' M' ∧ D'.calls ≤ D.calls + 1

theorem writeS_calls (D : DiskM) (off : Int) (s : List UInt8) : (D.writeS off s).calls ≤ D.calls + 1 ∧ (D.writeS off s).failing = D.failing := by
  unfold DiskM.writeS; split
  · exact ⟨by omega, rfl⟩
  · split
    · exact ⟨by omega, rfl⟩
    · exact ⟨Nat.le_refl _, rfl⟩
theorem syncS_calls (D : DiskM) : D.syncS.calls ≤ D.calls + 1 ∧ D.syncS.failing = D.failing := by
  unfold DiskM.syncS; split
  · exact ⟨by omega, rfl⟩
  · exact ⟨Nat.le_refl _, rfl⟩

theorem do_any (x : Nat) (D : DiskM) (M : RefM) (S : List Nat) (kind off n : Int) (text : ByteArray) (w : World) (h : DeskAt w x D M S) (hr : Rel D M) (hc : D.calls < 65536)
    (ho1 : -9223372036854775808 ≤ off) (ho2 : off ≤ 9223372036854775807) (hn1 : -9223372036854775808 ≤ n) (hn2 : n ≤ 9223372036854775807) (hts : text.size ≤ 9223372036854775807) :
    Calls Try.prog 21 #[.pointer (some ⟨x, 0, none⟩), .agg #[.int .i64 kind, .int .i64 off, .int .i64 n, .string text]] w (DidAny x S D w) := by
  rcases (show kind % 8 < 4 ∨ kind % 8 = 4 ∨ kind % 8 = 5 ∨ kind % 8 = 6 ∨ kind % 8 = 7 by omega) with hk | hk | hk | hk | hk
  · refine (do_write x D M S kind off n text w h hr hc hk ho1 ho2 hts).mono ?_
    rintro e w' ⟨S', h1, h2, h3⟩
    exact ⟨_, _, S', h1, h2, h3, hr.writeS hc _ _, (writeS_calls _ _ _).1⟩
  · refine (do_sync x D M S kind off n text w h hr hc hk).mono ?_
    rintro e w' ⟨S', h1, h2, h3⟩
    exact ⟨_, _, S', h1, h2, h3, hr.syncS hc, (syncS_calls _).1⟩
  · refine (do_read x D M S kind off n text w h hr hk).mono ?_
    rintro e w' ⟨S', h1, h2, h3⟩
    exact ⟨_, _, S', h1, h2, h3, hr, by omega⟩
  · refine (do_fail x D M S kind off n text w h hr hk).mono ?_
    rintro e w' ⟨S', h1, h2, h3⟩
    exact ⟨_, _, S', h1, h2, h3, hr.fail _ (by omega) (by omega), by show D.calls ≤ _; omega⟩
  · refine (do_crash x D M S kind off n text w h hr hk hn1 hn2).mono ?_
    rintro e w' ⟨S', h1, h2, h3⟩
    exact ⟨_, _, S', h1, h2, h3, hr.crash _, by show 0 ≤ _; omega⟩

structure ActM where
  kind : Int
  off : Int
  n : Int
  text : ByteArray
structure ActM.ok (a : ActM) : Prop where
  k1 : -9223372036854775808 ≤ a.kind
  k2 : a.kind ≤ 9223372036854775807
  o1 : -9223372036854775808 ≤ a.off
  o2 : a.off ≤ 9223372036854775807
  n1 : -9223372036854775808 ≤ a.n
  n2 : a.n ≤ 9223372036854775807
  t : a.text.size ≤ 9223372036854775807
/-- v is a slice of acts, wherever it lies. -/
def ActsAt (w : World) (v : Value) (l : List ActM) : Prop :=
  ∃ cap, cap ≤ maxLen ∧ l.length ≤ cap ∧ (∀ a, a ∈ l → a.ok) ∧ ((l = [] ∧ ∃ ao, v = .slice ao 0 cap) ∨ ∃ b off, v = .slice (some ⟨b, off, none⟩) l.length cap ∧ ∀ j a, l[j]? = some a →
    w.cell? ⟨b, off + j * 4, none⟩ = some (.int .i64 a.kind) ∧ w.cell? ⟨b, off + j * 4 + 1, none⟩ = some (.int .i64 a.off) ∧ w.cell? ⟨b, off + j * 4 + 2, none⟩ = some (.int .i64 a.n) ∧ w.cell? ⟨b, off + j * 4 + 3, none⟩ = some (.string a.text))

theorem IntsAt.below {w w' : World} {v : Value} {zs : List Int} (h : IntsAt w v zs) (hb : Below w.heap.size w w') : IntsAt w' v zs := by
  obtain ⟨cap, h | ⟨b, off, rfl, hc⟩⟩ := h
  · exact ⟨cap, .inl h⟩
  · exact ⟨cap, .inr ⟨b, off, rfl, fun j z hz => (hb.cell (p := ⟨b, off + j, none⟩) (World.block_lt_of_cell? _ _ (hc j z hz))).trans (hc j z hz)⟩⟩
end Go.Proofs.Ytbpbmigdfjnneaa
