/- Journals on disks: bundles for the laws of layer 25. -/
import Derived.Test.YtbpbmigdfjnneaaJ25A
namespace Go.Proofs.Ytbpbmigdfjnneaa
open Go.RowKit
set_option maxRecDepth 100000

/-- A journal that is not broken, with its disk, above B, at a world on the way from w0. -/
structure JSt (w0 : World) (B jb b : Nat) (D : DiskM) (F : List UInt8) (rs : List (List UInt8)) (S : List Nat) (wp : World) : Prop where
  j : JAt wp jb b ⟨F.length, rs.length, spaceL rs, false⟩
  d : DiskAt wp b D S
  jS : jb ∉ S
  clean : JClean D F
  recs : recsL F = (rs, true)
  above : Above B (jb :: S)
  below : Below B w0 wp
  size : B ≤ wp.heap.size

section
variable {w0 wp w1 : World} {B jb b : Nat} {D D' : DiskM} {F F' : List UInt8} {rs rs' : List (List UInt8)} {S S' T T' : List Nat}

theorem JSt.lt (h : JSt w0 B jb b D F rs S wp) : ∀ k, k ∈ jb :: S → k < wp.heap.size := by
  intro k hk
  rcases List.mem_cons.1 hk with rfl | hk
  · exact h.j.lt
  · exact h.d.lt k hk
theorem JSt.size_eq (h : JSt w0 B jb b D F rs S wp) : F.length = sizeL rs := by
  have := (recs_size F.length F (Nat.le_refl _)).2 (by rw [h.recs])
  rw [h.recs] at this
  exact this
theorem JSt.fin (h : JSt w0 B jb b D F rs S wp) : F.length ≤ spaceL rs := by rw [h.size_eq, spaceL_size]; omega
theorem JSt.many (_h : JSt w0 B jb b D F rs S wp) : 8 * rs.length ≤ spaceL rs := by rw [spaceL_size]; omega
/-- Another object's change. -/
theorem JSt.other (h : JSt w0 B jb b D F rs S wp) (hu : Upd T T' wp w1) (hT : Above B T) (hd : ∀ k, k ∈ jb :: S → k ∉ T) : JSt w0 B jb b D F rs S w1 :=
  ⟨h.j.kept hu (hd jb (by simp)), h.d.kept hu (fun k hk => hd k (by simp [hk])), h.jS, h.clean, h.recs, h.above, hu.belowOf h.below hT h.size, Nat.le_trans h.size hu.size⟩
theorem JSt.quiet (h : JSt w0 B jb b D F rs S wp) (hu : Upd [] T' wp w1) : JSt w0 B jb b D F rs S w1 := h.other hu (above_nil B) (by simp)
theorem JSt.drewN (h : JSt w0 B jb b D F rs S wp) (n : Nat) : JSt w0 B jb b D F rs S (wp.drewN n) := h.quiet ((Upd.refl [] wp).drewN n)
theorem JSt.alloc (h : JSt w0 B jb b D F rs S wp) (o : Obj) : JSt w0 B jb b D F rs S (wp.alloc o) := h.quiet ((Upd.refl [] wp).alloc o)
/-- The disk alone turned. -/
theorem JSt.disk (h : JSt w0 B jb b D F rs S wp) (hd : DiskAt w1 b D' S') (hu : Upd S S' wp w1) (hc : JClean D' F) : JSt w0 B jb b D' F rs S' w1 := by
  have ha : Above B S := fun k hk => h.above k (by simp [hk])
  refine ⟨h.j.kept hu h.jS, hd, fun m => ?_, hc, h.recs, fun k hk => ?_, hu.belowOf h.below ha h.size, Nat.le_trans h.size hu.size⟩
  · rcases hu.new jb m with g | g
    · exact h.jS g
    · have := h.j.lt; omega
  · rcases List.mem_cons.1 hk with rfl | hk
    · exact h.above k (by simp)
    · exact hu.above ha h.size k hk

theorem DiskM.off_of {D : DiskM} (h : D.failing = false) : D.off = false := by simp [DiskM.off, h]
theorem syncS_now {D : DiskM} (h : D.off = false) : D.syncS = D.synced1.count := by unfold DiskM.syncS; rw [h]; rfl

def OpenFine (w0 : World) (B b : Nat) (D : DiskM) (F : List UInt8) (rs : List (List UInt8)) (S : List Nat) (w : World) (e : Ending) (w' : World) : Prop :=
  ∃ jb v S', e = .returned (.tuple #[.pointer (some ⟨jb, 0, none⟩), v, .int .i64 0]) ∧ JSt w0 B jb b D.synced1.count F rs S' w' ∧ StrRow w' v rs ∧ Upd S (jb :: (foot v ++ S')) w w' ∧ (jb :: (foot v ++ S')).Nodup

/-- Open of a disk that nothing waits for. -/
theorem Open_fine (hd : DiskAt wp b D S) (hcl : JClean D F) (hr : recsL F = (rs, true)) (hoff : D.off = false) (hc : D.calls < 65536) (ha : Above B S) (hbl : Below B w0 wp) (hsz : B ≤ wp.heap.size) :
    Calls Try.prog 37 #[.pointer (some ⟨b, 0, none⟩)] wp (OpenFine w0 B b D F rs S wp) := by
  refine (Open_ok b D S F rs wp hd hcl.ok hc hoff (open_car hcl.car hr)).mono ?_
  rintro e w' ⟨jb, v, S', rfl, hd', hj, hv, hu, hn⟩
  rw [syncS_now hoff] at hd'
  have hab := hu.above ha hsz
  refine ⟨jb, v, S', rfl, ⟨hj, hd', fun m => (List.nodup_cons.1 hn).1 (by simp [m]), hcl.sync hc, hr, fun k hk => hab k ?_, hu.belowOf hbl ha hsz, Nat.le_trans hsz hu.size⟩, hv, hu, hn⟩
  simp only [List.mem_cons, List.mem_append] at hk ⊢
  rcases hk with h | h
  · exact .inl h
  · exact .inr (.inr h)

/-- Append with the power on. -/
def AppFine (w0 : World) (B jb b : Nat) (D : DiskM) (F : List UInt8) (rs : List (List UInt8)) (r : List UInt8) (S : List Nat) (w : World) (e : Ending) (w' : World) : Prop :=
  ∃ D' S', e = .returned (.int .i64 0) ∧ JSt w0 B jb b D' (F ++ frameL r) (rs ++ [r]) S' w' ∧ Upd (jb :: S) (jb :: S') w w' ∧ D'.failing = D.failing ∧ D'.calls ≤ D.calls + 4
/-- Append, the power perhaps failing. -/
def AppMay (w0 : World) (B jb b : Nat) (D : DiskM) (F : List UInt8) (rs : List (List UInt8)) (r : List UInt8) (S : List Nat) (w : World) (e : Ending) (w' : World) : Prop :=
  AppFine w0 B jb b D F rs r S w e w' ∨
  ∃ D' S', e = .returned (.int .i64 70) ∧ JAt w' jb b ⟨F.length, rs.length, spaceL rs, true⟩ ∧ DiskAt w' b D' S' ∧ JMay D' F (F ++ frameL r) ∧ jb ∉ S' ∧ Above B (jb :: S') ∧ Below B w0 w' ∧ B ≤ w'.heap.size ∧ Upd (jb :: S) (jb :: S') w w' ∧ D'.failing = D.failing ∧ D'.calls ≤ D.calls + 4

theorem App_may (h : JSt w0 B jb b D F rs S wp) (r : ByteArray) (hc : D.calls + 4 ≤ 65536) (hfit : spaceL rs + r.size + 16 + 256 ≤ 16777216) :
    Calls Try.prog 39 #[.pointer (some ⟨jb, 0, none⟩), .string r] wp (AppMay w0 B jb b D F rs (bs r) S wp) := by
  have h1 := h.fin
  have h2 := h.many
  refine (Append_go jb b _ D F S r wp h.j h.d h.jS h.clean.ok hc rfl rfl hfit h1 (by show rs.length ≤ _; omega)).mono ?_
  rintro e w' ⟨S', hjS, hd', hu, hcase⟩
  obtain ⟨l1, l2⟩ := append_law h.clean (bs r) (by rw [bs_length]; omega) hc
  obtain ⟨c1, c2, c3⟩ := appendD_calls D F (bs r)
  have hab := hu.above h.above h.size
  have hbe := hu.belowOf h.below h.above h.size
  have hsz := Nat.le_trans h.size hu.size
  rcases hcase with ⟨ho, rfl, hj⟩ | ⟨ho, rfl, hj⟩
  · refine .inl ⟨_, S', rfl, ⟨?_, hd', hjS, l1 ho, ?_, hab, hbe, hsz⟩, hu, c2, c1⟩
    · rw [List.length_append, frameL_length, List.length_append, spaceL_snoc]
      exact hj
    · exact recs_snoc (bs r) (by rw [bs_length]; omega) F.length F rs (Nat.le_refl _) h.recs
  · exact .inr ⟨_, S', rfl, hj, hd', l2 ho, hjS, hab, hbe, hsz, hu, c2, c1⟩

theorem App_fine (h : JSt w0 B jb b D F rs S wp) (r : ByteArray) (hf : D.failing = false) (hc : D.calls + 4 ≤ 65536) (hfit : spaceL rs + r.size + 16 + 256 ≤ 16777216) :
    Calls Try.prog 39 #[.pointer (some ⟨jb, 0, none⟩), .string r] wp (AppFine w0 B jb b D F rs (bs r) S wp) := by
  have h1 := h.fin
  have h2 := h.many
  refine (Append_go jb b _ D F S r wp h.j h.d h.jS h.clean.ok hc rfl rfl hfit h1 (by show rs.length ≤ _; omega)).mono ?_
  rintro e w' ⟨S', hjS, hd', hu, hcase⟩
  obtain ⟨l1, l2⟩ := append_law h.clean (bs r) (by rw [bs_length]; omega) hc
  obtain ⟨c1, c2, c3⟩ := appendD_calls D F (bs r)
  rcases hcase with ⟨ho, rfl, hj⟩ | ⟨ho, rfl, hj⟩
  · refine ⟨_, S', rfl, ⟨?_, hd', hjS, l1 ho, ?_, hu.above h.above h.size, hu.belowOf h.below h.above h.size, Nat.le_trans h.size hu.size⟩, hu, c2, c1⟩
    · rw [List.length_append, frameL_length, List.length_append, spaceL_snoc]
      exact hj
    · exact recs_snoc (bs r) (by rw [bs_length]; omega) F.length F rs (Nat.le_refl _) h.recs
  · rw [c3 hf] at ho; cases ho

/-- Append when it does not fit. -/
theorem App_many (h : JSt w0 B jb b D F rs S wp) (r : ByteArray) (hr : r.size ≤ 1099511627776) (hs : spaceL rs ≤ 1099511627776) (hfit : 16777216 < spaceL rs + r.size + 16 + 256) :
    Calls Try.prog 39 #[.pointer (some ⟨jb, 0, none⟩), .string r] wp fun e w' => e = .returned (.int .i64 2) ∧ JSt w0 B jb b D F rs S w' ∧ Upd [] [] wp w' := by
  refine (Append_many jb b _ r wp h.j rfl hs hr hfit).mono ?_
  rintro e w' ⟨rfl, hu⟩
  exact ⟨rfl, h.quiet hu, hu⟩

theorem Many_fine (h : JSt w0 B jb b D F rs S wp) : Calls Try.prog 42 #[.pointer (some ⟨jb, 0, none⟩)] wp (Same (.int .i64 (rs.length : Int)) wp) := Many_any jb b _ wp h.j

/-- Append while the power is off. -/
theorem App_off (h : JSt w0 B jb b D F rs S wp) (r : ByteArray) (ho : D.off = true) (hc : D.calls + 4 ≤ 65536) (hfit : spaceL rs + r.size + 16 + 256 ≤ 16777216) :
    Calls Try.prog 39 #[.pointer (some ⟨jb, 0, none⟩), .string r] wp fun e w' => ∃ S', e = .returned (.int .i64 70) ∧ JAt w' jb b ⟨F.length, rs.length, spaceL rs, true⟩ ∧ DiskAt w' b D S' ∧ jb ∉ S' ∧ Above B (jb :: S') ∧ Below B w0 w' ∧ B ≤ w'.heap.size ∧ Upd (jb :: S) (jb :: S') wp w' := by
  have h1 := h.fin
  have h2 := h.many
  have ha : appendD D F (bs r) = (D, false) := by
    have e : jwrite D (16 + F.length) (frameL (bs r)) = (D, false) := by unfold jwrite; rw [if_pos ho]
    unfold appendD
    rw [e]
    rfl
  refine (Append_go jb b _ D F S r wp h.j h.d h.jS h.clean.ok hc rfl rfl hfit h1 (by show rs.length ≤ _; omega)).mono ?_
  rintro e w' ⟨S', hjS, hd', hu, hcase⟩
  rw [ha] at hd' hcase
  rcases hcase with ⟨ho, _⟩ | ⟨_, rfl, hj⟩
  · cases ho
  · exact ⟨S', rfl, hj, hd', hjS, hu.above h.above h.size, hu.belowOf h.below h.above h.size, Nat.le_trans h.size hu.size, hu⟩

/-- A disk that nothing waits for is born. -/
theorem start_disk {w wn : World} (hb : Below w.heap.size w wp) (hd : DiskAt wn b .empty S) (hu : Upd [] S wp wn) : DiskOk w w.heap.size b .empty S wn := DiskOk.start hb hb.size hd hu
end
end Go.Proofs.Ytbpbmigdfjnneaa
