/- sanity of layer 24. -/
import Derived.Test.YtbpbmigdfjnneaaDeskD
namespace Go.Proofs.Ytbpbmigdfjnneaa
open Go.RowKit
set_option maxRecDepth 100000

def Above (B : Nat) (S : List Nat) : Prop := ∀ k, k ∈ S → B ≤ k
theorem Upd.above {S S' : List Nat} {w w' : World} {B : Nat} (h : Upd S S' w w') (ha : Above B S) (hB : B ≤ w.heap.size) : Above B S' := fun k hk => by
  rcases h.new k hk with h1 | h1
  · exact ha k h1
  · omega
theorem above_nil (B : Nat) : Above B [] := fun _ h => by simp at h
theorem Upd.disj {S S' A : List Nat} {w w' : World} (h : Upd S S' w w') (hl : ∀ k, k ∈ A → k < w.heap.size) (hd : ∀ k, k ∈ A → k ∉ S) : ∀ k, k ∈ A → k ∉ S' := fun k hk hc => by
  rcases h.new k hc with h1 | h1
  · exact hd k hk h1
  · have := hl k hk; omega
theorem Upd.belowOf {S S' : List Nat} {w0 w w' : World} {B : Nat} (h : Upd S S' w w') (hb : Below B w0 w) (hS : Above B S) (hB : B ≤ w.heap.size) : Below B w0 w' := Upd.below hb h hB hS

/-- It returns true, and nothing that was there has turned. -/
def TrueB (w : World) (e : Ending) (w' : World) : Prop := e = .returned (.bool true) ∧ Below w.heap.size w w'

/-- A disk above B at a world on the way from w0. -/
structure DiskOk (w0 : World) (B : Nat) (b : Nat) (D : DiskM) (S : List Nat) (wp : World) : Prop where
  at_ : DiskAt wp b D S
  above : Above B S
  below : Below B w0 wp
  size : B ≤ wp.heap.size

theorem DiskOk.step {w0 : World} {B b : Nat} {D D' : DiskM} {S S' : List Nat} {wp w1 : World} (h : DiskOk w0 B b D S wp) (hd : DiskAt w1 b D' S') (hu : Upd S S' wp w1) : DiskOk w0 B b D' S' w1 :=
  ⟨hd, hu.above h.above h.size, hu.belowOf h.below h.above h.size, Nat.le_trans h.size hu.size⟩
theorem DiskOk.other {w0 : World} {B b : Nat} {D : DiskM} {S T T' : List Nat} {wp w1 : World} (h : DiskOk w0 B b D S wp) (hu : Upd T T' wp w1) (hT : Above B T) (hd : ∀ k, k ∈ S → k ∉ T) : DiskOk w0 B b D S w1 :=
  ⟨h.at_.kept hu hd, h.above, hu.belowOf h.below hT h.size, Nat.le_trans h.size hu.size⟩
theorem DiskOk.born {w0 : World} {B b b' : Nat} {D D' : DiskM} {S S' : List Nat} {wp w1 : World} (h : DiskOk w0 B b D S wp) (hd : DiskAt w1 b' D' S') (hu : Upd [] S' wp w1) : DiskOk w0 B b' D' S' w1 :=
  ⟨hd, hu.above (above_nil B) h.size, hu.belowOf h.below (above_nil B) h.size, Nat.le_trans h.size hu.size⟩
theorem DiskOk.first {w w1 : World} {b' : Nat} {D' : DiskM} {S' : List Nat} (hd : DiskAt w1 b' D' S') (hu : Upd [] S' w w1) : DiskOk w w.heap.size b' D' S' w1 :=
  ⟨hd, hu.above (above_nil _) (Nat.le_refl _), hu.belowOf (Below.refl _ _) (above_nil _) (Nat.le_refl _), hu.size⟩
theorem DiskOk.bornDisj {w0 : World} {B b : Nat} {D : DiskM} {S S' : List Nat} {wp w1 : World} (h : DiskOk w0 B b D S wp) (hu : Upd [] S' wp w1) : ∀ k, k ∈ S → k ∉ S' :=
  hu.disj h.at_.lt (by simp)
theorem DiskOk.alloc {w0 : World} {B b : Nat} {D : DiskM} {S : List Nat} {wp : World} (h : DiskOk w0 B b D S wp) (o : Obj) : DiskOk w0 B b D S (wp.alloc o) :=
  h.other ((Upd.refl [] wp).alloc o) (above_nil B) (by simp)

theorem nil_ints (w : World) : IntsAt w (.slice none 0 0) [] := ⟨0, .inl ⟨rfl, none, rfl⟩⟩

def sD1 : DiskM := (DiskM.empty).writeS 2 [97, 98]
def sD2 : DiskM := sD1.syncS
def sD3 : DiskM := sD2.writeS 3 [120, 121, 122]
def sE1 : DiskM := (DiskM.empty).writeS 60 (List.replicate 70 120)
def sG1 : DiskM := (DiskM.empty).fail 1
def sG2 : DiskM := sG1.syncS
theorem sD1_now : sD1.now = [0, 0, 97, 98] ∧ sD1.calls = 1 := by decide +kernel
theorem sD2_ok : sD2.calls = 2 ∧ sD1.off = false ∧ sD2.off = false := by decide +kernel
theorem sCrash : (sD3.crash []).now = [0, 0, 97, 98] := by decide +kernel
theorem sF : (sE1.crash [0, 1]).now.length = 128 ∧ readL (sE1.crash [0, 1]).now 60 9 = [0, 0, 0, 0, 120, 120, 120, 120, 120] := by decide +kernel
theorem sG : sG1.off = false ∧ sG1.calls = 0 ∧ sG2.off = true ∧ sG2.calls = 1 := by decide +kernel
theorem syncS_ok {D : DiskM} (h : D.ok) (hc : D.calls < 65536) : D.syncS.ok := by unfold DiskM.syncS; split; exact h; exact h.sync hc
theorem writeS_ok {D : DiskM} (h : D.ok) (hc : D.calls < 65536) (off : Int) (s : List UInt8) : (D.writeS off s).ok := by
  unfold DiskM.writeS
  cases hb : badOff off s.length with
  | true => exact h
  | false =>
    have hb2 : ¬ (off < 0 ∨ 16777216 - (s.length : Int) < off) := of_decide_eq_false hb
    cases ho : D.off with
    | true => exact h
    | false => exact h.write off.toNat s (by omega) hc

def Born (w : World) (e : Ending) (w' : World) : Prop := ∃ b S, e = .returned (.pointer (some ⟨b, 0, none⟩)) ∧ DiskAt w' b .empty S ∧ Upd [] S w w'
theorem New_to (w : World) : Calls Try.prog 18 #[] w (Born w) := (New_any w).mono fun _ _ ⟨h1, h2, h3⟩ => ⟨_, _, h1, h2, h3⟩
/-- The disk at b has become D'. -/
def To (v : Int) (b : Nat) (D' : DiskM) (S : List Nat) (w : World) (e : Ending) (w' : World) : Prop := ∃ S', e = .returned (.int .i64 v) ∧ DiskAt w' b D' S' ∧ Upd S S' w w'
theorem Write_to (b : Nat) (D : DiskM) (S : List Nat) (off : Int) (s : ByteArray) (w : World) (v : Int) (D' : DiskM) (h : DiskAt w b D S) (hok : D.ok) (hcl : D.calls < 65536) (hs : s.size ≤ 1099511627776) (hv : errR (badOff off (bs s).length) D.off = v) (hD : D.writeS off (bs s) = D') :
    Calls Try.prog 27 #[.pointer (some ⟨b, 0, none⟩), .int .i64 off, .string s] w (To v b D' S w) := by
  subst hv; subst hD
  exact (Write_any b D S off s w h hok hcl hs).mono fun _ _ ⟨S', r, h0, h1, h2, h3⟩ => ⟨S', by rw [← h0.out]; exact h1, h2, h3⟩
theorem Sync_to (b : Nat) (D : DiskM) (S : List Nat) (w : World) (v : Int) (h : DiskAt w b D S) (hok : D.ok) (hcl : D.calls < 65536) (hv : (if D.off then 70 else 0) = v) :
    Calls Try.prog 28 #[.pointer (some ⟨b, 0, none⟩)] w (To v b D.syncS S w) := by
  subst hv
  exact (Sync_any b D S w h hok hcl).mono fun _ _ ⟨S', r, h0, h1, h2, h3⟩ => ⟨S', by rw [← h0.out]; exact h1, h2, h3⟩
def Same (v : Value) (w : World) (e : Ending) (w' : World) : Prop := e = .returned v ∧ w = w'
theorem Size_to (b : Nat) (D : DiskM) (S : List Nat) (w : World) (v : Int) (h : DiskAt w b D S) (hv : (D.now.length : Int) = v) : Calls Try.prog 29 #[.pointer (some ⟨b, 0, none⟩)] w (Same (.int .i64 v) w) := by
  subst hv; exact Size_any b D S w h
theorem Calls_to (b : Nat) (D : DiskM) (S : List Nat) (w : World) (v : Int) (h : DiskAt w b D S) (hv : (D.calls : Int) = v) : Calls Try.prog 31 #[.pointer (some ⟨b, 0, none⟩)] w (Same (.int .i64 v) w) := by
  subst hv; exact Calls_any b D S w h
theorem Read_to (b : Nat) (D : DiskM) (S : List Nat) (off n : Int) (w : World) (v : ByteArray) (h : DiskAt w b D S) (hl : D.now.length ≤ 1099511627776) (hv : readL D.now off n = bs v) : Calls Try.prog 30 #[.pointer (some ⟨b, 0, none⟩), .int .i64 off, .int .i64 n] w (Same (.string v) w) :=
  (Read_any b D S off n w h hl).mono fun _ _ ⟨h1, h2⟩ => ⟨by rw [h1, hv]; rfl, h2⟩

set_option maxHeartbeats 3200000 in
theorem sanity24 (w : World) : Calls Try.prog 17 #[] w (TrueB w) := by
  have okD1 : sD1.ok := writeS_ok DiskM.ok_empty (by decide) _ _
  have okD2 : sD2.ok := syncS_ok okD1 (by rw [sD1_now.2]; decide)
  have okD3 : sD3.ok := writeS_ok okD2 (by rw [sD2_ok.1]; decide) _ _
  have okE1 : sE1.ok := writeS_ok DiskM.ok_empty (by decide) _ _
  have okG1 : sG1.ok := DiskM.ok_empty.fail 1 (by decide)
  have okG2 : sG2.ok := syncS_ok okG1 (by rw [sG.2.1]; decide)
  go_enter Try.func17, Try.ntmps17
  go_wp2_with fail
  refine (New_to w).mono ?_
  rintro e w1 ⟨bd, Sd, rfl, hd1, hu1⟩
  have d1 := DiskOk.first hd1 hu1
  clear hd1 hu1
  go_wp2_with fail
  refine (Write_to bd _ Sd 2 ⟨#[97, 98]⟩ w1 0 sD1 d1.at_ DiskM.ok_empty (by decide) (by decide) (by decide +kernel) rfl).mono ?_
  rintro e w2 ⟨Sd2, rfl, hd2, hu2⟩
  have d2 := d1.step hd2 hu2
  clear d1 hd2 hu2
  go_wp2_with fail
  refine (Size_to bd _ Sd2 w2 4 d2.at_ (by rw [sD1_now.1]; rfl)).mono ?_
  rintro e w' ⟨rfl, rfl⟩
  go_wp2_with fail
  refine (Read_to bd _ Sd2 0 9 w2 ⟨#[0, 0, 97, 98]⟩ d2.at_ (by rw [sD1_now.1]; decide) (by rw [sD1_now.1]; decide +kernel)).mono ?_
  rintro e w' ⟨rfl, rfl⟩
  go_wp2_with fail
  refine (Sync_to bd _ Sd2 w2 0 d2.at_ okD1 (by rw [sD1_now.2]; decide) (by rw [sD2_ok.2.1]; rfl)).mono ?_
  rintro e w3 ⟨Sd3, rfl, hd3, hu3⟩
  have d3 := d2.step hd3 hu3
  clear d2 hd3 hu3
  go_wp2_with fail
  refine (Write_to bd sD2 Sd3 3 ⟨#[120, 121, 122]⟩ w3 0 sD3 d3.at_ okD2 (by rw [sD2_ok.1]; decide) (by decide) (by rw [sD2_ok.2.2]; decide +kernel) rfl).mono ?_
  rintro e w4 ⟨Sd4, rfl, hd4, hu4⟩
  have d4 := d3.step hd4 hu4
  clear d3 hd4 hu4
  go_wp2_with fail
  refine (Crash_to bd sD3 Sd4 _ [] w4 d4.at_ (nil_ints _) okD3).mono ?_
  rintro e w5 ⟨bc, Sc, rfl, hc5, hu5⟩
  have c5 := d4.born hc5 hu5
  clear d4 hc5 hu5
  go_wp2_with fail
  refine (New_to w5).mono ?_
  rintro e w6 ⟨be, Se, rfl, he6, hu6⟩
  have e6 := c5.born he6 hu6
  have j6 := c5.bornDisj hu6
  have c6 := c5.other hu6 (above_nil _) (by simp)
  clear c5 he6 hu6
  go_wp2_with fail
  refine (repeated_any 120 120 (by decide) 70 w6 (by omega)).mono ?_
  rintro e w7 ⟨r, hrp, rfl, hu7⟩
  have e7 := e6.other hu7 (above_nil _) (by simp)
  have c7 := c6.other hu7 (above_nil _) (by simp)
  clear e6 c6 hu7
  go_wp2_with fail
  refine (Write_to be _ Se 60 r w7 0 sE1 e7.at_ DiskM.ok_empty (by decide) (by rw [← bs_length, hrp.out]; decide) (by rw [hrp.out]; decide +kernel) (by rw [hrp.out]; rfl)).mono ?_
  rintro e w8 ⟨Se8, rfl, he8, hu8⟩
  have e8 := e7.step he8 hu8
  have j8 := hu8.disj c7.at_.lt j6
  have c8 := c7.other hu8 e7.above j6
  clear e7 c7 he8 hu8 j6
  go_wp2_with fail
  have e9 := e8.alloc (.cells #[.int .i64 0, .int .i64 1] 3)
  have c9 := c8.alloc (.cells #[.int .i64 0, .int .i64 1] 3)
  have hi9 : IntsAt (w8.alloc (.cells #[.int .i64 0, .int .i64 1] 3)) (.slice (some ⟨w8.heap.size, 0, none⟩) 2 2) [0, 1] := by
    refine ⟨2, .inr ⟨w8.heap.size, 0, rfl, ?_⟩⟩
    intro j z hz
    match j, hz with
    | 0, hz => simp at hz; subst hz; simp
    | 1, hz => simp at hz; subst hz; simp
  clear e8 c8
  refine (Crash_to be sE1 Se8 _ [0, 1] _ e9.at_ hi9 okE1).mono ?_
  rintro e w10 ⟨bf, Sf, rfl, hf10, hu10⟩
  have f10 := e9.born hf10 hu10
  have j10 := c9.bornDisj hu10
  have c10 := c9.other hu10 (above_nil _) (by simp)
  clear e9 c9 hi9 hf10 hu10 j8
  go_wp2_with fail
  refine (New_to w10).mono ?_
  rintro e w11 ⟨bg, Sg, rfl, hg11, hu11⟩
  have g11 := f10.born hg11 hu11
  have jc := c10.bornDisj hu11
  have jf := f10.bornDisj hu11
  have c11 := c10.other hu11 (above_nil _) (by simp)
  have f11 := f10.other hu11 (above_nil _) (by simp)
  clear c10 f10 hg11 hu11 j10
  go_wp2_with fail
  refine (Fail_any bg _ Sg 1 w11 g11.at_).mono ?_
  rintro e w12 ⟨rfl, hg12, hu12⟩
  have g12 := g11.step hg12 hu12
  have c12 := c11.other hu12 g11.above jc
  have f12 := f11.other hu12 g11.above jf
  clear c11 f11 g11 hg12 hu12
  go_wp2_with fail
  refine (Sync_to bg sG1 Sg w12 0 g12.at_ okG1 (by rw [sG.2.1]; decide) (by rw [sG.1]; rfl)).mono ?_
  rintro e w13 ⟨Sg13, rfl, hg13, hu13⟩
  have g13 := g12.step hg13 hu13
  have c13 := c12.other hu13 g12.above jc
  have f13 := f12.other hu13 g12.above jf
  have jc13 := hu13.disj c12.at_.lt jc
  have jf13 := hu13.disj f12.at_.lt jf
  clear c12 f12 g12 hg13 hu13 jc jf
  go_wp2_with fail
  refine (Write_to bg sG2 Sg13 0 ⟨#[97]⟩ w13 70 sG2 g13.at_ okG2 (by rw [sG.2.2.2]; decide) (by decide) (by rw [sG.2.2.1]; decide +kernel) (by unfold DiskM.writeS; split; rfl; rw [sG.2.2.1]; rfl)).mono ?_
  rintro e w14 ⟨Sg14, rfl, hg14, hu14⟩
  have g14 := g13.step hg14 hu14
  have c14 := c13.other hu14 g13.above jc13
  have f14 := f13.other hu14 g13.above jf13
  have jc14 := hu14.disj c13.at_.lt jc13
  have jf14 := hu14.disj f13.at_.lt jf13
  clear c13 f13 g13 hg14 hu14 jc13 jf13
  go_wp2_with fail
  refine (Write_to bg sG2 Sg14 (-1) ⟨#[97]⟩ w14 1 sG2 g14.at_ okG2 (by rw [sG.2.2.2]; decide) (by decide) (by rw [sG.2.2.1]; decide +kernel) (by unfold DiskM.writeS; split; rfl; rw [sG.2.2.1]; rfl)).mono ?_
  rintro e w15 ⟨Sg15, rfl, hg15, hu15⟩
  have g15 := g14.step hg15 hu15
  have c15 := c14.other hu15 g14.above jc14
  have f15 := f14.other hu15 g14.above jf14
  clear c14 f14 g14 hg15 hu15 jc14 jf14
  go_wp2_with fail
  refine (Calls_to bg sG2 Sg15 w15 1 g15.at_ (by rw [sG.2.2.2]; rfl)).mono ?_
  rintro e w' ⟨rfl, rfl⟩
  go_wp2_with fail
  refine (Read_to bc _ Sc 0 9 w15 ⟨#[0, 0, 97, 98]⟩ c15.at_ (by rw [sCrash]; decide) (by rw [sCrash]; decide +kernel)).mono ?_
  rintro e w' ⟨rfl, rfl⟩
  go_wp2_with fail
  refine (Size_to bf _ Sf w15 128 f15.at_ (by rw [sF.1]; rfl)).mono ?_
  rintro e w' ⟨rfl, rfl⟩
  go_wp2_with fail
  refine (Read_to bf _ Sf 60 9 w15 ⟨#[0, 0, 0, 0, 120, 120, 120, 120, 120]⟩ f15.at_ (by rw [sF.1]; decide) (by rw [sF.2]; rfl)).mono ?_
  rintro e w' ⟨rfl, rfl⟩
  go_wp2_with fail
  go_ret
  exact ⟨rfl, c15.below⟩
end Go.Proofs.Ytbpbmigdfjnneaa
