/- Small words for layer 24's laws. -/
import Derived.Test.YtbpbmigdfjnneaaLawCrashes
namespace Go.Proofs.Ytbpbmigdfjnneaa
open Go.RowKit
set_option maxRecDepth 100000

theorem below_fore {w w' : World} {o : Obj} (h : Below (w.alloc o).heap.size (w.alloc o) w') : Below w.heap.size w w' :=
  ((Below.refl w.heap.size w).alloc (Nat.le_refl _) o).trans (h.mono (by simp))
theorem IntsAt.alloc {w : World} {v : Value} {zs : List Int} (h : IntsAt w v zs) (o : Obj) : IntsAt (w.alloc o) v zs := h.below ((Below.refl w.heap.size w).alloc (Nat.le_refl _) o)
theorem DiskOk.start {w0 w1 w2 : World} {B b : Nat} {D : DiskM} {S : List Nat} (hb : Below B w0 w1) (hB : B ≤ w1.heap.size) (hd : DiskAt w2 b D S) (hu : Upd [] S w1 w2) : DiskOk w0 B b D S w2 :=
  ⟨hd, hu.above (above_nil B) hB, hu.belowOf hb (above_nil B) hB, Nat.le_trans hB hu.size⟩
theorem DiskOk.quiet {w0 : World} {B b : Nat} {D : DiskM} {S T' : List Nat} {wp w1 : World} (h : DiskOk w0 B b D S wp) (hu : Upd [] T' wp w1) : DiskOk w0 B b D S w1 := h.other hu (above_nil B) (by simp)

theorem off_of_failing {D : DiskM} (h : D.failing = false) : D.off = false := by simp [DiskM.off, h]
theorem bad_no {off : Int} {k : Nat} (h1 : 0 ≤ off) (h2 : off + (k : Int) ≤ 16777216) : badOff off k = false := by simp [badOff]; omega
theorem errR_no {off : Int} {k : Nat} {D : DiskM} (h1 : 0 ≤ off) (h2 : off + (k : Int) ≤ 16777216) (h : D.failing = false) : errR (badOff off k) D.off = 0 := by
  rw [bad_no h1 h2, off_of_failing h]; rfl
theorem writeS_good {D : DiskM} {off : Int} {s : List UInt8} (h1 : 0 ≤ off) (h2 : off + (s.length : Int) ≤ 16777216) (h : D.failing = false) : D.writeS off s = (D.wrote off.toNat s).count := by
  unfold DiskM.writeS; rw [bad_no h1 h2, off_of_failing h]; rfl
theorem syncS_good {D : DiskM} (h : D.failing = false) : D.syncS = D.synced1.count := by unfold DiskM.syncS; rw [off_of_failing h]; rfl
theorem sync_no {D : DiskM} (h : D.failing = false) : (if D.off then (70 : Int) else 0) = 0 := by rw [off_of_failing h]; rfl
theorem eq_toList {a b : ByteArray} {l : List UInt8} (h1 : Hid (bs a = l)) (h2 : Hid (bs b = l)) : (a.toList == b.toList) = true := by rw [bs_toList, bs_toList, h1.out, h2.out]; simp
end Go.Proofs.Ytbpbmigdfjnneaa
