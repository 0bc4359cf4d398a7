/- JournalFull returns true: the walk. -/
import Derived.Test.YtbpbmigdfjnneaaJSan
import Derived.Test.YtbpbmigdfjnneaaOpensJ
import Derived.Deep.DeepCutAuto
namespace Go.Proofs.Ytbpbmigdfjnneaa
open Go.RowKit
set_option maxRecDepth 100000

theorem NumsAt.at {kd : IntKind} {w : World} {v : Value} {zs : List Int} (h : NumsAt kd w v zs) (k : Nat) (hk : k < zs.length) : ∃ b off cap z, v = .slice (some ⟨b, off, none⟩) zs.length cap ∧ zs[k]? = some z ∧ w.cell? ⟨b, off + k, none⟩ = some (.int kd z) ∧ zs.length ≤ cap ∧ cap ≤ 9223372036854775807 := by
  obtain ⟨cap, h1, h2, ⟨h0, _⟩ | ⟨b, off, hv, hc⟩⟩ := h
  · rw [h0] at hk; simp at hk
  · exact ⟨b, off, cap, zs[k], hv, List.getElem?_eq_getElem hk, hc k _ (List.getElem?_eq_getElem hk), h2, h1⟩

theorem made_zero (n : Nat) : Builtin.zeroCells (Value.int .u8 0).cells n = (byteVals (List.replicate n 0)).toArray := by
  rw [zeroCells_one _ _ rfl, byteVals_replicate]; rfl

/-- make([]byte, n), n large: no cell is looked at. -/
theorem make_bytes (n : Nat) (hn : n ≤ 16777216) : ∃ ob, (∀ wx : World, (wx.alloc ob).heap[wx.heap.size]? = some ob) ∧
    (∀ wx : World, (Instr.makeSlice 52 (.int .i64 (n : Int)) (.int .i64 (n : Int))).run Try.prog wx = .ok (.slice (some ⟨wx.heap.size, 0, none⟩) n n) (wx.alloc ob)) ∧
    (∀ (wx : World) (g m c : Nat), wx.heap[g]? = some ob → m ≤ n → ∃ z : ByteArray, z.size = m ∧ (convert 52 9 (.slice (some ⟨g, 0, none⟩) m c)).run Try.prog wx = .ok (.string z) wx) := by
  obtain ⟨i0, hi, hz0, hz1, hz2⟩ := info_parts info_u8
  refine ⟨.cells (byteVals (List.replicate n 0)).toArray 5, fun wx => heap_alloc_new wx _, fun wx => ?_, fun wx g m c hg hm => ?_⟩
  · have := run_make (P := Try.prog) wx 52 5 i0 (.int .u8 0) Try.underlying52 hi hz0 .i64 .i64 n n (by omega) (by omega) (by rw [hz2]; omega) (by omega)
    rw [this, hz1]
    simp only [Int.toNat_natCast, Nat.mul_one, madeCells_zero]
  · have := conv_bytes (P := Try.prog) wx 52 9 5 Try.underlying52 Try.underlying5 Try.underlying9 g (byteVals (List.replicate n 0)).toArray (0, 0) 5 hg (List.replicate n 0)
      (by rw [List.take_of_length_le (by simp [byteVals])]) 0 m c (by simp; omega)
    exact ⟨⟨(((List.replicate n 0).drop 0).take m).toArray⟩, by show (((List.replicate n (0 : UInt8)).drop 0).take m).length = m; simp; omega, this⟩

structure FullSt (w : World) (jb b g : Nat) (ob : Obj) (c : Nat) (D : DiskM) (F : List UInt8) (rs : List (List UInt8)) (S : List Nat) (wr : World) : Prop where
  st : JSt w w.heap.size jb b D F rs S wr
  fail : D.failing = false
  calls : D.calls ≤ 10 + 4 * c
  space : spaceL rs ≤ 16777216
  text : wr.heap[g]? = some ob
  far : g ∉ jb :: S

theorem FullSt.step {w : World} {jb b g : Nat} {ob : Obj} {c : Nat} {D D' : DiskM} {F F' : List UInt8} {rs rs' : List (List UInt8)} {S S' : List Nat} {wr w' : World} (h : FullSt w jb b g ob c D F rs S wr) (st : JSt w w.heap.size jb b D' F' rs' S' w') (hu : Upd (jb :: S) (jb :: S') wr w') (hf : D'.failing = D.failing) (hc : D'.calls ≤ D.calls + 4) (hs : spaceL rs' ≤ 16777216) :
    FullSt w jb b g ob (c + 1) D' F' rs' S' w' := by
  have hl := blk_lt h.text
  refine ⟨st, hf.trans h.fail, by have := h.calls; omega, hs, (hu.block g hl h.far).trans h.text, fun m => ?_⟩
  rcases hu.new g m with q | q
  · exact h.far q
  · omega
theorem FullSt.quiet {w : World} {jb b g : Nat} {ob : Obj} {c : Nat} {D : DiskM} {F : List UInt8} {rs : List (List UInt8)} {S : List Nat} {wr w' : World} {T' : List Nat} (h : FullSt w jb b g ob c D F rs S wr) (hu : Upd [] T' wr w') : FullSt w jb b g ob (c + 1) D F rs S w' :=
  ⟨h.st.quiet hu, h.fail, by have := h.calls; omega, h.space, (hu.block g (blk_lt h.text) (by simp)).trans h.text, h.far⟩

def FullRel (w : World) (jb b g : Nat) (ob : Obj) (zs : List Int) (wr : World) (bytes many i : Value) : Prop :=
  ∃ (k : Nat) (D : DiskM) (F : List UInt8) (rs : List (List UInt8)) (S : List Nat), i = .int .i64 (k : Int) ∧ k ≤ zs.length ∧ k ≤ 6 ∧ bytes = .int .i64 (spaceL rs : Int) ∧ many = .int .i64 (rs.length : Int) ∧ FullSt w jb b g ob k D F rs S wr

set_option maxHeartbeats 1600000 in
theorem walk_JournalFull (v : Value) (zs : List Int) (last : Int) (w : World) (hz : NumsAt .u32 w v zs) (hz2 : ∀ z ∈ zs, 0 ≤ z ∧ z ≤ 4294967295) (hl1 : 0 ≤ last) (hl2 : last ≤ 4294967295) :
    Calls Try.prog 15 #[v, .int .u32 last] w (TrueB w) := by
  obtain ⟨aoz, capz, rfl, hcz, hmz⟩ := hz.slice
  have HZ2 := Lib.hid hz2
  clear hz2
  obtain ⟨ob, ho1, ho2, ho3⟩ := make_bytes 16777216 (Nat.le_refl _)
  have hmk : ∀ wx : World, (Instr.makeSlice 52 (.int .i64 16777216) (.int .i64 16777216)).run Try.prog wx = .ok (.slice (some ⟨wx.heap.size, 0, none⟩) 16777216 16777216) (wx.alloc ob) := ho2
  have HO1 := Lib.hid ho1
  have HO3 := Lib.hid ho3
  clear ho1 ho2 ho3
  go_enter Try.func15, Try.ntmps15
  go_wp2_with fail
  refine (sanity25 w).mono ?_
  rintro e w1 ⟨rfl, hb⟩
  go_wp2_with fail
  refine (New_to w1).mono ?_
  rintro e w2 ⟨bd, Sd, rfl, hd2, hu2⟩
  have d2 := start_disk hb hd2 hu2
  clear hb hd2 hu2
  go_wp2_with fail
  refine (Open_fine d2.at_ JClean.empty (recsL_nil [] rfl) rfl (by decide) d2.above d2.below d2.size).mono ?_
  rintro e w3 ⟨jb, v0, S3, rfl, st3, hv0, hu3, hn3⟩
  have f3 : FullSt w jb bd w3.heap.size ob 0 DiskM.empty.synced1.count [] [] S3 (w3.alloc ob) := ⟨st3.alloc ob, rfl, by decide, by decide, HO1.out w3, fun m => by have := st3.lt _ m; omega⟩
  clear d2 hv0 hu3 hn3 st3
  go_wp2_with fail
  generalize w3.heap.size = g at *
  generalize w3.alloc ob = w4 at *
  clear hmk
  go_loopw [10, 11, 13] (fun bytes many i wr => FullRel w jb bd g ob zs wr bytes many i) (fun _ _ i _ => 6 - (intOf i).toNat)
  case atStart => exact ⟨0, _, _, _, _, rfl, Nat.zero_le _, Nat.zero_le _, rfl, rfl, f3⟩
  case round =>
    clear f3
    obtain ⟨k, D, F, rs, S, rfl, hk, hk6, rfl, rfl, fs⟩ := hrel
    have hspc := fs.space
    have hmny := fs.st.many
    by_cases hgo : k < zs.length ∧ k < 6
    · obtain ⟨hkl, hk9⟩ := hgo
      obtain ⟨b, off, cap', z, hv, hs, hc, _, _⟩ := (hz.below (fs.st.below)).at k hkl
      cases hv
      have hzb := HZ2.out z (List.mem_of_getElem? hs)
      obtain ⟨hz0, hz1⟩ := hzb
      obtain ⟨n, hn⟩ : ∃ n : Nat, (n : Int) = z % 8388608 := ⟨(z % 8388608).toNat, by omega⟩
      have hn2 : n < 8388608 := by omega
      obtain ⟨y, hy, hcv⟩ := HO3.out wr g n 16777216 fs.text (by omega)
      have hy1 : y.size ≤ n := by omega
      have hy2 : n ≤ y.size := by omega
      have hyb : (bs y).length = n := hy
      have HN := Lib.hid hn
      have HCV := Lib.hid hcv
      have HYB := Lib.hid hyb
      have hk0 : (0 : Int) ≤ (k : Int) := by omega
      have hk1 : (k : Int) < (zs.length : Int) := by omega
      have hk2 : (k : Int) < 6 := by omega
      clear hs hn hcv hy hyb
      by_cases hfit : spaceL rs + n + 16 + 256 ≤ 16777216
      · have e1 : decide ((16777216 : Int) < (spaceL rs : Int) + (n : Int) + 16 + 256) = false := decide_eq_false (by omega)
        go_wp2_with fail
        rw [← HN.out, Int.toNat_natCast, HCV.out]
        go_wp2_with fail
        refine (App_fine fs.st y fs.fail (by have := fs.calls; omega) (by omega)).mono ?_
        rintro e w5 ⟨D5, S5, rfl, st5, hu5, f5, c5⟩
        have fs5 := fs.step st5 hu5 f5 c5 (by rw [spaceL_snoc, HYB.out]; omega)
        clear st5 hu5 f5 c5 fs
        go_wp2_with fail
        go_roundw
        case rel =>
          refine ⟨k + 1, D5, _, rs ++ [bs y], S5, by go_num, by omega, by omega, ?_, ?_, fs5⟩
          · rw [spaceL_snoc, HYB.out]; go_num
          · rw [List.length_append]; go_num
        case measure => simp [intOf]; omega
      · have e1 : decide ((16777216 : Int) < (spaceL rs : Int) + (n : Int) + 16 + 256) = true := decide_eq_true (by omega)
        go_wp2_with fail
        rw [← HN.out, Int.toNat_natCast, HCV.out]
        go_wp2_with fail
        refine (App_many fs.st y (by omega) (by omega) (by omega)).mono ?_
        rintro e w5 ⟨rfl, st5, hu5⟩
        have fs5 := fs.quiet hu5
        clear st5 hu5 fs
        go_wp2_with fail
        go_roundw
        case rel => exact ⟨k + 1, D, F, rs, S, by go_num, by omega, by omega, rfl, rfl, fs5⟩
        case measure => simp [intOf]; omega
    · obtain ⟨n, hn⟩ : ∃ n : Nat, (n : Int) = last % 16777216 := ⟨(last % 16777216).toNat, by omega⟩
      have hn2 : n < 16777216 := by omega
      have hq1 : 0 ≤ last % 16777216 := by omega
      have hq2 : last % 16777216 ≤ 16777216 := by omega
      have hq3 : ¬ last % 16777216 < 0 := by omega
      have hq4 : ¬ 16777216 < last % 16777216 := by omega
      obtain ⟨y, hy, hcv⟩ := HO3.out wr g n 16777216 fs.text (by omega)
      have hy1 : y.size ≤ n := by omega
      have hy2 : n ≤ y.size := by omega
      have HN := Lib.hid hn
      have HCV := Lib.hid hcv
      clear hn hcv hy
      have hcase : ¬ k < zs.length ∨ (6 < zs.length ∧ k = 6) := by omega
      clear hgo
      by_cases hfit : spaceL rs + n + 16 + 256 ≤ 16777216
      · have e1 : decide ((spaceL rs : Int) + (n : Int) + 16 + 256 ≤ 16777216) = true := decide_eq_true (by omega)
        rcases hcase with hc1 | ⟨hc1, rfl⟩
        all_goals
          have HALL := Lib.hid (And.intro hk6 (And.intro hspc (And.intro hmny (And.intro hn2 (And.intro hy1 (And.intro hy2 (And.intro hfit e1)))))))
          clear hk6 hspc hmny hn2 hy1 hy2 hfit e1 hq1 hq2 hq3 hq4
          go_upto_region 23 with (fail)
          obtain ⟨hk6, hspc, hmny, hn2, hy1, hy2, hfit, e1⟩ := HALL.out
          rw [← HN.out]
          go_wp2_with fail
          rw [HCV.out]
          go_wp2_with fail
          refine (App_fine fs.st y fs.fail (by have := fs.calls; omega) (by omega)).mono ?_
          rintro e w5 ⟨D5, S5, rfl, st5, hu5, f5, c5⟩
          have fe := fs.step st5 hu5 f5 c5 (by rw [spaceL_snoc, bs_length]; omega)
          clear st5 hu5 f5 c5 fs
          go_wp2_with fail
          refine (Crash_to bd _ _ _ [] _ fe.st.d (nil_ints _) fe.st.clean.ok).mono ?_
          rintro e w7 ⟨bc, Sc, rfl, hc7, hu7⟩
          have st7 := fe.st.quiet hu7
          have ac7 := hu7.above (above_nil _) fe.st.size
          have dis7 := hu7.disj fe.st.lt (by simp)
          go_wp2_with fail
          refine (Open_fine (w0 := w) (B := w.heap.size) hc7 (st7.clean.crashed []) st7.recs rfl (by show 0 < 65536; decide) ac7 st7.below st7.size).mono ?_
          rintro e w8 ⟨jc, v8, S8, rfl, st8, hv8, hu8, hn8⟩
          have st9 := st7.other hu8 ac7 dis7
          obtain ⟨ao8, cap8, hv8e, _, _⟩ := row_slice hv8
          subst hv8e
          clear st7 ac7 dis7 hc7 hu7 hu8 hn8 hv8 st8 fe
          rw [List.length_append, List.length_cons, List.length_nil]
          go_wp2_with fail
          refine (Many_fine st9).mono ?_
          rintro e w' ⟨rfl, rfl⟩
          rw [List.length_append, List.length_cons, List.length_nil]
          go_wp2_with fail
          go_ret
          exact ⟨rfl, st9.below⟩
      · have e1 : decide ((spaceL rs : Int) + (n : Int) + 16 + 256 ≤ 16777216) = false := decide_eq_false (by omega)
        rcases hcase with hc1 | ⟨hc1, rfl⟩
        all_goals
          have HALL := Lib.hid (And.intro hk6 (And.intro hspc (And.intro hmny (And.intro hn2 (And.intro hy1 (And.intro hy2 (And.intro hfit e1)))))))
          clear hk6 hspc hmny hn2 hy1 hy2 hfit e1 hq1 hq2 hq3 hq4
          go_upto_region 23 with (fail)
          obtain ⟨hk6, hspc, hmny, hn2, hy1, hy2, hfit, e1⟩ := HALL.out
          rw [← HN.out]
          go_wp2_with fail
          rw [HCV.out]
          go_wp2_with fail
          refine (App_many fs.st y (by omega) (by omega) (by omega)).mono ?_
          rintro e w5 ⟨rfl, st5, hu5⟩
          have fe := fs.quiet hu5
          clear st5 hu5 fs
          go_wp2_with fail
          refine (Crash_to bd _ _ _ [] _ fe.st.d (nil_ints _) fe.st.clean.ok).mono ?_
          rintro e w7 ⟨bc, Sc, rfl, hc7, hu7⟩
          have st7 := fe.st.quiet hu7
          have ac7 := hu7.above (above_nil _) fe.st.size
          have dis7 := hu7.disj fe.st.lt (by simp)
          go_wp2_with fail
          refine (Open_fine (w0 := w) (B := w.heap.size) hc7 (st7.clean.crashed []) st7.recs rfl (by show 0 < 65536; decide) ac7 st7.below st7.size).mono ?_
          rintro e w8 ⟨jc, v8, S8, rfl, st8, hv8, hu8, hn8⟩
          have st9 := st7.other hu8 ac7 dis7
          obtain ⟨ao8, cap8, hv8e, _, _⟩ := row_slice hv8
          subst hv8e
          clear st7 ac7 dis7 hc7 hu7 hu8 hn8 hv8 st8 fe
          skip
          go_wp2_with fail
          refine (Many_fine st9).mono ?_
          rintro e w' ⟨rfl, rfl⟩
          skip
          go_wp2_with fail
          go_ret
          exact ⟨rfl, st9.below⟩
end Go.Proofs.Ytbpbmigdfjnneaa
