/- The contract of Crash. -/
import Derived.Test.YtbpbmigdfjnneaaDiskD
namespace Go.Proofs.Ytbpbmigdfjnneaa
open Go.RowKit
set_option maxRecDepth 100000

/-- v is a slice of ints, zs, wherever it lies. -/
def IntsAt (w : World) (v : Value) (zs : List Int) : Prop :=
  ∃ cap, (zs = [] ∧ ∃ ao, v = .slice ao 0 cap) ∨ ∃ b off, v = .slice (some ⟨b, off, none⟩) zs.length cap ∧ ∀ j z, zs[j]? = some z → w.cell? ⟨b, off + j, none⟩ = some (.int .i64 z)

theorem IntsAt.kept {w w' : World} {v : Value} {zs : List Int} {S S' : List Nat} (h : IntsAt w v zs) (hu : Upd S S' w w') (hd : ∀ b off n cap, v = .slice (some ⟨b, off, none⟩) n cap → b ∉ S) : IntsAt w' v zs := by
  obtain ⟨cap, h | ⟨b, off, rfl, hc⟩⟩ := h
  · exact ⟨cap, .inl h⟩
  · exact ⟨cap, .inr ⟨b, off, rfl, fun j z hz => by
      have h1 := hc j z hz
      rw [hu.cell (p := ⟨b, off + j, none⟩) (World.block_lt_of_cell? _ _ h1) (hd b off _ cap rfl)]
      exact h1⟩⟩

theorem crashF_take (sv : List Int) (ps : List (Nat × List UInt8)) (c : List UInt8) (k : Nat) (p : Nat × List UInt8) (hp : ps[k]? = some p) :
    crashF sv 0 (ps.take (k + 1)) c = if survives sv k then putL (crashF sv 0 (ps.take k) c) p.1 p.2 else crashF sv 0 (ps.take k) c := by
  have hk : k < ps.length := (List.getElem?_eq_some_iff.1 hp).1
  rw [List.take_add_one, hp]
  simp only [Option.toList_some]
  rw [crashF_append]
  simp only [List.length_take, Nat.zero_add]
  rw [Nat.min_eq_left (by omega)]

theorem putL_nil (s : List UInt8) : putL [] 0 s = s := by simp [putL]

set_option maxHeartbeats 1600000 in
theorem Crash_any (b : Nat) (D : DiskM) (S : List Nat) (v : Value) (sv : List Int) (w : World) (h : DiskAt w b D S) (hI : IntsAt w v sv) (hok : D.ok) :
    Calls Try.prog 22 #[.pointer (some ⟨b, 0, none⟩), v] w fun e w' => ∃ b' S', e = .returned (.pointer (some ⟨b', 0, none⟩)) ∧ DiskAt w' b' (D.crash sv) S' ∧ Upd [] S' w w' := by
  obtain ⟨vc, vs, vp, hd, hS⟩ := h.is
  clear hS h
  have c1 : w.cell? ⟨b, 1, none⟩ = some vs := cell_of_row w b 1 _ _ _ hd.1
  have c2 : w.cell? ⟨b, 2, none⟩ = some vp := cell_of_row w b 2 _ _ _ hd.1
  obtain ⟨ao, cap, rfl, hcap, hcm⟩ := row_slice hd.2.2.2.1
  have hlen : D.parts.length ≤ 1099511627776 := by have := hok.many; have := hok.calls; omega
  have hcv := conv_row (P := Try.prog) w 52 9 5 Try.underlying52 Try.underlying5 Try.underlying9 vs D.synced hd.2.2.1
  obtain ⟨sy, hsy⟩ : ∃ sy : ByteArray, sy = ⟨D.synced.toArray⟩ := ⟨_, rfl⟩
  have hcv' : (convert 52 9 vs).run Try.prog w = .ok (.string sy) w := by rw [hsy]; exact hcv
  have HCV := Lib.hid hcv'
  have HSY := Lib.hid hsy
  have hsyl : sy.size ≤ 16777216 := by rw [hsy]; exact hok.synced
  clear hcv hcv' hsy
  obtain ⟨sa, sc, ns, rfl, hns⟩ : ∃ sa sc ns, v = .slice sa ns sc ∧ ns = sv.length := by
    obtain ⟨cap, ⟨rfl, ao, rfl⟩ | ⟨b, off, rfl, _⟩⟩ := hI
    · exact ⟨_, _, _, rfl, rfl⟩
    · exact ⟨_, _, _, rfl, rfl⟩
  have HNS := Lib.hid hns
  clear hns
  go_enter Try.func22, Try.ntmps22
  go_wp2_with fail
  rw [HCV.out]
  go_wp2_with fail
  refine (put_any (.slice none 0 0) [] 0 sy w (World.ownsRow_nil _ _ _ _) (by omega) (by simp)).mono ?_
  rintro e w1 ⟨v1, rfl, hr1, hu1⟩
  have d2 : w1.cell? ⟨b, 2, none⟩ = some (.slice ao D.parts.length cap) := (hu1.cell (p := ⟨b, 2, none⟩) (World.block_lt_of_cell? _ _ c2) (by simp [foot, Value.ownBlock])).trans c2
  rw [putL_nil, HSY.out, bs_mk] at hr1
  clear c1 c2
  go_wp2_with fail
  clear d2
  go_loopw [5, 23] (fun v i wr => ∃ (k : Nat), i = .int .i64 (k : Int) ∧ k ≤ D.parts.length ∧ wr.ownsRow 0 5 1 v (crashF sv 0 (D.parts.take k) D.synced).length (byteVals (crashF sv 0 (D.parts.take k) D.synced)) ∧
      Upd [] (foot v) w wr) (fun _ i _ => D.parts.length - (intOf i).toNat)
  case atStart => exact ⟨0, rfl, Nat.zero_le _, hr1, hu1⟩
  case round =>
    obtain ⟨k, rfl, hk, hr, hu⟩ := hrel
    have hcl : (crashF sv 0 (D.parts.take k) D.synced).length ≤ 16777216 := crashF_le sv 16777216 (D.parts.take k) 0 D.synced hok.synced (fun q hq => hok.parts q (List.mem_of_mem_take hq))
    by_cases hlt : k < D.parts.length
    · obtain ⟨g, cap', cur, hv, hg, _, _, hcs, htk⟩ := row_pos hd.2.2.2.1 (by omega)
      simp only [Value.slice.injEq] at hv
      obtain ⟨rfl, _, rfl⟩ := hv
      obtain ⟨p, hp⟩ : ∃ p, D.parts[k]? = some p := ⟨_, List.getElem?_eq_getElem hlt⟩
      obtain ⟨q1', q2'⟩ := part_cells hg htk k p hp
      have q1 := (hu.cell (World.block_lt_of_cell? _ _ q1') (by simp)).trans q1'
      have q2 := (hu.cell (World.block_lt_of_cell? _ _ q2') (by simp)).trans q2'
      have hpb : p.1 + p.2.length ≤ 16777216 := hok.parts p (List.mem_of_getElem? hp)
      have HT := Lib.hid (crashF_take sv D.parts D.synced k p hp)
      clear hp hg hcs htk q1' q2'
      obtain ⟨p1, p2⟩ := p
      simp only at q1 q2 hpb HT
      obtain ⟨sp, hsp⟩ : ∃ sp : ByteArray, sp = ⟨p2.toArray⟩ := ⟨_, rfl⟩
      rw [← hsp] at q2
      have hspl : sp.size ≤ 16777216 - p1 := by rw [hsp]; show p2.length ≤ _; omega
      have HSP := Lib.hid hsp
      clear hsp
      generalize hcr : crashF sv 0 (D.parts.take k) D.synced = cr at *
      have HCR := Lib.hid hcr
      clear hcr
      have hrA := row_same (w' := wr.alloc (.cells #[.int .i64 (p1 : Int), .string sp] 87)) hr (fun j hj => Below.heap_alloc _ _ _ (row_foot_lt hr j hj))
      have HPUT := Lib.hid (put_any u5 cr p1 sp _ hrA (by omega) (by omega))
      clear hrA
      by_cases hs0 : sv.length = 0
      · have hsf : survives sv k = false := by simp [survives, hs0]
        have HT2 := HT.out
        rw [hsf] at HT2
        simp only [Bool.false_eq_true, if_false] at HT2
        have HT3 := Lib.hid HT2
        clear HT2 hsf
        obtain rfl : ns = 0 := by rw [HNS.out]; exact hs0
        go_wp2_with fail
        go_roundw
        case rel => exact ⟨k + 1, by go_num, by omega, by rw [HT3.out]; exact row_same hr (fun j hj => Below.heap_alloc _ _ _ (row_foot_lt hr j hj)), hu.alloc _⟩
        case measure => simp [intOf]; omega
      · obtain ⟨csx, ⟨e0, _⟩ | ⟨bsx, ofx, hvx, hcx⟩⟩ := hI
        · exact absurd (by rw [e0]; rfl) hs0
        · simp only [Value.slice.injEq] at hvx
          obtain ⟨rfl, rfl, rfl⟩ := hvx
          have hml : k % sv.length < sv.length := Nat.mod_lt _ (by omega)
          obtain ⟨z, hz⟩ : ∃ z, sv[k % sv.length]? = some z := ⟨_, List.getElem?_eq_getElem hml⟩
          have q3' := hcx _ z hz
          have q3 := (hu.cell (World.block_lt_of_cell? _ _ q3') (by simp)).trans q3'
          have hbx : bsx < wr.heap.size := World.block_lt_of_cell? _ _ q3
          have hsf : survives sv k = (z.tmod 2 != 0) := by simp [survives, hz]; intro; omega
          have HT2 := HT.out
          rw [hsf] at HT2
          have HT4 := Lib.hid HT2
          clear hcx hz q3' hsf HT2 hs0
          generalize sv.length = nsv at *
          have hnp : 0 < nsv := by omega
          by_cases hzb : (z.tmod 2 != 0) = true
          · have HT2 := HT4.out
            rw [if_pos hzb] at HT2
            have HT3 := Lib.hid HT2
            clear HT2
            go_wp2_with fail
            refine HPUT.out.mono ?_
            rintro e w3 ⟨v3, rfl, hr3, hu3⟩
            go_wp2_with fail
            go_roundw
            case rel =>
              refine ⟨k + 1, by go_num, by omega, ?_, hu.trans (hu3.fore)⟩
              rw [HT3.out]
              rw [HSP.out, bs_mk] at hr3
              exact hr3
            case measure => simp [intOf]; omega
          · have hzb : (z.tmod 2 != 0) = false := by simpa using hzb
            have HT2 := HT4.out
            rw [hzb] at HT2
            simp only [Bool.false_eq_true, if_false] at HT2
            have HT3 := Lib.hid HT2
            clear HT2
            go_wp2_with fail
            go_roundw
            case rel => exact ⟨k + 1, by go_num, by omega, by rw [HT3.out]; exact row_same hr (fun j hj => Below.heap_alloc _ _ _ (row_foot_lt hr j hj)), hu.alloc _⟩
            case measure => simp [intOf]; omega
    · obtain rfl : k = D.parts.length := by omega
      rw [List.take_length] at hr hcl
      have hcv2 := conv_row (P := Try.prog) wr 52 9 5 Try.underlying52 Try.underlying5 Try.underlying9 u5 _ hr
      generalize hcr : crashF sv 0 D.parts D.synced = cr at *
      have HCR := Lib.hid hcr
      clear hcr
      obtain ⟨cy, hcy⟩ : ∃ cy : ByteArray, cy = ⟨cr.toArray⟩ := ⟨_, rfl⟩
      have hcv3 : (convert 52 9 u5).run Try.prog wr = .ok (.string cy) wr := by rw [hcy]; exact hcv2
      have HCV2 := Lib.hid hcv3
      have HCY := Lib.hid hcy
      have hcyl : cy.size ≤ 16777216 := by rw [hcy]; exact hcl
      clear hcv2 hcv3 hcy
      go_wp2_with fail
      rw [HCV2.out]
      go_wp2_with fail
      refine (put_any (.slice none 0 0) [] 0 cy wr (World.ownsRow_nil _ _ _ _) (by omega) (by simp)).mono ?_
      rintro e w4 ⟨v4, rfl, hr4, hu4⟩
      rw [putL_nil, HCY.out, bs_mk] at hr4
      have hr5 := row_same (w' := w4) hr (fun j hj => hu4.block j (row_foot_lt hr j hj) (by simp [foot, Value.ownBlock]))
      obtain ⟨ao5, cap5, rfl, _, _⟩ := row_slice hr5
      obtain ⟨ao4, cap4, rfl, _, _⟩ := row_slice hr4
      go_wp2_with fail
      go_ret
      refine ⟨w4.heap.size, _, rfl, ⟨.slice ao5 cr.length cap5, .slice ao4 cr.length cap4, .slice none 0 0, ?_, ?_, ?_, ?_, rfl, ?_⟩, ?_⟩
      · exact heap_alloc_new w4 _
      · simp only [DiskM.crash, HCR.out]; exact row_same hr5 (fun j hj => Below.heap_alloc _ _ _ (row_foot_lt hr5 j hj))
      · simp only [DiskM.crash, HCR.out]; exact row_same hr4 (fun j hj => Below.heap_alloc _ _ _ (row_foot_lt hr4 j hj))
      · exact World.ownsRow_nil _ _ _ _
      · rw [sep4]
        refine ⟨⟨fun h => ?_, fun h => ?_, by simp [foot, Value.ownBlock]⟩, ⟨foot_nodup _, foot_nodup _, foot_nodup _⟩, fun j h1 h2 => ?_, by simp [foot, Value.ownBlock], by simp [foot, Value.ownBlock]⟩
        · have := row_foot_lt hr5 _ h; omega
        · have := row_foot_lt hr4 _ h; omega
        · have := row_foot_lt hr _ h1
          rcases hu4.new j h2 with h | h
          · simp [foot, Value.ownBlock] at h
          · omega
      · refine Upd.alloc ?_ _
        refine ⟨hu4.os.trans hu.os, hu4.tape.trans hu.tape, hu4.output.trans hu.output, Nat.le_trans hu.size hu4.size, fun j hj hn => (hu4.block j (Nat.lt_of_lt_of_le hj hu.size) (by simp [foot, Value.ownBlock])).trans (hu.block j hj hn), fun j hj => .inr ?_⟩
        simp only [List.mem_cons, List.mem_append] at hj
        rcases hj with rfl | (h | h) | h
        · exact Nat.le_trans hu.size hu4.size
        · rcases hu.new j h with h | h
          · simp at h
          · exact h
        · rcases hu4.new j h with h | h
          · simp [foot, Value.ownBlock] at h
          · exact Nat.le_trans hu.size h
        · simp [foot, Value.ownBlock] at h
end Go.Proofs.Ytbpbmigdfjnneaa
