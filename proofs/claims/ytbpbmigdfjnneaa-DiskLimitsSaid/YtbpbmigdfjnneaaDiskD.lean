/- The contract of Sync. -/
import Derived.Test.YtbpbmigdfjnneaaDiskC
namespace Go.Proofs.Ytbpbmigdfjnneaa
open Go.RowKit
set_option maxRecDepth 100000

def DiskIs (w : World) (b : Nat) (D : DiskM) (vc vs vp : Value) : Prop :=
  w.heap[b]? = some (.cells #[vc, vs, vp, .int .i64 (D.calls : Int), .bool D.failing, .int .i64 (D.left : Int)] 59 (0, 0)) ∧
    w.ownsRow 0 5 1 vc D.now.length (byteVals D.now) ∧ w.ownsRow 0 5 1 vs D.synced.length (byteVals D.synced) ∧ w.ownsRow 0 87 2 vp D.parts.length (partVals D.parts) ∧
    (b :: (foot vc ++ foot vs ++ foot vp)).Nodup
theorem DiskIs.at {w : World} {b : Nat} {D : DiskM} {vc vs vp : Value} (h : DiskIs w b D vc vs vp) : DiskAt w b D (b :: (foot vc ++ foot vs ++ foot vp)) := by
  obtain ⟨hb, hc, hy, hp, hn⟩ := h; exact ⟨vc, vs, vp, hb, hc, hy, hp, rfl, hn⟩
theorem DiskAt.is {w : World} {b : Nat} {D : DiskM} {S : List Nat} (h : DiskAt w b D S) : ∃ vc vs vp, DiskIs w b D vc vs vp ∧ S = b :: (foot vc ++ foot vs ++ foot vp) := by
  obtain ⟨vc, vs, vp, hb, hc, hy, hp, rfl, hn⟩ := h; exact ⟨vc, vs, vp, ⟨hb, hc, hy, hp, hn⟩, rfl⟩
theorem DiskIs.same {w w' : World} {b : Nat} {D : DiskM} {vc vs vp : Value} (h : DiskIs w b D vc vs vp) (hs : ∀ k, k < w.heap.size → w'.heap[k]? = w.heap[k]?) : DiskIs w' b D vc vs vp := by
  obtain ⟨hb, hc, hy, hp, hn⟩ := h
  exact ⟨(hs b (blk_lt hb)).trans hb, row_same hc (fun k hk => hs k (row_foot_lt hc k hk)), row_same hy (fun k hk => hs k (row_foot_lt hy k hk)), row_same hp (fun k hk => hs k (row_foot_lt hp k hk)), hn⟩
theorem DiskIs.alloc {w : World} {b : Nat} {D : DiskM} {vc vs vp : Value} (h : DiskIs w b D vc vs vp) (o : Obj) : DiskIs (w.alloc o) b D vc vs vp := h.same fun _ hk => Below.heap_alloc _ _ _ hk
theorem DiskIs.drew {w : World} {b : Nat} {D : DiskM} {vc vs vp : Value} (h : DiskIs w b D vc vs vp) : DiskIs w.drew b D vc vs vp := h.same fun _ _ => rfl
theorem DiskIs.setSynced {w w1 : World} {b : Nat} {D : DiskM} {vc vs vp vs' : Value} {c : List UInt8} (h : DiskIs w b D vc vs vp) (hrow : w1.ownsRow 0 5 1 vs' c.length (byteVals c)) (hup : Upd (foot vs) (foot vs') w w1) :
    DiskIs (w1.setCell ⟨b, 1, none⟩ vs') b { D with synced := c } vc vs' vp ∧ Upd (b :: (foot vc ++ foot vs ++ foot vp)) (b :: (foot vc ++ foot vs' ++ foot vp)) w (w1.setCell ⟨b, 1, none⟩ vs') := by
  obtain ⟨hb, hc, hy, hp, hn⟩ := h
  rw [sep4] at hn
  obtain ⟨⟨n1, n2, n3⟩, ⟨n4, n5, n6⟩, n7, n8, n9⟩ := hn
  have hbl := blk_lt hb
  have hcl := row_foot_lt hc
  have hpl := row_foot_lt hp
  have fresh : ∀ k, k < w.heap.size → k ∉ foot vs → k ∉ foot vs' := fun k h1 h2 h3 => by rcases hup.new k h3 with h | h; exact h2 h; omega
  have keep : ∀ k, k < w.heap.size → k ∉ foot vs → k ≠ b → (w1.setCell ⟨b, 1, none⟩ vs').heap[k]? = w.heap[k]? := fun k h1 h2 h3 => by rw [heap_setCell_other _ _ _ _ h3]; exact hup.block k h1 h2
  refine ⟨⟨?_, ?_, ?_, ?_, ?_⟩, ?_⟩
  · rw [heap_setCell_same w1 b 1 _ _ vs' ((hup.block b hbl n2).trans hb)]; rfl
  · exact row_same hc (fun k hk => keep k (hcl k hk) (fun h => n7 k hk h) (fun e => n1 (e ▸ hk)))
  · exact row_same hrow (fun k hk => heap_setCell_other _ _ _ _ (fun (e : k = b) => fresh b hbl n2 (e ▸ hk)))
  · exact row_same hp (fun k hk => keep k (hpl k hk) (fun h => n9 k h hk) (fun e => n3 (e ▸ hk)))
  · rw [sep4]
    exact ⟨⟨n1, fresh b hbl n2, n3⟩, ⟨n4, foot_nodup _, n6⟩, fun k h1 h2 => fresh k (hcl k h1) (fun h => n7 k h1 h) h2, n8, fun k h1 h2 => fresh k (hpl k h2) (fun h => n9 k h h2) h1⟩
  · refine Upd.setCell ?_ (by simp) _
    refine hup.mono (fun k hk => by simp [hk]) (fun k hk => ?_)
    simp only [List.mem_cons, List.mem_append] at hk ⊢
    rcases hk with h | (h | h) | h
    · exact .inr (.inl h)
    · exact .inr (.inr (.inl (.inl h)))
    · exact .inl h
    · exact .inr (.inr (.inr h))

theorem partVals_at : ∀ (ps : List (Nat × List UInt8)) (k : Nat) (p : Nat × List UInt8), ps[k]? = some p → (partVals ps)[k * 2]? = some (.int .i64 (p.1 : Int)) ∧ (partVals ps)[k * 2 + 1]? = some (strV p.2)
  | [], k, p, h => by simp at h
  | q :: ps, 0, p, h => by simp at h; subst h; simp [partVals, partV]
  | q :: ps, k + 1, p, h => by
    have ih := partVals_at ps k p (by simpa using h)
    have e1 : (partVals (q :: ps)) = [.int .i64 (q.1 : Int), strV q.2] ++ partVals ps := by simp [partVals, partV]
    rw [e1, List.getElem?_append_right (by simp; omega), List.getElem?_append_right (by simp; omega)]
    simp only [List.length_cons, List.length_nil]
    rw [show (k + 1) * 2 - (0 + 1 + 1) = k * 2 by omega, show (k + 1) * 2 + 1 - (0 + 1 + 1) = k * 2 + 1 by omega]
    exact ih
theorem partVals_length (ps : List (Nat × List UInt8)) : (partVals ps).length = ps.length * 2 := by
  induction ps with
  | nil => rfl
  | cons q ps ih => have e1 : (partVals (q :: ps)) = [.int .i64 (q.1 : Int), strV q.2] ++ partVals ps := by simp [partVals, partV]
                    rw [e1]; simp [ih]; omega
theorem part_cells {w : World} {g : Nat} {cur : Array Value} {t : TypeId} {fr : Nat × Nat} {ps : List (Nat × List UInt8)} (hg : w.heap[g]? = some (.cells cur t fr)) (htk : cur.toList.take (ps.length * 2) = partVals ps) (k : Nat) (p : Nat × List UInt8) (hp : ps[k]? = some p) :
    w.cell? ⟨g, k * 2, none⟩ = some (.int .i64 (p.1 : Int)) ∧ w.cell? ⟨g, k * 2 + 1, none⟩ = some (.string ⟨p.2.toArray⟩) := by
  have hk : k < ps.length := (List.getElem?_eq_some_iff.1 hp).1
  obtain ⟨h1, h2⟩ := partVals_at ps k p hp
  rw [← htk, List.getElem?_take, if_pos (by omega)] at h1 h2
  exact ⟨by rw [cell_of_row w g _ cur t fr hg, ← Array.getElem?_toList]; exact h1, by rw [cell_of_row w g _ cur t fr hg, ← Array.getElem?_toList]; exact h2⟩

/-- put over the synced contents, and what the store behind it leaves -/
theorem put_synced {w : World} {b : Nat} {D : DiskM} {vc vs vp : Value} (h : DiskIs w b D vc vs vp) (off : Nat) (s : ByteArray) (hb : off + s.size ≤ 1099511627776) (hc : D.synced.length ≤ 1099511627776) :
    Calls Try.prog 49 #[vs, .int .i64 (off : Int), .string s] w fun e w' => ∃ ao n cap, e = .returned (.slice ao n cap) ∧ w'.cell? ⟨b, 1, none⟩ = some vs ∧ w'.frozen? ⟨b, 1, none⟩ = false ∧
      DiskIs (w'.setCell ⟨b, 1, none⟩ (.slice ao n cap)) b { D with synced := putL D.synced off (bs s) } vc (.slice ao n cap) vp ∧ Upd (b :: (foot vc ++ foot vs ++ foot vp)) (b :: (foot vc ++ foot (.slice ao n cap) ++ foot vp)) w (w'.setCell ⟨b, 1, none⟩ (.slice ao n cap)) := by
  refine (put_any vs D.synced off s w h.2.2.1 hb hc).mono ?_
  rintro e w' ⟨v', rfl, hrow, hup⟩
  obtain ⟨ao, cap, rfl, _, _⟩ := row_slice hrow
  have hbb : w'.heap[b]? = w.heap[b]? := hup.block b (blk_lt h.1) (fun e => (List.nodup_cons.1 h.2.2.2.2).1 (by simp [e]))
  obtain ⟨h1, h2⟩ := h.setSynced hrow hup
  exact ⟨ao, _, cap, rfl, (World.cell?_of_block (a := ⟨b, 1, none⟩) hbb).trans (cell_of_row w b 1 _ _ _ h.1), (World.frozen?_of_block (a := ⟨b, 1, none⟩) hbb).trans (frozen_of_row w b 1 _ _ h.1), h1, h2⟩

theorem DiskIs.clearParts {w : World} {b : Nat} {D : DiskM} {vc vs vp : Value} (h : DiskIs w b D vc vs vp) :
    DiskIs (w.setCell ⟨b, 2, none⟩ (.slice none 0 0)) b { D with parts := [] } vc vs (.slice none 0 0) ∧ Upd (b :: (foot vc ++ foot vs ++ foot vp)) (b :: (foot vc ++ foot vs ++ foot (.slice none 0 0))) w (w.setCell ⟨b, 2, none⟩ (.slice none 0 0)) := by
  obtain ⟨hb, hc, hy, hp, hn⟩ := h
  rw [sep4] at hn
  obtain ⟨⟨n1, n2, n3⟩, ⟨n4, n5, n6⟩, n7, n8, n9⟩ := hn
  refine ⟨⟨?_, ?_, ?_, World.ownsRow_nil _ _ _ _, ?_⟩, ?_⟩
  · rw [heap_setCell_same w b 2 _ _ _ hb]; rfl
  · exact row_same hc (fun k hk => heap_setCell_other _ _ _ _ (fun (e : k = b) => n1 (e ▸ hk)))
  · exact row_same hy (fun k hk => heap_setCell_other _ _ _ _ (fun (e : k = b) => n2 (e ▸ hk)))
  · rw [sep4]
    exact ⟨⟨n1, n2, by simp [foot, Value.ownBlock]⟩, ⟨n4, n5, foot_nodup _⟩, n7, by simp [foot, Value.ownBlock], by simp [foot, Value.ownBlock]⟩
  · refine Upd.setCell ?_ (by simp) _
    refine (Upd.refl (b :: (foot vc ++ foot vs ++ foot vp)) w).mono (fun k hk => hk) (fun k hk => .inr ?_)
    simp only [List.mem_cons, List.mem_append] at hk ⊢
    rcases hk with h | h | h
    · exact .inl h
    · exact .inr (.inl h)
    · simp [foot, Value.ownBlock] at h

set_option maxHeartbeats 400000 in
theorem Sync_off (b : Nat) (D : DiskM) (S : List Nat) (w : World) (h : DiskAt w b D S) (hoff : D.off = true) :
    Calls Try.prog 28 #[.pointer (some ⟨b, 0, none⟩)] w fun e w' => e = .returned (.int .i64 70) ∧ w = w' := by
  have hi := isOff_any b D S w h
  rw [hoff] at hi
  have HI := Lib.hid hi
  clear hi hoff
  go_enter Try.func28, Try.ntmps28
  go_wp2_with fail
  refine HI.out.mono ?_
  rintro e w' ⟨rfl, rfl⟩
  go_wp2_with fail
  go_ret
  exact ⟨rfl, rfl⟩

set_option maxHeartbeats 800000 in
theorem Sync_ok (b : Nat) (D : DiskM) (S : List Nat) (w : World) (h : DiskAt w b D S) (hok : D.ok) (hcl : D.calls < 65536) (hoff : D.off = false) :
    Calls Try.prog 28 #[.pointer (some ⟨b, 0, none⟩)] w fun e w' => ∃ S', e = .returned (.int .i64 0) ∧ DiskAt w' b D.synced1.count S' ∧ Upd S S' w w' := by
  have hi := isOff_any b D S w h
  rw [hoff] at hi
  have HI := Lib.hid hi
  have HO := Lib.hid hoff
  clear hi hoff
  obtain ⟨vc, vs, vp, hd, hS⟩ := h.is
  have HS := Lib.hid hS
  clear hS
  have c2 : w.cell? ⟨b, 2, none⟩ = some vp := cell_of_row w b 2 _ _ _ hd.1
  obtain ⟨ao, cap, rfl, hcap, hcm⟩ := row_slice hd.2.2.2.1
  have hlen : D.parts.length ≤ 1099511627776 := by have := hok.many; omega
  go_enter Try.func28, Try.ntmps28
  go_wp2_with fail
  refine HI.out.mono ?_
  rintro e w' ⟨rfl, rfl⟩
  go_wp2_with fail
  clear c2
  go_loopw [15] (fun i wr => ∃ (k : Nat) (vs' : Value), i = .int .i64 (k : Int) ∧ k ≤ D.parts.length ∧ DiskIs wr b { D with synced := putParts D.synced (D.parts.take k) } vc vs' (.slice ao D.parts.length cap) ∧
      Upd S (b :: (foot vc ++ foot vs' ++ foot (.slice ao D.parts.length cap))) w wr) (fun i _ => D.parts.length - (intOf i).toNat)
  case atStart =>
    refine ⟨0, vs, rfl, Nat.zero_le _, ?_, ?_⟩
    · simpa [putParts] using hd
    · rw [HS.out]; exact Upd.refl _ _
  case round =>
    obtain ⟨k, vs', rfl, hk, hd', hu'⟩ := hrel
    by_cases hlt : k < D.parts.length
    · obtain ⟨g, cap', cur, hv, hg, _, _, hcs, htk⟩ := row_pos hd'.2.2.2.1 (by show 0 < D.parts.length; omega)
      simp only [Value.slice.injEq] at hv
      obtain ⟨rfl, _, rfl⟩ := hv
      obtain ⟨p, hp⟩ : ∃ p, D.parts[k]? = some p := ⟨_, List.getElem?_eq_getElem hlt⟩
      obtain ⟨q1, q2⟩ := part_cells hg htk k p hp
      have c1 : wr.cell? ⟨b, 1, none⟩ = some vs' := cell_of_row wr b 1 _ _ _ hd'.1
      have hpb : p.1 + p.2.length ≤ 16777216 := hok.parts p (List.mem_of_getElem? hp)
      have htake : D.parts.take (k + 1) = D.parts.take k ++ [p] := by rw [List.take_add_one, hp]; rfl
      have HT := Lib.hid htake
      have hbl := blk_lt hd'.1
      clear hp htake hg hcs htk
      obtain ⟨p1, p2⟩ := p
      simp only at q1 q2 hpb
      obtain ⟨sp, hsp⟩ : ∃ sp : ByteArray, sp = ⟨p2.toArray⟩ := ⟨_, rfl⟩
      rw [← hsp] at q2
      have HSP := Lib.hid hsp
      clear hsp
      go_wp2_with fail
      have hdW := (hd'.alloc (.cells #[.int .i64 (p1 : Int), .string sp] 87)).drew
      have HC := Lib.hid (put_synced hdW p1 sp (by rw [HSP.out]; show p1 + p2.length ≤ _; omega) (by
        have := putParts_le 16777216 (D.parts.take k) D.synced hok.synced (fun q hq => hok.parts q (List.mem_of_mem_take hq)); show (putParts D.synced (D.parts.take k)).length ≤ _; omega))
      go_region_with (go_at_call 49; ((with_reducible refine HC.out.mono ?_); rintro e w3 ⟨ao3, n3, cap3, rfl, d0, d1, hd3, hu3⟩))
      all_goals
        have HD3 := Lib.hid hd3
        have HU3 := Lib.hid hu3
        clear hd3 hu3 d0 d1
        go_wp2_with fail
        go_roundw
        case rel =>
          refine ⟨k + 1, _, by go_num, by omega, ?_, hu'.trans (Upd.trans ((Upd.refl _ _).alloc _).drew HU3.out)⟩
          have hx := HD3.out
          rw [HSP.out] at hx
          rw [HT.out, putParts_snoc]
          exact hx
        case measure => simp [intOf]; omega
    · obtain ⟨rfl⟩ : k = D.parts.length := by omega
      rw [List.take_length] at hd'
      have c0 : wr.cell? ⟨b, 0, none⟩ = some vc := cell_of_row wr b 0 _ _ _ hd'.1
      have c1 : wr.cell? ⟨b, 1, none⟩ = some vs' := cell_of_row wr b 1 _ _ _ hd'.1
      obtain ⟨aoc, capc, rfl, _, _⟩ := row_slice hd'.2.1
      have hnl : D.now.length ≤ 1099511627776 := by have := hok.now; omega
      have HC := Lib.hid (put_synced hd'.drew D.now.length ⟨#[]⟩ (by show D.now.length + 0 ≤ _; omega) (by
        have := putParts_le 16777216 D.parts D.synced hok.synced hok.parts; show (putParts D.synced D.parts).length ≤ _; omega))
      go_wp2_with fail
      go_region_with (go_at_call 49; ((with_reducible refine HC.out.mono ?_); rintro e w3 ⟨ao3, n3, cap3, rfl, d0, d1, hd3, hu3⟩))
      all_goals
        have HD3 := Lib.hid hd3
        have HU3 := Lib.hid hu3
        have d2 : (w3.setCell ⟨b, 1, none⟩ (.slice ao3 n3 cap3)).cell? ⟨b, 2, none⟩ = some (.slice ao D.parts.length cap) := cell_of_row _ b 2 _ _ _ hd3.1
        have d3 : (w3.setCell ⟨b, 1, none⟩ (.slice ao3 n3 cap3)).frozen? ⟨b, 2, none⟩ = false := frozen_of_row _ b 2 _ _ hd3.1
        clear hd3 hu3 d0 d1
        generalize w3.setCell ⟨b, 1, none⟩ (.slice ao3 n3 cap3) = w4 at *
        go_wp2_with fail
        obtain ⟨hd5, hu5⟩ := HD3.out.clearParts
        have hd6 := hd5.at
        refine (count_any b _ _ _ hd6 (by show D.calls ≤ _; omega) (by exact hok.left) (by exact HO.out)).mono ?_
        rintro e w6 ⟨rfl, hd7, hu7⟩
        go_wp2_with fail
        go_ret
        exact ⟨_, rfl, hd7, hu'.trans (Upd.trans (Upd.refl _ _).drew (HU3.out.trans (hu5.trans hu7)))⟩
end Go.Proofs.Ytbpbmigdfjnneaa
