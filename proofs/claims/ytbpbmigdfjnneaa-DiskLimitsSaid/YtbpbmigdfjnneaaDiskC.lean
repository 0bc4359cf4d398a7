/- The contracts of Write and Sync. -/
import Derived.Test.YtbpbmigdfjnneaaDiskB
namespace Go.Proofs.Ytbpbmigdfjnneaa
open Go.RowKit
set_option maxRecDepth 100000

theorem foot_nodup (v : Value) : (foot v).Nodup := by simp only [foot]; cases v.ownBlock <;> simp

theorem sep4 (b : Nat) (A B C : List Nat) : (b :: (A ++ B ++ C)).Nodup ↔ (b ∉ A ∧ b ∉ B ∧ b ∉ C) ∧ (A.Nodup ∧ B.Nodup ∧ C.Nodup) ∧ (∀ k, k ∈ A → k ∉ B) ∧ (∀ k, k ∈ A → k ∉ C) ∧ (∀ k, k ∈ B → k ∉ C) := by
  simp only [List.nodup_cons, List.nodup_append, List.mem_append, not_or, ne_eq]
  constructor
  · rintro ⟨⟨⟨h1, h2⟩, h3⟩, ⟨h4, h5, h6⟩, h7, h8⟩
    exact ⟨⟨h1, h2, h3⟩, ⟨h4, h5, h7⟩, fun k a c => h6 k a k c rfl, fun k a c => h8 k (.inl a) k c rfl, fun k a c => h8 k (.inr a) k c rfl⟩
  · rintro ⟨⟨h1, h2, h3⟩, ⟨h4, h5, h7⟩, h6, h8, h9⟩
    exact ⟨⟨⟨h1, h2⟩, h3⟩, ⟨h4, h5, fun k a j c e => h6 k a (e ▸ c)⟩, h7, fun k a j c e => by rcases a with a | a; exact h8 k a (e ▸ c); exact h9 k a (e ▸ c)⟩

/-- new contents, stored -/
theorem DiskAt.setNow {w w1 : World} {b : Nat} {D : DiskM} {vc vs vp vc' : Value} {c : List UInt8}
    (hb : w.heap[b]? = some (.cells #[vc, vs, vp, .int .i64 (D.calls : Int), .bool D.failing, .int .i64 (D.left : Int)] 59 (0, 0)))
    (_hc : w.ownsRow 0 5 1 vc D.now.length (byteVals D.now)) (hy : w.ownsRow 0 5 1 vs D.synced.length (byteVals D.synced)) (hp : w.ownsRow 0 87 2 vp D.parts.length (partVals D.parts))
    (hn : (b :: (foot vc ++ foot vs ++ foot vp)).Nodup) (hrow : w1.ownsRow 0 5 1 vc' c.length (byteVals c)) (hup : Upd (foot vc) (foot vc') w w1) :
    DiskAt (w1.setCell ⟨b, 0, none⟩ vc') b { D with now := c } (b :: (foot vc' ++ foot vs ++ foot vp)) ∧ Upd (b :: (foot vc ++ foot vs ++ foot vp)) (b :: (foot vc' ++ foot vs ++ foot vp)) w (w1.setCell ⟨b, 0, none⟩ vc') := by
  rw [sep4] at hn
  obtain ⟨⟨n1, n2, n3⟩, ⟨n4, n5, n6⟩, n7, n8, n9⟩ := hn
  have hbl := blk_lt hb
  have hyl := row_foot_lt hy
  have hpl := row_foot_lt hp
  have fresh : ∀ k, k < w.heap.size → k ∉ foot vc → k ∉ foot vc' := fun k h1 h2 h3 => by rcases hup.new k h3 with h | h; exact h2 h; omega
  have keep : ∀ k, k < w.heap.size → k ∉ foot vc → k ≠ b → (w1.setCell ⟨b, 0, none⟩ vc').heap[k]? = w.heap[k]? := fun k h1 h2 h3 => by rw [heap_setCell_other _ _ _ _ h3]; exact hup.block k h1 h2
  refine ⟨⟨vc', vs, vp, ?_, ?_, ?_, ?_, rfl, ?_⟩, ?_⟩
  · rw [heap_setCell_same w1 b 0 _ _ vc' ((hup.block b hbl n1).trans hb)]; rfl
  · exact row_same hrow (fun k hk => heap_setCell_other _ _ _ _ (fun (e : k = b) => fresh b hbl n1 (e ▸ hk)))
  · exact row_same hy (fun k hk => keep k (hyl k hk) (fun h => n7 k h hk) (fun e => n2 (e ▸ hk)))
  · exact row_same hp (fun k hk => keep k (hpl k hk) (fun h => n8 k h hk) (fun e => n3 (e ▸ hk)))
  · rw [sep4]
    exact ⟨⟨fresh b hbl n1, n2, n3⟩, ⟨foot_nodup _, n5, n6⟩, fun k h1 h2 => fresh k (hyl k h2) (fun h => n7 k h h2) h1, fun k h1 h2 => fresh k (hpl k h2) (fun h => n8 k h h2) h1, n9⟩
  · refine Upd.setCell ?_ (by simp) _
    refine hup.mono (fun k hk => by simp [hk]) (fun k hk => ?_)
    simp only [List.mem_cons, List.mem_append] at hk ⊢
    rcases hk with h | (h | h) | h
    · exact .inr (.inl h)
    · exact .inl h
    · exact .inr (.inr (.inl (.inr h)))
    · exact .inr (.inr (.inr h))

/-- new synced contents, stored -/
theorem DiskAt.setSynced {w w1 : World} {b : Nat} {D : DiskM} {vc vs vp vs' : Value} {c : List UInt8}
    (hb : w.heap[b]? = some (.cells #[vc, vs, vp, .int .i64 (D.calls : Int), .bool D.failing, .int .i64 (D.left : Int)] 59 (0, 0)))
    (hc : w.ownsRow 0 5 1 vc D.now.length (byteVals D.now)) (_hy : w.ownsRow 0 5 1 vs D.synced.length (byteVals D.synced)) (hp : w.ownsRow 0 87 2 vp D.parts.length (partVals D.parts))
    (hn : (b :: (foot vc ++ foot vs ++ foot vp)).Nodup) (hrow : w1.ownsRow 0 5 1 vs' c.length (byteVals c)) (hup : Upd (foot vs) (foot vs') w w1) :
    DiskAt (w1.setCell ⟨b, 1, none⟩ vs') b { D with synced := c } (b :: (foot vc ++ foot vs' ++ foot vp)) ∧ Upd (b :: (foot vc ++ foot vs ++ foot vp)) (b :: (foot vc ++ foot vs' ++ foot vp)) w (w1.setCell ⟨b, 1, none⟩ vs') := by
  rw [sep4] at hn
  obtain ⟨⟨n1, n2, n3⟩, ⟨n4, n5, n6⟩, n7, n8, n9⟩ := hn
  have hbl := blk_lt hb
  have hcl := row_foot_lt hc
  have hpl := row_foot_lt hp
  have fresh : ∀ k, k < w.heap.size → k ∉ foot vs → k ∉ foot vs' := fun k h1 h2 h3 => by rcases hup.new k h3 with h | h; exact h2 h; omega
  have keep : ∀ k, k < w.heap.size → k ∉ foot vs → k ≠ b → (w1.setCell ⟨b, 1, none⟩ vs').heap[k]? = w.heap[k]? := fun k h1 h2 h3 => by rw [heap_setCell_other _ _ _ _ h3]; exact hup.block k h1 h2
  refine ⟨⟨vc, vs', vp, ?_, ?_, ?_, ?_, rfl, ?_⟩, ?_⟩
  · rw [heap_setCell_same w1 b 1 _ _ vs' ((hup.block b hbl n2).trans hb)]; rfl
  · exact row_same hc (fun k hk => keep k (hcl k hk) (fun h => n7 k hk h) (fun e => n1 (e ▸ hk)))
  · exact row_same hrow (fun k hk => heap_setCell_other _ _ _ _ (fun (e : k = b) => fresh b hbl n2 (e ▸ hk)))
  · exact row_same hp (fun k hk => keep k (hpl k hk) (fun h => n9 k h hk) (fun e => n3 (e ▸ hk)))
  · rw [sep4]
    exact ⟨⟨n1, fresh b hbl n2, n3⟩, ⟨n4, foot_nodup _, n6⟩, fun k h1 h2 => fresh k (hcl k h1) (fun h => n7 k h1 h) h2, n8, fun k h1 h2 => fresh k (hpl k h2) (fun h => n9 k h h2) h1⟩
  · refine Upd.setCell ?_ (by simp) _
    refine hup.mono (fun k hk => by simp [hk]) (fun k hk => ?_)
    simp only [List.mem_cons, List.mem_append] at hk ⊢
    rcases hk with h | (h | h) | h
    · exact .inr (.inl h)
    · exact .inr (.inr (.inl (.inl h)))
    · exact .inl h
    · exact .inr (.inr (.inr h))

set_option maxHeartbeats 400000 in
theorem Write_arg (b : Nat) (off : Int) (s : ByteArray) (w : World) (hs : s.size ≤ 9223372036854775807) (ho : off < 0 ∨ 16777216 - (s.size : Int) < off) :
    Calls Try.prog 27 #[.pointer (some ⟨b, 0, none⟩), .int .i64 off, .string s] w fun e w' => e = .returned (.int .i64 1) ∧ w = w' := by
  by_cases h1 : off < 0
  all_goals
    go_enter Try.func27, Try.ntmps27
    go_wp2_with fail
    go_ret
    exact ⟨rfl, rfl⟩

set_option maxHeartbeats 400000 in
theorem Write_off (b : Nat) (D : DiskM) (S : List Nat) (off : Int) (s : ByteArray) (w : World) (h : DiskAt w b D S) (hoff : D.off = true) (ho : 0 ≤ off) (ho2 : off ≤ 16777216 - (s.size : Int)) :
    Calls Try.prog 27 #[.pointer (some ⟨b, 0, none⟩), .int .i64 off, .string s] w fun e w' => e = .returned (.int .i64 70) ∧ w = w' := by
  have hi := isOff_any b D S w h
  rw [hoff] at hi
  have HI := Lib.hid hi
  clear hi hoff
  go_enter Try.func27, Try.ntmps27
  go_wp2_with fail
  refine HI.out.mono ?_
  rintro e w' ⟨rfl, rfl⟩
  go_wp2_with fail
  go_ret
  exact ⟨rfl, rfl⟩

def lenOf : Value → Nat | .string s => s.size | _ => 0

theorem bs_extract (s : ByteArray) (a b : Nat) : bs (s.extract a b) = ((bs s).drop a).take (b - a) := by
  have e : s = ⟨(bs s).toArray⟩ := rfl
  conv => lhs; rw [e, ByteArray.extract_mk]
  rfl

theorem parts_round (o : Nat) (t : ByteArray) (m : Nat) (h : 0 < t.size) (hm : m = min t.size (64 - o % 64)) :
    partsL o (bs t) = (o, bs (t.extract 0 m)) :: partsL (o + m) (bs (t.extract m t.size)) := by
  have h0 : bs t ≠ [] := fun e => by have := congrArg List.length e; rw [bs_length] at this; have e0 : ([] : List UInt8).length = 0 := rfl; omega
  rw [partsL_step o (bs t) h0, bs_length, ← hm, bs_extract, bs_extract]
  congr 2
  rw [List.take_of_length_le (by rw [List.length_drop, bs_length]; exact Nat.le_refl _)]

theorem add_str (b : Nat) (D : DiskM) (S : List Nat) (o : Nat) (s : ByteArray) (w : World) (h : DiskAt w b D S) (hlen : D.parts.length ≤ 2199023255552) :
    Calls Try.prog 53 #[.pointer (some ⟨b, 2, none⟩), .agg #[.int .i64 (o : Int), .string s]] w fun e w' => ∃ S', e = .returned (.tuple #[]) ∧ DiskAt w' b { D with parts := D.parts ++ [(o, bs s)] } S' ∧ Upd S S' w w' :=
  add_any b D S (o, bs s) w h hlen

set_option maxHeartbeats 800000 in
theorem Write_ok (b : Nat) (D : DiskM) (S : List Nat) (off : Nat) (s : ByteArray) (w : World) (h : DiskAt w b D S) (hok : D.ok) (hcl : D.calls < 65536) (hoff : D.off = false) (ho2 : off + s.size ≤ 16777216) :
    Calls Try.prog 27 #[.pointer (some ⟨b, 0, none⟩), .int .i64 (off : Int), .string s] w fun e w' => ∃ S', e = .returned (.int .i64 0) ∧ DiskAt w' b (D.wrote off (bs s)).count S' ∧ Upd S S' w w' := by
  have hi := isOff_any b D S w h
  rw [hoff] at hi
  have HI := Lib.hid hi
  have HO := Lib.hid hoff
  clear hi hoff
  obtain ⟨vc, vs, vp, hb, hc, hy, hp, hS, hn⟩ := h
  rw [hS] at hn
  have HS := Lib.hid hS
  clear hS
  have c0 : w.cell? ⟨b, 0, none⟩ = some vc := cell_of_row w b 0 _ _ _ hb
  have HB := Lib.hid hb
  clear hb
  have e1 : decide ((off : Int) < 0) = false := by simp
  have e2 : decide (16777216 - (s.size : Int) < (off : Int)) = false := by simp; omega
  go_enter Try.func27, Try.ntmps27
  go_wp2_with fail
  refine HI.out.mono ?_
  rintro e w' ⟨rfl, rfl⟩
  go_wp2_with fail
  refine (put_any vc D.now off s w hc (by omega) (by have := hok.now; omega)).mono ?_
  rintro e w1 ⟨vc', rfl, hrow, hup⟩
  have hh := DiskAt.setNow HB.out hc hy hp hn hrow hup
  obtain ⟨hd, hu⟩ := hh
  rw [← HS.out] at hu
  have hbb : w1.heap[b]? = w.heap[b]? := hup.block b (blk_lt HB.out) (fun e => (List.nodup_cons.1 hn).1 (by simp [e]))
  have d0 : w1.cell? ⟨b, 0, none⟩ = some vc := (World.cell?_of_block (a := ⟨b, 0, none⟩) hbb).trans c0
  have d1 : w1.frozen? ⟨b, 0, none⟩ = false := (World.frozen?_of_block (a := ⟨b, 0, none⟩) hbb).trans (frozen_of_row w b 0 _ _ HB.out)
  obtain ⟨ao, cap, rfl, _, _⟩ := row_slice hrow
  have HD := Lib.hid hd
  have HU := Lib.hid hu
  clear hd hu hbb hrow hup hc hy hp hn
  clear e1 e2
  go_wp2_with fail
  generalize w1.setCell ⟨b, 0, none⟩ (.slice ao (putL D.now off (bs s)).length cap) = w2 at *
  generalize (b :: (foot (.slice ao (putL D.now off (bs s)).length cap) ++ foot vs ++ foot vp)) = S2 at *
  clear d0 d1 c0
  go_loopw [1, 2] (fun o t wr => ∃ (o' : Nat) (t' : ByteArray) (ps : List (Nat × List UInt8)) (S' : List Nat), o = .int .i64 (o' : Int) ∧ t = .string t' ∧ Hid (partsL off (bs s) = ps ++ partsL o' (bs t')) ∧
      DiskAt wr b { D with now := putL D.now off (bs s), parts := D.parts ++ ps } S' ∧ Upd S S' w wr ∧ o' + t'.size ≤ 16777216 ∧ ps.length + t'.size ≤ 16777216) (fun _ t _ => lenOf t)
  case atStart =>
    refine ⟨off, s, [], S2, rfl, rfl, rfl, ?_, HU.out, ho2, by simp; omega⟩
    simpa using HD.out
  case round =>
    obtain ⟨o', t', ps, S', rfl, rfl, HP, hd, hu, hb1, hb2⟩ := hrel
    by_cases h0 : 0 < t'.size
    · have hps : D.parts.length + ps.length ≤ 1099511627776 + 16777216 := by have := hok.many; omega
      by_cases hm : t'.size ≤ 64 - o' % 64
      · have hx := parts_round o' t' t'.size h0 (by omega)
        have ex : t'.extract 0 t'.size = t' := ByteArray.extract_zero_size
        rw [ex] at hx
        have HX := Lib.hid hx
        clear hx ex
        go_wp2_with fail
        have HC := Lib.hid (add_str b _ S' o' t' wr.drew hd.drew (by simp; omega))
        go_region_with (go_at_call 53; ((with_reducible refine HC.out.mono ?_); rintro e w3 ⟨S3, rfl, hd3, hu3⟩))
        all_goals
          go_wp2_with fail
          have hX := HX.out
          have hP := HP.out
          rw [hX] at hP
          go_roundw
          case rel =>
            refine ⟨o' + t'.size, _, ps ++ [(o', bs t')], S3, by go_num, rfl, ?_, ?_, hu.trans (Upd.trans ((Upd.refl _ _).drew) hu3), ?_, ?_⟩
            · show partsL off (bs s) = _
              rw [hP]; simp
            · simpa using hd3
            · simp; omega
            · simp; omega
          case measure => simp [lenOf]; omega
      · have hx := parts_round o' t' (64 - o' % 64) h0 (by omega)
        have HX := Lib.hid hx
        clear hx
        obtain ⟨m, hm2⟩ : ∃ m : Nat, m = 64 - o' % 64 := ⟨_, rfl⟩
        have hm3 : 1 ≤ m := by omega
        have hm4 : m < t'.size := by omega
        have HM := Lib.hid hm2
        clear hm2
        go_wp2_with fail
        rw [show (64 : Int) - (o' : Int) % 64 = ((m : Nat) : Int) from by have := HM.out; omega]
        rw [← HM.out] at HX
        clear hm
        have HC := Lib.hid (add_str b _ S' o' (t'.extract 0 m) wr.drew hd.drew (by simp; omega))
        go_region_with (go_at_call 53; ((with_reducible refine HC.out.mono ?_); rintro e w3 ⟨S3, rfl, hd3, hu3⟩))
        all_goals
          go_wp2_with fail
          have hX := HX.out
          have hP := HP.out
          rw [hX] at hP
          go_roundw
          case rel =>
            refine ⟨o' + m, _, ps ++ [(o', bs (t'.extract 0 m))], S3, by go_num, rfl, ?_, ?_, hu.trans (Upd.trans ((Upd.refl _ _).drew) hu3), ?_, ?_⟩
            · show partsL off (bs s) = _
              rw [hP]; simp
            · simpa using hd3
            · simp; omega
            · simp; omega
          case measure => simp [lenOf]; omega
    · have ht : bs t' = [] := List.eq_nil_of_length_eq_zero (by rw [bs_length]; omega)
      have hP := HP.out
      rw [ht, partsL_nil, List.append_nil] at hP
      rw [← hP] at hd
      have HD2 : Hid (DiskAt wr b (D.wrote off (bs s)) S') := hd
      clear hd hP
      go_wp2_with fail
      refine (count_any b _ S' _ HD2.out (by show D.calls ≤ _; omega) (by exact hok.left) (by exact HO.out)).mono ?_
      rintro e w3 ⟨rfl, hd3, hu3⟩
      go_wp2_with fail
      go_ret
      exact ⟨S', rfl, hd3, hu.trans hu3⟩
end Go.Proofs.Ytbpbmigdfjnneaa
