/- JournalRaw returns true: the walk. -/
import Derived.Test.YtbpbmigdfjnneaaJSan
import Derived.Test.YtbpbmigdfjnneaaJ25B
namespace Go.Proofs.Ytbpbmigdfjnneaa
open Go.RowKit
set_option maxRecDepth 100000

theorem StrRow.empty_row (w : World) : StrRow (w.alloc (.cells #[] 9)) (.slice (some ⟨w.heap.size, 0, none⟩) 0 0) [] :=
  ⟨rfl, .inr ⟨w.heap.size, 0, #[], rfl, Nat.zero_le _, heap_alloc_new _ _, Nat.le_refl _, by simp, rfl, rfl⟩⟩

/-- An append behind a guard that lets it by, its run known. -/
theorem wpList_append_want {P : Program} (w : World) {ops : Array Oper} {rest : List Oper} {o : Oper} {a : Act} {Q : Exit → Act → World → Prop} (hw : Region.wanted o (yielded ops a.tmps) = true) (s x : Operand) (t tx : TypeId)
    (ho : o.op = .call { callee := .builtin .append, args := #[s, x], argTypes := #[t, tx] }) (v xv v' : Value) (w' : World) (hs : a.eval s = v) (hx : a.eval x = xv)
    (hr : (Builtin.append_ #[t, tx] o.type #[v, xv]).run P w = .ok v' w') (h : wpList P ops Q rest (a.put o.dst v') w') : wpList P ops Q (o :: rest) a w := by
  refine wpList_step fun K hK => ?_
  rw [if_pos hw]
  unfold Oper.wp execOp
  simp only [ho, resolve, invoke, builtin, Sem.run_bind, Sem.run_pure, Result.andThen_ok, List.map_toArray, List.map_cons, List.map_nil, hs, hx, hr]
  exact hK _ _ h

/-- append(append([]string{}, l...), r) -/
theorem append_both (w : World) (vx : Value) (xs : List (List UInt8)) (r : ByteArray) (hx : StrsAt w vx xs) (hl : xs.length ≤ 16777216) :
    ∃ v1 w1 v2 w2, (Builtin.append_ #[61, 61] 61 #[.slice (some ⟨w.heap.size, 0, none⟩) 0 0, vx]).run Try.prog (w.alloc (.cells #[] 9)) = .ok v1 w1 ∧
      (Builtin.append_ #[61, 61] 61 #[v1, .slice (some ⟨w1.heap.size, 0, none⟩) 1 1]).run Try.prog (w1.alloc (.cells #[.string r] 9)) = .ok v2 w2 ∧
      StrRow w2 v2 (xs ++ [bs r]) ∧ Upd [] [] w w2 := by
  obtain ⟨v1, w1, h1, r1, u1⟩ := append_strs _ _ vx [] xs (StrRow.empty_row w) (hx.alloc _) (by simp; omega)
  obtain ⟨v2, w2, h2, r2, u2⟩ := append_str w1 v1 _ r r1 (by simp; omega)
  refine ⟨v1, w1, v2, w2, h1, h2, r2, ?_⟩
  have hu := u1.trans u2
  refine ⟨hu.os, hu.tape, hu.output, by have := hu.size; simp at this; omega, fun k hk _ => ?_, fun k hk => by simp at hk⟩
  rw [hu.block k (by simp; omega) (by simp [foot, Value.ownBlock]; omega)]
  exact Below.heap_alloc _ _ _ hk

def rawD (k : Nat) (t : List UInt8) : DiskM := (DiskM.empty.wrote k t).count.synced1.count
theorem rawD_facts (k : Nat) (t : List UInt8) (h : k + t.length ≤ 400) : (rawD k t).ok ∧ (rawD k t).parts = [] ∧ (rawD k t).synced = (rawD k t).now ∧ (rawD k t).failing = false ∧ (rawD k t).calls = 2 ∧ (rawD k t).now.length ≤ 400 := by
  have o1 : (DiskM.empty.wrote k t).count.ok := DiskM.ok_empty.write k t (by omega) (by decide)
  have i1 : DInv (DiskM.empty.wrote k t).count := wrote_inv JClean.empty.inv k t
  refine ⟨o1.sync (by show 1 < 65536; decide), rfl, i1, rfl, rfl, ?_⟩
  show (putL [] k t).length ≤ 400
  rw [putL_length]
  simp; omega

set_option maxHeartbeats 1600000 in
theorem walk_JournalRaw (s : ByteArray) (o : Int) (rec : ByteArray) (w : World) (hs : s.size ≤ maxLen) (ho1 : 0 ≤ o) (ho2 : o ≤ 255) (hrec : rec.size ≤ maxLen) :
    Calls Try.prog 14 #[.string s, .int .u8 o, .string rec] w (TrueB w) := by
  unfold maxLen at hs hrec
  obtain ⟨k, hk⟩ : ∃ k : Nat, (k : Int) = o % 100 := ⟨(o % 100).toNat, by omega⟩
  have hk2 : k < 100 := by omega
  have HK := Lib.hid hk
  clear hk
  go_enter Try.func14, Try.ntmps14
  go_wp2_with fail
  refine (sanity25 w).mono ?_
  rintro e w1 ⟨rfl, hb⟩
  go_wp2_with fail
  refine (New_to w1).mono ?_
  rintro e w2 ⟨bd, Sd, rfl, hd2, hu2⟩
  have d2 := start_disk hb hd2 hu2
  clear hb hd2 hu2
  by_cases h3 : s.size ≤ 300
  all_goals
    go_wp2_with fail
    rw [← HK.out]
    refine (Write_ok bd .empty Sd k _ w2 d2.at_ DiskM.ok_empty (by decide) rfl (by first | omega | (simp; omega))).mono ?_
    rintro e w3 ⟨S3, rfl, hd3, hu3⟩
    (first | (have h3x : s.size ≤ 300 := h3; clear h3x; generalize hbt : bs s = t at hd3) | generalize hbt : bs (s.extract 0 300) = t at hd3)
    have htl : t.length ≤ 300 := by rw [← hbt, bs_length]; first | exact h3 | (simp; omega)
    obtain ⟨f1, f2, f3, f4, f5, f6⟩ := rawD_facts k t (by omega)
    have d3 := d2.step hd3 hu3
    have o3 : (DiskM.empty.wrote k t).count.ok := DiskM.ok_empty.write k t (by omega) (by decide)
    clear d2 hd3 hu3 hbt
    go_wp2_with fail
    refine (Sync_ok bd _ S3 w3 d3.at_ o3 (by show 1 < 65536; decide) rfl).mono ?_
    rintro e w4 ⟨S4, rfl, hd4, hu4⟩
    have d4 : DiskOk w w.heap.size bd (rawD k t) S4 w4 := d3.step hd4 hu4
    clear d3 hd4 hu4 o3
    generalize rawD k t = D at *
    have HF := Lib.hid f4
    have HF5 := Lib.hid f5
    have HF2 := Lib.hid f2
    have HF3 := Lib.hid f3
    clear f4 f5 f2 f3
    cases hop : openR D.now with
    | none =>
      go_wp2_with fail
      refine (Open_form bd D S4 w4 d4.at_ f1 (by rw [HF5.out]; decide) (DiskM.off_of HF.out) hop).mono ?_
      rintro e w5 ⟨S5, rfl, hd5, hu5⟩
      have d5 := d4.step hd5 hu5
      clear hop hd5 hu5 d4
      go_wp2_with fail
      go_ret
      exact ⟨rfl, d5.below⟩
    | some p =>
      obtain ⟨F, rs⟩ := p
      obtain ⟨hcar, hrs⟩ := car_open hop
      have hcl : JClean D F := ⟨HF2.out, HF3.out, hcar, f1⟩
      have hFl : F.length ≤ 400 := by rcases hcar.len with h | h; (rw [h] at hcar; rw [hcar.of_nil]; simp); omega
      have hsp : spaceL rs ≤ 800 := by
        have h1 := (recs_size F.length F (Nat.le_refl _)).2 (by rw [hrs])
        rw [hrs] at h1
        have h2 := sizeL_len rs
        have h3 := spaceL_size rs
        simp only at h1
        omega
      have hrl : rs.length ≤ 400 := by have h3 := spaceL_size rs; omega
      have HRS := Lib.hid hrs
      clear hop hrs hcar
      go_wp2_with fail
      refine (Open_fine d4.at_ hcl HRS.out (DiskM.off_of HF.out) (by rw [HF5.out]; decide) d4.above d4.below d4.size).mono ?_
      rintro e w5 ⟨jb, v5, S5, rfl, st5, hv5, hu5, hn5⟩
      have c5 : D.synced1.count.calls = 3 := by show D.calls + 1 = 3; rw [HF5.out]
      have g5 : D.synced1.count.failing = false := HF.out
      have nv5 : ∀ k, k ∈ foot v5 → k ∉ jb :: S5 := fun k hk hm => by
        rw [List.nodup_cons, List.nodup_append] at hn5
        rcases List.mem_cons.1 hm with rfl | hm
        · exact hn5.1 (by simp [hk])
        · exact hn5.2.2.2 k hk k hm rfl
      have hvl : StrsAt w5 v5 rs := hv5.strs
      obtain ⟨ao5, cap5, hve, _, _⟩ := row_slice hv5
      subst hve
      clear hu5 hn5 d4 hcl
      generalize D.synced1.count = D5 at *
      have HC5 := Lib.hid c5
      have HG5 := Lib.hid g5
      clear c5 g5
      go_wp2_with fail
      refine (Many_fine st5).mono ?_
      rintro e w' ⟨rfl, rfl⟩
      go_wp2_with fail
      refine (short_any rec w5 hrec).mono ?_
      rintro e w' ⟨r, hr, rfl, rfl⟩
      have hrs2 : r.size ≤ 200 := by rw [← bs_length, hr.out, shortL]; simp; omega
      go_wp2_with fail
      refine (App_fine st5 r HG5.out (by rw [HC5.out]; decide) (by omega)).mono ?_
      rintro e w6 ⟨D6, S6, rfl, st6, hu6, f6', c6⟩
      have hv6 := hv5.kept hu6 nv5
      have dv6 := hu6.disj hv5.lt nv5
      clear st5 hv5 hu6 nv5 hvl
      go_wp2_with fail
      refine (Crash_to bd D6 S6 _ [] w6 st6.d (nil_ints _) st6.clean.ok).mono ?_
      rintro e w7 ⟨bc, Sc, rfl, hc7, hu7⟩
      have hv7 := hv6.kept hu7 (by simp)
      have ac7 := hu7.above (above_nil _) st6.size
      have b7 := hu7.belowOf st6.below (above_nil _) st6.size
      have z7 := Nat.le_trans st6.size hu7.size
      have dv7 := hu7.disj hv6.lt (by simp)
      go_wp2_with fail
      refine (Open_fine (w0 := w) (B := w.heap.size) hc7 (st6.clean.crashed []) st6.recs rfl (by show 0 < 65536; decide) ac7 b7 z7).mono ?_
      rintro e w8 ⟨jc, v8, S8, rfl, st8, hv8, hu8, hn8⟩
      have hv8' := hv7.kept hu8 dv7
      have b8 := st8.below
      have z8 := st8.size
      clear st6 st8 hu8 hn8 hv7 hu7 hv6 dv6 dv7 hc7 ac7 b7 z7
      obtain ⟨v1, wa, v2, wb, hra, hrb, hrow, hup⟩ := append_both w8 _ rs r hv8'.strs (by omega)
      have HRA := Lib.hid hra
      have HRB := Lib.hid hrb
      clear hra hrb
      go_wp2_with (at_builtin; refine wpList_append_want _ (by rfl) _ _ _ _ rfl _ _ _ _ rfl rfl HRA.out ?_)
      refine (short_any rec wa hrec).mono ?_
      rintro e w' ⟨r', hr', rfl, rfl⟩
      obtain rfl : r' = r := by
        have h1 : bs r' = bs r := hr'.out.trans hr.out.symm
        exact (by rw [← strV_bs, ← strV_bs, h1] : Value.string r' = .string r) |> Value.string.inj
      go_wp2_with (at_builtin; refine wpList_append_want _ (by rfl) _ _ _ _ rfl _ _ _ _ rfl rfl HRB.out ?_)
      have q := Same_any v8 v2 _ _ wb (hv8.kept hup (by simp)).strs hrow.strs
      rw [decide_eq_true rfl] at q
      refine q.mono ?_
      rintro e w' ⟨n, rfl, rfl⟩
      clear q
      go_wp2_with fail
      go_ret
      exact ⟨rfl, below_drewN (hup.belowOf b8 (above_nil _) z8) n⟩
end Go.Proofs.Ytbpbmigdfjnneaa
