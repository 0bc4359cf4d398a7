/- journal.records: the iterator over frames. -/
import Derived.Test.YtbpbmigdfjnneaaJPlain
import Derived.RangeFuncRecord
import Derived.RangeFuncSeq
import Derived.RangeFuncCalls
import Derived.TacticsInMore
import Derived.LoopIn
import Derived.BigFrameIn
namespace Go.Proofs.Ytbpbmigdfjnneaa
open Go.RowKit
attribute [local go_sem] Oper.semAt_some
set_option maxRecDepth 100000

def boxLen (bx : Nat) (w : World) : Nat := match w.cell? ⟨bx, 0, none⟩ with | some (.string s) => s.size | _ => 0

/-- What the loop in the iterator keeps. -/
def RecRel (bx : Nat) (fr : ByteArray) (J : List (List UInt8) → World → Prop) (wr : World) : Prop :=
  ∃ (pre : List (List UInt8)) (f : ByteArray), wr.heap[bx]? = some (.cells #[.string f] 9 (0, 0)) ∧ f.size ≤ 16777216 ∧ J pre wr ∧ recsL (bs fr) = (pre ++ (recsL (bs f)).1, (recsL (bs f)).2)
def RecPost (fr : ByteArray) (J : List (List UInt8) → World → Prop) (Jx : World → Prop) (e : Ending) (W' : World) : Prop :=
  (∃ v, e = .returned v) ∧ (((recsL (bs fr)).2 = true ∧ J (recsL (bs fr)).1 W') ∨ ((recsL (bs fr)).2 = false ∧ Jx W'))

set_option maxHeartbeats 1000000 in
theorem records1_in (n : Nat) (l bx : Nat) (fr : ByteArray) (J : List (List UInt8) → World → Prop) (Jx : World → Prop)
    (hset : ∀ pre W u, J pre W → J pre (W.setCell ⟨bx, 0, none⟩ u))
    (hY : ∀ pre (r : ByteArray) W1, J pre W1 → r.size ≤ 16777216 → (∃ t, (recsL (bs fr)).1 = pre ++ [bs r] ++ t) → YieldAt Fence.wide (n - 1) Try.prog l #[.string r, .bool true] W1 fun e W' => e = .returned (.bool true) ∧ J (pre ++ [bs r]) W' ∧ W'.heap[bx]? = W1.heap[bx]?)
    (hF : ∀ pre W1, J pre W1 → YieldAt Fence.wide (n - 1) Try.prog l #[.string ⟨#[]⟩, .bool false] W1 fun e W' => e = .returned (.bool false) ∧ Jx W')
    (W : World) (hW : W.heap[bx]? = some (.cells #[.string fr] 9 (0, 0))) (hsz : fr.size ≤ 16777216) (h0 : J [] W) :
    CallsIn Fence.wide n Try.prog 63 #[.func (.yield l) #[] #[], .pointer (some ⟨bx, 0, none⟩)] W (RecPost fr J Jx) := by
  refine callsIn_of_wp Try.func63 rfl trivial ?_ rfl
  simp only [Try.ntmps63, List.size_toArray, List.length_cons, List.length_nil, Nat.reduceAdd, Nat.reduceSub, Array.replicate_succ, Array.replicate_zero, List.push_toArray, List.append_toArray, List.nil_append, List.cons_append]
  have HSET := Lib.hid hset
  have HY := Lib.hid hY
  have HF := Lib.hid hF
  have HW : Hid (RecRel bx fr J W) := ⟨[], fr, hW, hsz, h0, by simp⟩
  clear hset hY hF hW hsz h0
  gi_wp2
  gi_loopw [] (fun wr => RecRel bx fr J wr) (fun wr => boxLen bx wr)
  case atStart => exact HW.out
  case round =>
    obtain ⟨pre, f, hb, hfs, hj, hrec⟩ := hrel
    have c0 : wr.cell? ⟨bx, 0, none⟩ = some (.string f) := cell_of_row wr bx 0 _ _ _ hb
    have f0 : wr.frozen? ⟨bx, 0, none⟩ = false := frozen_of_row wr bx 0 _ _ hb
    have HB := Lib.hid hb
    have HR := Lib.hid hrec
    have HJ := Lib.hid hj
    clear hb hrec hj
    by_cases hz : f.size = 0
    · have HZ := Lib.hid hz
      have e0 : decide (0 < f.size) = false := decide_eq_false (by omega)
      clear hz
      gi_wp2
      go_end0
      refine ⟨⟨_, rfl⟩, .inl ?_⟩
      have hr := HR.out
      rw [recsL_nil (bs f) HZ.out, List.append_nil] at hr
      rw [hr]
      exact ⟨rfl, HJ.out⟩
    · have e0 : decide (0 < f.size) = true := decide_eq_true (by omega)
      by_cases h8 : f.size < 8
      · obtain ⟨fn, tmps, assign, body, hy, hRd⟩ := HF.out pre wr HJ.out
        have HRD := Lib.hid hRd
        have HZ := Lib.hid hz
        clear hRd hz
        have e8 : decide ((f.size : Int) < 8) = true := decide_eq_true (by omega)
        gi_wp2
        refine ⟨(fun h => by cases h), ?_⟩
        refine HRD.out.mono ?_
        rintro e W' ⟨rfl, hx⟩
        gi_wp2
        refine bodyPost_ret (results_none rfl _ _ _) rfl ?_
        refine ⟨⟨_, rfl⟩, .inr ?_⟩
        have hr := HR.out
        rw [recsL_short (bs f) HZ.out h8, List.append_nil] at hr
        rw [hr]
        exact ⟨rfl, hx⟩
      · have e8 : decide ((f.size : Int) < 8) = false := decide_eq_false (by omega)
        have hv : CallsIn Fence.wide (n - 1) Try.prog 56 #[.string (f.extract 0 8)] wr _ := callsIn_wide.2 (value_any (f.extract 0 8) wr (by simp; omega))
        have hvb : valueL (bs (f.extract 0 8)) = valueL ((bs f).take 8) := by rw [bs_extract]; rfl
        have hbd := valueL_bd ((bs f).take 8)
        rw [hvb] at hv
        have HV := Lib.hid hv
        clear hv hvb
        obtain ⟨v, hv⟩ : ∃ v, v = valueL ((bs f).take 8) := ⟨_, rfl⟩
        rw [← hv] at HV hbd
        have HVE := Lib.hid hv
        clear hv
        by_cases hn0 : v < 0
        · obtain ⟨fn, tmps, assign, body, hy, hRd⟩ := HF.out pre wr HJ.out
          have HRD := Lib.hid hRd
          clear hRd
          gi_wp2
          refine ⟨trivial, (fun h => by cases h), HV.out.mono ?_⟩
          rintro e w' ⟨rfl, rfl⟩
          gi_wp2
          refine ⟨(fun h => by cases h), HRD.out.mono ?_⟩
          rintro e W' ⟨rfl, hx⟩
          gi_wp2
          refine bodyPost_ret (results_none rfl _ _ _) rfl ?_
          refine ⟨⟨_, rfl⟩, .inr ?_⟩
          have hr := HR.out
          rw [recsL_bad (bs f) h8 (by rw [← HVE.out]; exact .inl hn0), List.append_nil] at hr
          rw [hr]
          exact ⟨rfl, hx⟩
        · by_cases hn1 : (f.size : Int) - 8 < v
          · obtain ⟨fn, tmps, assign, body, hy, hRd⟩ := HF.out pre wr HJ.out
            have HRD := Lib.hid hRd
            clear hRd
            gi_wp2
            refine ⟨trivial, (fun h => by cases h), HV.out.mono ?_⟩
            rintro e w' ⟨rfl, rfl⟩
            gi_wp2
            refine ⟨(fun h => by cases h), HRD.out.mono ?_⟩
            rintro e W' ⟨rfl, hx⟩
            gi_wp2
            refine bodyPost_ret (results_none rfl _ _ _) rfl ?_
            refine ⟨⟨_, rfl⟩, .inr ?_⟩
            have hr := HR.out
            rw [recsL_bad (bs f) h8 (by rw [← HVE.out]; exact .inr hn1), List.append_nil] at hr
            rw [hr]
            exact ⟨rfl, hx⟩
          · obtain ⟨m, rfl⟩ := Int.eq_ofNat_of_zero_le (show 0 ≤ v by omega)
            have hm : m ≤ f.size - 8 := by omega
            have hst := recsL_step (bs f) h8 m HVE.out.symm hm
            have hrb : bs (f.extract 8 (8 + m)) = ((bs f).drop 8).take m := by rw [bs_extract]; congr 1; omega
            have hrd : bs (f.extract (8 + m) f.size) = (bs f).drop (8 + m) := by rw [bs_extract, List.take_of_length_le (by simp [bs_length])]
            have hr := HR.out
            rw [hst, ← hrb, ← hrd] at hr
            have hpre : ∃ t, (recsL (bs fr)).1 = pre ++ [bs (f.extract 8 (8 + m))] ++ t := ⟨(recsL (bs (f.extract (8 + m) f.size))).1, by rw [hr]; simp⟩
            obtain ⟨fn, tmps, assign, body, hy, hRd⟩ := HY.out pre (f.extract 8 (8 + m)) wr HJ.out (by simp; omega) hpre
            have HRD := Lib.hid hRd
            have HRR := Lib.hid hr
            clear hRd hr hpre hst hrb hrd
            gi_wp2
            refine ⟨trivial, (fun h => by cases h), HV.out.mono ?_⟩
            rintro e w' ⟨rfl, rfl⟩
            gi_wp2
            refine ⟨(fun h => by cases h), HRD.out.mono ?_⟩
            rintro e W' ⟨rfl, hj', hbx⟩
            have hb' := hbx.trans HB.out
            have c0' : W'.cell? ⟨bx, 0, none⟩ = some (.string f) := cell_of_row W' bx 0 _ _ _ hb'
            have f0' : W'.frozen? ⟨bx, 0, none⟩ = false := frozen_of_row W' bx 0 _ _ hb'
            have HJ' := Lib.hid hj'
            have HB' := Lib.hid hb'
            clear hj' hbx hb'
            gi_wp2
            go_roundw
            case rel =>
              refine ⟨pre ++ [bs (f.extract 8 (8 + m))], f.extract (8 + m) f.size, ?_, by simp; omega, HSET.out _ _ _ HJ'.out, ?_⟩
              · rw [heap_setCell_same W' bx 0 _ _ _ HB'.out]; rfl
              · rw [HRR.out]; simp
            case measure =>
              unfold boxLen
              rw [World.cell?_setCell_same' _ _ _ (by rw [c0']; rfl), c0]
              simp; omega
end Go.Proofs.Ytbpbmigdfjnneaa
