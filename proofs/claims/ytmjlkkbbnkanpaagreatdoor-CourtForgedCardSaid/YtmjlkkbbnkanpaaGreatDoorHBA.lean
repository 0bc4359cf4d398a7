/- nat.Of at any int, nat.Text at any number below 2^63 and what follows. -/
import Derived.Test.YtmjlkkbbnkanpaaGreatDoorHAZ
import Derived.Test.YtmjlkkbbnkanpaaGreatDoorHAQ
import Derived.Test.YtmjlkkbbnkanpaaGreatDoorHAY
import Derived.Test.YtmjlkkbbnkanpaaGreatDoorHAA
import Derived.Test.YtmjlkkbbnkanpaaGreatDoorHAT
import Derived.Test.YtmjlkkbbnkanpaaGreatDoorHAK
namespace Go.Proofs.YtmjlkkbbnkanpaaGreatDoor
open Go.RowKit
set_option maxRecDepth 100000
theorem or64z (a:Nat) (ha:a<4294967296):bits .or .u64 0 (a:Int)=(a:Int):=by
 have h:=or64n (r:=0) ha (by omega)
 rw [Nat.zero_mul,Nat.zero_add] at h
 exact h
theorem dw_two' {x:Nat} (h:4294967296≤x) (hx:x<18446744073709551616):dw x=[x % 4294967296,x / 4294967296]:=by
 rw [dw_pos (by omega),dw_one (by omega) (by omega)]
theorem Wd.two {w:World} {v:Value} {a b:Nat} (h:Wd w v [a,b]):∃ g cap,v=.slice (some ⟨g,0,none⟩) 2 cap∧2≤cap∧cap≤9223372036854775807∧g<w.heap.size∧w.cell? ⟨g,0,none⟩=some (.int .u32 (a:Int))∧w.cell? ⟨g,1,none⟩=some (.int .u32 (b:Int)):=by
 obtain ⟨ao,cap,rfl,h1,h2,h3⟩:=h
 rcases h3 with h3 | ⟨b,rfl,hb,hc⟩
 · simp at h3
 · exact ⟨b,cap,rfl,by simpa using h1,h2,hb,hc 0 _ rfl,hc 1 _ rfl⟩
def MkDiv (x:Nat) (w:World) (e:Ending) (w':World):Prop:=∃ v',Hid (Wd w' v' (dw (x / 1000000000)))∧Hid (∀ b,b∈foot v'→w.heap.size≤b)∧e=.returned (.tuple #[v',.int .u32 ((x % 1000000000:Nat):Int)])∧Upd [] [] w w'
set_option maxHeartbeats 1000000 in
theorem divDigit_small (v:Value) (d:Nat) (w:World) (hv:Wd w v [d]) (hd:d<4294967296):Calls Tryz.prog 112 #[v,.int .u32 1000000000] w (MkDiv d w):=by
 obtain ⟨g,cap,rfl,_,_,hg,c1⟩:=hv.one
 have hmk:(Instr.makeSlice 109 (.int .i64 1) (.int .i64 1)).run Tryz.prog w=.ok (.slice (some ⟨w.heap.size,0,none⟩) 1 1) (w.alloc (.cells (wVals (List.replicate 1 0)).toArray 140)):=make_words w 1 (by omega)
 obtain ⟨w0,hw0⟩:∃ w0,w0=w.alloc (.cells (wVals (List.replicate 1 0)).toArray 140):=⟨_,rfl⟩
 have b0:WB w0 w.heap.size [0]:=by rw [hw0];exact heap_alloc_new _ _
 have u0:Upd [] [] w w0:=by rw [hw0];exact (Upd.refl _ _).alloc _
 rw [← hw0] at hmk
 obtain ⟨G,hG⟩:∃ G,G=w.heap.size:=⟨_,rfl⟩
 rw [← hG] at hmk b0
 obtain ⟨q,hq⟩:∃ q,q=d / 1000000000:=⟨_,rfl⟩
 obtain ⟨r,hr⟩:∃ r,r=d % 1000000000:=⟨_,rfl⟩
 have d1:w0.cell? ⟨g,0,none⟩=some (.int .u32 (d:Int)):=(u0.cell hg (by simp)).trans c1
 have k0:w0.cell? ⟨G,0,none⟩=some (.int .u32 0):=b0.cell (j:=0) rfl
 have f0:=b0.frozen 0
 have b2:WB (w0.setCell ⟨G,0,none⟩ (.int .u32 (q:Int))) G [q]:=b0.set 0 q
 have u2:Upd [] [] w (w0.setCell ⟨G,0,none⟩ (.int .u32 (q:Int))):=u0.setNew (p:=⟨G,0,none⟩) (by rw [hG];exact Nat.le_refl _) _
 have hT:=ntrim_at _ _ _ (b2.slice (by simp [maxLen])) (fun z hz=>by simp at hz;omega)
 rw [show valW [q]=q by simp [valW]] at hT
 have HT:=Lib.hid hT
 have HFG:Hid (∀ (v':Value) (n m:Nat),foot v'=foot (.slice (some ⟨G,0,none⟩) n m)→∀ b,b∈foot v'→w.heap.size≤b):=by
  intro v' n m h b hb
  rw [h] at hb
  have:b=G:=by simpa [foot,Value.ownBlock] using hb
  rw [this,hG]
  exact Nat.le_refl _
 have HU:=Lib.hid u2
 have e1:=or64z d hd
 have e2:(d:Int) / 1000000000=(q:Int):=by omega
 have e2t:(d:Int).tdiv 1000000000=(q:Int):=by rw [Int.tdiv_eq_ediv_of_nonneg (by omega)];exact e2
 have e3:(d:Int) % 1000000000=(r:Int):=by omega
 have e3t:(d:Int).tmod 1000000000=(r:Int):=by rw [Int.tmod_eq_emod_of_nonneg (by omega)];exact e3
 have e4:(d:Int) % 18446744073709551616=(d:Int):=by omega
 have e5:(d:Int) % 4294967296=(d:Int):=by omega
 have e6:(q:Int) % 4294967296=(q:Int):=by omega
 have e7:(r:Int) % 4294967296=(r:Int):=by omega
 have e8:(r:Int) % 18446744073709551616=(r:Int):=by omega
 have e9:(q:Int) % 18446744073709551616=(q:Int):=by omega
 have HQ:=Lib.hid hq
 have HR:=Lib.hid hr
 clear hv c1 hw0 u0 hT b2 u2 b0 hG hg hq hr
 go_enter Tryz.func112,Tryz.ntmps112
 go_wp2_with fail
 refine wp_loop_rounds 2 ?_
 rw [rounds_succ]
 go_wp2_with fail
 rw [rounds_succ]
 go_wp2_with fail
 refine HT.out.mono ?_
 rintro e w1 ⟨v,HV,rfl,rfl⟩
 go_wp2_with fail
 go_ret2
 exact ⟨v,by rw [← HQ.out];exact HV.out.1,HFG.out v _ _ HV.out.2,by rw [← HR.out];rfl,HU.out⟩
set_option maxHeartbeats 2000000 in
theorem divDigit_big (v:Value) (a b:Nat) (w:World) (hv:Wd w v [a,b]) (ha:a<4294967296) (hb:b<4294967296):Calls Tryz.prog 112 #[v,.int .u32 1000000000] w (MkDiv (valW [a,b]) w):=by
 obtain ⟨g,cap,rfl,_,_,hg,c1,c2⟩:=hv.two
 have hmk:(Instr.makeSlice 109 (.int .i64 2) (.int .i64 2)).run Tryz.prog w=.ok (.slice (some ⟨w.heap.size,0,none⟩) 2 2) (w.alloc (.cells (wVals (List.replicate 2 0)).toArray 140)):=make_words w 2 (by omega)
 obtain ⟨w0,hw0⟩:∃ w0,w0=w.alloc (.cells (wVals (List.replicate 2 0)).toArray 140):=⟨_,rfl⟩
 have b0:WB w0 w.heap.size [0,0]:=by rw [hw0];exact heap_alloc_new _ _
 have u0:Upd [] [] w w0:=by rw [hw0];exact (Upd.refl _ _).alloc _
 rw [← hw0] at hmk
 obtain ⟨G,hG⟩:∃ G,G=w.heap.size:=⟨_,rfl⟩
 rw [← hG] at hmk b0
 obtain ⟨q1,hq1⟩:∃ q,q=b / 1000000000:=⟨_,rfl⟩
 obtain ⟨r1,hr1⟩:∃ r,r=b % 1000000000:=⟨_,rfl⟩
 obtain ⟨s1,hs1⟩:∃ s,s=r1 * 4294967296:=⟨_,rfl⟩
 obtain ⟨t,ht⟩:∃ t,t=r1 * 4294967296+a:=⟨_,rfl⟩
 obtain ⟨q0,hq0⟩:∃ q,q=t / 1000000000:=⟨_,rfl⟩
 obtain ⟨r0,hr0⟩:∃ r,r=t % 1000000000:=⟨_,rfl⟩
 have hdiv:=two_div hr1 ht
 rw [← hq0,← hq1,← hr0] at hdiv
 have hgG:g≠G:=by omega
 have d1:w0.cell? ⟨g,0,none⟩=some (.int .u32 (a:Int)):=(u0.cell hg (by simp)).trans c1
 have d2:w0.cell? ⟨g,1,none⟩=some (.int .u32 (b:Int)):=(u0.cell hg (by simp)).trans c2
 have k0:w0.cell? ⟨G,0,none⟩=some (.int .u32 0):=b0.cell (j:=0) rfl
 have k1:w0.cell? ⟨G,1,none⟩=some (.int .u32 0):=b0.cell (j:=1) rfl
 have f0:=b0.frozen 0
 have f1:=b0.frozen 1
 have b2:WB ((w0.setCell ⟨G,1,none⟩ (.int .u32 (q1:Int))).setCell ⟨G,0,none⟩ (.int .u32 (q0:Int))) G [q0,q1]:=(b0.set 1 q1).set 0 q0
 have u2:Upd [] [] w ((w0.setCell ⟨G,1,none⟩ (.int .u32 (q1:Int))).setCell ⟨G,0,none⟩ (.int .u32 (q0:Int))):=(u0.setNew (p:=⟨G,1,none⟩) (by rw [hG];exact Nat.le_refl _) _).setNew (p:=⟨G,0,none⟩) (by rw [hG];exact Nat.le_refl _) _
 have hq0l:q0<4294967296:=by omega
 have hT:=ntrim_at _ _ _ (b2.slice (by simp [maxLen])) (fun z hz=>by simp at hz;omega)
 rw [hdiv.1] at hT
 have HT:=Lib.hid hT
 have HFG:Hid (∀ (v':Value) (n m:Nat),foot v'=foot (.slice (some ⟨G,0,none⟩) n m)→∀ b,b∈foot v'→w.heap.size≤b):=by
  intro v' n m h b hb
  rw [h] at hb
  have:b=G:=by simpa [foot,Value.ownBlock] using hb
  rw [this,hG]
  exact Nat.le_refl _
 have HU:=Lib.hid u2
 have HM:=Lib.hid hdiv.2
 have e1:=or64z b hb
 have o2:bits .or .u64 (s1:Int) (a:Int)=(t:Int):=by
  rw [hs1,ht]
  exact or64n ha (by omega)
 have e2:(b:Int) / 1000000000=(q1:Int):=by omega
 have e2t:(b:Int).tdiv 1000000000=(q1:Int):=by rw [Int.tdiv_eq_ediv_of_nonneg (by omega)];exact e2
 have e3:(b:Int) % 1000000000=(r1:Int):=by omega
 have e3t:(b:Int).tmod 1000000000=(r1:Int):=by rw [Int.tmod_eq_emod_of_nonneg (by omega)];exact e3
 have e4:(b:Int) % 18446744073709551616=(b:Int):=by omega
 have e4a:(a:Int) % 18446744073709551616=(a:Int):=by omega
 have e4t:(t:Int) % 18446744073709551616=(t:Int):=by omega
 have e4s:(s1:Int) % 18446744073709551616=(s1:Int):=by omega
 have e4r:(r1:Int) % 18446744073709551616=(r1:Int):=by omega
 have e4q:(q1:Int) % 18446744073709551616=(q1:Int):=by omega
 have e4p:(q0:Int) % 18446744073709551616=(q0:Int):=by omega
 have e4o:(r0:Int) % 18446744073709551616=(r0:Int):=by omega
 have e5:(r1:Int) * 4294967296=(s1:Int):=by omega
 have e6:(q1:Int) % 4294967296=(q1:Int):=by omega
 have e7:(r0:Int) % 4294967296=(r0:Int):=by omega
 have e8:(q0:Int) % 4294967296=(q0:Int):=by omega
 have e9:(t:Int) / 1000000000=(q0:Int):=by omega
 have e9t:(t:Int).tdiv 1000000000=(q0:Int):=by rw [Int.tdiv_eq_ediv_of_nonneg (by omega)];exact e9
 have e0:(t:Int) % 1000000000=(r0:Int):=by omega
 have e0t:(t:Int).tmod 1000000000=(r0:Int):=by rw [Int.tmod_eq_emod_of_nonneg (by omega)];exact e0
 clear hv c1 c2 hw0 u0 hT b2 u2 b0 hG hg hq0 hq1 hr0 hr1 hs1 ht hdiv hq0l
 go_enter Tryz.func112,Tryz.ntmps112
 go_wp2_with fail
 refine wp_loop_rounds 3 ?_
 rw [rounds_succ]
 go_wp2_with fail
 rw [rounds_succ]
 go_wp2_with fail
 rw [rounds_succ]
 go_wp2_with fail
 refine HT.out.mono ?_
 rintro e w1 ⟨v,HV,rfl,rfl⟩
 go_wp2_with fail
 go_ret2
 exact ⟨v,HV.out.1,HFG.out v _ _ HV.out.2,by rw [← HM.out];rfl,HU.out⟩
theorem divDigit_any (v:Value) (x:Nat) (w:World) (hv:Wd w v (dw x)) (h0:0<x) (hx:x<18446744073709551616):Calls Tryz.prog 112 #[v,.int .u32 1000000000] w (MkDiv x w):=by
 by_cases h:x<4294967296
 · rw [dw_one h0 h] at hv
   exact divDigit_small v x w hv h
 · rw [dw_two' (by omega) hx] at hv
   have e:valW [x % 4294967296,x / 4294967296]=x:=by simp only [valW];omega
   have k:=divDigit_big v _ _ w hv (by omega) (by omega)
   rw [e] at k
   exact k
theorem upd_putRow {w0 w4:World} {g n:Nat} (u:Upd [] [] w0 w4) (hg:w0.heap.size≤g) (d:Array (List UInt8)):Upd [] [] w0 (Sort.putRow encStr (Sort.ahead w4 n) g 0 d):=by
 refine ⟨u.os,u.tape,u.output,?_,fun k hk _=>?_,fun _ h=>absurd h (by simp)⟩
 · rw [Sort.size_putRow]
   exact u.size
 · have hne:¬ g=k:=by omega
   show ((Sort.ahead w4 n).heap.modify g _)[k]? =_
   rw [Array.getElem?_modify,if_neg hne]
   exact u.block k hk (by simp)
theorem repeat_zeros:∀ c:Nat,Lib.repeatL [48] c=List.replicate c (48:UInt8):=by
 intro c
 induction c with
 | zero=>rfl
 | succ c ih=>rw [Lib.repeatL,ih,List.replicate_succ];rfl
theorem groups_few {y k x:Nat} (h:y * 1000000000 ^ k≤x) (h0:0<y) (hx:x<9223372036854775808):k<3:=by
 by_cases hk:k<3
 · exact hk
 · have h1:1000000000 ^ 3≤1000000000 ^ k:=Nat.pow_le_pow_right (by omega) (by omega)
   have h2:1 * 1000000000 ^ k≤y * 1000000000 ^ k:=Nat.mul_le_mul_right _ h0
   omega
theorem groups_step {y k x:Nat} (h:y * 1000000000 ^ k≤x):y / 1000000000 * 1000000000 ^ (k+1)≤x:=by
 rw [Nat.pow_succ,Nat.mul_comm (1000000000 ^ k),← Nat.mul_assoc]
 exact Nat.le_trans (Nat.mul_le_mul_right _ (Nat.div_mul_le_self y 1000000000)) h
theorem dw_pos_len {y:Nat} (h:0<y):0<(dw y).length:=by
 rw [dw_pos h]
 simp
theorem StrRow.form2 {w:World} {v:Value} {ss:List (List UInt8)} (h:StrRow w v ss):∃ ao cap,v=.slice ao ss.length cap∧ss.length≤cap∧cap≤9223372036854775807:=by
 obtain ⟨ao,cap,e,h1,h2⟩:=row_slice h
 exact ⟨ao,cap,e,h1,h2⟩
theorem StrRow.formS {w:World} {v:Value} {ss:List (List UInt8)} {x:List UInt8} (h:StrRow w v (ss ++ [x])):∃ ao cap,v=.slice ao (ss.length+1) cap:=by
 obtain ⟨ao,cap,e,_⟩:=h.form2
 rw [List.length_append] at e
 exact ⟨ao,cap,e⟩
theorem Wd.past {w w':World} {v:Value} {l:List Nat} {S S':List Nat} (h:Wd w v l) (u:Upd S S' w w') (hd:∀ b,b∈foot v→b ∉ S):Wd w' v l:=by
 obtain ⟨ao,cap,rfl,h1,h2,h3⟩:=h
 refine ⟨ao,cap,rfl,h1,h2,?_⟩
 rcases h3 with h3 | ⟨b,rfl,hb,hc⟩
 · exact .inl h3
 · exact .inr ⟨b,rfl,Nat.lt_of_lt_of_le hb u.size,fun j d hj=>(u.cell hb (hd b (by simp [foot,Value.ownBlock]))).trans (hc j d hj)⟩
theorem StrRow.holds {w:World} {v:Value} {ss:List (List UInt8)} (h:StrRow w v ss) (h0:0<ss.length):∃ g cap,v=.slice (some ⟨g,0,none⟩) ss.length cap∧ss.length≤cap∧g<w.heap.size∧Sort.Holds encStr w g 0 ss.toArray:=by
 have h':w.ownsRow 0 9 1 v ss.length (strVals ss):=h
 obtain ⟨g,cap,cur,rfl,hg,h1,h2,h3,h4⟩:=row_pos h' h0
 refine ⟨g,cap,rfl,h1,(Array.getElem?_eq_some_iff.1 hg).1,fun j hj=>?_⟩
 have hj':j<ss.length:=by simpa using hj
 rw [Nat.zero_add]
 refine ⟨?_,frozen_of_row _ _ _ _ _ hg⟩
 rw [cell_of_row _ _ _ _ _ _ hg]
 have e:(cur.toList.take (ss.length * 1))[j]? =some (strV ss[j]):=by
  rw [h4,strVals,List.getElem?_map,List.getElem?_eq_getElem hj']
  rfl
 rw [List.getElem?_take_of_lt (by omega)] at e
 have e2:ss.toArray[j]! = ss[j]:=by simp [hj']
 rw [e2]
 simpa [strV] using e
theorem reversed_cells {w:World} {g n:Nat} {ss:List (List UInt8)} (h:Sort.Holds encStr w g 0 ss.toArray):∀ (j:Nat) (x:ByteArray),(ss.reverse.map (fun l=>(⟨l.toArray⟩:ByteArray)))[j]? =some x→(Sort.putRow encStr (Sort.ahead w n) g 0 ss.reverse.toArray).cell? ⟨g,0+j,none⟩=some (.string x):=by
 intro j x hx
 have hk:=Sort.holds_putRow encStr (Sort.ahead w n) g 0 ss.toArray ss.reverse.toArray h (by simp)
 rw [List.getElem?_map] at hx
 obtain ⟨l,hl,rfl⟩:=Option.map_eq_some_iff.1 hx
 obtain ⟨hj,hl2⟩:=List.getElem?_eq_some_iff.1 hl
 have e:=(hk j (by simpa using hj)).1
 rw [e]
 have e2:ss.reverse.toArray[j]! = l:=by
  rw [getElem!_pos _ j (by simpa using hj)]
  exact hl2
 rw [e2]
set_option maxHeartbeats 4000000 in
theorem natText_any (s:ByteArray) (x:Nat) (hs:bs s=be x) (hx:x<9223372036854775808) (w:World) (htab:Tabs w):Calls Tryz.prog 51 #[.string s] w (MkS (Lib.decDigits x) w):=by
 have hsz:s.size≤8:=by
  rw [← bs_length,hs]
  exact be_len_le 8 x (Nat.lt_of_lt_of_le hx (by decide))
 have hd:=digits_any s w (by omega)
 rw [hs,natB_be] at hd
 have HD:=Lib.hid hd
 clear hd hs
 have hl19:=dec_le19 (u:=x) (by omega)
 go_enter Tryz.func51,Tryz.ntmps51
 go_wp2_with fail
 refine HD.out.mono ?_
 rintro e w1 ⟨v1,HV1,rfl,hu1⟩
 obtain ⟨ao,cap,rfl,hc1,hc2⟩:=HV1.out.form
 have HU1:=Lib.hid hu1
 clear HD hu1
 by_cases h0:x=0
 · subst h0
   rw [dw_zero] at HV1 hc1 ⊢
   have HR:Hid (bs (⟨#[48]⟩:ByteArray)=Lib.decDigits 0):=by
    show _=_
    rw [Lib.decDigits_one (by omega)]
    rfl
   rw [show ([]:List Nat).length=0 from rfl]
   go_wp2_with fail
   go_ret
   exact ⟨⟨#[48]⟩,HR.out,Nat.le_of_eq (bs_size HR.out),rfl,HU1.out⟩
 obtain ⟨L0,hL0⟩:∃ L,L=(dw x).length:=⟨_,rfl⟩
 have hLp:0<L0:=by rw [hL0];exact dw_pos_len (by omega)
 have hLb:((L0:Int) == 0)=false:=by rw [beq_eq_false_iff_ne];omega
 have HV0:=Lib.hid HV1.out
 rw [← hL0] at hc1 ⊢
 have HI0:Hid (Wd w1 (.slice ao L0 cap) (dw x)):=by
  show Wd _ _ _
  rw [hL0]
  exact HV1.out
 have hr9:rest9 x=Lib.decDigits x:=by unfold rest9;rw [if_neg h0]
 have HR9:=Lib.hid hr9
 clear hL0 HV1 HV0 hr9
 go_wp2_with fail
 go_loopw [3,4,5,6] (fun xv o _ _ wr=>∃ (y k:Nat) (Gs:List (List UInt8)),k=Gs.length∧k≤3∧y≤x∧Hid (y * 1000000000 ^ k≤x)∧Hid (Wd wr xv (dw y))∧Hid (rest9 y ++ Gs.reverse.flatten=Lib.decDigits x)∧Hid (StrRow wr o Gs)∧Hid (Upd [] (foot o) w1 wr)) (fun _ o _ _ _=>4 - slLen o)
 case atStart=>exact ⟨x,0,[],rfl,Nat.zero_le _,Nat.le_refl _,by show _≤_;simp,HI0.out,by show _=_;rw [HR9.out];simp,strRow_nil w1,Upd.refl _ _⟩
 case round =>
  obtain ⟨y,k,Gs,hkG,hk3,hyx,HP,HX,HT,HR,HU⟩:=hrel
  have hup0:Upd [] [] w1 wr:=HU.out.mono (fun _ h=>h) (fun _ h=>absurd h (by simp))
  by_cases hy:0<y
  · have hk:k<3:=groups_few HP.out hy hx
    have hlp:0<(dw y).length:=dw_pos_len hy
    obtain ⟨bo,cbp,rfl,hb1,hb2⟩:=HX.out.form
    obtain ⟨oo,ocp,rfl,ho1,ho2⟩:=HR.out.form2
    have HDV:=Lib.hid (divDigit_any _ y wr HX.out hy (by omega))
    obtain ⟨L,hL⟩:∃ L,L=(dw y).length:=⟨_,rfl⟩
    rw [← hL] at hlp HDV hb1 ⊢
    obtain ⟨r,hr⟩:∃ r,r=y % 1000000000:=⟨_,rfl⟩
    obtain ⟨y1,hy1⟩:∃ y1,y1=y / 1000000000:=⟨_,rfl⟩
    have hr9:r<1000000000:=by omega
    have HUP:=Lib.hid hup0
    have HP1:Hid (y1 * 1000000000 ^ (k+1)≤x):=by
     show _≤_
     rw [hy1]
     exact groups_step HP.out
    have hy1x:y1≤x:=by omega
    have HOL:Hid (∀ b,b∈foot (.slice oo Gs.length ocp)→b<wr.heap.size):=fun b hb=>HR.out.lt b hb
    have HRE:=Lib.hid hr
    have HYE:=Lib.hid hy1
    clear hL HX hup0 hr hy1
    go_wp2_with fail
    refine HDV.out.mono ?_
    rintro e w2 ⟨v',HV,HF,rfl,hq⟩
    rw [← HRE.out]
    rw [← HYE.out] at HV
    obtain ⟨co,ccp,rfl,hc1',hc2'⟩:=HV.out.form
    obtain ⟨L1,hL1⟩:∃ L,L=(dw y1).length:=⟨_,rfl⟩
    have HVV:Hid (Wd w2 (.slice co L1 ccp) (dw y1)):=by
     show Wd _ _ _
     rw [hL1]
     exact HV.out
    rw [← hL1] at hc1' HF ⊢
    have HU2:=Lib.hid (HUP.out.trans hq)
    have HRW2:=Lib.hid (HR.out.same (fun j hj=>hq.block j (HR.out.lt j hj) (by simp)))
    have HUW2:=Lib.hid (HU.out.trans (hq.widen (K:=foot (.slice oo Gs.length ocp)) (by simp)))
    have wrr:IntKind.i64.wrap (r:Int)=(r:Int):=wrap_in (by omega) (by omega)
    have HL1:=Lib.hid hL1
    clear hq HR HU HV HDV HUP hL1
    go_wp2_with fail
    refine (itoa_any (r:Int) w2 (by unfold i64in;omega) (htab.upd (HU1.out.trans HU2.out))).mono ?_
    rintro e w3 ⟨t,HT2,htl,rfl,hq⟩
    rw [itoaNat] at HT2
    have ht9:t.size≤9:=by
     rw [bs_size HT2.out]
     exact dec_len 8 r (by rw [show (10:Nat) ^ (8+1)=1000000000 by decide];exact hr9)
    have HU3:=Lib.hid (HU2.out.trans hq)
    have HRW3:=Lib.hid (HRW2.out.same (fun j hj=>hq.block j (HRW2.out.lt j hj) (by simp)))
    have HUW3:=Lib.hid (HUW2.out.trans (hq.widen (K:=foot (.slice oo Gs.length ocp)) (by simp)))
    have HVX:=Lib.hid (HVV.out.upd hq)
    clear hq htl HU2 HRW2 HUW2 HVV
    by_cases hbig:1000000000≤y
    · have hL1p:0<L1:=by rw [HL1.out];exact dw_pos_len (by have:=HYE.out;omega)
      obtain ⟨c,hc⟩:∃ c,c=9 - t.size:=⟨_,rfl⟩
      have c9:(9:Int) - (t.size:Int)=(c:Int):=by omega
      have wc:IntKind.i64.wrap (c:Int)=(c:Int):=wrap_in (by omega) (by omega)
      have HCC:=Lib.hid hc
      have hc9:c≤9:=by omega
      clear hc
      go_wp2_with fail
      refine (Tryz.strings_Repeat ⟨#[48]⟩ c w3 (by omega) (by show 1 * c≤_;omega)).mono ?_
      rintro e w4 ⟨rfl,hb4⟩
      have hq:=upd_of_below hb4
      obtain ⟨Z,hZ⟩:∃ Z:ByteArray,Z=⟨(Lib.repeatL (ByteArray.mk #[48]).data.toList c).toArray⟩:=⟨_,rfl⟩
      rw [← hZ]
      have hZb:bs Z=List.replicate c 48:=by rw [hZ,bs_mk];exact repeat_zeros c
      have hZs:Z.size≤9:=by rw [bs_size hZb,List.length_replicate];exact hc9
      have HG:Hid (bs (Z ++ t)=grp y):=by
       show _=_
       rw [grp_pad hbig,bs_append,hZb,HT2.out,← HRE.out,HCC.out,bs_size HT2.out]
      have HRW4:=HRW3.out.same (fun j hj=>hq.block j (HRW3.out.lt j hj) (by simp))
      obtain ⟨v5,w5,hrun,hrow,hup⟩:=append_str w4 _ Gs (Z ++ t) HRW4 (by omega)
      have HRUN:=Lib.hid hrun
      have HUW5:=Lib.hid ((HUW3.out.trans (hq.widen (K:=foot (.slice oo Gs.length ocp)) (by simp))).trans hup)
      obtain ⟨po,pcp,rfl⟩:=hrow.formS
      have HROW:=Lib.hid hrow
      have hup5:Upd [] [] w1 w5:=HUW5.out.mono (fun _ h=>h) (fun _ h=>absurd h (by simp))
      have HVX5:Hid (Wd w5 (.slice co L1 ccp) (dw y1)):=(HVX.out.upd hq).past hup (fun b hb hb2=>by have h1:=HF.out b hb;have h2:=HOL.out b hb2;omega)
      have HTT:Hid (rest9 y1 ++ (Gs ++ [bs (Z ++ t)]).reverse.flatten=Lib.decDigits x):=by
       show _=_
       rw [← HT.out,grp_step hy,← HYE.out,HG.out]
       simp
      clear hb4 hq hZ hZb hrun hrow hup HRW4 HRW3 HUW3 HVX HT HCC
      go_wp2_with (refine wpList_append_run _ rfl _ _ _ _ rfl _ _ _ w5 rfl rfl HRUN.out ?_)
      exact ⟨⟨y1,k+1,Gs ++ [bs (Z ++ t)],by rw [List.length_append,hkG];rfl,by omega,by omega,HP1.out,HVX5.out,HTT.out,HROW.out,HUW5.out⟩,by simp [slLen];omega⟩
    · have hy1z:y1=0:=by have:=HYE.out;omega
      have hL1z:L1=0:=by rw [HL1.out,hy1z,dw_zero];rfl
      have HG:Hid (bs t=grp y):=by
       show _=_
       rw [grp_last (by omega),HT2.out,← HRE.out]
      obtain ⟨v5,w5,hrun,hrow,hup⟩:=append_str w3 _ Gs t HRW3.out (by omega)
      have HRUN:=Lib.hid hrun
      have HUW5:=Lib.hid (HUW3.out.trans hup)
      obtain ⟨po,pcp,rfl⟩:=hrow.formS
      have HROW:=Lib.hid hrow
      have HVX5:Hid (Wd w5 (.slice co L1 ccp) (dw y1)):=HVX.out.past hup (fun b hb hb2=>by have h1:=HF.out b hb;have h2:=HOL.out b hb2;omega)
      have HTT:Hid (rest9 y1 ++ (Gs ++ [bs t]).reverse.flatten=Lib.decDigits x):=by
       show _=_
       rw [← HT.out,grp_step hy,← HYE.out,HG.out]
       simp
      subst hL1z
      clear hrun hrow hup HRW3 HUW3 HVX HT hy1z
      go_wp2_with (refine wpList_append_run _ rfl _ _ _ _ rfl _ _ _ w5 rfl rfl HRUN.out ?_)
      exact ⟨⟨y1,k+1,Gs ++ [bs t],by rw [List.length_append,hkG];rfl,by omega,hy1x,HP1.out,HVX5.out,HTT.out,HROW.out,HUW5.out⟩,by simp [slLen];omega⟩
  · have hy0:y=0:=by omega
    have hfl:=HT.out
    rw [hy0,show rest9 0=[] from rfl,List.nil_append] at hfl
    have hGp:0<Gs.length:=by
     cases hG:Gs with
     | nil =>
      rw [hG] at hfl
      exact absurd hfl.symm (dec_ne x)
     | cons a r=>simp
    have hx0:=HX.out
    rw [hy0,dw_zero] at hx0
    obtain ⟨bo,cbp,rfl⟩:=hx0.none'
    obtain ⟨g,cp,rfl,hcp,hgl,hH⟩:=HR.out.holds hGp
    have hgn:w1.heap.size≤g:=by
     rcases HU.out.new g (by simp [foot,Value.ownBlock]) with h | h
     · simp at h
     · exact h
    have HRV:=Lib.hid (Tryz.slices_Reverse_string g 0 cp Gs wr hH (by omega))
    have HCL:=Lib.hid (fun n=>reversed_cells (n:=n) hH)
    have HUPR:=Lib.hid (fun n=>upd_putRow (n:=n) hup0 hgn Gs.reverse.toArray)
    have HSZ:Hid (∀ n,g<(Sort.putRow encStr (Sort.ahead wr n) g 0 Gs.reverse.toArray).heap.size):=fun n=>by rw [Sort.size_putRow];exact hgl
    have HFL:=Lib.hid hfl
    clear hH hgn hup0 HU HR HX HT hfl hx0 hy
    go_wp2_with fail
    refine HRV.out.mono ?_
    rintro e w5 ⟨rfl,n,rfl⟩
    have hcl:=HCL.out n
    have hu5:=HUPR.out n
    have hs5:=HSZ.out n
    obtain ⟨w5,hw5⟩:∃ W,W=Sort.putRow encStr (Sort.ahead wr n) g 0 Gs.reverse.toArray:=⟨_,rfl⟩
    rw [← hw5] at hcl hu5 hs5 ⊢
    have hjb:Lib.join ((Gs.reverse.map (fun l=>(⟨l.toArray⟩:ByteArray))).map (·.data.toList)) (⟨#[]⟩:ByteArray).data.toList=Lib.decDigits x:=by
     show Lib.join _ []=_
     rw [join_nil,List.map_map,show (Gs.reverse.map ((fun b:ByteArray=>b.data.toList) ∘ fun l=>(⟨l.toArray⟩:ByteArray)))=Gs.reverse by simp [Function.comp_def]]
     exact HFL.out
    have hj:=Tryz.strings_Join g 0 cp (Gs.reverse.map (fun l=>(⟨l.toArray⟩:ByteArray))) ⟨#[]⟩ w5 hcl hs5 (by simp;omega) (by simpa using hcp) (by rw [hjb];omega)
    rw [hjb,List.length_map,List.length_reverse] at hj
    have HJ:=Lib.hid hj
    have HU5:=Lib.hid hu5
    clear hj hjb hcl hu5 hs5 hw5 HRV HCL HUPR HSZ
    go_wp2_with fail
    refine HJ.out.mono ?_
    rintro e w6 ⟨rfl,hb⟩
    have hu:=upd_of_below hb
    obtain ⟨T,hT⟩:∃ T:ByteArray,T=⟨(Lib.decDigits x).toArray⟩:=⟨_,rfl⟩
    rw [← hT]
    have HTB:Hid (bs T=Lib.decDigits x):=by show _=_;rw [hT,bs_mk]
    have HUF:=Lib.hid (HU1.out.trans (HU5.out.trans hu))
    clear hb hu hT
    go_wp2_with fail
    go_ret
    exact ⟨T,HTB,Nat.le_of_eq (bs_size HTB.out),rfl,HUF.out⟩
theorem natOf_one (d:Nat) (h0:0<d) (hd:d<4294967296) (w:World):Calls Tryz.prog 14 #[.int .i64 (d:Int)] w (MkNat d w):=by
 have HS:=Lib.hid (split_any d (by omega) w)
 have e1:(d:Int) % 18446744073709551616=(d:Int):=by omega
 have i0:¬ (d:Int)<0:=by omega
 go_enter Tryz.func14,Tryz.ntmps14
 go_wp2_with fail
 refine HS.out.mono ?_
 rintro e w1 ⟨v,HV,rfl,hu⟩
 have HN:=Lib.hid (natNumber_any v (dw d) w1 HV.out (dw_ok d) (by rw [dw_one h0 hd];simp))
 rw [valW_dg] at HN
 have HU:=Lib.hid hu
 clear hu HS
 go_wp2_with fail
 refine HN.out.mono ?_
 rintro e w2 ⟨r,HR,rfl,hu⟩
 have HU2:=Lib.hid (HU.out.trans hu)
 clear hu HN
 go_wp2_with fail
 go_ret
 exact ⟨r,HR,rfl,HU2.out⟩
theorem natMul33 (s t:ByteArray) (hs:bs s=be 3) (ht:bs t=be 3) (w:World):Calls Tryz.prog 200 #[.string s,.string t] w (MkNat 9 w):=by
 have HS:=Lib.hid (digits_one s 3 hs (by omega) (by omega) w)
 have HT:=Lib.hid (fun w'=>digits_one t 3 ht (by omega) (by omega) w')
 clear hs ht
 go_enter Tryz.func200,Tryz.ntmps200
 go_wp2_with fail
 refine HS.out.mono ?_
 rintro e w1 ⟨v,HV,rfl,hu1⟩
 have HU1:=Lib.hid hu1
 clear hu1 HS
 go_wp2_with fail
 refine (HT.out w1).mono ?_
 rintro e w2 ⟨u,HU,rfl,hu2⟩
 have HM:=Lib.hid (mul33 v u w2 (HV.out.upd hu2) HU.out)
 have HU2:=Lib.hid (HU1.out.trans hu2)
 clear hu2 HT HU1 HV HU
 go_wp2_with fail
 refine HM.out.mono ?_
 rintro e w3 ⟨z,HZ,rfl,hu3⟩
 have HN:=Lib.hid (natNumber_any z [9] w3 HZ.out (fun d hd=>by simp at hd;omega) (by simp))
 rw [show valW [9]=9 from rfl] at HN
 have HU3:=Lib.hid (HU2.out.trans hu3)
 clear hu3 HM HU2 HZ
 go_wp2_with fail
 refine HN.out.mono ?_
 rintro e w4 ⟨r,HR,rfl,hu4⟩
 have HU4:=Lib.hid (HU3.out.trans hu4)
 clear hu4 HN HU3
 go_wp2_with fail
 go_ret
 exact ⟨r,HR,rfl,HU4.out⟩
def modB:ByteArray:=⟨#[138,0,176,218,162,135,68,214,164,195,198,36,84,110,75,89]⟩
theorem modB_big:4294967296≤natB (bs modB):=by decide
theorem dw_two {n:Nat} (h:4294967296≤n):2≤(dw n).length:=by
 rw [dw_pos (by omega),List.length_cons,dw_pos (by omega),List.length_cons]
 omega
theorem quoM_one (s:ByteArray) (d:Nat) (hs:bs s=be d) (h0:0<d) (hd:d<4294967296) (w:World) :
 Calls Tryz.prog 244 #[.string s,.string ⟨#[138,0,176,218,162,135,68,214,164,195,198,36,84,110,75,89]⟩] w (fun e w'=>∃ q r:ByteArray,Hid (bs r=be d)∧e=.returned (.tuple #[.string q,.string r,.bool true])∧Upd [] [] w w'):=by
 have HM:=Lib.hid (digits_any modB w (by decide))
 have HS:=Lib.hid (fun w'=>digits_one s d hs h0 hd w')
 have HDV:Hid (∀ (u v:Value) (w:World),Wd w u [d]→Wd w v (dw (natB (bs modB)))→Calls Tryz.prog 281 #[u,v] w (fun e w'=>e=.returned (.tuple #[.slice none 0 0,u])∧Upd [] [] w w')):=by
  intro u v w hu hv
  have HC:=Lib.hid (compare_len u v _ _ w hu hv (by have:=dw_two modB_big;show 1<_;omega))
  clear hu hv
  go_enter Tryz.func281,Tryz.ntmps281
  go_wp2_with fail
  refine HC.out.mono ?_
  rintro e w1 ⟨rfl,hu⟩
  have HU:=Lib.hid hu
  clear hu
  go_wp2_with fail
  go_ret2
  exact ⟨rfl,HU.out⟩
 clear hs
 go_enter Tryz.func244,Tryz.ntmps244
 go_wp2_with fail
 refine HM.out.mono ?_
 rintro e w1 ⟨v,HV,rfl,hu1⟩
 obtain ⟨ao,cap,rfl,_,_⟩:=HV.out.form
 have hne:((((dw (natB (bs modB))).length:Nat):Int) == 0)=false:=by rw [beq_eq_false_iff_ne];have:=dw_two modB_big;omega
 obtain ⟨L,hL⟩:∃ L,L=(dw (natB (bs modB))).length:=⟨_,rfl⟩
 rw [← hL] at hne HV ⊢
 have hne2:(L == 0)=false:=by rw [beq_eq_false_iff_ne,hL];have:=dw_two modB_big;omega
 have hne3:¬ L=0:=by rw [hL];have:=dw_two modB_big;omega
 have HU1:=Lib.hid hu1
 clear hu1 HM hL
 go_wp2_with fail
 refine (HS.out w1).mono ?_
 rintro e w2 ⟨u,HUU,rfl,hu2⟩
 have HD:=Lib.hid (HDV.out u _ w2 HUU.out (HV.out.upd hu2))
 have HU2:=Lib.hid (HU1.out.trans hu2)
 clear hu2 HS HU1 HDV HV hne hne2 hne3
 go_wp2_with fail
 refine HD.out.mono ?_
 rintro e w3 ⟨rfl,hu3⟩
 have HN0:=Lib.hid (natNumber_any (.slice none 0 0) [] w3 (Wd.nil w3) okW_nil (by simp))
 have HN1:=Lib.hid (fun w' (q:Upd [] [] w3 w')=>natNumber_any u [d] w' ((HUU.out.upd hu3).upd q) (fun d hd=>by simp at hd;omega) (by simp))
 have HU3:=Lib.hid (HU2.out.trans hu3)
 clear hu3 HD HU2 HUU
 go_wp2_with fail
 refine HN0.out.mono ?_
 rintro e w4 ⟨q,_,rfl,hu4⟩
 have HN:=Lib.hid (HN1.out w4 hu4)
 rw [show valW [d]=d by simp [valW]] at HN
 have HU4:=Lib.hid (HU3.out.trans hu4)
 clear hu4 HN0 HN1 HU3
 go_wp2_with fail
 refine HN.out.mono ?_
 rintro e w5 ⟨r,HR,rfl,hu5⟩
 have HU5:=Lib.hid (HU4.out.trans hu5)
 clear hu5 HN HU4
 go_wp2_with fail
 go_ret3
 exact ⟨q,r,HR,rfl,HU5.out⟩
theorem rest_one (s:ByteArray) (d:Nat) (hs:bs s=be d) (h0:0<d) (hd:d<4294967296) (w:World):Calls Tryz.prog 199 #[.string s] w (MkNat d w):=by
 have HQ:=Lib.hid (quoM_one s d hs h0 hd w)
 clear hs
 go_enter Tryz.func199,Tryz.ntmps199
 go_wp2_with fail
 refine HQ.out.mono ?_
 rintro e w1 ⟨q,r,HR,rfl,hu⟩
 have HU:=Lib.hid hu
 clear hu HQ
 go_wp2_with fail
 go_ret
 exact ⟨r,HR,rfl,HU.out⟩
theorem square3 (s:ByteArray) (hs:bs s=be 3) (w:World):Calls Tryz.prog 150 #[.string s] w (MkNat 9 w):=by
 have HQ:=Lib.hid (rest_one s 3 hs (by omega) (by omega) w)
 clear hs
 go_enter Tryz.func150,Tryz.ntmps150
 go_wp2_with fail
 refine HQ.out.mono ?_
 rintro e w1 ⟨r,HR,rfl,hu⟩
 have HM:=Lib.hid (natMul33 r r HR.out HR.out w1)
 have HU:=Lib.hid hu
 clear hu HQ
 go_wp2_with fail
 refine HM.out.mono ?_
 rintro e w2 ⟨z,HZ,rfl,hu⟩
 have HT:=Lib.hid (rest_one z 9 HZ.out (by omega) (by omega) w2)
 have HU2:=Lib.hid (HU.out.trans hu)
 clear hu HM HU
 go_wp2_with fail
 refine HT.out.mono ?_
 rintro e w3 ⟨y,HY,rfl,hu⟩
 have HU3:=Lib.hid (HU2.out.trans hu)
 clear hu HT HU2
 go_wp2_with fail
 go_ret
 exact ⟨y,HY,rfl,HU3.out⟩
theorem natCmp_same (s t:ByteArray) (d:Nat) (hs:bs s=be d) (ht:bs t=be d) (h0:0<d) (hd:d<4294967296) (w:World):Calls Tryz.prog 149 #[.string s,.string t] w (MkInt 0 w):=by
 have HS:=Lib.hid (digits_one s d hs h0 hd w)
 have HT:=Lib.hid (fun w'=>digits_one t d ht h0 hd w')
 clear hs ht
 go_enter Tryz.func149,Tryz.ntmps149
 go_wp2_with fail
 refine HS.out.mono ?_
 rintro e w1 ⟨v,HV,rfl,hu1⟩
 have HU1:=Lib.hid hu1
 clear hu1 HS
 go_wp2_with fail
 refine (HT.out w1).mono ?_
 rintro e w2 ⟨u,HU,rfl,hu2⟩
 have HM:=Lib.hid (compare_same v u d w2 (HV.out.upd hu2) HU.out)
 have HU2:=Lib.hid (HU1.out.trans hu2)
 clear hu2 HT HU1 HV HU
 go_wp2_with fail
 refine HM.out.mono ?_
 rintro e w3 ⟨rfl,hu3⟩
 have HU3:=Lib.hid (HU2.out.trans hu3)
 clear hu3 HM HU2
 go_wp2_with fail
 go_ret
 exact ⟨rfl,HU3.out⟩
theorem natCmp_less (s t:ByteArray) (d c:Nat) (hs:bs s=be d) (ht:bs t=be c) (h0:0<d) (hdc:d<c) (hc:c<4294967296) (w:World):Calls Tryz.prog 149 #[.string s,.string t] w (MkInt (-1) w):=by
 have HS:=Lib.hid (digits_one s d hs h0 (by omega) w)
 have HT:=Lib.hid (fun w'=>digits_one t c ht (by omega) hc w')
 clear hs ht
 go_enter Tryz.func149,Tryz.ntmps149
 go_wp2_with fail
 refine HS.out.mono ?_
 rintro e w1 ⟨v,HV,rfl,hu1⟩
 have HU1:=Lib.hid hu1
 clear hu1 HS
 go_wp2_with fail
 refine (HT.out w1).mono ?_
 rintro e w2 ⟨u,HU,rfl,hu2⟩
 have HM:=Lib.hid (compare_less v u d c w2 (HV.out.upd hu2) HU.out hdc)
 have HU2:=Lib.hid (HU1.out.trans hu2)
 clear hu2 HT HU1 HV HU
 go_wp2_with fail
 refine HM.out.mono ?_
 rintro e w3 ⟨rfl,hu3⟩
 have HU3:=Lib.hid (HU2.out.trans hu3)
 clear hu3 HM HU2
 go_wp2_with fail
 go_ret
 exact ⟨rfl,HU3.out⟩
section
variable {M : Array Value} {aw ar as' bw br bs' low high id pub : Int} {aT bT F A B : ByteArray}
theorem mat_load {M:Array Value} {g:Nat} {W:World} (hs:M.size=29) (h:W.heap[g]? =some (.cells M 106 (0,0))):(Instr.loadAt 106 (.pointer (some ⟨g,0,none⟩))).run Tryz.prog W=.ok (.agg M) W:=by
 have hi:(Tryz.prog.info? 106).map (·.size)=some M.toList.length:=by rw [Array.length_toList];exact mtInfo hs
 exact run_loadAt_mid W g 0 106 M.toList _ (row_range (by simp) h) Tryz.underlying106 rfl hi
set_option maxHeartbeats 4000000 in
theorem both_any (h:MtIs M aw aT ar as' bw bT br bs' low high F A B id pub) (hp:i64in pub) (hr:i64in ar) (hs:i64in as') (ht:aT.size≤140737488355000) (hr2:i64in br) (hs2:i64in bs') (ht2:bT.size≤140737488355000) (w:World) (htab:Tabs w) :
 Calls Tryz.prog 84 #[.agg M] w (MkB ((decide (aw=id) && verB pub (bs aT) ar as') && (decide (bw=id) && verB pub (bs bT) br bs')) w):=by
 obtain ⟨g,hg⟩:∃ g,w.heap.size=g:=⟨_,rfl⟩
 obtain ⟨w0,hw0⟩:∃ W,w.alloc (.cells M 106)=W:=⟨_,rfl⟩
 have r0:=Lib.hid (show w0.heap[g]? =some (.cells M 106 (0,0)) by rw [← hg,← hw0];exact heap_alloc_new _ _)
 have u0:=Lib.hid (show Upd [] [] w w0 by rw [← hw0];exact (Upd.refl _ _).alloc _)
 have HT:=Lib.hid (theirs_any h aw ar as' aT hp hr hs ht w0 (htab.upd u0.out))
 have HT2:=Lib.hid (fun W (u:Upd [] [] w W)=>theirs_any h bw br bs' bT hp hr2 hs2 ht2 W (htab.upd u))
 have HI:=Lib.hid (mtInfo h.sz)
 have HS:=Lib.hid h.sz
 have HC:Hid (∀ W,Upd [] [] w0 W→W.cell? ⟨g,12,none⟩=some (.int .i64 bw)∧W.cell? ⟨g,13,none⟩=some (.string bT)∧W.cell? ⟨g,14,none⟩=some (.int .i64 br)∧W.cell? ⟨g,15,none⟩=some (.int .i64 bs')):=by
  intro W u
  have q:=row_updH r0.out u
  exact ⟨(cell_of_row _ g 12 _ _ _ q).trans h.b0,(cell_of_row _ g 13 _ _ _ q).trans h.b1,(cell_of_row _ g 14 _ _ _ q).trans h.b2,(cell_of_row _ g 15 _ _ _ q).trans h.b3⟩
 have c0:=(cell_of_row _ g 8 _ _ _ r0.out).trans h.a0
 have c1:=(cell_of_row _ g 9 _ _ _ r0.out).trans h.a1
 have c2:=(cell_of_row _ g 10 _ _ _ r0.out).trans h.a2
 have c3:=(cell_of_row _ g 11 _ _ _ r0.out).trans h.a3
 clear h
 go_enter Tryz.func84,Tryz.ntmps84
 go_wp2_with (first | (refine wpList_load_row rfl 106 _ rfl g rfl _ M _ _ r0.out Tryz.underlying106 rfl HI.out ?_))
 refine HT.out.mono ?_
 rintro e w1 ⟨b,HB,rfl,hq⟩
 have U1:=Lib.hid (u0.out.trans hq)
 have R1:=Lib.hid (row_updH r0.out hq)
 have ML:=Lib.hid (mat_load HS.out R1.out)
 obtain ⟨d0,d1,d2,d3⟩:=HC.out w1 hq
 clear hq HT c0 c1 c2 c3 r0
 cases b with
 | false =>
  go_wp2_with fail
  go_ret
  exact ⟨false,by show _=_;rw [← HB.out,Bool.false_and],rfl,U1.out⟩
 | true =>
  go_wp2_with (first | (refine wpList_load_want (by rfl) 106 _ rfl g rfl M ML.out ?_))
  refine (HT2.out w1 U1.out).mono ?_
  rintro e w2 ⟨b,HB2,rfl,hq⟩
  have U2:=Lib.hid (U1.out.trans hq)
  clear hq HT2
  go_wp2_with fail
  go_ret
  exact ⟨b,by show _=_;rw [← HB.out,Bool.true_and,HB2.out],rfl,U2.out⟩
theorem contra_any (h:MtIs M aw aT ar as' bw bT br bs' low high F A B id pub) (q:Bool) (w:World) (hC:∀ W,Upd [] [] w W→Calls Tryz.prog 86 #[.string aT,.string bT] W (Mk (.bool q) W)) :
 Calls Tryz.prog 85 #[.agg M] w (Mk (.bool q) w):=by
 obtain ⟨g,hg⟩:∃ g,w.heap.size=g:=⟨_,rfl⟩
 obtain ⟨w0,hw0⟩:∃ W,w.alloc (.cells M 106)=W:=⟨_,rfl⟩
 have r0:w0.heap[g]? =some (.cells M 106 (0,0)):=by rw [← hg,← hw0];exact heap_alloc_new _ _
 have u0:=Lib.hid (show Upd [] [] w w0 by rw [← hw0];exact (Upd.refl _ _).alloc _)
 have c0:=(cell_of_row _ g 9 _ _ _ r0).trans h.a1
 have c1:=(cell_of_row _ g 13 _ _ _ r0).trans h.b1
 have HC:=Lib.hid (hC w0 u0.out)
 clear h r0 hC
 go_enter Tryz.func85,Tryz.ntmps85
 go_wp2_with fail
 refine HC.out.mono ?_
 rintro e w1 ⟨rfl,hq⟩
 have U1:=Lib.hid (u0.out.trans hq)
 clear hq HC
 go_wp2_with fail
 go_ret
 exact ⟨rfl,U1.out⟩
end
def wClm:List UInt8:=[99,108,97,105,109]
def claimGL (lo hi:Int) (x y:Nat):List UInt8:=Lib.join [wClm,Lib.itoa lo,Lib.itoa hi,Lib.decDigits x,Lib.decDigits y] [32]
theorem claimGL_is (lo hi:Int) (x y:Nat):claimGL lo hi x y=wClm ++ 32 :: (Lib.itoa lo ++ 32 :: (Lib.itoa hi ++ 32 :: (Lib.decDigits x ++ 32 :: Lib.decDigits y))):=by
 simp [Lib.join,List.intercalate_cons_cons,claimGL]
theorem claimGL_len {lo hi:Int} {x y:Nat} (h1:i64in lo) (h2:i64in hi) (h3:x≤9223372036854775808) (h4:y≤9223372036854775808):(claimGL lo hi x y).length≤100:=by
 rw [claimGL_is]
 have:=itoa_len lo h1
 have:=itoa_len hi h2
 have:=dec_le19 h3
 have:=dec_le19 h4
 simp [wClm]
 omega
def dspG (lo hi:Int) (F A B:ByteArray):Array Value:=#[.int .i64 lo,.int .i64 hi,.string F,.string A,.string B]
set_option maxHeartbeats 4000000 in
theorem claimG (lo hi:Int) (F A B:ByteArray) (x y:Nat) (h1:i64in lo) (h2:i64in hi) (hF:bs F=be x) (hA:bs A=be y) (hx:x<9223372036854775808) (hy:y<9223372036854775808) (w:World) (htab:Tabs w):Calls Tryz.prog 15 #[.agg (dspG lo hi F A B)] w (MkS (claimGL lo hi x y) w):=by
 obtain ⟨g,hg⟩:∃ g,w.heap.size=g:=⟨_,rfl⟩
 obtain ⟨w0,hw0⟩:∃ W,w.alloc (.cells (dspG lo hi F A B) 42)=W:=⟨_,rfl⟩
 have r0:w0.heap[g]? =some (.cells (dspG lo hi F A B) 42 (0,0)):=by rw [← hg,← hw0];exact heap_alloc_new _ _
 have HU0:=Lib.hid (show Upd [] [] w w0 by rw [← hw0];exact (Upd.refl _ _).alloc _)
 have HK:Hid (∀ W,Upd [] [] w0 W→W.cell? ⟨g,0,none⟩=some (.int .i64 lo)∧W.cell? ⟨g,1,none⟩=some (.int .i64 hi)∧W.cell? ⟨g,2,none⟩=some (.string F)∧W.cell? ⟨g,3,none⟩=some (.string A)):=by
  intro W u
  have q:=row_updH r0 u
  exact ⟨cell_of_row _ g 0 _ _ _ q,cell_of_row _ g 1 _ _ _ q,cell_of_row _ g 2 _ _ _ q,cell_of_row _ g 3 _ _ _ q⟩
 have ud0:Upd [] [] w0 w0.drew:=(Upd.refl _ _).drew
 have HDL:=Lib.hid (claimGL_len h1 h2 (Nat.le_of_lt hx) (Nat.le_of_lt hy))
 have HFA:=Lib.hid (And.intro hF hA)
 clear r0 hF hA
 go_enter Tryz.func15,Tryz.ntmps15
 go_upto_region 1 with (fail)
 refine wp_region_noPanic ?_
 refine wp_region_held_drew (S:=fun wp=>wp.cell? ⟨g,0,none⟩=some (.int .i64 lo)∧wp.cell? ⟨g,1,none⟩=some (.int .i64 hi)∧wp.cell? ⟨g,2,none⟩=some (.string F)∧wp.cell? ⟨g,3,none⟩=some (.string A)) (by kernel_rfl) ?_ (fun hHeld=>?_)
 · exact HK.out _ ud0
 refine tkY 0 hHeld ?_
 refine tkY 1 hHeld ?_
 refine tkY 3 hHeld ?_
 refine tkY 4 hHeld ?_
 refine tkY 6 hHeld ?_
 refine tkY 7 hHeld ?_
 refine tkY 9 hHeld ?_
 refine tkY 10 hHeld ?_
 refine tk1 2 fun K hK=>?_
 go_simp;refine (itoa_any lo _ h1 (htab.upd (HU0.out.trans ud0))).mono ?_;rintro e wv1 ⟨y1,HY1,_,rfl,hq⟩;have ud1:=ud0.trans hq;clear hq;go_wp2_with fail
 refine tkK hK (HK.out _ ud1) fun hHeld=>?_
 clear hK K
 refine tk1 5 fun K hK=>?_
 go_simp;refine (itoa_any hi _ h2 (htab.upd (HU0.out.trans ud1))).mono ?_;rintro e wv2 ⟨y2,HY2,_,rfl,hq⟩;have ud2:=ud1.trans hq;clear hq;go_wp2_with fail
 refine tkK hK (HK.out _ ud2) fun hHeld=>?_
 clear hK K
 refine tk1 8 fun K hK=>?_
 go_simp;refine (natText_any F x HFA.out.1 hx _ (htab.upd (HU0.out.trans ud2))).mono ?_;rintro e wv3 ⟨y3,HY3,_,rfl,hq⟩;have ud3:=ud2.trans hq;clear hq;go_wp2_with fail
 refine tkK hK (HK.out _ ud3) fun hHeld=>?_
 clear hK K
 refine tk1 11 fun K hK=>?_
 go_simp;refine (natText_any A y HFA.out.2 hy _ (htab.upd (HU0.out.trans ud3))).mono ?_;rintro e wv4 ⟨y4,HY4,_,rfl,hq⟩;have ud4:=ud3.trans hq;clear hq;go_wp2_with fail
 refine tkK hK (HK.out _ ud4) fun hHeld=>?_
 clear hK K
 refine tk1 12 fun K hK=>?_
 go_simp
 refine tkK hK (HK.out _ (ud4.alloc _)) fun hHeld=>?_
 clear hK K
 refine tkY 13 hHeld ?_
 refine wpAnyH_done (by kernel_rfl) ?_ _
 refine NoPanic.normal ?_
 go_wp2_with fail
 have hXS:=strsIn_new wv4 [⟨#[99,108,97,105,109]⟩,y1,y2,y3,y4] 9
 have hjoin:Lib.join (([⟨#[99,108,97,105,109]⟩,y1,y2,y3,y4]:List ByteArray).map bs) [32]=claimGL lo hi x y:=by
  show Lib.join [_,bs y1,bs y2,bs y3,bs y4] [32]=_
  rw [HY1.out,HY2.out,HY3.out,HY4.out]
  rfl
 have hj:=Tryz.strings_Join wv4.heap.size 0 5 [⟨#[99,108,97,105,109]⟩,y1,y2,y3,y4] ⟨#[32]⟩ _ hXS.2 hXS.1 (by simp) (by simp) (by
  show (Lib.join (_) [32]).length≤_
  have e:=congrArg List.length hjoin
  exact Nat.le_trans (Nat.le_of_eq e) (by have:=HDL.out;omega))
 refine hj.mono ?_
 rintro e w9 ⟨rfl,hb⟩
 have hu:=upd_of_below hb
 obtain ⟨T,hT⟩:∃ T:ByteArray,T=⟨(Lib.join (([⟨#[99,108,97,105,109]⟩,y1,y2,y3,y4]:List ByteArray).map (·.data.toList)) (⟨#[32]⟩:ByteArray).data.toList).toArray⟩:=⟨_,rfl⟩
 rw [← hT]
 have HB:Hid (bs T=claimGL lo hi x y):=by
  show _=_
  rw [hT,bs_mk]
  exact hjoin
 have HU:=Lib.hid ((HU0.out.trans (ud4.alloc _)).trans hu)
 clear hj hXS hjoin hb hu hT
 go_wp2_with fail
 go_ret
 exact ⟨T,HB,by rw [← HB.out,bs_length];exact Nat.le_refl _,rfl,HU.out⟩
set_option maxHeartbeats 4000000 in
theorem claim33_any (lo hi:Int) (F A B:ByteArray) (x y:Nat) (h1:i64in lo) (h2:i64in hi) (hF:bs F=be x) (hA:bs A=be y) (hx:x<9223372036854775808) (hy:y<9223372036854775808) (w:World):Calls Tryz.prog 29 #[.agg (dspG lo hi F A B)] w (MkS (claimGL lo hi x y) w):=by
 obtain ⟨g,hg⟩:∃ g,w.heap.size=g:=⟨_,rfl⟩
 obtain ⟨w0,hw0⟩:∃ W,w.alloc (.cells (dspG lo hi F A B) 42)=W:=⟨_,rfl⟩
 have r0:w0.heap[g]? =some (.cells (dspG lo hi F A B) 42 (0,0)):=by rw [← hg,← hw0];exact heap_alloc_new _ _
 have HU0:=Lib.hid (show Upd [] [] w w0 by rw [← hw0];exact (Upd.refl _ _).alloc _)
 have HK:Hid (∀ W,Upd [] [] w0 W→W.cell? ⟨g,0,none⟩=some (.int .i64 lo)∧W.cell? ⟨g,1,none⟩=some (.int .i64 hi)∧W.cell? ⟨g,2,none⟩=some (.string F)∧W.cell? ⟨g,3,none⟩=some (.string A)):=by
  intro W u
  have q:=row_updH r0 u
  exact ⟨cell_of_row _ g 0 _ _ _ q,cell_of_row _ g 1 _ _ _ q,cell_of_row _ g 2 _ _ _ q,cell_of_row _ g 3 _ _ _ q⟩
 have ud0:Upd [] [] w0 w0.drew:=(Upd.refl _ _).drew
 have HDL:=Lib.hid (claimGL_len h1 h2 (Nat.le_of_lt hx) (Nat.le_of_lt hy))
 have HFA:=Lib.hid (And.intro hF hA)
 clear r0 hF hA
 go_enter Tryz.func29,Tryz.ntmps29
 go_upto_region 1 with (fail)
 refine wp_region_noPanic ?_
 refine wp_region_held_drew (S:=fun wp=>wp.cell? ⟨g,0,none⟩=some (.int .i64 lo)∧wp.cell? ⟨g,1,none⟩=some (.int .i64 hi)∧wp.cell? ⟨g,2,none⟩=some (.string F)∧wp.cell? ⟨g,3,none⟩=some (.string A)) (by kernel_rfl) ?_ (fun hHeld=>?_)
 · exact HK.out _ ud0
 refine tkY 0 hHeld ?_
 refine tkY 1 hHeld ?_
 refine tkY 5 hHeld ?_
 refine tkY 6 hHeld ?_
 refine tkY 10 hHeld ?_
 refine tkY 11 hHeld ?_
 refine tkY 15 hHeld ?_
 refine tkY 16 hHeld ?_
 refine tk1 2 fun K hK=>?_
 go_simp;refine (decimal11_any lo _ h1).mono ?_;rintro e wv1 ⟨y1,HY1,hy1,rfl,hq⟩;have ud1:=ud0.trans hq;clear hq;have hz1:y1.size≤20:=(by have:=itoa_len lo h1;omega);clear hy1;have fa0:¬ 9223372036854775807<6+y1.size:=(by omega);have fa1:¬ 9223372036854775807<6+y1.size+1:=(by omega);go_wp2_with fail
 refine tkK hK (HK.out _ ud1) fun hHeld=>?_
 clear hK K
 refine tkY 3 hHeld ?_
 refine tkY 4 hHeld ?_
 refine tk1 7 fun K hK=>?_
 go_simp;refine (decimal11_any hi _ h2).mono ?_;rintro e wv2 ⟨y2,HY2,hy2,rfl,hq⟩;have ud2:=ud1.trans hq;clear hq;have hz2:y2.size≤20:=(by have:=itoa_len hi h2;omega);clear hy2;have fa2:¬ 9223372036854775807<6+y1.size+1+y2.size:=(by omega);have fa3:¬ 9223372036854775807<6+y1.size+1+y2.size+1:=(by omega);go_wp2_with fail
 refine tkK hK (HK.out _ ud2) fun hHeld=>?_
 clear hK K
 refine tkY 8 hHeld ?_
 refine tkY 9 hHeld ?_
 refine tk1 12 fun K hK=>?_
 go_simp;refine (text_ofD x _ F HFA.out.1 (by omega)).mono ?_;rintro e wv3 ⟨y3,HY3,hy3,rfl,hq⟩;have ud3:=ud2.trans hq;clear hq;have hz3:y3.size≤20:=(by have:=dec_le19 (u:=x) (by omega);omega);clear hy3;have fa4:¬ 9223372036854775807<6+y1.size+1+y2.size+1+y3.size:=(by omega);have fa5:¬ 9223372036854775807<6+y1.size+1+y2.size+1+y3.size+1:=(by omega);go_wp2_with fail
 refine tkK hK (HK.out _ ud3) fun hHeld=>?_
 clear hK K
 refine tkY 13 hHeld ?_
 refine tkY 14 hHeld ?_
 refine tk1 17 fun K hK=>?_
 go_simp;refine (text_ofD y _ A HFA.out.2 (by omega)).mono ?_;rintro e wv4 ⟨y4,HY4,hy4,rfl,hq⟩;have ud4:=ud3.trans hq;clear hq;have hz4:y4.size≤20:=(by have:=dec_le19 (u:=y) (by omega);omega);clear hy4;have fa6:¬ 9223372036854775807<6+y1.size+1+y2.size+1+y3.size+1+y4.size:=(by omega);go_wp2_with fail
 refine tkK hK (HK.out _ ud4) fun hHeld=>?_
 clear hK K
 refine tkY 18 hHeld ?_
 refine tkY 19 hHeld ?_
 refine wpAnyH_done (by kernel_rfl) ?_ _
 refine NoPanic.normal ?_
 go_wp2_with fail
 go_ret
 have hb:bs (ByteArray.mk #[99,108,97,105,109,32] ++ y1 ++ ByteArray.mk #[32] ++ y2 ++ ByteArray.mk #[32] ++ y3 ++ ByteArray.mk #[32] ++ y4)=claimGL lo hi x y:=by
  rw [claimGL_is]
  simp only [bs_append,HY1.out,HY2.out,HY3.out,HY4.out,show bs (ByteArray.mk #[32])=[32] from rfl,show bs (ByteArray.mk #[99,108,97,105,109,32])=wClm ++ [32] from rfl]
  simp
 exact ⟨_,hb,Nat.le_of_eq (bs_size hb),rfl,HU0.out.trans ud4⟩
theorem append_bytes2 (wr:World) (v:Value) (k:Nat) (l:List UInt8) (a b:UInt8) (hown:wr.ownsRow 0 5 1 v k (byteVals l)) (hk:k≤1000000) :
 ∃ v' w',(Builtin.append_ #[126,126] 126 #[v,.slice (some ⟨wr.heap.size,0,none⟩) 2 2]).run Tryz.prog (wr.alloc (.cells #[.int .u8 (a.toNat:Int),.int .u8 (b.toNat:Int)] 5))=.ok v' w'∧w'.ownsRow 0 5 1 v' (k+2) (byteVals (l ++ [a,b]))∧Upd (foot v) (foot v') wr w':=by
 obtain ⟨iu,u1,u2,u3,u4⟩:=u8_parts
 have hrow:(wr.alloc (.cells #[.int .u8 (a.toNat:Int),.int .u8 (b.toNat:Int)] 5)).ownsRow 0 5 1 v k (byteVals l):=row_same hown (fun j hj=>Below.heap_alloc _ _ _ (row_foot_lt hown j hj))
 have hw1:(wr.alloc (.cells #[.int .u8 (a.toNat:Int),.int .u8 (b.toNat:Int)] 5)).heap[wr.heap.size]? =some (.cells #[.int .u8 (a.toNat:Int),.int .u8 (b.toNat:Int)] 5 (0,0)):=heap_alloc_new _ _
 obtain ⟨v',w',hrun,hown',hup'⟩:=append_block (P:=Tryz.prog) (wr.alloc (.cells #[.int .u8 (a.toNat:Int),.int .u8 (b.toNat:Int)] 5)) 126 126 5 iu (.int .u8 0) 1 1 Tryz.underlying126 u1 u2 u3 u4 rfl (by omega) v k (byteVals l) hrow ⟨wr.heap.size,0,none⟩ 2 2 (byteVals [a,b]) rfl (by
  intro j u hj
  have e':(⟨wr.heap.size,0,none⟩:Addr).add j=⟨wr.heap.size,j,none⟩:=by simp [Addr.add];exact fun h=>h.symm
  rw [e',cell_of_row _ _ _ _ _ _ hw1,List.getElem?_toArray]
  exact hj) (byteVals_one _) (by omega) (by simp only [maxLen];omega)
 rw [byteVals_append]
 exact ⟨v',w',hrun,hown',((Upd.refl _ _).alloc _).trans hup'⟩
theorem hexDs_at (n:Nat) (h:n<16):(((⟨#[48,49,50,51,52,53,54,55,56,57,97,98,99,100,101,102]⟩:ByteArray)[n]'h).toNat:Int)=((hexD n).toNat:Int):=by
 have h':n=0∨n=1∨n=2∨n=3∨n=4∨n=5∨n=6∨n=7∨n=8∨n=9∨n=10∨n=11∨n=12∨n=13∨n=14∨n=15:=by omega
 rcases h' with rfl | rfl | rfl | rfl | rfl | rfl | rfl | rfl | rfl | rfl | rfl | rfl | rfl | rfl | rfl | rfl
 all_goals rfl
set_option maxHeartbeats 2000000 in
theorem hex07_any (s:ByteArray) (w:World) (hs:s.size≤100000):Calls Tryz.prog 184 #[.string s] w (MkS (hexL (bs s)) w):=by
 go_enter Tryz.func184,Tryz.ntmps184
 go_wp2_with fail
 go_loopw [4,5] (fun t i wr=>∃ k:Nat,i=.int .i64 (k:Int)∧k≤s.size∧Hid (wr.ownsRow 0 5 1 t (2 * k) (byteVals (hexL ((bs s).take k))))∧Hid (Upd [] (foot t) w wr)) (fun _ i _=>s.size - (intOf i).toNat)
 case atStart=>exact ⟨0,rfl,Nat.zero_le _,(by show World.ownsRow _ _ _ _ _ _ _;exact World.ownsRow_nil _ _ _ _),Upd.refl _ _⟩
 case round =>
  obtain ⟨k,rfl,hk,HR,HU⟩:=hrel
  by_cases hlt:k<s.size
  · have hb:=bs_get' s k hlt
    obtain ⟨b,hbE⟩:∃ b,b=s[k]:=⟨_,rfl⟩
    have hbT:(s[k].toNat:Int)=(b.toNat:Int):=by rw [hbE]
    rw [← hbE] at hb
    have hb256:b.toNat<256:=b.toNat_lt
    obtain ⟨x0,hx0⟩:∃ x0,x0=b.toNat / 16:=⟨_,rfl⟩
    obtain ⟨x1,hx1⟩:∃ x1,x1=b.toNat % 16:=⟨_,rfl⟩
    have v0:(b.toNat:Int).tdiv 16=(x0:Int):=by rw [Int.tdiv_eq_ediv_of_nonneg (by omega)];omega
    have v1:(b.toNat:Int).tmod 16=(x1:Int):=by rw [Int.tmod_eq_emod_of_nonneg (by omega)];omega
    have v4:IntKind.u8.wrap (x0:Int)=(x0:Int):=by unfold IntKind.wrap;simp [IntKind.bits,IntKind.signed];omega
    have v5:IntKind.u8.wrap (x1:Int)=(x1:Int):=by unfold IntKind.wrap;simp [IntKind.bits,IntKind.signed];omega
    have i0:(0:Int)≤(k:Int):=by omega
    have i1:(k:Int)<(s.size:Int):=by omega
    have x016:x0<16:=by omega
    have x116:x1<16:=by omega
    have j0:(x0:Int)<16:=by omega
    have j1:(x1:Int)<16:=by omega
    have d0:=hexDs_at x0 x016
    have d1:=hexDs_at x1 x116
    obtain ⟨t',w',hrun,hown',hup'⟩:=append_bytes2 wr.drew u4 (2 * k) (hexL ((bs s).take k)) (hexD x0) (hexD x1) (row_same HR.out (fun _ _=>rfl)) (by omega)
    have e1:hexL ((bs s).take k) ++ [hexD x0,hexD x1]=hexL ((bs s).take (k+1)):=by
     have e1:(bs s).take (k+1)=(bs s).take k ++ [b]:=by rw [List.take_add_one,hb];rfl
     rw [e1,hexL_snoc,← hx0,← hx1]
     try simp
    rw [e1] at hown'
    have HRN:=Lib.hid hrun
    have HOW:=Lib.hid hown'
    have HUP:=Lib.hid (HU.out.drew.trans hup')
    clear hx0 hx1 hb hbE hrun hown' hup' e1
    go_upto_region 6 with (fail)
    refine wp_region_noPanic ?_
    refine wp_region_held_drew (S:=fun _=>True) (by kernel_rfl) ?_ (fun hHeld=>?_)
    · trivial
    refine tkY 0 hHeld ?_
    refine tkY 1 hHeld ?_
    refine tkY 2 hHeld ?_
    refine tkY 3 hHeld ?_
    refine tkY 4 hHeld ?_
    refine tkY 5 hHeld ?_
    refine tkY 6 hHeld ?_
    refine tkY 7 hHeld ?_
    refine tkY 8 hHeld ?_
    refine tkY 9 hHeld ?_
    refine tkY 10 hHeld ?_
    refine tkY 11 hHeld ?_
    refine tkY 12 hHeld ?_
    refine tk1 13 fun K hK=>?_
    go_simp
    refine tkK hK (trivial) fun hHeld=>?_
    clear hK K
    refine tk1 14 fun K hK=>?_
    refine step_append_run _ rfl _ _ _ _ rfl u4 (.slice (some ⟨wr.drew.heap.size,0,none⟩) 2 2) t' w' rfl rfl HRN.out ?_
    refine tkK hK (trivial) fun hHeld=>?_
    clear hK K
    refine tkY 15 hHeld ?_
    refine wpAnyH_done (by kernel_rfl) ?_ _
    refine NoPanic.normal ?_
    go_wp2_with fail
    exact ⟨⟨k+1,by go_num,by omega,HOW.out,HUP.out⟩,(by first | (simp [intOf];done) | (simp [intOf];omega))⟩
  · obtain rfl:k=s.size:=by omega
    have hs:=HR.out
    rw [List.take_of_length_le (by rw [bs_length];omega)] at hs
    have hcv:=conv_row (P:=Tryz.prog) wr 126 9 5 Tryz.underlying126 Tryz.underlying5 Tryz.underlying9 u4 (hexL (bs s)) (by rw [hexL_len,bs_length];exact hs)
    have HCV:=Lib.hid hcv
    have HUF:=Lib.hid (HU.out.mono (fun _ h=>h) (fun _ h=>absurd h (by simp)):Upd [] [] w wr)
    clear hs hlt hk hcv HR HU
    go_wp2_with fail
    rw [HCV.out]
    go_wp2_with fail
    go_ret
    exact ⟨⟨(hexL (bs s)).toArray⟩,rfl,Nat.le_refl _,rfl,HUF.out⟩
end Go.Proofs.YtmjlkkbbnkanpaaGreatDoor
