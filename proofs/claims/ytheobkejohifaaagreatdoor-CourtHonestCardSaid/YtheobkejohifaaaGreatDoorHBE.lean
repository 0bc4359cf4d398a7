/- nat at numbers of one digit: Of, Text, Mul, Quo by the modulus, Cmp and what follows. -/
import Derived.Test.YtheobkejohifaaaGreatDoorHBD
import Derived.Test.YtheobkejohifaaaGreatDoorHAD
import Derived.Test.YtheobkejohifaaaGreatDoorHAT
import Derived.Test.YtheobkejohifaaaGreatDoorHBA
import Derived.Test.YtheobkejohifaaaGreatDoorHAA
namespace Go.Proofs.YtheobkejohifaaaGreatDoor
open Go.RowKit
set_option maxRecDepth 100000
theorem pbs (s:ByteArray) (d:Nat) (hs:bs s=be d) (h0:0<d) (hd:d<4294967296) (w:World):Calls Tryz.prog 34 #[.string s] w (fun e w'=>∃ v',Hid (Wd w' v' [d])∧e=.returned v'∧Upd [] [] w w'):=by
 have hsz:s.size≤1000000000:=by
  rw [← pac,hs]
  exact Nat.le_trans (paE 4 d (by simpa using hd)) (by omega)
 have h:=pbe s w hsz
 rw [hs,paK,pcr h0 hd] at h
 exact h
set_option maxHeartbeats 1000000 in
theorem pir (v:Value) (d:Nat) (w:World) (hv:Wd w v [d]) (hd:d<1000000000):Calls Tryz.prog 82 #[v,.int .u32 1000000000] w (fun e w'=>∃ v',Hid (Wd w' v' [])∧e=.returned (.tuple #[v',.int .u32 (d:Int)])∧Upd [] [] w w'):=by
 obtain ⟨g,cap,rfl,_,_,hg,c1⟩:=hv.one
 have hmk:(Instr.makeSlice 86 (.int .i64 1) (.int .i64 1)).run Tryz.prog w=.ok (.slice (some ⟨w.heap.size,0,none⟩) 1 1) (w.alloc (.cells (pco (List.replicate 1 0)).toArray 129)):=pbH w 1 (by omega)
 obtain ⟨w0,hw0⟩:∃ w0,w0=w.alloc (.cells (pco (List.replicate 1 0)).toArray 129):=⟨_,rfl⟩
 have b0:WB w0 w.heap.size [0]:=by rw [hw0];exact heap_alloc_new _ _
 have u0:Upd [] [] w w0:=by rw [hw0];exact (Upd.refl _ _).alloc _
 rw [← hw0] at hmk
 obtain ⟨G,hG⟩:∃ G,G=w.heap.size:=⟨_,rfl⟩
 rw [← hG] at hmk b0
 have d1:w0.cell? ⟨g,0,none⟩=some (.int .u32 (d:Int)):=(u0.cell hg (by simp)).trans c1
 have k0:w0.cell? ⟨G,0,none⟩=some (.int .u32 0):=b0.cell (j:=0) rfl
 have f0:=b0.frozen 0
 have b2:WB (w0.setCell ⟨G,0,none⟩ (.int .u32 0)) G [0]:=b0.set 0 0
 have u2:Upd [] [] w (w0.setCell ⟨G,0,none⟩ (.int .u32 0)):=u0.setNew (p:=⟨G,0,none⟩) (by rw [hG];exact Nat.le_refl _) _
 have hT:=pcq _ _ _ (b2.slice (by simp [maxLen])) (fun d hd=>by simp at hd;omega)
 rw [show valW [0]=0 from rfl,paW] at hT
 have HT:=Lib.hid hT
 have HU:=Lib.hid u2
 have e1:bits .or .u64 0 (d:Int)=(d:Int):=by
  show IntKind.u64.wrap ((BitVec.ofInt 64 0 ||| BitVec.ofInt 64 (d:Int)).toNat:Int)=_
  have e1:(BitVec.ofInt 64 (d:Int)).toNat=d:=by
   rw [BitVec.toNat_ofInt]
   show ((d:Int) % 18446744073709551616).toNat=_
   omega
  have e0:(BitVec.ofInt 64 0).toNat=0:=rfl
  rw [BitVec.toNat_or,e0,e1,Nat.zero_or]
  show (d:Int) % 18446744073709551616=_
  omega
 have e2:(d:Int) / 1000000000=0:=by omega
 have e2t:(d:Int).tdiv 1000000000=0:=by rw [Int.tdiv_eq_ediv_of_nonneg (by omega)];exact e2
 have e3:(d:Int) % 1000000000=(d:Int):=by omega
 have e3t:(d:Int).tmod 1000000000=(d:Int):=by rw [Int.tmod_eq_emod_of_nonneg (by omega)];exact e3
 have e4:(d:Int) % 18446744073709551616=(d:Int):=by omega
 have e5:(d:Int) % 4294967296=(d:Int):=by omega
 clear hv c1 hw0 u0 hT b2 u2 b0 hG hg
 go_enter Tryz.func82,Tryz.ntmps82
 go_wp2_with fail
 refine wp_loop_rounds 2 ?_
 rw [rounds_succ]
 go_wp2_with fail
 rw [rounds_succ]
 go_wp2_with fail
 refine HT.out.mono ?_
 rintro e w1 ⟨v,HV,rfl,rfl⟩
 go_wp2_with fail
 go_ret2
 exact ⟨v,HV,rfl,HU.out⟩
theorem pju (ao:Option Addr) (cap:Nat) (w:World):Calls Tryz.prog 84 #[.slice ao 1 cap] w (fun e w'=>e=.returned (.tuple #[])∧w=w'):=by
 go_enter Tryz.func84,Tryz.ntmps84
 go_wp2_with fail
 refine wp_loop_rounds 1 ?_
 rw [rounds_succ]
 go_wp2_with fail
 go_end0
 exact ⟨rfl,rfl⟩
theorem plu {w:World} {v:Value} {s:ByteArray} (h:paN w v [bs s]):∃ g cap,v=.slice (some ⟨g,0,none⟩) 1 cap∧1≤cap∧g<w.heap.size∧w.cell? ⟨g,0,none⟩=some (.string s):=by
 have h':w.ownsRow 0 9 1 v 1 [.string s]:=h
 obtain ⟨g,cap,cur,rfl,hg,h1,h2,h3,h4⟩:=pcd h' (by omega)
 refine ⟨g,cap,rfl,h1,(Array.getElem?_eq_some_iff.1 hg).1,?_⟩
 rw [cell_of_row _ _ _ _ _ _ hg]
 have e:(cur.toList.take (1 * 1))[0]? =some (.string s):=by rw [h4];rfl
 rw [List.getElem?_take_of_lt (by omega)] at e
 simpa using e
set_option maxHeartbeats 1000000 in
theorem pfv (s:ByteArray) (d:Nat) (hs:bs s=be d) (h0:0<d) (hd:d<1000000000) (w:World) (htab:Tabs w):Calls Tryz.prog 37 #[.string s] w (MkS (Lib.itoa (d:Int)) w):=by
 have HD:=Lib.hid (pbs s d hs h0 (by omega) w)
 have hl:=itoa_len (d:Int) (by unfold pab;omega)
 clear hs
 go_enter Tryz.func37,Tryz.ntmps37
 go_wp2_with fail
 refine HD.out.mono ?_
 rintro e w1 ⟨v1,HV1,rfl,hu1⟩
 obtain ⟨g,cap,rfl,_,_,_,_⟩:=HV1.out.one
 have HDD:=Lib.hid (pir _ d w1 HV1.out hd)
 have HU1:=Lib.hid hu1
 clear HD hu1
 go_wp2_with fail
 refine wp_loop_rounds 2 ?_
 rw [rounds_succ]
 go_wp2_with fail
 refine HDD.out.mono ?_
 rintro e w2 ⟨v2,HV2,rfl,hu2⟩
 obtain ⟨ao2,cap2,rfl⟩:=HV2.out.none'
 have HU2:=Lib.hid (HU1.out.trans hu2)
 clear hu2 HV1 HV2 HDD HU1
 go_wp2_with fail
 refine (paD (d:Int) w2 (by unfold pab;omega) (htab.upd HU2.out)).mono ?_
 rintro e w3 ⟨t,HT,htl,rfl,hu3⟩
 have HU3:=Lib.hid (HU2.out.trans hu3)
 obtain ⟨v4,w4,hrun,hrow,hup⟩:=pbp w3 (.slice none 0 0) [] t (pcV _) (by simp)
 have HRUN:=Lib.hid hrun
 obtain ⟨g4,cap4,rfl,hc4,hg4,c4⟩:=plu hrow
 have HC4:=Lib.hid (And.intro hc4 (And.intro hg4 c4))
 have hu4:Upd [] [] w3 w4:=⟨hup.os,hup.tape,hup.output,hup.size,fun k hk _=>hup.block k hk (by simp [foot,Value.ownBlock]),fun _ hk=>by simp at hk⟩
 have HU4:=Lib.hid (HU3.out.trans hu4)
 clear hu3 hrun hrow hup hc4 hg4 c4 hu4 HU2 HU3
 go_wp2_with (refine wpList_append_run _ rfl _ _ _ _ rfl _ _ _ w4 rfl rfl HRUN.out ?_)
 rw [rounds_succ]
 go_wp2_with fail
 refine (pju _ _ w4).mono ?_
 rintro e w5 ⟨rfl,rfl⟩
 go_wp2_with fail
 have hj:=Tryz.strings_Join g4 0 cap4 [t] ⟨#[]⟩ w4 (by
  intro j x hx
  match j,hx with
  | 0,hx=>simp at hx;subst hx;exact HC4.out.2.2) HC4.out.2.1 (by simp) HC4.out.1 (by
   show (Lib.join [bs t] []).length≤_
   simp [Lib.join]
   rw [HT.out]
   omega)
 refine hj.mono ?_
 rintro e w6 ⟨rfl,hb⟩
 have hu:=paA hb
 have HU:=Lib.hid (HU4.out.trans hu)
 have hbs:bs (⟨(Lib.join ([t].map (·.data.toList)) (⟨#[]⟩:ByteArray).data.toList).toArray⟩:ByteArray)=bs t:=by
  rw [pc8]
  show Lib.join [bs t] []=_
  simp [Lib.join]
 obtain ⟨R,hR⟩:∃ R:ByteArray,R=⟨(Lib.join ([t].map (·.data.toList)) (⟨#[]⟩:ByteArray).data.toList).toArray⟩:=⟨_,rfl⟩
 rw [← hR] at hbs ⊢
 have HB:=Lib.hid hbs
 clear hj hb hu hbs hR
 go_wp2_with fail
 go_ret
 exact ⟨R,by show _=_;rw [HB.out,HT.out],by rw [← HT.out,← HB.out,pac];exact Nat.le_refl _,rfl,HU.out⟩
theorem pnR (n:Int) (hn:pab n) (w:World):Calls Tryz.prog 12 #[.int .i64 n] w (pdb n.toNat w):=by
 obtain ⟨hn1,hn2⟩:=hn
 by_cases h0:n<0
 · have HR:Hid (bs (⟨#[]⟩:ByteArray)=be n.toNat):=by
    show _=_
    rw [show n.toNat=0 by omega,pbg]
    rfl
   go_enter Tryz.func12,Tryz.ntmps12
   go_wp2_with fail
   go_ret
   exact ⟨⟨#[]⟩,HR,rfl,Upd.refl _ _⟩
 · obtain ⟨d,rfl⟩:=Int.eq_ofNat_of_zero_le (show 0≤n by omega)
   rw [Int.toNat_natCast]
   have HS:=Lib.hid (pim d (by omega) w)
   have e1:(d:Int) % 18446744073709551616=(d:Int):=by omega
   go_enter Tryz.func12,Tryz.ntmps12
   go_wp2_with fail
   refine HS.out.mono ?_
   rintro e w1 ⟨v,HV,rfl,hu⟩
   have HN:=Lib.hid (paQ v (dw d) w1 HV.out (poU d) (Nat.le_trans (pih 2 d (by omega)) (by omega)))
   rw [pg6] at HN
   have HU:=Lib.hid hu
   clear hu HS
   go_wp2_with fail
   refine HN.out.mono ?_
   rintro e w2 ⟨r,HR,rfl,hu⟩
   have HU2:=Lib.hid (HU.out.trans hu)
   clear hu HN
   go_wp2_with fail
   go_ret
   exact ⟨r,HR,rfl,HU2.out⟩
theorem prf (a:Nat) (ha:a<4294967296):bits .or .u64 0 (a:Int)=(a:Int):=by
 have h:=prd (r:=0) ha (by omega)
 rw [Nat.zero_mul,Nat.zero_add] at h
 exact h
theorem pqm {x:Nat} (h:4294967296≤x) (hx:x<18446744073709551616):dw x=[x % 4294967296,x / 4294967296]:=by
 rw [pdd (by omega),pcr (by omega) (by omega)]
theorem Wd.two {w:World} {v:Value} {a b:Nat} (h:Wd w v [a,b]):∃ g cap,v=.slice (some ⟨g,0,none⟩) 2 cap∧2≤cap∧cap≤9223372036854775807∧g<w.heap.size∧w.cell? ⟨g,0,none⟩=some (.int .u32 (a:Int))∧w.cell? ⟨g,1,none⟩=some (.int .u32 (b:Int)):=by
 obtain ⟨ao,cap,rfl,h1,h2,h3⟩:=h
 rcases h3 with h3 | ⟨b,rfl,hb,hc⟩
 · simp at h3
 · exact ⟨b,cap,rfl,by simpa using h1,h2,hb,hc 0 _ rfl,hc 1 _ rfl⟩
def pqn (x:Nat) (w:World) (e:Ending) (w':World):Prop:=∃ v',Hid (Wd w' v' (dw (x / 1000000000)))∧Hid (∀ b,b∈foot v'→w.heap.size≤b)∧e=.returned (.tuple #[v',.int .u32 ((x % 1000000000:Nat):Int)])∧Upd [] [] w w'
set_option maxHeartbeats 1000000 in
theorem pfK (v:Value) (d:Nat) (w:World) (hv:Wd w v [d]) (hd:d<4294967296):Calls Tryz.prog 82 #[v,.int .u32 1000000000] w (pqn d w):=by
 obtain ⟨g,cap,rfl,_,_,hg,c1⟩:=hv.one
 have hmk:(Instr.makeSlice 86 (.int .i64 1) (.int .i64 1)).run Tryz.prog w=.ok (.slice (some ⟨w.heap.size,0,none⟩) 1 1) (w.alloc (.cells (pco (List.replicate 1 0)).toArray 129)):=pbH w 1 (by omega)
 obtain ⟨w0,hw0⟩:∃ w0,w0=w.alloc (.cells (pco (List.replicate 1 0)).toArray 129):=⟨_,rfl⟩
 have b0:WB w0 w.heap.size [0]:=by rw [hw0];exact heap_alloc_new _ _
 have u0:Upd [] [] w w0:=by rw [hw0];exact (Upd.refl _ _).alloc _
 rw [← hw0] at hmk
 obtain ⟨G,hG⟩:∃ G,G=w.heap.size:=⟨_,rfl⟩
 rw [← hG] at hmk b0
 obtain ⟨q,hq⟩:∃ q,q=d / 1000000000:=⟨_,rfl⟩
 obtain ⟨r,hr⟩:∃ r,r=d % 1000000000:=⟨_,rfl⟩
 have d1:w0.cell? ⟨g,0,none⟩=some (.int .u32 (d:Int)):=(u0.cell hg (by simp)).trans c1
 have k0:w0.cell? ⟨G,0,none⟩=some (.int .u32 0):=b0.cell (j:=0) rfl
 have f0:=b0.frozen 0
 have b2:WB (w0.setCell ⟨G,0,none⟩ (.int .u32 (q:Int))) G [q]:=b0.set 0 q
 have u2:Upd [] [] w (w0.setCell ⟨G,0,none⟩ (.int .u32 (q:Int))):=u0.setNew (p:=⟨G,0,none⟩) (by rw [hG];exact Nat.le_refl _) _
 have hT:=pg8 _ _ _ (b2.slice (by simp [maxLen])) (fun z hz=>by simp at hz;omega)
 rw [show valW [q]=q by simp [valW]] at hT
 have HT:=Lib.hid hT
 have HFG:Hid (∀ (v':Value) (n m:Nat),foot v'=foot (.slice (some ⟨G,0,none⟩) n m)→∀ b,b∈foot v'→w.heap.size≤b):=by
  intro v' n m h b hb
  rw [h] at hb
  have:b=G:=by simpa [foot,Value.ownBlock] using hb
  rw [this,hG]
  exact Nat.le_refl _
 have HU:=Lib.hid u2
 have e1:=prf d hd
 have e2:(d:Int) / 1000000000=(q:Int):=by omega
 have e2t:(d:Int).tdiv 1000000000=(q:Int):=by rw [Int.tdiv_eq_ediv_of_nonneg (by omega)];exact e2
 have e3:(d:Int) % 1000000000=(r:Int):=by omega
 have e3t:(d:Int).tmod 1000000000=(r:Int):=by rw [Int.tmod_eq_emod_of_nonneg (by omega)];exact e3
 have e4:(d:Int) % 18446744073709551616=(d:Int):=by omega
 have e5:(d:Int) % 4294967296=(d:Int):=by omega
 have e6:(q:Int) % 4294967296=(q:Int):=by omega
 have e7:(r:Int) % 4294967296=(r:Int):=by omega
 have e8:(r:Int) % 18446744073709551616=(r:Int):=by omega
 have e9:(q:Int) % 18446744073709551616=(q:Int):=by omega
 have HQ:=Lib.hid hq
 have HR:=Lib.hid hr
 clear hv c1 hw0 u0 hT b2 u2 b0 hG hg hq hr
 go_enter Tryz.func82,Tryz.ntmps82
 go_wp2_with fail
 refine wp_loop_rounds 2 ?_
 rw [rounds_succ]
 go_wp2_with fail
 rw [rounds_succ]
 go_wp2_with fail
 refine HT.out.mono ?_
 rintro e w1 ⟨v,HV,rfl,rfl⟩
 go_wp2_with fail
 go_ret2
 exact ⟨v,by rw [← HQ.out];exact HV.out.1,HFG.out v _ _ HV.out.2,by rw [← HR.out];rfl,HU.out⟩
set_option maxHeartbeats 2000000 in
theorem pis (v:Value) (a b:Nat) (w:World) (hv:Wd w v [a,b]) (ha:a<4294967296) (hb:b<4294967296):Calls Tryz.prog 82 #[v,.int .u32 1000000000] w (pqn (valW [a,b]) w):=by
 obtain ⟨g,cap,rfl,_,_,hg,c1,c2⟩:=hv.two
 have hmk:(Instr.makeSlice 86 (.int .i64 2) (.int .i64 2)).run Tryz.prog w=.ok (.slice (some ⟨w.heap.size,0,none⟩) 2 2) (w.alloc (.cells (pco (List.replicate 2 0)).toArray 129)):=pbH w 2 (by omega)
 obtain ⟨w0,hw0⟩:∃ w0,w0=w.alloc (.cells (pco (List.replicate 2 0)).toArray 129):=⟨_,rfl⟩
 have b0:WB w0 w.heap.size [0,0]:=by rw [hw0];exact heap_alloc_new _ _
 have u0:Upd [] [] w w0:=by rw [hw0];exact (Upd.refl _ _).alloc _
 rw [← hw0] at hmk
 obtain ⟨G,hG⟩:∃ G,G=w.heap.size:=⟨_,rfl⟩
 rw [← hG] at hmk b0
 obtain ⟨q1,hq1⟩:∃ q,q=b / 1000000000:=⟨_,rfl⟩
 obtain ⟨r1,hr1⟩:∃ r,r=b % 1000000000:=⟨_,rfl⟩
 obtain ⟨s1,hs1⟩:∃ s,s=r1 * 4294967296:=⟨_,rfl⟩
 obtain ⟨t,ht⟩:∃ t,t=r1 * 4294967296+a:=⟨_,rfl⟩
 obtain ⟨q0,hq0⟩:∃ q,q=t / 1000000000:=⟨_,rfl⟩
 obtain ⟨r0,hr0⟩:∃ r,r=t % 1000000000:=⟨_,rfl⟩
 have hdiv:=pql hr1 ht
 rw [← hq0,← hq1,← hr0] at hdiv
 have hgG:g≠G:=by omega
 have d1:w0.cell? ⟨g,0,none⟩=some (.int .u32 (a:Int)):=(u0.cell hg (by simp)).trans c1
 have d2:w0.cell? ⟨g,1,none⟩=some (.int .u32 (b:Int)):=(u0.cell hg (by simp)).trans c2
 have k0:w0.cell? ⟨G,0,none⟩=some (.int .u32 0):=b0.cell (j:=0) rfl
 have k1:w0.cell? ⟨G,1,none⟩=some (.int .u32 0):=b0.cell (j:=1) rfl
 have f0:=b0.frozen 0
 have f1:=b0.frozen 1
 have b2:WB ((w0.setCell ⟨G,1,none⟩ (.int .u32 (q1:Int))).setCell ⟨G,0,none⟩ (.int .u32 (q0:Int))) G [q0,q1]:=(b0.set 1 q1).set 0 q0
 have u2:Upd [] [] w ((w0.setCell ⟨G,1,none⟩ (.int .u32 (q1:Int))).setCell ⟨G,0,none⟩ (.int .u32 (q0:Int))):=(u0.setNew (p:=⟨G,1,none⟩) (by rw [hG];exact Nat.le_refl _) _).setNew (p:=⟨G,0,none⟩) (by rw [hG];exact Nat.le_refl _) _
 have hq0l:q0<4294967296:=by omega
 have hT:=pg8 _ _ _ (b2.slice (by simp [maxLen])) (fun z hz=>by simp at hz;omega)
 rw [hdiv.1] at hT
 have HT:=Lib.hid hT
 have HFG:Hid (∀ (v':Value) (n m:Nat),foot v'=foot (.slice (some ⟨G,0,none⟩) n m)→∀ b,b∈foot v'→w.heap.size≤b):=by
  intro v' n m h b hb
  rw [h] at hb
  have:b=G:=by simpa [foot,Value.ownBlock] using hb
  rw [this,hG]
  exact Nat.le_refl _
 have HU:=Lib.hid u2
 have HM:=Lib.hid hdiv.2
 have e1:=prf b hb
 have o2:bits .or .u64 (s1:Int) (a:Int)=(t:Int):=by
  rw [hs1,ht]
  exact prd ha (by omega)
 have e2:(b:Int) / 1000000000=(q1:Int):=by omega
 have e2t:(b:Int).tdiv 1000000000=(q1:Int):=by rw [Int.tdiv_eq_ediv_of_nonneg (by omega)];exact e2
 have e3:(b:Int) % 1000000000=(r1:Int):=by omega
 have e3t:(b:Int).tmod 1000000000=(r1:Int):=by rw [Int.tmod_eq_emod_of_nonneg (by omega)];exact e3
 have e4:(b:Int) % 18446744073709551616=(b:Int):=by omega
 have e4a:(a:Int) % 18446744073709551616=(a:Int):=by omega
 have e4t:(t:Int) % 18446744073709551616=(t:Int):=by omega
 have e4s:(s1:Int) % 18446744073709551616=(s1:Int):=by omega
 have e4r:(r1:Int) % 18446744073709551616=(r1:Int):=by omega
 have e4q:(q1:Int) % 18446744073709551616=(q1:Int):=by omega
 have e4p:(q0:Int) % 18446744073709551616=(q0:Int):=by omega
 have e4o:(r0:Int) % 18446744073709551616=(r0:Int):=by omega
 have e5:(r1:Int) * 4294967296=(s1:Int):=by omega
 have e6:(q1:Int) % 4294967296=(q1:Int):=by omega
 have e7:(r0:Int) % 4294967296=(r0:Int):=by omega
 have e8:(q0:Int) % 4294967296=(q0:Int):=by omega
 have e9:(t:Int) / 1000000000=(q0:Int):=by omega
 have e9t:(t:Int).tdiv 1000000000=(q0:Int):=by rw [Int.tdiv_eq_ediv_of_nonneg (by omega)];exact e9
 have e0:(t:Int) % 1000000000=(r0:Int):=by omega
 have e0t:(t:Int).tmod 1000000000=(r0:Int):=by rw [Int.tmod_eq_emod_of_nonneg (by omega)];exact e0
 clear hv c1 c2 hw0 u0 hT b2 u2 b0 hG hg hq0 hq1 hr0 hr1 hs1 ht hdiv hq0l
 go_enter Tryz.func82,Tryz.ntmps82
 go_wp2_with fail
 refine wp_loop_rounds 3 ?_
 rw [rounds_succ]
 go_wp2_with fail
 rw [rounds_succ]
 go_wp2_with fail
 rw [rounds_succ]
 go_wp2_with fail
 refine HT.out.mono ?_
 rintro e w1 ⟨v,HV,rfl,rfl⟩
 go_wp2_with fail
 go_ret2
 exact ⟨v,HV.out.1,HFG.out v _ _ HV.out.2,by rw [← HM.out];rfl,HU.out⟩
theorem pit (v:Value) (x:Nat) (w:World) (hv:Wd w v (dw x)) (h0:0<x) (hx:x<18446744073709551616):Calls Tryz.prog 82 #[v,.int .u32 1000000000] w (pqn x w):=by
 by_cases h:x<4294967296
 · rw [pcr h0 h] at hv
   exact pfK v x w hv h
 · rw [pqm (by omega) hx] at hv
   have e:valW [x % 4294967296,x / 4294967296]=x:=by simp only [valW];omega
   have k:=pis v _ _ w hv (by omega) (by omega)
   rw [e] at k
   exact k
theorem plv {w0 w4:World} {g n:Nat} (u:Upd [] [] w0 w4) (hg:w0.heap.size≤g) (d:Array (List UInt8)):Upd [] [] w0 (Sort.putRow encStr (Sort.ahead w4 n) g 0 d):=by
 refine ⟨u.os,u.tape,u.output,?_,fun k hk _=>?_,fun _ h=>absurd h (by simp)⟩
 · rw [Sort.size_putRow]
   exact u.size
 · have hne:¬ g=k:=by omega
   show ((Sort.ahead w4 n).heap.modify g _)[k]? =_
   rw [Array.getElem?_modify,if_neg hne]
   exact u.block k hk (by simp)
theorem piu:∀ c:Nat,Lib.repeatL [48] c=List.replicate c (48:UInt8):=by
 intro c
 induction c with
 | zero=>rfl
 | succ c ih=>rw [Lib.repeatL,ih,List.replicate_succ];rfl
theorem plw {y k x:Nat} (h:y * 1000000000 ^ k≤x) (h0:0<y) (hx:x<9223372036854775808):k<3:=by
 by_cases hk:k<3
 · exact hk
 · have h1:1000000000 ^ 3≤1000000000 ^ k:=Nat.pow_le_pow_right (by omega) (by omega)
   have h2:1 * 1000000000 ^ k≤y * 1000000000 ^ k:=Nat.mul_le_mul_right _ h0
   omega
theorem pjv {y k x:Nat} (h:y * 1000000000 ^ k≤x):y / 1000000000 * 1000000000 ^ (k+1)≤x:=by
 rw [Nat.pow_succ,Nat.mul_comm (1000000000 ^ k),← Nat.mul_assoc]
 exact Nat.le_trans (Nat.mul_le_mul_right _ (Nat.div_mul_le_self y 1000000000)) h
theorem pec {y:Nat} (h:0<y):0<(dw y).length:=by
 rw [pdd h]
 simp
theorem paN.form2 {w:World} {v:Value} {ss:List (List UInt8)} (h:paN w v ss):∃ ao cap,v=.slice ao ss.length cap∧ss.length≤cap∧cap≤9223372036854775807:=by
 obtain ⟨ao,cap,e,h1,h2⟩:=paj h
 exact ⟨ao,cap,e,h1,h2⟩
theorem paN.formS {w:World} {v:Value} {ss:List (List UInt8)} {x:List UInt8} (h:paN w v (ss ++ [x])):∃ ao cap,v=.slice ao (ss.length+1) cap:=by
 obtain ⟨ao,cap,e,_⟩:=h.form2
 rw [List.length_append] at e
 exact ⟨ao,cap,e⟩
theorem Wd.past {w w':World} {v:Value} {l:List Nat} {S S':List Nat} (h:Wd w v l) (u:Upd S S' w w') (hd:∀ b,b∈foot v→b ∉ S):Wd w' v l:=by
 obtain ⟨ao,cap,rfl,h1,h2,h3⟩:=h
 refine ⟨ao,cap,rfl,h1,h2,?_⟩
 rcases h3 with h3 | ⟨b,rfl,hb,hc⟩
 · exact .inl h3
 · exact .inr ⟨b,rfl,Nat.lt_of_lt_of_le hb u.size,fun j d hj=>(u.cell hb (hd b (by simp [foot,Value.ownBlock]))).trans (hc j d hj)⟩
theorem paN.holds {w:World} {v:Value} {ss:List (List UInt8)} (h:paN w v ss) (h0:0<ss.length):∃ g cap,v=.slice (some ⟨g,0,none⟩) ss.length cap∧ss.length≤cap∧g<w.heap.size∧Sort.Holds encStr w g 0 ss.toArray:=by
 have h':w.ownsRow 0 9 1 v ss.length (pcv ss):=h
 obtain ⟨g,cap,cur,rfl,hg,h1,h2,h3,h4⟩:=pcd h' h0
 refine ⟨g,cap,rfl,h1,(Array.getElem?_eq_some_iff.1 hg).1,fun j hj=>?_⟩
 have hj':j<ss.length:=by simpa using hj
 rw [Nat.zero_add]
 refine ⟨?_,frozen_of_row _ _ _ _ _ hg⟩
 rw [cell_of_row _ _ _ _ _ _ hg]
 have e:(cur.toList.take (ss.length * 1))[j]? =some (strV ss[j]):=by
  rw [h4,pcv,List.getElem?_map,List.getElem?_eq_getElem hj']
  rfl
 rw [List.getElem?_take_of_lt (by omega)] at e
 have e2:ss.toArray[j]! = ss[j]:=by simp [hj']
 rw [e2]
 simpa [strV] using e
theorem pfL {w:World} {g n:Nat} {ss:List (List UInt8)} (h:Sort.Holds encStr w g 0 ss.toArray):∀ (j:Nat) (x:ByteArray),(ss.reverse.map (fun l=>(⟨l.toArray⟩:ByteArray)))[j]? =some x→(Sort.putRow encStr (Sort.ahead w n) g 0 ss.reverse.toArray).cell? ⟨g,0+j,none⟩=some (.string x):=by
 intro j x hx
 have hk:=Sort.holds_putRow encStr (Sort.ahead w n) g 0 ss.toArray ss.reverse.toArray h (by simp)
 rw [List.getElem?_map] at hx
 obtain ⟨l,hl,rfl⟩:=Option.map_eq_some_iff.1 hx
 obtain ⟨hj,hl2⟩:=List.getElem?_eq_some_iff.1 hl
 have e:=(hk j (by simpa using hj)).1
 rw [e]
 have e2:ss.reverse.toArray[j]! = l:=by
  rw [getElem!_pos _ j (by simpa using hj)]
  exact hl2
 rw [e2]
set_option maxHeartbeats 4000000 in
theorem pfw (s:ByteArray) (x:Nat) (hs:bs s=be x) (hx:x<9223372036854775808) (w:World) (htab:Tabs w):Calls Tryz.prog 37 #[.string s] w (MkS (Lib.decDigits x) w):=by
 have hsz:s.size≤8:=by
  rw [← pac,hs]
  exact paE 8 x (Nat.lt_of_lt_of_le hx (by decide))
 have hd:=pbe s w (by omega)
 rw [hs,paK] at hd
 have HD:=Lib.hid hd
 clear hd hs
 have hl19:=pc0 (u:=x) (by omega)
 go_enter Tryz.func37,Tryz.ntmps37
 go_wp2_with fail
 refine HD.out.mono ?_
 rintro e w1 ⟨v1,HV1,rfl,hu1⟩
 obtain ⟨ao,cap,rfl,hc1,hc2⟩:=HV1.out.form
 have HU1:=Lib.hid hu1
 clear HD hu1
 by_cases h0:x=0
 · subst h0
   rw [paW] at HV1 hc1 ⊢
   have HR:Hid (bs (⟨#[48]⟩:ByteArray)=Lib.decDigits 0):=by
    show _=_
    rw [Lib.decDigits_one (by omega)]
    rfl
   rw [show ([]:List Nat).length=0 from rfl]
   go_wp2_with fail
   go_ret
   exact ⟨⟨#[48]⟩,HR.out,Nat.le_of_eq (paT HR.out),rfl,HU1.out⟩
 obtain ⟨L0,hL0⟩:∃ L,L=(dw x).length:=⟨_,rfl⟩
 have hLp:0<L0:=by rw [hL0];exact pec (by omega)
 have hLb:((L0:Int) == 0)=false:=by rw [beq_eq_false_iff_ne];omega
 have HV0:=Lib.hid HV1.out
 rw [← hL0] at hc1 ⊢
 have HI0:Hid (Wd w1 (.slice ao L0 cap) (dw x)):=by
  show Wd _ _ _
  rw [hL0]
  exact HV1.out
 have hr9:phb x=Lib.decDigits x:=by unfold phb;rw [if_neg h0]
 have HR9:=Lib.hid hr9
 clear hL0 HV1 HV0 hr9
 go_wp2_with fail
 go_loopw [3,4,5,6] (fun xv o _ _ wr=>∃ (y k:Nat) (Gs:List (List UInt8)),k=Gs.length∧k≤3∧y≤x∧Hid (y * 1000000000 ^ k≤x)∧Hid (Wd wr xv (dw y))∧Hid (phb y ++ Gs.reverse.flatten=Lib.decDigits x)∧Hid (paN wr o Gs)∧Hid (Upd [] (foot o) w1 wr)) (fun _ o _ _ _=>4 - pmj o)
 case atStart=>exact ⟨x,0,[],rfl,Nat.zero_le _,Nat.le_refl _,by show _≤_;simp,HI0.out,by show _=_;rw [HR9.out];simp,pcV w1,Upd.refl _ _⟩
 case round =>
  obtain ⟨y,k,Gs,hkG,hk3,hyx,HP,HX,HT,HR,HU⟩:=hrel
  have hup0:Upd [] [] w1 wr:=HU.out.mono (fun _ h=>h) (fun _ h=>absurd h (by simp))
  by_cases hy:0<y
  · have hk:k<3:=plw HP.out hy hx
    have hlp:0<(dw y).length:=pec hy
    obtain ⟨bo,cbp,rfl,hb1,hb2⟩:=HX.out.form
    obtain ⟨oo,ocp,rfl,ho1,ho2⟩:=HR.out.form2
    have HDV:=Lib.hid (pit _ y wr HX.out hy (by omega))
    obtain ⟨L,hL⟩:∃ L,L=(dw y).length:=⟨_,rfl⟩
    rw [← hL] at hlp HDV hb1 ⊢
    obtain ⟨r,hr⟩:∃ r,r=y % 1000000000:=⟨_,rfl⟩
    obtain ⟨y1,hy1⟩:∃ y1,y1=y / 1000000000:=⟨_,rfl⟩
    have hr9:r<1000000000:=by omega
    have HUP:=Lib.hid hup0
    have HP1:Hid (y1 * 1000000000 ^ (k+1)≤x):=by
     show _≤_
     rw [hy1]
     exact pjv HP.out
    have hy1x:y1≤x:=by omega
    have HOL:Hid (∀ b,b∈foot (.slice oo Gs.length ocp)→b<wr.heap.size):=fun b hb=>HR.out.lt b hb
    have HRE:=Lib.hid hr
    have HYE:=Lib.hid hy1
    clear hL HX hup0 hr hy1
    go_wp2_with fail
    refine HDV.out.mono ?_
    rintro e w2 ⟨v',HV,HF,rfl,hq⟩
    rw [← HRE.out]
    rw [← HYE.out] at HV
    obtain ⟨co,ccp,rfl,hc1',hc2'⟩:=HV.out.form
    obtain ⟨L1,hL1⟩:∃ L,L=(dw y1).length:=⟨_,rfl⟩
    have HVV:Hid (Wd w2 (.slice co L1 ccp) (dw y1)):=by
     show Wd _ _ _
     rw [hL1]
     exact HV.out
    rw [← hL1] at hc1' HF ⊢
    have HU2:=Lib.hid (HUP.out.trans hq)
    have HRW2:=Lib.hid (HR.out.same (fun j hj=>hq.block j (HR.out.lt j hj) (by simp)))
    have HUW2:=Lib.hid (HU.out.trans (hq.widen (K:=foot (.slice oo Gs.length ocp)) (by simp)))
    have wrr:IntKind.i64.wrap (r:Int)=(r:Int):=pap (by omega) (by omega)
    have HL1:=Lib.hid hL1
    clear hq HR HU HV HDV HUP hL1
    go_wp2_with fail
    refine (paD (r:Int) w2 (by unfold pab;omega) (htab.upd (HU1.out.trans HU2.out))).mono ?_
    rintro e w3 ⟨t,HT2,htl,rfl,hq⟩
    rw [pne] at HT2
    have ht9:t.size≤9:=by
     rw [paT HT2.out]
     exact pe3 8 r (by rw [show (10:Nat) ^ (8+1)=1000000000 by decide];exact hr9)
    have HU3:=Lib.hid (HU2.out.trans hq)
    have HRW3:=Lib.hid (HRW2.out.same (fun j hj=>hq.block j (HRW2.out.lt j hj) (by simp)))
    have HUW3:=Lib.hid (HUW2.out.trans (hq.widen (K:=foot (.slice oo Gs.length ocp)) (by simp)))
    have HVX:=Lib.hid (HVV.out.upd hq)
    clear hq htl HU2 HRW2 HUW2 HVV
    by_cases hbig:1000000000≤y
    · have hL1p:0<L1:=by rw [HL1.out];exact pec (by have:=HYE.out;omega)
      obtain ⟨c,hc⟩:∃ c,c=9 - t.size:=⟨_,rfl⟩
      have c9:(9:Int) - (t.size:Int)=(c:Int):=by omega
      have wc:IntKind.i64.wrap (c:Int)=(c:Int):=pap (by omega) (by omega)
      have HCC:=Lib.hid hc
      have hc9:c≤9:=by omega
      clear hc
      go_wp2_with fail
      refine (Tryz.strings_Repeat ⟨#[48]⟩ c w3 (by omega) (by show 1 * c≤_;omega)).mono ?_
      rintro e w4 ⟨rfl,hb4⟩
      have hq:=paA hb4
      obtain ⟨Z,hZ⟩:∃ Z:ByteArray,Z=⟨(Lib.repeatL (ByteArray.mk #[48]).data.toList c).toArray⟩:=⟨_,rfl⟩
      rw [← hZ]
      have hZb:bs Z=List.replicate c 48:=by rw [hZ,pc8];exact piu c
      have hZs:Z.size≤9:=by rw [paT hZb,List.length_replicate];exact hc9
      have HG:Hid (bs (Z ++ t)=grp y):=by
       show _=_
       rw [pqk hbig,pae,hZb,HT2.out,← HRE.out,HCC.out,paT HT2.out]
      have HRW4:=HRW3.out.same (fun j hj=>hq.block j (HRW3.out.lt j hj) (by simp))
      obtain ⟨v5,w5,hrun,hrow,hup⟩:=pbp w4 _ Gs (Z ++ t) HRW4 (by omega)
      have HRUN:=Lib.hid hrun
      have HUW5:=Lib.hid ((HUW3.out.trans (hq.widen (K:=foot (.slice oo Gs.length ocp)) (by simp))).trans hup)
      obtain ⟨po,pcp,rfl⟩:=hrow.formS
      have HROW:=Lib.hid hrow
      have hup5:Upd [] [] w1 w5:=HUW5.out.mono (fun _ h=>h) (fun _ h=>absurd h (by simp))
      have HVX5:Hid (Wd w5 (.slice co L1 ccp) (dw y1)):=(HVX.out.upd hq).past hup (fun b hb hb2=>by have h1:=HF.out b hb;have h2:=HOL.out b hb2;omega)
      have HTT:Hid (phb y1 ++ (Gs ++ [bs (Z ++ t)]).reverse.flatten=Lib.decDigits x):=by
       show _=_
       rw [← HT.out,pkC hy,← HYE.out,HG.out]
       simp
      clear hb4 hq hZ hZb hrun hrow hup HRW4 HRW3 HUW3 HVX HT HCC
      go_wp2_with (refine wpList_append_run _ rfl _ _ _ _ rfl _ _ _ w5 rfl rfl HRUN.out ?_)
      exact ⟨⟨y1,k+1,Gs ++ [bs (Z ++ t)],by rw [List.length_append,hkG];rfl,by omega,by omega,HP1.out,HVX5.out,HTT.out,HROW.out,HUW5.out⟩,by simp [pmj];omega⟩
    · have hy1z:y1=0:=by have:=HYE.out;omega
      have hL1z:L1=0:=by rw [HL1.out,hy1z,paW];rfl
      have HG:Hid (bs t=grp y):=by
       show _=_
       rw [poX (by omega),HT2.out,← HRE.out]
      obtain ⟨v5,w5,hrun,hrow,hup⟩:=pbp w3 _ Gs t HRW3.out (by omega)
      have HRUN:=Lib.hid hrun
      have HUW5:=Lib.hid (HUW3.out.trans hup)
      obtain ⟨po,pcp,rfl⟩:=hrow.formS
      have HROW:=Lib.hid hrow
      have HVX5:Hid (Wd w5 (.slice co L1 ccp) (dw y1)):=HVX.out.past hup (fun b hb hb2=>by have h1:=HF.out b hb;have h2:=HOL.out b hb2;omega)
      have HTT:Hid (phb y1 ++ (Gs ++ [bs t]).reverse.flatten=Lib.decDigits x):=by
       show _=_
       rw [← HT.out,pkC hy,← HYE.out,HG.out]
       simp
      subst hL1z
      clear hrun hrow hup HRW3 HUW3 HVX HT hy1z
      go_wp2_with (refine wpList_append_run _ rfl _ _ _ _ rfl _ _ _ w5 rfl rfl HRUN.out ?_)
      exact ⟨⟨y1,k+1,Gs ++ [bs t],by rw [List.length_append,hkG];rfl,by omega,hy1x,HP1.out,HVX5.out,HTT.out,HROW.out,HUW5.out⟩,by simp [pmj];omega⟩
  · have hy0:y=0:=by omega
    have hfl:=HT.out
    rw [hy0,show phb 0=[] from rfl,List.nil_append] at hfl
    have hGp:0<Gs.length:=by
     cases hG:Gs with
     | nil =>
      rw [hG] at hfl
      exact absurd hfl.symm (pjP x)
     | cons a r=>simp
    have hx0:=HX.out
    rw [hy0,paW] at hx0
    obtain ⟨bo,cbp,rfl⟩:=hx0.none'
    obtain ⟨g,cp,rfl,hcp,hgl,hH⟩:=HR.out.holds hGp
    have hgn:w1.heap.size≤g:=by
     rcases HU.out.new g (by simp [foot,Value.ownBlock]) with h | h
     · simp at h
     · exact h
    have HRV:=Lib.hid (Tryz.slices_Reverse_string g 0 cp Gs wr hH (by omega))
    have HCL:=Lib.hid (fun n=>pfL (n:=n) hH)
    have HUPR:=Lib.hid (fun n=>plv (n:=n) hup0 hgn Gs.reverse.toArray)
    have HSZ:Hid (∀ n,g<(Sort.putRow encStr (Sort.ahead wr n) g 0 Gs.reverse.toArray).heap.size):=fun n=>by rw [Sort.size_putRow];exact hgl
    have HFL:=Lib.hid hfl
    clear hH hgn hup0 HU HR HX HT hfl hx0 hy
    go_wp2_with fail
    refine HRV.out.mono ?_
    rintro e w5 ⟨rfl,n,rfl⟩
    have hcl:=HCL.out n
    have hu5:=HUPR.out n
    have hs5:=HSZ.out n
    obtain ⟨w5,hw5⟩:∃ W,W=Sort.putRow encStr (Sort.ahead wr n) g 0 Gs.reverse.toArray:=⟨_,rfl⟩
    rw [← hw5] at hcl hu5 hs5 ⊢
    have hjb:Lib.join ((Gs.reverse.map (fun l=>(⟨l.toArray⟩:ByteArray))).map (·.data.toList)) (⟨#[]⟩:ByteArray).data.toList=Lib.decDigits x:=by
     show Lib.join _ []=_
     rw [join_nil,List.map_map,show (Gs.reverse.map ((fun b:ByteArray=>b.data.toList) ∘ fun l=>(⟨l.toArray⟩:ByteArray)))=Gs.reverse by simp [Function.comp_def]]
     exact HFL.out
    have hj:=Tryz.strings_Join g 0 cp (Gs.reverse.map (fun l=>(⟨l.toArray⟩:ByteArray))) ⟨#[]⟩ w5 hcl hs5 (by simp;omega) (by simpa using hcp) (by rw [hjb];omega)
    rw [hjb,List.length_map,List.length_reverse] at hj
    have HJ:=Lib.hid hj
    have HU5:=Lib.hid hu5
    clear hj hjb hcl hu5 hs5 hw5 HRV HCL HUPR HSZ
    go_wp2_with fail
    refine HJ.out.mono ?_
    rintro e w6 ⟨rfl,hb⟩
    have hu:=paA hb
    obtain ⟨T,hT⟩:∃ T:ByteArray,T=⟨(Lib.decDigits x).toArray⟩:=⟨_,rfl⟩
    rw [← hT]
    have HTB:Hid (bs T=Lib.decDigits x):=by show _=_;rw [hT,pc8]
    have HUF:=Lib.hid (HU1.out.trans (HU5.out.trans hu))
    clear hb hu hT
    go_wp2_with fail
    go_ret
    exact ⟨T,HTB,Nat.le_of_eq (paT HTB.out),rfl,HUF.out⟩
theorem pfy (d:Nat) (h0:0<d) (hd:d<4294967296) (w:World):Calls Tryz.prog 12 #[.int .i64 (d:Int)] w (pdb d w):=by
 have HS:=Lib.hid (pim d (by omega) w)
 have e1:(d:Int) % 18446744073709551616=(d:Int):=by omega
 have i0:¬ (d:Int)<0:=by omega
 go_enter Tryz.func12,Tryz.ntmps12
 go_wp2_with fail
 refine HS.out.mono ?_
 rintro e w1 ⟨v,HV,rfl,hu⟩
 have HN:=Lib.hid (paQ v (dw d) w1 HV.out (poU d) (by rw [pcr h0 hd];simp))
 rw [pg6] at HN
 have HU:=Lib.hid hu
 clear hu HS
 go_wp2_with fail
 refine HN.out.mono ?_
 rintro e w2 ⟨r,HR,rfl,hu⟩
 have HU2:=Lib.hid (HU.out.trans hu)
 clear hu HN
 go_wp2_with fail
 go_ret
 exact ⟨r,HR,rfl,HU2.out⟩
theorem poY (s t:ByteArray) (hs:bs s=be 3) (ht:bs t=be 3) (w:World):Calls Tryz.prog 13 #[.string s,.string t] w (pdb 9 w):=by
 have HS:=Lib.hid (pbs s 3 hs (by omega) (by omega) w)
 have HT:=Lib.hid (fun w'=>pbs t 3 ht (by omega) (by omega) w')
 clear hs ht
 go_enter Tryz.func13,Tryz.ntmps13
 go_wp2_with fail
 refine HS.out.mono ?_
 rintro e w1 ⟨v,HV,rfl,hu1⟩
 have HU1:=Lib.hid hu1
 clear hu1 HS
 go_wp2_with fail
 refine (HT.out w1).mono ?_
 rintro e w2 ⟨u,HU,rfl,hu2⟩
 have HM:=Lib.hid (prM v u w2 (HV.out.upd hu2) HU.out)
 have HU2:=Lib.hid (HU1.out.trans hu2)
 clear hu2 HT HU1 HV HU
 go_wp2_with fail
 refine HM.out.mono ?_
 rintro e w3 ⟨z,HZ,rfl,hu3⟩
 have HN:=Lib.hid (paQ z [9] w3 HZ.out (fun d hd=>by simp at hd;omega) (by simp))
 rw [show valW [9]=9 from rfl] at HN
 have HU3:=Lib.hid (HU2.out.trans hu3)
 clear hu3 HM HU2 HZ
 go_wp2_with fail
 refine HN.out.mono ?_
 rintro e w4 ⟨r,HR,rfl,hu4⟩
 have HU4:=Lib.hid (HU3.out.trans hu4)
 clear hu4 HN HU3
 go_wp2_with fail
 go_ret
 exact ⟨r,HR,rfl,HU4.out⟩
def modB:ByteArray:=⟨#[138,0,176,218,162,135,68,214,164,195,198,36,84,110,75,89]⟩
theorem pcc:4294967296≤natB (bs modB):=by decide
theorem pev {n:Nat} (h:4294967296≤n):2≤(dw n).length:=by
 rw [pdd (by omega),List.length_cons,pdd (by omega),List.length_cons]
 omega
theorem poZ (s:ByteArray) (d:Nat) (hs:bs s=be d) (h0:0<d) (hd:d<4294967296) (w:World) :
 Calls Tryz.prog 230 #[.string s,.string ⟨#[138,0,176,218,162,135,68,214,164,195,198,36,84,110,75,89]⟩] w (fun e w'=>∃ q r:ByteArray,Hid (bs r=be d)∧e=.returned (.tuple #[.string q,.string r,.bool true])∧Upd [] [] w w'):=by
 have HM:=Lib.hid (pbe modB w (by decide))
 have HS:=Lib.hid (fun w'=>pbs s d hs h0 hd w')
 have HDV:Hid (∀ (u v:Value) (w:World),Wd w u [d]→Wd w v (dw (natB (bs modB)))→Calls Tryz.prog 265 #[u,v] w (fun e w'=>e=.returned (.tuple #[.slice none 0 0,u])∧Upd [] [] w w')):=by
  intro u v w hu hv
  have HC:=Lib.hid (pdv u v _ _ w hu hv (by have:=pev pcc;show 1<_;omega))
  clear hu hv
  go_enter Tryz.func265,Tryz.ntmps265
  go_wp2_with fail
  refine HC.out.mono ?_
  rintro e w1 ⟨rfl,hu⟩
  have HU:=Lib.hid hu
  clear hu
  go_wp2_with fail
  go_ret2
  exact ⟨rfl,HU.out⟩
 clear hs
 go_enter Tryz.func230,Tryz.ntmps230
 go_wp2_with fail
 refine HM.out.mono ?_
 rintro e w1 ⟨v,HV,rfl,hu1⟩
 obtain ⟨ao,cap,rfl,_,_⟩:=HV.out.form
 have hne:((((dw (natB (bs modB))).length:Nat):Int) == 0)=false:=by rw [beq_eq_false_iff_ne];have:=pev pcc;omega
 obtain ⟨L,hL⟩:∃ L,L=(dw (natB (bs modB))).length:=⟨_,rfl⟩
 rw [← hL] at hne HV ⊢
 have hne2:(L == 0)=false:=by rw [beq_eq_false_iff_ne,hL];have:=pev pcc;omega
 have hne3:¬ L=0:=by rw [hL];have:=pev pcc;omega
 have HU1:=Lib.hid hu1
 clear hu1 HM hL
 go_wp2_with fail
 refine (HS.out w1).mono ?_
 rintro e w2 ⟨u,HUU,rfl,hu2⟩
 have HD:=Lib.hid (HDV.out u _ w2 HUU.out (HV.out.upd hu2))
 have HU2:=Lib.hid (HU1.out.trans hu2)
 clear hu2 HS HU1 HDV HV hne hne2 hne3
 go_wp2_with fail
 refine HD.out.mono ?_
 rintro e w3 ⟨rfl,hu3⟩
 have HN0:=Lib.hid (paQ (.slice none 0 0) [] w3 (Wd.nil w3) pjs (by simp))
 have HN1:=Lib.hid (fun w' (q:Upd [] [] w3 w')=>paQ u [d] w' ((HUU.out.upd hu3).upd q) (fun d hd=>by simp at hd;omega) (by simp))
 have HU3:=Lib.hid (HU2.out.trans hu3)
 clear hu3 HD HU2 HUU
 go_wp2_with fail
 refine HN0.out.mono ?_
 rintro e w4 ⟨q,_,rfl,hu4⟩
 have HN:=Lib.hid (HN1.out w4 hu4)
 rw [show valW [d]=d by simp [valW]] at HN
 have HU4:=Lib.hid (HU3.out.trans hu4)
 clear hu4 HN0 HN1 HU3
 go_wp2_with fail
 refine HN.out.mono ?_
 rintro e w5 ⟨r,HR,rfl,hu5⟩
 have HU5:=Lib.hid (HU4.out.trans hu5)
 clear hu5 HN HU4
 go_wp2_with fail
 go_ret3
 exact ⟨q,r,HR,rfl,HU5.out⟩
theorem pkD (s:ByteArray) (d:Nat) (hs:bs s=be d) (h0:0<d) (hd:d<4294967296) (w:World):Calls Tryz.prog 193 #[.string s] w (pdb d w):=by
 have HQ:=Lib.hid (poZ s d hs h0 hd w)
 clear hs
 go_enter Tryz.func193,Tryz.ntmps193
 go_wp2_with fail
 refine HQ.out.mono ?_
 rintro e w1 ⟨q,r,HR,rfl,hu⟩
 have HU:=Lib.hid hu
 clear hu HQ
 go_wp2_with fail
 go_ret
 exact ⟨r,HR,rfl,HU.out⟩
theorem pqo (s:ByteArray) (hs:bs s=be 3) (w:World):Calls Tryz.prog 150 #[.string s] w (pdb 9 w):=by
 have HQ:=Lib.hid (pkD s 3 hs (by omega) (by omega) w)
 clear hs
 go_enter Tryz.func150,Tryz.ntmps150
 go_wp2_with fail
 refine HQ.out.mono ?_
 rintro e w1 ⟨r,HR,rfl,hu⟩
 have HM:=Lib.hid (poY r r HR.out HR.out w1)
 have HU:=Lib.hid hu
 clear hu HQ
 go_wp2_with fail
 refine HM.out.mono ?_
 rintro e w2 ⟨z,HZ,rfl,hu⟩
 have HT:=Lib.hid (pkD z 9 HZ.out (by omega) (by omega) w2)
 have HU2:=Lib.hid (HU.out.trans hu)
 clear hu HM HU
 go_wp2_with fail
 refine HT.out.mono ?_
 rintro e w3 ⟨y,HY,rfl,hu⟩
 have HU3:=Lib.hid (HU2.out.trans hu)
 clear hu HT HU2
 go_wp2_with fail
 go_ret
 exact ⟨y,HY,rfl,HU3.out⟩
theorem pjw (s t:ByteArray) (d:Nat) (hs:bs s=be d) (ht:bs t=be d) (h0:0<d) (hd:d<4294967296) (w:World):Calls Tryz.prog 149 #[.string s,.string t] w (pfu 0 w):=by
 have HS:=Lib.hid (pbs s d hs h0 hd w)
 have HT:=Lib.hid (fun w'=>pbs t d ht h0 hd w')
 clear hs ht
 go_enter Tryz.func149,Tryz.ntmps149
 go_wp2_with fail
 refine HS.out.mono ?_
 rintro e w1 ⟨v,HV,rfl,hu1⟩
 have HU1:=Lib.hid hu1
 clear hu1 HS
 go_wp2_with fail
 refine (HT.out w1).mono ?_
 rintro e w2 ⟨u,HU,rfl,hu2⟩
 have HM:=Lib.hid (pet v u d w2 (HV.out.upd hu2) HU.out)
 have HU2:=Lib.hid (HU1.out.trans hu2)
 clear hu2 HT HU1 HV HU
 go_wp2_with fail
 refine HM.out.mono ?_
 rintro e w3 ⟨rfl,hu3⟩
 have HU3:=Lib.hid (HU2.out.trans hu3)
 clear hu3 HM HU2
 go_wp2_with fail
 go_ret
 exact ⟨rfl,HU3.out⟩
theorem pjx (s t:ByteArray) (d c:Nat) (hs:bs s=be d) (ht:bs t=be c) (h0:0<d) (hdc:d<c) (hc:c<4294967296) (w:World):Calls Tryz.prog 149 #[.string s,.string t] w (pfu (-1) w):=by
 have HS:=Lib.hid (pbs s d hs h0 (by omega) w)
 have HT:=Lib.hid (fun w'=>pbs t c ht (by omega) hc w')
 clear hs ht
 go_enter Tryz.func149,Tryz.ntmps149
 go_wp2_with fail
 refine HS.out.mono ?_
 rintro e w1 ⟨v,HV,rfl,hu1⟩
 have HU1:=Lib.hid hu1
 clear hu1 HS
 go_wp2_with fail
 refine (HT.out w1).mono ?_
 rintro e w2 ⟨u,HU,rfl,hu2⟩
 have HM:=Lib.hid (peu v u d c w2 (HV.out.upd hu2) HU.out hdc)
 have HU2:=Lib.hid (HU1.out.trans hu2)
 clear hu2 HT HU1 HV HU
 go_wp2_with fail
 refine HM.out.mono ?_
 rintro e w3 ⟨rfl,hu3⟩
 have HU3:=Lib.hid (HU2.out.trans hu3)
 clear hu3 HM HU2
 go_wp2_with fail
 go_ret
 exact ⟨rfl,HU3.out⟩
section
variable {M : Array Value} {aw ar as' bw br bs' low high id pub : Int} {aT bT F A B : ByteArray}
theorem po0 {M:Array Value} {g:Nat} {W:World} (hs:M.size=29) (h:W.heap[g]? =some (.cells M 103 (0,0))):(Instr.loadAt 103 (.pointer (some ⟨g,0,none⟩))).run Tryz.prog W=.ok (.agg M) W:=by
 have hi:(Tryz.prog.info? 103).map (·.size)=some M.toList.length:=by rw [Array.length_toList];exact pku hs
 exact run_loadAt_mid W g 0 103 M.toList _ (pbM (by simp) h) Tryz.underlying103 rfl hi
set_option maxHeartbeats 4000000 in
theorem peR (h:MtIs M aw aT ar as' bw bT br bs' low high F A B id pub) (hp:pab pub) (hr:pab ar) (hs:pab as') (ht:aT.size≤140737488355000) (hr2:pab br) (hs2:pab bs') (ht2:bT.size≤140737488355000) (w:World) (htab:Tabs w) :
 Calls Tryz.prog 91 #[.agg M] w (MkB ((decide (aw=id) && verB pub (bs aT) ar as') && (decide (bw=id) && verB pub (bs bT) br bs')) w):=by
 obtain ⟨g,hg⟩:∃ g,w.heap.size=g:=⟨_,rfl⟩
 obtain ⟨w0,hw0⟩:∃ W,w.alloc (.cells M 103)=W:=⟨_,rfl⟩
 have r0:=Lib.hid (show w0.heap[g]? =some (.cells M 103 (0,0)) by rw [← hg,← hw0];exact heap_alloc_new _ _)
 have u0:=Lib.hid (show Upd [] [] w w0 by rw [← hw0];exact (Upd.refl _ _).alloc _)
 have HT:=Lib.hid (peb h aw ar as' aT hp hr hs ht w0 (htab.upd u0.out))
 have HT2:=Lib.hid (fun W (u:Upd [] [] w W)=>peb h bw br bs' bT hp hr2 hs2 ht2 W (htab.upd u))
 have HI:=Lib.hid (pku h.sz)
 have HS:=Lib.hid h.sz
 have HC:Hid (∀ W,Upd [] [] w0 W→W.cell? ⟨g,12,none⟩=some (.int .i64 bw)∧W.cell? ⟨g,13,none⟩=some (.string bT)∧W.cell? ⟨g,14,none⟩=some (.int .i64 br)∧W.cell? ⟨g,15,none⟩=some (.int .i64 bs')):=by
  intro W u
  have q:=paa r0.out u
  exact ⟨(cell_of_row _ g 12 _ _ _ q).trans h.b0,(cell_of_row _ g 13 _ _ _ q).trans h.b1,(cell_of_row _ g 14 _ _ _ q).trans h.b2,(cell_of_row _ g 15 _ _ _ q).trans h.b3⟩
 have c0:=(cell_of_row _ g 8 _ _ _ r0.out).trans h.a0
 have c1:=(cell_of_row _ g 9 _ _ _ r0.out).trans h.a1
 have c2:=(cell_of_row _ g 10 _ _ _ r0.out).trans h.a2
 have c3:=(cell_of_row _ g 11 _ _ _ r0.out).trans h.a3
 clear h
 go_enter Tryz.func91,Tryz.ntmps91
 go_wp2_with (first | (refine wpList_load_row rfl 103 _ rfl g rfl _ M _ _ r0.out Tryz.underlying103 rfl HI.out ?_))
 refine HT.out.mono ?_
 rintro e w1 ⟨b,HB,rfl,hq⟩
 have U1:=Lib.hid (u0.out.trans hq)
 have R1:=Lib.hid (paa r0.out hq)
 have ML:=Lib.hid (po0 HS.out R1.out)
 obtain ⟨d0,d1,d2,d3⟩:=HC.out w1 hq
 clear hq HT c0 c1 c2 c3 r0
 cases b with
 | false =>
  go_wp2_with fail
  go_ret
  exact ⟨false,by show _=_;rw [← HB.out,Bool.false_and],rfl,U1.out⟩
 | true =>
  go_wp2_with (first | (refine wpList_load_want (by rfl) 103 _ rfl g rfl M ML.out ?_))
  refine (HT2.out w1 U1.out).mono ?_
  rintro e w2 ⟨b,HB2,rfl,hq⟩
  have U2:=Lib.hid (U1.out.trans hq)
  clear hq HT2
  go_wp2_with fail
  go_ret
  exact ⟨b,by show _=_;rw [← HB.out,Bool.true_and,HB2.out],rfl,U2.out⟩
theorem ped (h:MtIs M aw aT ar as' bw bT br bs' low high F A B id pub) (q:Bool) (w:World) (hC:∀ W,Upd [] [] w W→Calls Tryz.prog 93 #[.string aT,.string bT] W (Mk (.bool q) W)) :
 Calls Tryz.prog 92 #[.agg M] w (Mk (.bool q) w):=by
 obtain ⟨g,hg⟩:∃ g,w.heap.size=g:=⟨_,rfl⟩
 obtain ⟨w0,hw0⟩:∃ W,w.alloc (.cells M 103)=W:=⟨_,rfl⟩
 have r0:w0.heap[g]? =some (.cells M 103 (0,0)):=by rw [← hg,← hw0];exact heap_alloc_new _ _
 have u0:=Lib.hid (show Upd [] [] w w0 by rw [← hw0];exact (Upd.refl _ _).alloc _)
 have c0:=(cell_of_row _ g 9 _ _ _ r0).trans h.a1
 have c1:=(cell_of_row _ g 13 _ _ _ r0).trans h.b1
 have HC:=Lib.hid (hC w0 u0.out)
 clear h r0 hC
 go_enter Tryz.func92,Tryz.ntmps92
 go_wp2_with fail
 refine HC.out.mono ?_
 rintro e w1 ⟨rfl,hq⟩
 have U1:=Lib.hid (u0.out.trans hq)
 clear hq HC
 go_wp2_with fail
 go_ret
 exact ⟨rfl,U1.out⟩
end
def wClm:List UInt8:=[99,108,97,105,109]
def pbI (lo hi:Int) (x y:Nat):List UInt8:=Lib.join [wClm,Lib.itoa lo,Lib.itoa hi,Lib.decDigits x,Lib.decDigits y] [32]
theorem pgp (lo hi:Int) (x y:Nat):pbI lo hi x y=wClm ++ 32 :: (Lib.itoa lo ++ 32 :: (Lib.itoa hi ++ 32 :: (Lib.decDigits x ++ 32 :: Lib.decDigits y))):=by
 simp [Lib.join,List.intercalate_cons_cons,pbI]
theorem pdw {lo hi:Int} {x y:Nat} (h1:pab lo) (h2:pab hi) (h3:x≤9223372036854775808) (h4:y≤9223372036854775808):(pbI lo hi x y).length≤100:=by
 rw [pgp]
 have:=itoa_len lo h1
 have:=itoa_len hi h2
 have:=pc0 h3
 have:=pc0 h4
 simp [wClm]
 omega
def dspG (lo hi:Int) (F A B:ByteArray):Array Value:=#[.int .i64 lo,.int .i64 hi,.string F,.string A,.string B]
set_option maxHeartbeats 4000000 in
theorem ppr (lo hi:Int) (F A B:ByteArray) (x y:Nat) (h1:pab lo) (h2:pab hi) (hF:bs F=be x) (hA:bs A=be y) (hx:x<9223372036854775808) (hy:y<9223372036854775808) (w:World) (htab:Tabs w):Calls Tryz.prog 15 #[.agg (dspG lo hi F A B)] w (MkS (pbI lo hi x y) w):=by
 obtain ⟨g,hg⟩:∃ g,w.heap.size=g:=⟨_,rfl⟩
 obtain ⟨w0,hw0⟩:∃ W,w.alloc (.cells (dspG lo hi F A B) 61)=W:=⟨_,rfl⟩
 have r0:w0.heap[g]? =some (.cells (dspG lo hi F A B) 61 (0,0)):=by rw [← hg,← hw0];exact heap_alloc_new _ _
 have HU0:=Lib.hid (show Upd [] [] w w0 by rw [← hw0];exact (Upd.refl _ _).alloc _)
 have HK:Hid (∀ W,Upd [] [] w0 W→W.cell? ⟨g,0,none⟩=some (.int .i64 lo)∧W.cell? ⟨g,1,none⟩=some (.int .i64 hi)∧W.cell? ⟨g,2,none⟩=some (.string F)∧W.cell? ⟨g,3,none⟩=some (.string A)):=by
  intro W u
  have q:=paa r0 u
  exact ⟨cell_of_row _ g 0 _ _ _ q,cell_of_row _ g 1 _ _ _ q,cell_of_row _ g 2 _ _ _ q,cell_of_row _ g 3 _ _ _ q⟩
 have ud0:Upd [] [] w0 w0.drew:=(Upd.refl _ _).drew
 have HDL:=Lib.hid (pdw h1 h2 (Nat.le_of_lt hx) (Nat.le_of_lt hy))
 have HFA:=Lib.hid (And.intro hF hA)
 clear r0 hF hA
 go_enter Tryz.func15,Tryz.ntmps15
 go_upto_region 1 with (fail)
 refine wp_region_noPanic ?_
 refine wp_region_held_drew (S:=fun wp=>wp.cell? ⟨g,0,none⟩=some (.int .i64 lo)∧wp.cell? ⟨g,1,none⟩=some (.int .i64 hi)∧wp.cell? ⟨g,2,none⟩=some (.string F)∧wp.cell? ⟨g,3,none⟩=some (.string A)) (by kernel_rfl) ?_ (fun hHeld=>?_)
 · exact HK.out _ ud0
 refine tkY 0 hHeld ?_
 refine tkY 1 hHeld ?_
 refine tkY 3 hHeld ?_
 refine tkY 4 hHeld ?_
 refine tkY 6 hHeld ?_
 refine tkY 7 hHeld ?_
 refine tkY 9 hHeld ?_
 refine tkY 10 hHeld ?_
 refine tk1 2 fun K hK=>?_
 go_simp;refine (paD lo _ h1 (htab.upd (HU0.out.trans ud0))).mono ?_;rintro e wv1 ⟨y1,HY1,_,rfl,hq⟩;have ud1:=ud0.trans hq;clear hq;go_wp2_with fail
 refine tkK hK (HK.out _ ud1) fun hHeld=>?_
 clear hK K
 refine tk1 5 fun K hK=>?_
 go_simp;refine (paD hi _ h2 (htab.upd (HU0.out.trans ud1))).mono ?_;rintro e wv2 ⟨y2,HY2,_,rfl,hq⟩;have ud2:=ud1.trans hq;clear hq;go_wp2_with fail
 refine tkK hK (HK.out _ ud2) fun hHeld=>?_
 clear hK K
 refine tk1 8 fun K hK=>?_
 go_simp;refine (pfw F x HFA.out.1 hx _ (htab.upd (HU0.out.trans ud2))).mono ?_;rintro e wv3 ⟨y3,HY3,_,rfl,hq⟩;have ud3:=ud2.trans hq;clear hq;go_wp2_with fail
 refine tkK hK (HK.out _ ud3) fun hHeld=>?_
 clear hK K
 refine tk1 11 fun K hK=>?_
 go_simp;refine (pfw A y HFA.out.2 hy _ (htab.upd (HU0.out.trans ud3))).mono ?_;rintro e wv4 ⟨y4,HY4,_,rfl,hq⟩;have ud4:=ud3.trans hq;clear hq;go_wp2_with fail
 refine tkK hK (HK.out _ ud4) fun hHeld=>?_
 clear hK K
 refine tk1 12 fun K hK=>?_
 go_simp
 refine tkK hK (HK.out _ (ud4.alloc _)) fun hHeld=>?_
 clear hK K
 refine tkY 13 hHeld ?_
 refine wpAnyH_done (by kernel_rfl) ?_ _
 refine NoPanic.normal ?_
 go_wp2_with fail
 have hXS:=pd3 wv4 [⟨#[99,108,97,105,109]⟩,y1,y2,y3,y4] 9
 have hjoin:Lib.join (([⟨#[99,108,97,105,109]⟩,y1,y2,y3,y4]:List ByteArray).map bs) [32]=pbI lo hi x y:=by
  show Lib.join [_,bs y1,bs y2,bs y3,bs y4] [32]=_
  rw [HY1.out,HY2.out,HY3.out,HY4.out]
  rfl
 have hj:=Tryz.strings_Join wv4.heap.size 0 5 [⟨#[99,108,97,105,109]⟩,y1,y2,y3,y4] ⟨#[32]⟩ _ hXS.2 hXS.1 (by simp) (by simp) (by
  show (Lib.join (_) [32]).length≤_
  have e:=congrArg List.length hjoin
  exact Nat.le_trans (Nat.le_of_eq e) (by have:=HDL.out;omega))
 refine hj.mono ?_
 rintro e w9 ⟨rfl,hb⟩
 have hu:=paA hb
 obtain ⟨T,hT⟩:∃ T:ByteArray,T=⟨(Lib.join (([⟨#[99,108,97,105,109]⟩,y1,y2,y3,y4]:List ByteArray).map (·.data.toList)) (⟨#[32]⟩:ByteArray).data.toList).toArray⟩:=⟨_,rfl⟩
 rw [← hT]
 have HB:Hid (bs T=pbI lo hi x y):=by
  show _=_
  rw [hT,pc8]
  exact hjoin
 have HU:=Lib.hid ((HU0.out.trans (ud4.alloc _)).trans hu)
 clear hj hXS hjoin hb hu hT
 go_wp2_with fail
 go_ret
 exact ⟨T,HB,by rw [← HB.out,pac];exact Nat.le_refl _,rfl,HU.out⟩
end Go.Proofs.YtheobkejohifaaaGreatDoor
