/- deal.At: the public value of commitments and what follows. -/
import Derived.Test.YtheobkejohifaaaGreatDoorHAX
import Derived.Test.YtheobkejohifaaaGreatDoorHAR
import Derived.Shelf.RegionOpen
import Derived.RangeFuncLeaves
import Derived.Test.YtheobkejohifaaaGreatDoorHAA
import Derived.Test.YtheobkejohifaaaGreatDoorHAW
import Derived.Test.YtheobkejohifaaaGreatDoorHAS
import Derived.Test.YtheobkejohifaaaGreatDoorHAL
import Derived.Test.YtheobkejohifaaaGreatDoorHAU
namespace Go.Proofs.YtheobkejohifaaaGreatDoor
open Go.RowKit
attribute [local go_sem] Oper.semAt_some
set_option maxRecDepth 100000
def prF (N x:Nat) (w:World) (e:Ending) (w':World):Prop:=∃ bn bx:Nat,Hid (w.heap.size≤bn∧w.heap.size≤bx∧w'.heap[bn]? =some (.cells #[.int .i64 (N:Int)] 3 (0,0))∧w'.heap[bx]? =some (.cells #[.int .i64 (x:Int)] 3 (0,0)))∧e=.returned (.func (.func 286) #[] #[.pointer (some ⟨bn,0,none⟩),.pointer (some ⟨bx,0,none⟩)])∧Upd [] [] w w'
theorem plp (N x:Nat) (w:World):Calls Tryz.prog 263 #[.int .i64 (N:Int),.int .i64 (x:Int)] w (prF N x w):=by
 obtain ⟨g,hg⟩:∃ g,w.heap.size=g:=⟨_,rfl⟩
 obtain ⟨w0,hw0⟩:∃ W,w.alloc (.cells #[.int .i64 (N:Int)] 3)=W:=⟨_,rfl⟩
 have r0:w0.heap[g]? =some (.cells #[.int .i64 (N:Int)] 3 (0,0)):=by rw [← hg,← hw0];exact heap_alloc_new _ _
 have u0:Upd [] [] w w0:=by rw [← hw0];exact (Upd.refl _ _).alloc _
 obtain ⟨g2,hg2⟩:∃ g,w0.heap.size=g:=⟨_,rfl⟩
 obtain ⟨w1,hw1⟩:∃ W,w0.alloc (.cells #[.int .i64 (x:Int)] 3)=W:=⟨_,rfl⟩
 have r1:w1.heap[g2]? =some (.cells #[.int .i64 (x:Int)] 3 (0,0)):=by rw [← hg2,← hw1];exact heap_alloc_new _ _
 have u1:Upd [] [] w0 w1:=by rw [← hw1];exact (Upd.refl _ _).alloc _
 have HR:Hid (w.heap.size≤g∧w.heap.size≤g2∧w1.heap[g]? =some (.cells #[.int .i64 (N:Int)] 3 (0,0))∧w1.heap[g2]? =some (.cells #[.int .i64 (x:Int)] 3 (0,0))):=⟨by omega,by have:=u0.size;omega,paa r0 u1,r1⟩
 have HU:=Lib.hid (u0.trans u1)
 clear r0 r1 u0 u1
 go_enter Tryz.func263,Tryz.ntmps263
 go_wp2_with fail
 go_ret
 exact ⟨g,g2,HR,rfl,HU.out⟩
def atL (cs:List Nat) (x:Nat):Nat→Nat
 | 0=>1
 | k+1=>atL cs x k * pP (cs.getD k 0) (pwQ x k) % Pn
theorem ppn (cs:List Nat) (x:Nat):∀ k,atL cs x k<2305843009213691579
 | 0=>by show 1<_;decide
 | k+1=>Nat.mod_lt _ (by unfold Pn;decide)
structure AtSt (B:Nat) (w1 W:World) (gC gP bn bx:Nat) (C:Value) (N x y:Nat):Prop where
 sz:B≤W.heap.size
 c:W.heap[gC]? =some (.cells #[C] 22 (0,0))
 p:W.heap[gP]? =some (.cells #[.int .i64 (y:Int)] 3 (0,0))
 n:W.heap[bn]? =some (.cells #[.int .i64 (N:Int)] 3 (0,0))
 x:W.heap[bx]? =some (.cells #[.int .i64 (x:Int)] 3 (0,0))
 up:Upd [] [] w1 W
theorem Upd.putNew {w W:World} (h:Upd [] [] w W) {r:Nat} (hr:w.heap.size≤r) (o:Obj):Upd [] [] w (W.putObj r o) :=
 ⟨h.os,h.tape,h.output,(by have:=h.size;simpa using this),fun k hk hn=>(World.putObj_heap_other (by omega)).trans (h.block k hk hn),h.new⟩
theorem AtSt.put {B:Nat} {w1 W:World} {gC gP bn bx:Nat} {C:Value} {N x y r:Nat} (h:AtSt B w1 W gC gP bn bx C N x y) (h1:gC<r) (h2:gP<r) (h3:bn<r) (h4:bx<r) (hr:w1.heap.size≤r) (o:Obj):AtSt B w1 (W.putObj r o) gC gP bn bx C N x y :=
 ⟨by have:=h.sz;simpa using this,(World.putObj_heap_other (by omega)).trans h.c,(World.putObj_heap_other (by omega)).trans h.p,(World.putObj_heap_other (by omega)).trans h.n,(World.putObj_heap_other (by omega)).trans h.x,h.up.putNew hr o⟩
theorem AtSt.set {B:Nat} {w1 W w3:World} {gC gP bn bx:Nat} {C:Value} {N x y:Nat} (h:AtSt B w1 W gC gP bn bx C N x y) (u:Upd [] [] W w3) (h1:gC<gP) (h2:gP<bn) (h3:gP<bx) (h4:w1.heap.size≤gC) (z:Nat) :
 AtSt B w1 (w3.setCell ⟨gP,0,none⟩ (.int .i64 (z:Int))) gC gP bn bx C N x z∧∀ j,j<W.heap.size→j≠gP→(w3.setCell ⟨gP,0,none⟩ (.int .i64 (z:Int))).heap[j]? =W.heap[j]?:=by
 have ot:∀ j,j<W.heap.size→j≠gP→(w3.setCell ⟨gP,0,none⟩ (.int .i64 (z:Int))).heap[j]? =W.heap[j]?:=fun j hj hn=>(heap_setCell_other w3 _ _ _ hn).trans (u.block j hj (by simp))
 have q1:=pag h.c
 have q3:=pag h.n
 have q4:=pag h.x
 have hp:=heap_setCell_same w3 gP 0 _ _ (.int .i64 (z:Int)) (paa h.p u)
 refine ⟨⟨?_,(ot gC q1 (by omega)).trans h.c,hp,(ot bn q3 (by omega)).trans h.n,(ot bx q4 (by omega)).trans h.x,(h.up.trans u).setNew (p:=⟨gP,0,none⟩) (by show _≤gP;omega) _⟩,ot⟩
 rw [World.size_setCell]
 exact Nat.le_trans h.sz u.size
set_option maxHeartbeats 4000000 in
theorem pq8 (C:Value) (cs:List Nat) (x:Nat) (w:World) (hC:Sl w C cs) (hc:∀ c∈cs,c≤9223372036854775807) (hl:cs.length≤1000000) (hx:x≤9223372036854775807) :
 Calls Tryz.prog 228 #[C,.int .i64 (x:Int)] w (Mk (.int .i64 (atL cs x cs.length:Int)) w):=by
 obtain ⟨gC,hgC⟩:∃ g,w.heap.size=g:=⟨_,rfl⟩
 obtain ⟨w0,hw0⟩:∃ W,w.alloc (.cells #[C] 22)=W:=⟨_,rfl⟩
 have r0:w0.heap[gC]? =some (.cells #[C] 22 (0,0)):=by rw [← hgC,← hw0];exact heap_alloc_new _ _
 have u0:Upd [] [] w w0:=by rw [← hw0];exact (Upd.refl _ _).alloc _
 obtain ⟨ca,cc,rfl,_,_⟩:=hC.form
 obtain ⟨N,hN⟩:∃ N,N=cs.length:=⟨_,rfl⟩
 rw [← hN] at r0 hw0 hC hl ⊢
 have HN:=Lib.hid hN
 have HC:=Lib.hid hC
 have HCB:=Lib.hid hc
 obtain ⟨gP,hgP⟩:∃ g,w0.heap.size=g:=⟨_,rfl⟩
 obtain ⟨w1,hw1⟩:∃ W,w0.alloc (.cells #[.int .i64 1] 3)=W:=⟨_,rfl⟩
 have r1:w1.heap[gP]? =some (.cells #[.int .i64 1] 3 (0,0)):=by rw [← hgP,← hw1];exact heap_alloc_new _ _
 have u1:Upd [] [] w0 w1:=by rw [← hw1];exact (Upd.refl _ _).alloc _
 have HR0:=Lib.hid (paa r0 u1)
 have HR1:=Lib.hid r1
 have HU1:=Lib.hid (u0.trans u1)
 have HGP:Hid (gC<gP∧w.heap.size≤gC):=⟨by rw [← hgP];exact pag r0,Nat.le_of_eq hgC⟩
 have c0:w1.cell? ⟨gC,0,none⟩=some (.slice ca N cc):=cell_of_row _ gC 0 _ _ _ HR0.out
 have HPW:=Lib.hid (plp N x w1)
 clear hN hC hc r0 u0 r1 u1
 refine callsIn_wide.1 (callsIn_of_wp_marks (n:=0) Tryz.func228 rfl trivial ?_ rfl)
 refine wpIn_wide.2 ?_
 simp only [Tryz.ntmps228,List.size_toArray,List.length_cons,List.length_nil,Nat.reduceAdd,Nat.reduceSub,Array.replicate_succ,Array.replicate_zero,List.push_toArray,List.append_toArray,List.nil_append,List.cons_append]
 go_wp2_with fail
 refine HPW.out.mono ?_
 rintro e w2 ⟨bn,bx,HB,rfl,hq⟩
 have HS2:Hid (AtSt 0 w w2 gC gP bn bx (.slice ca N cc) N x (atL cs x 0)):=⟨Nat.zero_le _,paa HR0.out hq,paa HR1.out hq,HB.out.2.2.1,HB.out.2.2.2,HU1.out.trans hq⟩
 have HBB:Hid (gP<bn∧gP<bx):=by
  have h1:=pag HR1.out
  have:=HB.out.1
  have:=HB.out.2.1
  exact ⟨by omega,by omega⟩
 clear hq HB HPW
 go_wp2_with fail
 have q1:=pag HS2.out.c
 have q2:=pag HS2.out.p
 have q3:=pag HS2.out.n
 have q4:=pag HS2.out.x
 have q5:=HS2.out.up.size
 have HQ5:=Lib.hid (And.intro q1 (And.intro q2 (And.intro q3 (And.intro q4 q5))))
 refine pfr bn bx N x rfl hl hx (fun k W=>AtSt (w2.heap.size+2) w W gC gP bn bx (.slice ca N cc) N x (atL cs x k)) ?hI ?hput ?h0 ?a1 ?hassign ?hon ?hdone
 case hassign=>intro x y W K hK;gi_wp2;exact hK
 case hI=>intro k W h;exact ⟨cell_of_row _ bn 0 _ _ _ h.n,cell_of_row _ bx 0 _ _ _ h.x⟩
 case hput=>intro k W o h;exact h.put (by omega) (by omega) (by omega) (by omega) (by omega) o
 case h0 =>
  intro o
  have h:=HS2.out
  have a1:Upd [] [] w2 ((w2.alloc (.deferred (some []))).alloc o):=((Upd.refl _ _).alloc _).alloc _
  exact ⟨(by simp),paa h.c a1,paa h.p a1,paa h.n a1,paa h.x a1,h.up.trans a1⟩
 case hon =>
  intro k W h hlt
  clear q1 q2 q3 q4 q5
  obtain ⟨c,hc⟩:∃ c,cs[k]? =some c:=⟨_,List.getElem?_eq_getElem (by rw [← HN.out];exact hlt)⟩
  have hcb:=HCB.out c (List.mem_of_getElem? hc)
  obtain ⟨y,hy⟩:∃ y,y=atL cs x k:=⟨_,rfl⟩
  have hyl:y≤9223372036854775807:=by rw [hy];have:=ppn cs x k;omega
  obtain ⟨p,hp⟩:∃ p,p=pwQ x k:=⟨_,rfl⟩
  have hpl:p≤9223372036854775807:=by rw [hp];have:=ppm x k;omega
  have HNX:Hid (atL cs x (k+1)=y * pP c p % Pn):=by
   show _=_
   rw [atL,← hy,← hp,show cs.getD k 0=c by rw [List.getD_eq_getElem?_getD,hc];rfl]
  rw [← hy] at h
  rw [← hp]
  obtain ⟨cb,rfl,hcc⟩:=(HC.out.upd h.up).get hc
  have HH:=Lib.hid h
  have e0:W.cell? ⟨gC,0,none⟩=some (.slice (some ⟨cb,0,none⟩) N cc):=cell_of_row _ gC 0 _ _ _ h.c
  have e1:W.cell? ⟨gP,0,none⟩=some (.int .i64 (y:Int)):=cell_of_row _ gP 0 _ _ _ h.p
  have e2:W.frozen? ⟨gP,0,none⟩=false:=frozen_of_row _ gP 0 _ _ h.p
  have i0:(0:Int)≤(k:Int):=by omega
  have i1:(k:Int)<(N:Int):=by omega
  have HPC:=Lib.hid (fun W=>pmD c p 2305843009213691579 W hcb hpl rfl)
  have HMC:=Lib.hid (fun (r:Nat) (hr:r≤9223372036854775807) W=>pi1 y r W hyl hr)
  have hmix:Tryz.prog.follows .mixedOrders=true:=by kernel_rfl
  clear h hy hp hc hcb
  gi_wp2
  gi_region_with_o (first | (refine ⟨trivial,rfl,?_⟩;gi_at_call 135;refine (CallsIn.inRound (w2.heap.size+1) (callsIn_wide.2 (HPC.out _))).mono ?_;rintro e w3 ⟨r,HR,hr,rfl,hq⟩;have u3:Upd [] [] W w3:=(Upd.refl _ _).drew.trans hq;clear hq;have f0:=cell_of_row _ gC 0 _ _ _ (paa HH.out.c u3);have f1:=cell_of_row _ gP 0 _ _ _ (paa HH.out.p u3);have f2:=frozen_of_row _ gP 0 _ _ (paa HH.out.p u3)) | (refine ⟨trivial,rfl,?_⟩;gi_at_call 80;refine (CallsIn.inRound (w2.heap.size+1) (callsIn_wide.2 (HMC.out _ (by omega) _))).mono ?_;rintro e w4 ⟨z,HZ,hz,rfl,rfl⟩))
  all_goals
   have hnx:=HNX.out
   have hr:=HR.out
   have hz:=HZ.out
   have hg:=HGP.out
   have hb:=HBB.out
   have hq5:=HQ5.out
   have hsz:=HH.out.sz
   obtain ⟨k1,k2⟩:=HH.out.set u3 hg.1 hb.1 hb.2 hg.2 z
   have hzz:z=atL cs x (k+1):=by rw [hnx,hz,hr]
   rw [hzz] at k1 k2 ⊢
   gi_wp2
   exact ⟨k1,k2 _ (by omega) (by omega),k2 _ (by omega) (by omega)⟩
 case hdone =>
  intro W h hD
  have e1:W.cell? ⟨gP,0,none⟩=some (.int .i64 (atL cs x N:Int)):=cell_of_row _ gP 0 _ _ _ h.p
  have HH:=Lib.hid h
  have HD:=Lib.hid hD
  clear h hD q1 q2 q3 q4 q5
  go_wp2_with fail
  refine ⟨by simp,.inl ⟨_,_,rfl,run_takeDeferred HD.out,⟨_,results_tmp rfl _ _ _,?_⟩⟩⟩
  exact ⟨rfl,HH.out.up.putNew (by have:=HQ5.out;omega) _⟩
end Go.Proofs.YtheobkejohifaaaGreatDoor

namespace Go.Proofs.YtheobkejohifaaaGreatDoor
open Go.RowKit
set_option maxRecDepth 100000
theorem pnr (t:Nat) (w:World) (h1:1≤t) (h2:t≤1000):Calls Tryz.prog 262 #[.int .i64 (t:Int)] w (Ret (.int .i64 (((t - 1) / 3:Nat):Int)) w):=by
 obtain ⟨y,hy⟩:∃ y,t=y+1:=⟨t - 1,by omega⟩
 obtain ⟨m,hm⟩:∃ m,m=(t - 1) / 3:=⟨_,rfl⟩
 rw [← hm]
 have a1:IntKind.i64.wrap ((t:Int) - 1)=(y:Int):=by rw [pap (by omega) (by omega)];omega
 have a3:(y:Int).tdiv 3=(m:Int):=by rw [Int.tdiv_eq_ediv_of_nonneg (by omega)];omega
 have a4:(y:Int) / 3=(m:Int):=by omega
 have a5:(t:Int) - 1=(y:Int):=by omega
 have b1:¬ (t:Int)<1:=by omega
 have b2:¬ t<1:=by omega
 have m1:m≤1000:=by omega
 clear hm hy
 go_enter Tryz.func262,Tryz.ntmps262
 go_wp2_with fail
 go_ret
 exact ⟨rfl,rfl⟩
theorem pns (t:Nat) (w:World) (h1:1≤t) (h2:t≤1000):Calls Tryz.prog 227 #[.int .i64 (t:Int)] w (Ret (.int .i64 (needN t:Int)) w):=by
 have HM:=Lib.hid (pnr t w h1 h2)
 obtain ⟨m,hm⟩:∃ m,m=(t - 1) / 3:=⟨_,rfl⟩
 have HN:Hid (needN t=m+1):=by
  show _=_
  unfold needN
  rw [if_neg (by omega),hm]
 rw [← hm] at HM
 have b1:¬ (t:Int)<1:=by omega
 have b2:¬ t<1:=by omega
 have hm3:m≤1000:=by omega
 clear hm
 go_enter Tryz.func227,Tryz.ntmps227
 go_wp2_with fail
 refine HM.out.mono ?_
 rintro e w1 ⟨rfl,rfl⟩
 go_wp2_with fail
 go_ret
 exact ⟨by rw [HN.out];rfl,rfl⟩
theorem pia {ws:List Nat} {k z j:Nat} (h:j<z):(pcl ws k z)[j]? =some (startN ws k+j+1):=by
 unfold pcl
 rw [List.getElem?_map,List.getElem?_range h]
 rfl
set_option maxHeartbeats 4000000 in
theorem pnt (K P:Value) (cs ws:List Nat) (w:World) (hw:WsOk ws) (hK:Sl w K cs) (hP:pdr w P (pcH ws)) (hcl:cs.length=needN ws.sum) (hcm:∀ c∈cs,memN c) :
 Calls Tryz.prog 190 #[.agg #[K,P]] w (Mk (.bool true) w):=by
 obtain ⟨g,hg⟩:∃ g,w.heap.size=g:=⟨_,rfl⟩
 obtain ⟨w0,hw0⟩:∃ W,w.alloc (.cells #[K,P] 28)=W:=⟨_,rfl⟩
 have r0:w0.heap[g]? =some (.cells #[K,P] 28 (0,0)):=by rw [← hg,← hw0];exact heap_alloc_new _ _
 have u0:Upd [] [] w w0:=by rw [← hw0];exact (Upd.refl _ _).alloc _
 have hs:=hw.sum
 obtain ⟨pa,pc,rfl,_,_,hp⟩:=hP.upd u0
 obtain ⟨ka,kc,rfl,_,_⟩:=hK.form
 have HKK:=Lib.hid (hK.upd u0)
 have HPP:=Lib.hid hp
 have HW:=Lib.hid hw
 have HT:=Lib.hid (pbE ws)
 rw [pbw]
 rw [pbw] at r0 hw0
 obtain ⟨n,hn⟩:∃ n,n=ws.length:=⟨_,rfl⟩
 have HN:=Lib.hid hn
 have hn4:n≤4:=by rw [hn];exact hw.2.1
 obtain ⟨q,hq⟩:∃ q,q=cs.length:=⟨_,rfl⟩
 rw [← hq] at r0 hw0 HKK
 rw [← hn] at r0 hw0
 have HQ:=Lib.hid hq
 obtain ⟨S,hS⟩:∃ S,S=ws.sum:=⟨_,rfl⟩
 rw [← hS] at hs HT
 have hS1:1≤S∧S≤12:=by have:=hs;omega
 have HND:=Lib.hid (fun W=>pns S W (by omega) (by omega))
 have hqN:needN S=q:=by rw [hq,hcl,hS]
 rw [hqN] at HND
 have hq12:q≤1000:=by rw [← hqN];unfold needN;split <;> omega
 have HU0:=Lib.hid u0
 have HCM:=Lib.hid hcm
 have c0:w0.cell? ⟨g,0,none⟩=some (.slice ka q kc):=cell_of_row _ g 0 _ _ _ r0
 have c1:w0.cell? ⟨g,1,none⟩=some (.slice pa n pc):=cell_of_row _ g 1 _ _ _ r0
 have HSS:Hid (startN ws n=S):=by show (ws.take n).sum=S;rw [hn,hS,List.take_length]
 rw [← hn,← hq]
 clear hP hp hK hq hn hS hw hs hcl hcm u0 r0 hqN
 go_enter Tryz.func190,Tryz.ntmps190
 go_wp2_with fail
 go_loopw [3,5,7,14] (fun x _ _ i wr=>∃ k:Nat,i=.int .i64 (k:Int)∧k≤n∧x=.int .i64 ((startN ws k+1:Nat):Int)∧wr=w0) (fun _ _ _ i _=>n - (intOf i).toNat)
 case atStart=>exact ⟨0,rfl,Nat.zero_le _,rfl,rfl⟩
 case round =>
  obtain ⟨k,rfl,hk,rfl,hwr⟩:=hrel
  subst hwr
  by_cases hlt:k<n
  · obtain ⟨z,hz⟩:∃ z,ws[k]? =some z:=⟨_,List.getElem?_eq_getElem (by rw [← HN.out];exact hlt)⟩
    have hz1:=HW.out.2.2 z (List.mem_of_getElem? hz)
    have hsk:=pbc hz
    have hle:=HT.out (k+1)
    obtain ⟨X,hX⟩:∃ X,X=startN ws k:=⟨_,rfl⟩
    have hX2:(ws.take k).sum=X:=hX.symm
    have hXb:X+z≤12:=by omega
    have HNXT:Hid (startN ws (k+1)=X+z):=by show (ws.take (k+1)).sum=_;omega
    have HXX:=Lib.hid hX
    obtain ⟨gp,u,rfl,_,cu,hu⟩:=HPP.out k _ (pcM hz)
    obtain ⟨ua,uc,rfl,_,_⟩:=hu.form
    rw [pb2] at cu hu
    have HUU:=Lib.hid hu
    have HPG:Hid (∀ j,j<z→(pcl ws k z)[j]? =some (X+j+1)):=fun j hj=>by rw [pia hj,hX]
    rw [← hX]
    have i0:(0:Int)≤(k:Int):=by omega
    have i1:(k:Int)<(n:Int):=by omega
    have z0:((z:Int) == 0)=false:=by rw [beq_eq_false_iff_ne];omega
    have z1:(z == 0)=false:=by rw [beq_eq_false_iff_ne];omega
    have z2:¬ z=0:=by omega
    clear hz hsk hle hX hX2 hu
    go_wp2_with fail
    go_loopw [3,7,23] (fun x _ i wr'=>∃ j:Nat,i=.int .i64 (j:Int)∧j≤z∧x=.int .i64 ((X+1+j:Nat):Int)∧wr'=wr) (fun _ _ i _=>z - (intOf i).toNat)
    case atStart=>exact ⟨0,rfl,Nat.zero_le _,rfl,rfl⟩
    case round =>
     obtain ⟨j,rfl,hj,rfl,hwr⟩:=hrel
     subst hwr
     by_cases hjz:j<z
     · obtain ⟨b,rfl,cx⟩:=HUU.out.get (HPG.out j hjz)
       have j0:(0:Int)≤(j:Int):=by omega
       have j1:(j:Int)<(z:Int):=by omega
       obtain ⟨y,hy⟩:∃ y,y=X+j+1:=⟨_,rfl⟩
       have hy2:X+1+j=y:=by omega
       have hy3:y≤1000:=by omega
       rw [← hy] at cx
       rw [hy2]
       have HY:=Lib.hid hy
       clear hy hy2
       go_wp2_with fail
       have hye:=HY.out
       exact ⟨⟨j+1,by go_num,by omega,(by rw [hye];go_num)⟩,(by first | (simp [intOf];done) | (simp [intOf];omega))⟩
     · obtain rfl:j=z:=by omega
       go_wp2_with fail
       have hnx:=HNXT.out
       exact ⟨⟨k+1,by go_num,by omega,(by rw [hnx];go_num)⟩,(by first | (simp [intOf];done) | (simp [intOf];omega))⟩
  · obtain rfl:k=n:=by omega
    have hss:=HSS.out
    rw [hss]
    clear hlt hk
    have g1:¬ (S:Int)<1:=by omega
    have g2:¬ (60:Int)<(S:Int):=by omega
    have g3:¬ 60<S:=by omega
    have g4:¬ S<1:=by omega
    have HK:Hid (∀ W,Upd [] [] wr W→W.cell? ⟨g,0,none⟩=some (.slice ka q kc)):=fun W u=>(u.cell (World.block_lt_of_cell? _ _ c0) (by simp)).trans c0
    have ud0:Upd [] [] wr wr.drew:=(Upd.refl _ _).drew
    go_upto_region 16 with (fail)
    refine wp_region_noPanic ?_
    refine wp_region_held_drew (S:=fun wp=>wp.cell? ⟨g,0,none⟩=some (.slice ka q kc)) (by kernel_rfl) ?_ (fun hHeld=>?_)
    · exact HK.out _ ud0
    refine tkY 0 hHeld ?_
    refine tkY 1 hHeld ?_
    refine tkY 2 hHeld ?_
    refine tkY 3 hHeld ?_
    refine tkY 4 hHeld ?_
    refine tkY 5 hHeld ?_
    refine tkY 6 hHeld ?_
    refine tkY 7 hHeld ?_
    refine tkY 8 hHeld ?_
    refine tkY 9 hHeld ?_
    refine tkY 10 hHeld ?_
    refine tk1 11 fun K hK=>?_
    go_simp;refine (HND.out _).mono ?_;rintro e wv1 ⟨rfl,rfl⟩;go_wp2_with fail
    refine tkK hK (HK.out _ ud0) fun hHeld=>?_
    clear hK K
    refine tkY 12 hHeld ?_
    refine tkY 13 hHeld ?_
    refine wpAnyH_done (by kernel_rfl) ?_ _
    refine NoPanic.normal ?_
    go_wp2_with fail
    obtain ⟨wd,hwd⟩:∃ W,wr.drew=W:=⟨_,rfl⟩
    have HKD:=Lib.hid (HKK.out.upd ud0)
    have HUD:=Lib.hid (HU0.out.trans ud0)
    rw [hwd] at HKD HUD ⊢
    clear hwd ud0
    go_loopw [10,53] (fun _ i wr'=>∃ j:Nat,i=.int .i64 (j:Int)∧j≤q∧Hid (Upd [] [] wd wr')) (fun _ i _=>q - (intOf i).toNat)
    case atStart=>exact ⟨0,rfl,Nat.zero_le _,Upd.refl _ _⟩
    case round =>
     obtain ⟨j,rfl,hj,HUR⟩:=hrel
     by_cases hjq:j<q
     · obtain ⟨c,hc⟩:∃ c,cs[j]? =some c:=⟨_,List.getElem?_eq_getElem (by rw [← HQ.out];exact hjq)⟩
       have hcm:=HCM.out c (List.mem_of_getElem? hc)
       have hcl:=hcm.2.1
       obtain ⟨b,rfl,cx⟩:=(HKD.out.upd HUR.out).get hc
       have HMB:=Lib.hid (fun W=>pao (c:Int) true W (by unfold Pn at hcl;unfold pab;omega) ((pbu c).2 hcm))
       have j0:(0:Int)≤(j:Int):=by omega
       have j1:(j:Int)<(q:Int):=by omega
       clear hc hcm hcl
       go_wp2_with fail
       refine (HMB.out _).mono ?_
       rintro e w3 ⟨rfl,hq3⟩
       have HU3:=Lib.hid (HUR.out.trans hq3)
       clear hq3
       go_wp2_with fail
       exact ⟨⟨j+1,by go_num,by omega,HU3.out⟩,(by first | (simp [intOf];done) | (simp [intOf];omega))⟩
     · obtain rfl:j=q:=by omega
       go_wp2_with fail
       go_ret
       exact ⟨rfl,HUD.out.trans HUR.out⟩
theorem pib (s:ByteArray) (w:World) (hs:s.size≤281474976710000) (htab:Tabs w) :
 Calls Tryz.prog 264 #[.string s] w (MkN 2305843009213691579 (poN (bs s)) w):=by
 have h2:(ByteArray.mk #[101,47]).size=2:=rfl
 have HN:=Lib.hid (pfU (⟨#[101,47]⟩ ++ s) w (by simp [ByteArray.size_append,h2];omega) htab)
 have hss:¬ 9223372036854775807<2+s.size:=by omega
 have hb:bs (⟨#[101,47]⟩ ++ s)=[101,47] ++ bs s:=by rw [pae];rfl
 have HB:=Lib.hid hb
 clear hb
 go_enter Tryz.func264,Tryz.ntmps264
 go_wp2_with fail
 refine HN.out.mono ?_
 rintro e w1 ⟨r,HR,hr,rfl,hu⟩
 obtain ⟨q,hq⟩:∃ q,q=r % 2305843009213691578:=⟨_,rfl⟩
 have hq1:q<2305843009213691578:=by rw [hq];exact Nat.mod_lt _ (by omega)
 have hqi:((r:Int) % 2305843009213691578)=(q:Int):=by rw [hq];simp
 have HRS:=residue_any (r:Int) 2305843009213691578 w1 (by omega) (by omega)
 rw [hqi] at HRS
 have HRS:=Lib.hid HRS
 have hqw:IntKind.i64.wrap (1+(q:Int))=((q+1:Nat):Int):=by rw [pap (by omega) (by omega)];omega
 have hqv:1+(q:Int)=((q+1:Nat):Int):=by omega
 have HQ:=Lib.hid hq
 clear hq hqi
 go_wp2_with fail
 refine HRS.out.mono ?_
 rintro e w2 ⟨r2,HR2,_,_,rfl,rfl⟩
 have hr2:r2=(q:Int):=HR2.out
 subst hr2
 go_wp2_with fail
 refine (pi1 (q+1) (q+1) w1 (by omega) (by omega)).mono ?_
 rintro e w3 ⟨t,HT,ht,rfl,rfl⟩
 go_wp2_with fail
 go_ret
 refine ⟨t,?_,ht,rfl,hu⟩
 show _=_
 rw [HT.out,HQ.out,HR.out,HB.out]
 rfl
theorem pnu (n:Int) (w:World) (hn:pab n) (htab:Tabs w):Calls Tryz.prog 229 #[.int .i64 n] w (MkN 2305843009213691579 (baseN n) w):=by
 have HD:=Lib.hid (paD n w hn htab)
 have HL:=Lib.hid (itoa_len n hn)
 have HT:=Lib.hid htab
 clear hn
 go_enter Tryz.func229,Tryz.ntmps229
 go_wp2_with fail
 refine HD.out.mono ?_
 rintro e w1 ⟨y,HY,hy,rfl,hu⟩
 have h6:(ByteArray.mk #[114,111,117,110,100,47]).size=6:=rfl
 have hlen:(ByteArray.mk #[114,111,117,110,100,47] ++ y).size≤1000:=by simp [ByteArray.size_append,h6];have:=HL.out;omega
 have HLN:=Lib.hid hlen
 have hys:¬ 9223372036854775807<6+y.size:=by have:=HL.out;omega
 have HTB:=Lib.hid (HT.out.upd hu)
 clear hy htab
 go_wp2_with fail
 refine (pib _ w1 (by have:=HLN.out;omega) HTB.out).mono ?_
 rintro e w2 ⟨r,HR,hr,rfl,hu2⟩
 go_wp2_with fail
 go_ret
 refine ⟨r,?_,hr,rfl,hu.trans hu2⟩
 show _=_
 rw [HR.out,pae,HY.out]
 rfl
def MkQB (P:Bool→Prop) (w:World) (e:Ending) (w':World):Prop:=∃ b:Bool,Hid (P b)∧e=.returned (.bool b)∧Upd [] [] w w'
def accB (cs ws:List Nat) (n x v c z:Int):Bool:=decide (1≤x∧x≤(ws.sum:Int)) && verE 4 (atL cs x.toNat cs.length:Int) (baseN n:Int) v c z
set_option maxHeartbeats 4000000 in
theorem pjp (K P:Value) (cs ws:List Nat) (n x v c z:Int) (w:World) (hw:WsOk ws) (hK:Sl w K cs) (hP:pdr w P (pcH ws)) (hcl:cs.length≤1000) (hcm:∀ c∈cs,c≤9223372036854775807) (hn:pab n) (hx:pab x) (hv:pab v) (hc:pab c) (hz:pab z) (htab:Tabs w) :
 Calls Tryz.prog 191 #[.agg #[K,P],.int .i64 n,.agg #[.int .i64 x,.int .i64 v,.int .i64 c,.int .i64 z]] w (MkB (accB cs ws n x v c z) w):=by
 obtain ⟨g,hg⟩:∃ g,w.heap.size=g:=⟨_,rfl⟩
 obtain ⟨w0,hw0⟩:∃ W,w.alloc (.cells #[K,P] 28)=W:=⟨_,rfl⟩
 have r0:w0.heap[g]? =some (.cells #[K,P] 28 (0,0)):=by rw [← hg,← hw0];exact heap_alloc_new _ _
 have u0:Upd [] [] w w0:=by rw [← hw0];exact (Upd.refl _ _).alloc _
 obtain ⟨g2,hg2⟩:∃ g,w0.heap.size=g:=⟨_,rfl⟩
 obtain ⟨w1,hw1⟩:∃ W,w0.alloc (.cells #[.int .i64 x,.int .i64 v,.int .i64 c,.int .i64 z] 40)=W:=⟨_,rfl⟩
 have r1:w1.heap[g2]? =some (.cells #[.int .i64 x,.int .i64 v,.int .i64 c,.int .i64 z] 40 (0,0)):=by rw [← hg2,← hw1];exact heap_alloc_new _ _
 have u1:Upd [] [] w0 w1:=by rw [← hw1];exact (Upd.refl _ _).alloc _
 have HU1:=Lib.hid (u0.trans u1)
 obtain ⟨pa,pc,rfl,_,_,hp⟩:=hP.upd HU1.out
 obtain ⟨ka,kc,rfl,_,_⟩:=hK.form
 have HKK:=Lib.hid (hK.upd HU1.out)
 have HPP:=Lib.hid hp
 have HW:=Lib.hid hw
 have HT:=Lib.hid (pbE ws)
 have hs:=hw.sum
 rw [pbw]
 rw [pbw] at r0 hw0
 obtain ⟨m,hm⟩:∃ m,m=ws.length:=⟨_,rfl⟩
 have HM:=Lib.hid hm
 have hm4:m≤4:=by rw [hm];exact hw.2.1
 rw [← hm] at r0 hw0
 obtain ⟨S,hS⟩:∃ S,S=ws.sum:=⟨_,rfl⟩
 rw [← hS] at hs HT
 have hS1:1≤S∧S≤12:=by have:=hs;omega
 have c1:w1.cell? ⟨g,1,none⟩=some (.slice pa m pc):=cell_of_row _ g 1 _ _ _ (paa r0 u1)
 have c2:w1.cell? ⟨g2,0,none⟩=some (.int .i64 x):=cell_of_row _ g2 0 _ _ _ r1
 have HSS:Hid (startN ws m=S):=by show (ws.take m).sum=S;rw [hm,hS,List.take_length]
 have HTB:=Lib.hid (htab.upd HU1.out)
 obtain ⟨q,hq⟩:∃ q,q=cs.length:=⟨_,rfl⟩
 have HK1:Hid (∀ W,Upd [] [] w1 W→W.cell? ⟨g,0,none⟩=some (.slice ka q kc)∧W.cell? ⟨g2,0,none⟩=some (.int .i64 x)∧W.cell? ⟨g2,1,none⟩=some (.int .i64 v)∧(Instr.loadAt 38 (.pointer (some ⟨g2,2,none⟩))).run Tryz.prog W=.ok (.agg #[.int .i64 c,.int .i64 z]) W):=fun W u=>by
  have h1:=paa r0 (u1.trans u)
  have h2:=paa r1 u
  refine ⟨by rw [hq];exact cell_of_row _ g 0 _ _ _ h1,cell_of_row _ g2 0 _ _ _ h2,cell_of_row _ g2 1 _ _ _ h2,run_loadAt_mid W g2 2 38 [.int .i64 c,.int .i64 z] _ (fun j u hv=>?_) Tryz.underlying38 rfl (by kernel_rfl)⟩
  match j,hv with
  | 0,hv=>simp at hv;subst hv;exact cell_of_row _ g2 2 _ _ _ h2
  | 1,hv=>simp at hv;subst hv;exact cell_of_row _ g2 3 _ _ _ h2
 suffices HSF:∀ Q:Bool→Prop,Hid (∀ b,b=accB cs ws n x v c z→Q b)→Calls Tryz.prog 191 #[.agg #[.slice ka q kc,.slice pa m pc],.int .i64 n,.agg #[.int .i64 x,.int .i64 v,.int .i64 c,.int .i64 z]] w (MkQB Q w) by
  have h:=HSF (fun b=>b=accB cs ws n x v c z) (fun _ h=>h)
  rw [← hm,← hq]
  refine h.mono ?_
  rintro e w' ⟨b,hb,rfl,hu⟩
  exact ⟨b,hb.out,rfl,hu⟩
 intro Q HQ
 have HACC:Hid (∀ b,b=(decide (1≤x∧x≤(S:Int)) && verE 4 (atL cs x.toNat q:Int) (baseN n:Int) v c z)→Q b):=fun b hb=>HQ.out b (by rw [hb,accB,hS,hq])
 rw [← hq] at hw0 HKK hcl
 have HAT:Hid (∀ (xn:Nat) (W:World),x=(xn:Int)→Upd [] [] w1 W→Calls Tryz.prog 228 #[.slice ka q kc,.int .i64 x] W (Mk (.int .i64 (atL cs xn q:Int)) W)):=fun xn W hxn u=>by
  have h:=pq8 (.slice ka q kc) cs xn W (HKK.out.upd u) hcm (by omega) (by rw [hxn] at hx;have:=hx.2;omega)
  rw [← hq] at h
  rw [hxn]
  exact h
 have HBS:=Lib.hid (fun W (u:Upd [] [] w1 W)=>pnu n W hn (HTB.out.upd u))
 have HVR:=Lib.hid (fun (a b:Int) (ha:pab a) (hb:pab b) W (u:Upd [] [] w1 W)=>pjm 4 a b v c z W (by unfold pab;omega) ha hb hv hc hz (HTB.out.upd u))
 clear hP hp hK hq hm hS hw hs hcl hcm u0 u1 r0 r1 HQ htab hn hv hc hz
 go_enter Tryz.func191,Tryz.ntmps191
 go_wp2_with fail
 go_loopw [7,9,13] (fun t _ i wr=>∃ k:Nat,i=.int .i64 (k:Int)∧k≤m∧t=.int .i64 (startN ws k:Int)∧wr=w1) (fun _ _ i _=>m - (intOf i).toNat)
 case atStart=>exact ⟨0,rfl,Nat.zero_le _,rfl,rfl⟩
 case round =>
  obtain ⟨k,rfl,hk,rfl,hwr⟩:=hrel
  subst hwr
  by_cases hlt:k<m
  · obtain ⟨zz,hzz⟩:∃ z,ws[k]? =some z:=⟨_,List.getElem?_eq_getElem (by rw [← HM.out];exact hlt)⟩
    have hsk:=pbc hzz
    have hle:=HT.out (k+1)
    obtain ⟨X,hX⟩:∃ X,X=startN ws k:=⟨_,rfl⟩
    have hX2:(ws.take k).sum=X:=hX.symm
    have hXb:X+zz≤12:=by omega
    have HNXT:Hid (startN ws (k+1)=X+zz):=by show (ws.take (k+1)).sum=_;omega
    obtain ⟨gp,u,rfl,_,cu,hu⟩:=HPP.out k _ (pcM hzz)
    obtain ⟨ua,uc,rfl,_,_⟩:=hu.form
    rw [pb2] at cu
    rw [← hX]
    have i0:(0:Int)≤(k:Int):=by omega
    have i1:(k:Int)<(m:Int):=by omega
    clear hzz hsk hle hX hX2 hu
    go_wp2_with fail
    have hnx:=HNXT.out
    exact ⟨⟨k+1,by go_num,by omega,(by rw [hnx];refine ⟨?_,trivial⟩;first | rfl | go_num)⟩,(by first | (simp [intOf];done) | (simp [intOf];omega))⟩
  · obtain rfl:k=m:=by omega
    have hss:=HSS.out
    rw [hss]
    clear hlt hk
    by_cases g1:x<1
    · have HF:Hid (Q false):=HACC.out _ (by rw [decide_eq_false (by omega),Bool.false_and])
      go_wp2_with fail
      go_ret
      exact ⟨false,HF,rfl,HU1.out⟩
    · by_cases g3:(S:Int)<x
      · have HF:Hid (Q false):=HACC.out _ (by rw [decide_eq_false (by omega),Bool.false_and])
        go_wp2_with fail
        go_ret
        exact ⟨false,HF,rfl,HU1.out⟩
      · obtain ⟨xn,hxn⟩:∃ xn:Nat,x=(xn:Int):=⟨x.toNat,by omega⟩
        obtain ⟨a,ha⟩:∃ a,a=atL cs xn q:=⟨_,rfl⟩
        have hal:pab (a:Int):=by have:=ppn cs xn q;rw [← ha] at this;unfold pab;omega
        have HA1:=Lib.hid (fun W u=>HAT.out xn W hxn u)
        rw [← ha] at HA1
        have HTR:Hid (∀ b,b=verE 4 (a:Int) (baseN n:Int) v c z→Q b):=fun b hb=>HACC.out b (by rw [decide_eq_true (by omega),hb,ha,show x.toNat=xn by omega,Bool.true_and])
        have ud0:Upd [] [] wr wr.drew:=(Upd.refl _ _).drew
        have HAL:=Lib.hid hal
        clear ha hxn hal HACC HAT hss
        go_upto_region 9 with (fail)
        refine @_root_.id ((∀ (bb:Nat) (b9:Bool) (W:World),Hid (bb=baseN n)→Hid (b9=verE 4 (a:Int) (bb:Int) v c z)→Hid (Upd [] [] wr W)→(?pj1:Nat→Bool→World→Prop) bb b9 W)→_) (fun hJ=>?mj1) ?jj1
        case mj1 =>
         refine wp_region_noPanic ?_
         refine wp_region_held_drew (S:=fun wp=>wp.cell? ⟨g,0,none⟩=some (.slice ka q kc)∧wp.cell? ⟨g2,0,none⟩=some (.int .i64 x)∧wp.cell? ⟨g2,1,none⟩=some (.int .i64 v)∧(Instr.loadAt 38 (.pointer (some ⟨g2,2,none⟩))).run Tryz.prog wp=.ok (.agg #[.int .i64 c,.int .i64 z]) wp) (by kernel_rfl) ?_ (fun hHeld=>?_)
         · exact HK1.out _ ud0
         refine tkY 0 hHeld ?_
         refine tkY 1 hHeld ?_
         refine tkY 2 hHeld ?_
         refine tkY 3 hHeld ?_
         refine tkY 5 hHeld ?_
         refine tkY 7 hHeld ?_
         refine tkY 8 hHeld ?_
         refine tkY 9 hHeld ?_
         refine wpAnyH_take (i:=10) (v:=.agg #[.int .i64 c,.int .i64 z]) (by simp only [List.getElem?_toArray,List.getElem?_cons_succ,List.getElem?_cons_zero] <;> rfl) (by kernel_rfl) (by kernel_rfl) (by kernel_rfl) (fun _ _ _ h=>h) (pau (by rfl) _ _ rfl _ rfl #[.int .i64 c,.int .i64 z] (fun w hSw=>hSw.2.2.2)) hHeld ?_
         try simp only [Act.put,List.setIfInBounds_toArray,List.set_cons_zero,List.set_cons_succ]
         refine tk1 4 fun K hK=>?_
         go_simp;refine (HA1.out _ ud0).mono ?_;rintro e wv1 ⟨rfl,hq⟩;have ud1:=ud0.trans hq;clear hq;dsimp only;try rw [if_pos (by rfl)]
         refine tkK hK (HK1.out _ ud1) fun hHeld=>?_
         clear hK K
         refine tk1 6 fun K hK=>?_
         go_simp;refine (HBS.out _ ud1).mono ?_;rintro e wv2 ⟨bb,HBB,hbb,rfl,hq⟩;have ud2:=ud1.trans hq;clear hq;dsimp only;try rw [if_pos (by rfl)]
         refine tkK hK (HK1.out _ ud2) fun hHeld=>?_
         clear hK K
         refine tk1 11 fun K hK=>?_
         go_simp;refine (HVR.out (a:Int) (bb:Int) HAL.out (by unfold pab;omega) _ ud2).mono ?_;rintro e wv3 ⟨b9,HB9,rfl,hq⟩;have ud3:=ud2.trans hq;clear hq;dsimp only;try rw [if_pos (by rfl)]
         refine tkK hK (HK1.out _ ud3) fun hHeld=>?_
         clear hK K
         refine tkY 12 hHeld ?_
         refine wpAnyH_done (by kernel_rfl) ?_ _
         refine NoPanic.normal ?_
         exact hJ bb b9 wv3 HBB HB9 (Lib.hid ud3)
        intro bb b9 w9 HBB HB9 U9
        have HF:Hid (Q b9):=HTR.out _ (by rw [HB9.out,HBB.out])
        go_wp2_with fail
        go_ret
        exact ⟨b9,HF,rfl,HU1.out.trans U9.out⟩
theorem pks (n:Nat):gP (n % Qn)=gP n:=(piM peE n).symm
theorem ppo (a b:Nat):gP a * gP b % Pn=gP (a+b):=by
 unfold gP
 rw [← Nat.mul_mod,← Nat.pow_add]
theorem pq9 (a n:Nat):pP (gP a) n=gP (a * n):=by
 unfold pP gP
 rw [pbo,← Nat.pow_mul]
theorem pqh (y:Nat):pP 4 y=gP y:=rfl
theorem mem_four:memN 4:=by
 have h:=pe0 1
 have e:gP 1=4:=by decide
 rwa [e] at h
theorem pnv (ds:List Dl) (d:Dl) (j:Nat):mixN (ds ++ [d]) j=mixN ds j * pP (d.coms.getD j 0) 1 % Pn:=by
 unfold mixN
 rw [List.foldl_append]
 rfl
theorem ppp (ws:List Nat) (j:Nat) (hj:j<needN ws.sum):∀ i,mixN (dsN ws pbx i) j=gP (pb9 (needN ws.sum) i j)
 | 0=>by
  show 1=4 ^ 0 % Pn
  decide
 | i+1=>by
  have hl:j<(pch (sdL pbx i) (needN ws.sum)).length:=by rw [pbY];exact hj
  have e:(dlAt ws pbx i).coms.getD j 0=gP ((pch (sdL pbx i) (needN ws.sum)).getD j 0):=by
   unfold dlAt pda
   simp only [List.getD_eq_getElem?_getD,List.getElem?_map,List.getElem?_eq_getElem hl,Option.map_some,Option.getD_some]
  rw [pgS,pnv,ppp ws j hj i,e,pq9,Nat.mul_one,ppo,pb9,pks]
def polV:List Nat→Nat→Nat
 | [],_=>0
 | c :: l,x=>c+x * polV l x
theorem pic (x c:Nat):∀ l:List Nat,polV (l ++ [c]) x=polV l x+c * x ^ l.length
 | []=>by simp [polV]
 | d :: l=>by
  simp only [List.cons_append,polV,pic x c l,List.length_cons,Nat.pow_succ]
  rw [Nat.mul_add,Nat.add_assoc]
  congr 2
  rw [Nat.mul_comm x (c * x ^ l.length),Nat.mul_assoc]
theorem pkt (x:Nat):∀ l:List Nat,valN l x=polV l x % Qn
 | []=>by
  show 0=0 % Qn
  decide
 | c :: l=>by
  have h:=pkt x l
  show (valN l x * x % Qn+c) % Qn=(c+x * polV l x) % Qn
  rw [h,Nat.mod_mul_mod,Nat.mod_add_mod,Nat.add_comm,Nat.mul_comm]
theorem pnw (cs co:List Nat) (x:Nat) (hc:∀ j c,co[j]? =some c→cs.getD j 0=gP c):∀ k,k≤co.length→atL cs x k=gP (polV (co.take k) x)
 | 0,_=>by
  show 1=4 ^ 0 % Pn
  decide
 | k+1,h=>by
  have hk:co[k]? =some (co[k]'(by omega)):=List.getElem?_eq_getElem (by omega)
  rw [atL,pnw cs co x hc k (by omega),hc k _ hk,pq9,ppo,List.take_add_one,hk,Option.toList_some,pic,List.length_take,Nat.min_eq_left (by omega:k≤co.length),← pks,pwQ]
  conv=>rhs;rw [← pks]
  congr 1
  rw [Nat.add_mod,Nat.mul_mod,Nat.mod_mod,← Nat.mul_mod,← Nat.add_mod]
theorem poP (ws:List Nat) (n x:Nat):atL (mixL (dsN ws pbx n) (needN ws.sum)) x (mixL (dsN ws pbx n) (needN ws.sum)).length=gP (valN (pbm (needN ws.sum) n) x):=by
 rw [peL,pkt,pks,pnw _ (pbm (needN ws.sum) n) x (fun j c h=>?_) _ (by rw [pbU];exact Nat.le_refl _),List.take_of_length_le (by rw [pbU];exact Nat.le_refl _)]
 have hj:=(List.getElem?_eq_some_iff.1 h).1
 rw [pbU] at hj
 have e:pb9 (needN ws.sum) n j=c:=by
  simp [pbm,hj] at h
  exact h
 rw [← e,← ppp ws j hj n]
 simp [mixL,List.getD_eq_getElem?_getD,hj]
theorem pnx (ws:List Nat) (n x:Nat) (m:Int) (h1:1≤x) (h2:x≤ws.sum) (y:Nat) (hy:y=valN (pbm (needN ws.sum) n) x) :
 accB (mixL (dsN ws pbx n) (needN ws.sum)) ws m (x:Int) (prtV y m:Int) (prtC y m:Int) (prtZ y m:Int)=true:=by
 unfold accB
 rw [Int.toNat_natCast,poP,← hy]
 have h:=plY mem_four (baseN_mem m) y (nonceE y 4 (baseN m))
 rw [pqh] at h
 simp only [Bool.and_eq_true,decide_eq_true_eq]
 exact ⟨⟨by omega,by omega⟩,h⟩
def BalR (l:List UInt8) (y:ByteArray) (ok:Bool):Prop:=(ok=true∧∃ b,pa0 l b∧bs y=b.key)∨(ok=false∧∀ b,¬ pa0 l b)
def prG (l:List UInt8) (w:World) (e:Ending) (w':World):Prop:=∃ (y:ByteArray) (ok:Bool),Hid (BalR l y ok)∧e=.returned (.tuple #[.string y,.bool ok])∧Upd [] [] w w'
def prH (s:ByteArray) (W:World) (e:Ending) (w':World):Prop :=
 ∃ P:List ByteArray,Hid (pbP (bs s) (P.map bs)∧(∀ p∈P,p.size≤s.size)∧P.length≤4294967296)∧e=.returned (.slice (some ⟨W.heap.size,0,none⟩) P.length P.length)∧w'=W.alloc (.cells (P.map Value.string).toArray 9)
theorem pgZ (s:ByteArray) (hs:s.size≤4000000000) (W:World) (htab:Tabs W):Calls Tryz.prog 182 #[.string s,.string ⟨#[32]⟩] W (prH s W):=by
 obtain ⟨m,hm⟩:=htab.m
 refine (Tryz.strings_Split s ⟨#[32]⟩ m W (by omega) hm (by decide)).mono ?_
 rintro e w' ⟨rfl,rfl⟩
 have hl:=Lib.splitB_all ⟨#[32]⟩ (by decide) 0 (Lib.countB s ⟨#[32]⟩) s rfl
 have hc:Lib.countB s ⟨#[32]⟩≤s.size:=by
  have e:Lib.countB s ⟨#[32]⟩=(bs s).count 32:=Lib.count_one 32 (bs s)
  rw [e,← pac]
  exact List.count_le_length
 refine ⟨Lib.splitB ⟨#[32]⟩ 0 (Lib.countB s ⟨#[32]⟩) s,⟨ph7 s,fun p hp=>pdu _ _ _ _ hp,by omega⟩,by rw [hl],rfl⟩
theorem pny {P:List ByteArray} (h:P.length=4):∃ a b c d,P=[a,b,c,d]:=by
 match P,h with
 | [a,b,c,d],_=>exact ⟨a,b,c,d,rfl⟩
def pie:List ByteArray:=[⟨#[112,114,111,112,111,115,101]⟩,⟨#[112,114,101,112,97,114,101]⟩,⟨#[99,111,109,109,105,116]⟩]
theorem pnz (x:ByteArray):x∈pie ↔ (bs x=kPro∨bs x=kPre∨bs x=kCom):=by
 simp only [pie,List.mem_cons,List.not_mem_nil,or_false]
 constructor
 · rintro (rfl | rfl | rfl)
   · exact .inl rfl
   · exact .inr (.inl rfl)
   · exact .inr (.inr rfl)
 · rintro (h | h | h)
   · exact .inl (paM h)
   · exact .inr (.inl (paM h))
   · exact .inr (.inr (paM h))
theorem poQ (w:World) (g:Nat) (x:ByteArray) (h:w.heap[g]? =some (.cells #[.string ⟨#[112,114,111,112,111,115,101]⟩,.string ⟨#[112,114,101,112,97,114,101]⟩,.string ⟨#[99,111,109,109,105,116]⟩] 9 (0,0))) :
 Calls Tryz.prog 183 #[.slice (some ⟨g,0,none⟩) 3 3,.string x] w (fun e w'=>e=.returned (.bool (Lib.containsS pie x))∧w'=w):=by
 refine (Tryz.slices_Contains_string g 0 3 3 pie x w (by decide) (by decide) ?_).mono ?_
 · intro j hj
   rw [Nat.zero_add,cell_of_row _ _ _ _ _ _ h]
   match j,hj with
   | 0,_=>rfl
   | 1,_=>rfl
   | 2,_=>rfl
 · rintro e w' ⟨rfl,rfl⟩
   exact ⟨rfl,rfl⟩
set_option maxHeartbeats 4000000 in
theorem pnA (s:ByteArray) (hs:s.size≤1000000000) (w:World) (htab:Tabs w):Calls Tryz.prog 144 #[.string s] w (prG (bs s) w):=by
 have HSp:=Lib.hid (pgZ s (by omega) w htab)
 go_enter Tryz.func144,Tryz.ntmps144
 go_wp2_with fail
 refine HSp.out.mono ?_
 rintro e w1 ⟨P,HP,rfl,hw1⟩
 clear HSp
 obtain ⟨gP,hgP⟩:∃ g,w.heap.size=g:=⟨_,rfl⟩
 rw [hgP]
 have R1:Hid (w1.heap[gP]? =some (.cells (P.map Value.string).toArray 9 (0,0))):=by rw [← hgP,hw1];exact heap_alloc_new _ _
 have U1:Hid (Upd [] [] w w1):=by rw [hw1];exact (Upd.refl _ _).alloc _
 have HGP:=Lib.hid hgP
 have HB:Hid (∀ b,pa0 (bs s) b→P.map bs=b.words):=fun b h=>h.words HP.out.1
 have hpl:P.length≤4294967296:=HP.out.2.2
 clear hw1 hgP
 by_cases h4:P.length=4
 case neg =>
  have h4i:¬ (P.length:Int)=4:=by omega
  have HNO:Hid (∀ b,¬ pa0 (bs s) b):=by
   intro b h
   have e:=congrArg List.length (HB.out b h)
   rw [List.length_map] at e
   exact h4 e
  clear HB HP
  go_wp2_with fail
  go_ret2
  exact ⟨_,false,.inr ⟨rfl,HNO.out⟩,rfl,U1.out⟩
 obtain ⟨p0,p1,p2,p3,hP⟩:=pny h4
 have HC:Hid (∀ b,pa0 (bs s) b→bs p0=b.k∧bs p1=Lib.itoa b.h∧bs p2=Lib.itoa b.v∧bs p3=b.x):=by
  intro b h
  have e:=HB.out b h
  rw [hP] at e
  simp only [List.map_cons,List.map_nil,Bal.words,List.cons.injEq,and_true] at e
  exact e
 have HW:Hid (bs s=Lib.join [bs p0,bs p1,bs p2,bs p3] [32]):=by
  have e:=HP.out.1.2.2
  rw [hP] at e
  exact e.symm
 have HSZ:Hid (p0.size≤s.size∧p1.size≤s.size∧p2.size≤s.size∧p3.size≤s.size):=by
  have h:=HP.out.2.1
  rw [hP] at h
  exact ⟨h _ (by simp),h _ (by simp),h _ (by simp),h _ (by simp)⟩
 have RP:Hid (w1.heap[gP]? =some (.cells #[.string p0,.string p1,.string p2,.string p3] 9 (0,0))):=by
  have h:=R1.out
  rw [hP] at h
  exact h
 have h4i:(P.length:Int)=4:=by omega
 subst hP
 clear R1 HP HB h4 hpl
 obtain ⟨gK,hgK⟩:∃ g,w1.heap.size=g:=⟨_,rfl⟩
 obtain ⟨w2,hw2⟩:∃ W,w1.alloc (.cells #[.string ⟨#[112,114,111,112,111,115,101]⟩,.string ⟨#[112,114,101,112,97,114,101]⟩,.string ⟨#[99,111,109,109,105,116]⟩] 9)=W:=⟨_,rfl⟩
 have RK:=Lib.hid (show w2.heap[gK]? =some (.cells #[.string ⟨#[112,114,111,112,111,115,101]⟩,.string ⟨#[112,114,101,112,97,114,101]⟩,.string ⟨#[99,111,109,109,105,116]⟩] 9 (0,0)) by rw [← hgK,← hw2];exact heap_alloc_new _ _)
 have u2:Upd [] [] w1 w2:=by rw [← hw2];exact (Upd.refl _ _).alloc _
 have R2:=Lib.hid (paa RP.out u2)
 have U2:=Lib.hid (U1.out.trans u2)
 have c0:=(cell_of_row _ gP 0 _ _ _ R2.out).trans (show _=some (Value.string p0) from rfl)
 clear u2 RP U1
 go_wp2_with fail
 refine (poQ w2 gK p0 RK.out).mono ?_
 rintro e w' ⟨rfl,rfl⟩
 clear RK c0
 obtain ⟨b0,hb0⟩:∃ b,Lib.containsS pie p0=b:=⟨_,rfl⟩
 have HB0:Hid ((bs p0=kPro∨bs p0=kPre∨bs p0=kCom) ↔ b0=true):=by
  show _ ↔ _
  rw [← hb0,Lib.containsS_iff,pnz]
 rw [hb0]
 clear hb0
 cases b0
 · have HNO:Hid (∀ b,¬ pa0 (bs s) b):=fun b h=>by
    have e:=HB0.out.1 (by rw [(HC.out b h).1];exact h.1.1)
    cases e
   go_wp2_with fail
   go_ret2
   exact ⟨_,false,.inr ⟨rfl,HNO.out⟩,rfl,U2.out⟩
 have HK:Hid (bs p0=kPro∨bs p0=kPre∨bs p0=kCom):=HB0.out.2 rfl
 clear HB0
 go_wp2_with fail
 refine wp_loop_rounds 3 ?_
 rw [rounds_succ]
 have cp:=(cell_of_row _ gP 1 _ _ _ R2.out).trans (show _=some (Value.string p1) from rfl)
 go_wp2_with fail
 refine (peN p1 _ (by have:=HSZ.out.2.1;omega) (htab.upd U2.out)).mono ?_
 rintro e y0 ⟨m0,ok,HO,hm0,rfl,hq⟩
 have V0:=Lib.hid (U2.out.trans hq)
 have S0:=Lib.hid (paa R2.out hq)
 have I0:=Lib.hid hm0
 obtain ⟨hm0a,hm0b⟩:=hm0
 clear hq cp R2 U2
 cases ok
 · have HNO:Hid (∀ b,¬ pa0 (bs s) b):=fun b h=>HO.out.2.2 rfl ⟨b.h,(by have:=h.1.2.1;unfold pab;omega),(HC.out b h).2.1⟩
   clear HO
   go_wp2_with fail
   go_ret2
   exact ⟨_,false,.inr ⟨rfl,HNO.out⟩,rfl,V0.out⟩
 have M0:Hid (bs p1=Lib.itoa m0):=HO.out.2.1 rfl
 have N0:Hid (∀ b,pa0 (bs s) b→0≤m0∧m0≤1000000000):=fun b h=>by
  have e:=paI I0.out (by have:=h.1.2.1;unfold pab;omega) (M0.out.symm.trans (HC.out b h).2.1)
  rw [e]
  exact h.1.2.1
 clear HO
 by_cases hlt:m0<0
 · have HNO:Hid (∀ b,¬ pa0 (bs s) b):=fun b h=>by have:=N0.out b h;omega
   go_wp2_with fail
   go_ret2
   exact ⟨_,false,.inr ⟨rfl,HNO.out⟩,rfl,V0.out⟩
 have g0:¬ m0<0:=hlt
 clear hlt
 by_cases hlt:1000000000<m0
 · have HNO:Hid (∀ b,¬ pa0 (bs s) b):=fun b h=>by have:=N0.out b h;omega
   go_wp2_with fail
   go_ret2
   exact ⟨_,false,.inr ⟨rfl,HNO.out⟩,rfl,V0.out⟩
 have g1:¬ 1000000000<m0:=hlt
 clear hlt
 have B0:Hid (0≤m0∧m0≤1000000000):=(by show _∧_;omega)
 clear N0
 go_wp2_with fail
 clear hm0a hm0b
 rw [rounds_succ]
 have cp:=(cell_of_row _ gP 2 _ _ _ S0.out).trans (show _=some (Value.string p2) from rfl)
 go_wp2_with fail
 refine (peN p2 _ (by have:=HSZ.out.2.2.1;omega) (htab.upd V0.out)).mono ?_
 rintro e y1 ⟨m1,ok,HO,hm1,rfl,hq⟩
 have V1:=Lib.hid (V0.out.trans hq)
 have S1:=Lib.hid (paa S0.out hq)
 have I1:=Lib.hid hm1
 obtain ⟨hm1a,hm1b⟩:=hm1
 clear hq cp S0 V0
 cases ok
 · have HNO:Hid (∀ b,¬ pa0 (bs s) b):=fun b h=>HO.out.2.2 rfl ⟨b.v,(by have:=h.1.2.2.1;unfold pab;omega),(HC.out b h).2.2.1⟩
   clear HO
   go_wp2_with fail
   go_ret2
   exact ⟨_,false,.inr ⟨rfl,HNO.out⟩,rfl,V1.out⟩
 have M1:Hid (bs p2=Lib.itoa m1):=HO.out.2.1 rfl
 have N1:Hid (∀ b,pa0 (bs s) b→0≤m1∧m1≤1000000000):=fun b h=>by
  have e:=paI I1.out (by have:=h.1.2.2.1;unfold pab;omega) (M1.out.symm.trans (HC.out b h).2.2.1)
  rw [e]
  exact h.1.2.2.1
 clear HO
 by_cases hlt:m1<0
 · have HNO:Hid (∀ b,¬ pa0 (bs s) b):=fun b h=>by have:=N1.out b h;omega
   go_wp2_with fail
   go_ret2
   exact ⟨_,false,.inr ⟨rfl,HNO.out⟩,rfl,V1.out⟩
 have g2:¬ m1<0:=hlt
 clear hlt
 by_cases hlt:1000000000<m1
 · have HNO:Hid (∀ b,¬ pa0 (bs s) b):=fun b h=>by have:=N1.out b h;omega
   go_wp2_with fail
   go_ret2
   exact ⟨_,false,.inr ⟨rfl,HNO.out⟩,rfl,V1.out⟩
 have g3:¬ 1000000000<m1:=hlt
 clear hlt
 have B1:Hid (0≤m1∧m1≤1000000000):=(by show _∧_;omega)
 clear N1
 go_wp2_with fail
 clear hm1a hm1b
 rw [rounds_succ]
 have cp:=(cell_of_row _ gP 3 _ _ _ S1.out).trans (show _=some (Value.string p3) from rfl)
 have hz3:p3.size≤s.size:=HSZ.out.2.2.2
 go_upto_region 12 with (fail)
 have HX:Hid (∀ b,pa0 (bs s) b→2≤p3.size∧p3.size≤400∧p3.size % 2=0∧∀ c∈bs p3,c∈hx16):=fun b h=>by
  have e:=(HC.out b h).2.2.2
  have l:p3.size=b.x.length:=by rw [← e,pac]
  rw [l,e]
  exact h.1.2.2.2
 by_cases z2:p3.size<2
 · have z2i:(p3.size:Int)<2:=by omega
   have HNO:Hid (∀ b,¬ pa0 (bs s) b):=fun b h=>by have:=HX.out b h;omega
   go_wp2_with fail
   go_ret2
   exact ⟨_,false,.inr ⟨rfl,HNO.out⟩,rfl,V1.out⟩
 have z2i:¬ (p3.size:Int)<2:=by omega
 by_cases z4:400<p3.size
 · have z4i:400<(p3.size:Int):=by omega
   have HNO:Hid (∀ b,¬ pa0 (bs s) b):=fun b h=>by have:=HX.out b h;omega
   go_wp2_with fail
   go_ret2
   exact ⟨_,false,.inr ⟨rfl,HNO.out⟩,rfl,V1.out⟩
 have z4i:¬ 400<(p3.size:Int):=by omega
 by_cases zo:p3.size % 2=0
 case neg =>
  have HNO:Hid (∀ b,¬ pa0 (bs s) b):=fun b h=>by have:=HX.out b h;omega
  have r1:IntKind.i64.wrap ((p3.size:Int).tmod 2)=1:=by
   rw [Int.tmod_eq_emod_of_nonneg (by omega)]
   exact (pap (by omega) (by omega)).trans (by omega)
  have r2:(p3.size:Int).tmod 2=1:=by
   rw [Int.tmod_eq_emod_of_nonneg (by omega)]
   omega
  go_wp2_with fail
  go_ret2
  exact ⟨_,false,.inr ⟨rfl,HNO.out⟩,rfl,V1.out⟩
 have r1:IntKind.i64.wrap ((p3.size:Int).tmod 2)=0:=by
  rw [Int.tmod_eq_emod_of_nonneg (by omega)]
  exact (pap (by omega) (by omega)).trans (by omega)
 have r2:(p3.size:Int).tmod 2=0:=by
  rw [Int.tmod_eq_emod_of_nonneg (by omega)]
  omega
 go_wp2_with fail
 refine (pqd p3 (by omega) (by omega) y1).mono ?_
 rintro e y2 ⟨r,HR,rfl,hq⟩
 have V2:=Lib.hid (V1.out.trans hq)
 have S2:=Lib.hid (paa S1.out hq)
 clear hq S1 V1 cp
 by_cases hr0:r.size=0
 case neg =>
  have hl0:¬ r.toList=[]:=fun e=>hr0 (by rw [ByteArray.toList_eq] at e;rw [← pac];exact congrArg List.length e)
  have hb4:(r.toList == [])=false:=beq_eq_false_iff_ne.2 hl0
  have hb5:r.toList.isEmpty=false:=by simpa using hl0
  have HNO:Hid (∀ b,¬ pa0 (bs s) b):=fun b h=>hr0 (HR.out.2 (HX.out b h).2.2.2)
  go_wp2_with fail
  go_ret2
  exact ⟨_,false,.inr ⟨rfl,HNO.out⟩,rfl,V2.out⟩
 have hr:r=⟨#[]⟩:=paM (List.length_eq_zero_iff.1 (by rw [pac];exact hr0))
 have HH:=HR.out.1 hr0
 have HBAL:Hid (pa0 (bs s) ⟨bs p0,m0,m1,bs p3⟩):=⟨⟨HK.out,B0.out,B1.out,(by show 2≤(bs p3).length;rw [pac];omega),(by show (bs p3).length≤400;rw [pac];omega),(by show (bs p3).length % 2=0;rw [pac];exact zo),HH⟩,by rw [HW.out,M0.out,M1.out];rfl⟩
 have HJ:Hid (Lib.join ([p0,p1,p2].map (·.data.toList)) [32]=(Bal.mk (bs p0) m0 m1 (bs p3)).key):=by
  show Lib.join [bs p0,bs p1,bs p2] [32]=_
  rw [M0.out,M1.out]
  rfl
 have HKL:Hid ((Bal.mk (bs p0) m0 m1 (bs p3)).key.length≤100):=by
  show _≤_
  have i0:=itoa_len m0 (by unfold pab;omega)
  have i1:=itoa_len m1 (by unfold pab;omega)
  have e:(Bal.mk (bs p0) m0 m1 (bs p3)).key=bs p0 ++ 32 :: (Lib.itoa m0 ++ 32 :: Lib.itoa m1):=by
   show Lib.join [bs p0,_,_] [32]=_
   rw [pbS,pbS,Lib.join_one]
   rfl
  have l0:(bs p0).length≤7:=by rcases HK.out with e | e | e <;> rw [e] <;> decide
  rw [e]
  simp only [List.length_append,List.length_cons]
  omega
 obtain ⟨KY,hKY⟩:∃ l,(Bal.mk (bs p0) m0 m1 (bs p3)).key=l:=⟨_,rfl⟩
 rw [hKY] at HJ HKL
 have HKY:=Lib.hid hKY
 subst hr
 clear HX HC HH hr0 HR hKY
 go_wp2_with fail
 have hj:=Tryz.strings_Join gP 0 4 [p0,p1,p2] ⟨#[32]⟩ y2 (by
  intro j x hx
  rw [Nat.zero_add,cell_of_row _ _ _ _ _ _ S2.out]
  match j,hx with
  | 0,hx=>cases hx;rfl
  | 1,hx=>cases hx;rfl
  | 2,hx=>cases hx;rfl) (pag S2.out) (by simp) (by simp) (by
  show (Lib.join (_) [32]).length≤_
  have:=HKL.out
  rw [HJ.out]
  omega)
 refine hj.mono ?_
 rintro e y3 ⟨rfl,hb⟩
 have V3:=Lib.hid (V2.out.trans (paA hb))
 obtain ⟨T,hT⟩:∃ T:ByteArray,T=⟨(Lib.join ([p0,p1,p2].map (·.data.toList)) (⟨#[32]⟩:ByteArray).data.toList).toArray⟩:=⟨_,rfl⟩
 rw [← hT]
 have HT:Hid (bs T=KY):=by
  show _=_
  rw [hT,pc8]
  exact HJ.out
 clear hj hb hT
 go_wp2_with fail
 go_ret2
 exact ⟨T,true,.inl ⟨rfl,_,HBAL.out,HT.out.trans HKY.out.symm⟩,rfl,V3.out⟩
end Go.Proofs.YtheobkejohifaaaGreatDoor
