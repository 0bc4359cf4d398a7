/- sortesref08.Crew and what follows. -/
import Derived.Test.YtheobkejohifaaaGreatDoorHAO
namespace Go.Proofs.YtheobkejohifaaaGreatDoor
open Go.RowKit
set_option maxRecDepth 100000
structure CrSt (w wr:World) (gm:Nat) (v:Value) (l:List Int) (k k':Nat) (u s:Value):Prop where
 mem:wr.ownsRow 0 64 3 u k (pbN (pb1 l k))
 sec:wr.ownsRow 0 3 1 s k (pah (pbQ k))
 num:pjc wr gm v k'
 up:Upd [] [] w wr
 base:w.heap.size≤gm
 offu:∀ x,x∈foot u→gm<x
 offs:∀ x,x∈foot s→gm<x
 apart:∀ x,x∈foot u→x ∉ foot s
section
variable {w wr w1 w2 : World} {gm k k' k2 : Nat} {v u s u' s' : Value} {l : List Int}
theorem CrSt.quiet (h:CrSt w wr gm v l k k' u s) (q:Upd [] [] wr w1):CrSt w w1 gm v l k k' u s :=
 ⟨pai h.mem (fun j hj=>q.block j (paf h.mem j hj) (by simp)),pai h.sec (fun j hj=>q.block j (paf h.sec j hj) (by simp)),paa h.num q,h.up.trans q,h.base,h.offu,h.offs,h.apart⟩
theorem CrSt.next (h:CrSt w wr gm v l k k' u s) (q:Upd [gm] [gm] wr w1) (hn:pjc w1 gm v k2):CrSt w w1 gm v l k k2 u s :=
 ⟨pai h.mem (fun j hj=>q.block j (paf h.mem j hj) (by have:=h.offu j hj;simp;omega)),pai h.sec (fun j hj=>q.block j (paf h.sec j hj) (by have:=h.offs j hj;simp;omega)),hn,h.up.past2 q (by simpa using h.base),h.base,h.offu,h.offs,h.apart⟩
theorem CrSt.step (h:CrSt w wr gm v l k k' u s) (hA:Upd (foot u) (foot u') wr w1) (ru:w1.ownsRow 0 64 3 u' (k+1) (pbN (pb1 l (k+1)))) (hB:Upd (foot s) (foot s') w1 w2) (rs:w2.ownsRow 0 3 1 s' (k+1) (pah (pbQ (k+1)))):CrSt w w2 gm v l (k+1) k' u' s':=by
 have hgl:gm<wr.heap.size:=pag h.num
 have hou:∀ x,x∈foot u'→gm<x:=fun x hx=>by
  rcases hA.new x hx with e | e
  · exact h.offu x e
  · omega
 have hos:∀ x,x∈foot s'→gm<x:=fun x hx=>by
  rcases hB.new x hx with e | e
  · exact h.offs x e
  · have:=hA.size;omega
 have hus:∀ x,x∈foot u'→x ∉ foot s:=fun x hx hs=>by
  rcases hA.new x hx with e | e
  · exact h.apart x e hs
  · have:=paf h.sec x hs;omega
 refine ⟨pai ru (fun x hx=>hB.block x (paf ru x hx) (hus x hx)),rs,?_,?_,h.base,hou,hos,fun x hx hs=>?_⟩
 · have e1:=hA.block gm hgl (fun hm=>Nat.lt_irrefl _ (h.offu gm hm))
   have e2:=hB.block gm (Nat.lt_of_lt_of_le hgl hA.size) (fun hm=>Nat.lt_irrefl _ (h.offs gm hm))
   exact (e2.trans e1).trans h.num
 · exact (h.up.past2 hA (fun x hx=>by have:=h.offu x hx;have:=h.base;omega)).past2 hB (fun x hx=>by have:=h.offs x hx;have:=h.base;omega)
 · rcases hB.new x hs with e | e
   · exact hus x hx e
   · have:=paf ru x hx;omega
end
def pqP (l:List Int) (w:World) (e:Ending) (w':World):Prop:=∃ u s:Value,Hid (w'.ownsRow 0 64 3 u (pax l) (pbN (pb1 l (pax l))))∧Hid (w'.ownsRow 0 3 1 s (pax l) (pah (pbQ (pax l))))∧Hid (∀ x,x∈foot u→x ∉ foot s)∧Hid (∀ x,x∈foot u∨x∈foot s→w.heap.size≤x)∧e=.returned (.tuple #[u,s])∧Hid (Upd [] [] w w')
set_option maxHeartbeats 2000000 in
theorem pmX (l:List Int) (v:Value) (w:World) (hv:RdO w v l) (hi:∀ x∈l,pab x) (hl:l.length≤9223372036854775807) :
 Calls Tryz.prog 43 #[v,.int .i64 1] w (pqP l w):=by
 obtain ⟨ao,cap,hvv,h1,h2,hget⟩:=hv.form
 obtain ⟨m,hm⟩:∃ m,m=l.length:=⟨_,rfl⟩
 rw [← hm] at hvv h1
 obtain ⟨gm,hgm⟩:∃ g,w.heap.size=g:=⟨_,rfl⟩
 obtain ⟨w0,hw0⟩:∃ W,w.alloc (.cells #[v,.int .i64 0] 151)=W:=⟨_,rfl⟩
 have N0:Hid (pjc w0 gm v 0):=by show w0.heap[gm]? =_;rw [← hgm,← hw0];exact heap_alloc_new _ _
 have U0:=Lib.hid (show Upd [] [] w w0 by rw [← hw0];exact (Upd.refl _ _).alloc _)
 have HG:Hid (w.heap.size≤gm):=Nat.le_of_eq hgm
 have HNX:=Lib.hid (fun (k n:Nat) (W:World) (hn:1≤n∧n≤1000) (hk:k≤l.length) (u:Upd [] [] w W) (h:pjc W gm v k)=>pmW l v gm k n w W hn hv u HG.out hl hi hk h)
 have HML:=Lib.hid (show m≤9223372036854775807 by omega)
 have HM:=Lib.hid hm
 have HAT:=Lib.hid (fun k n=>ppU l k n)
 subst hvv
 have h7:(ByteArray.mk #[109,101,109,98,101,114,32]).size=7:=rfl
 clear hv hi hl hget hm h1 h2
 go_enter Tryz.func43,Tryz.ntmps43
 go_wp2_with fail
 refine (HNX.out 0 4 w0 (by omega) (Nat.zero_le _) U0.out N0.out).mono ?_
 rintro e w1 ⟨r,k0,HR,hr,HK0,rfl,HN1,HU1⟩
 have HC1:Hid (CrSt w w1 gm (.slice ao m cap) l 0 k0 (.slice none 0 0) (.slice none 0 0)) :=
  ⟨World.ownsRow_nil _ _ _ _,World.ownsRow_nil _ _ _ _,HN1.out,U0.out.past2 HU1.out (by simpa using HG.out),HG.out,(fun x h=>by cases h),(fun x h=>by cases h),(fun x h=>by cases h)⟩
 have HMN:Hid (pax l=1+r):=by show _=_;unfold pax;rw [HR.out]
 clear hgm hw0 N0 U0 HU1 HN1 HR
 go_wp2_with fail
 go_loopw [8,9,10,11,12] (fun u s i _ _ wr=>∃ k k':Nat,i=.int .i64 (k:Int)∧k≤1+r∧Hid (k'=min (k+1) l.length)∧Hid (CrSt w wr gm (.slice ao m cap) l k k' u s)) (fun _ _ i _ _ _=>1+r - (intOf i).toNat)
 case atStart=>exact ⟨0,k0,rfl,Nat.zero_le _,HK0.out,HC1.out⟩
 case round =>
  obtain ⟨k,k',rfl,hk,HK',HC⟩:=hrel
  by_cases hlt:k<1+r
  · have d1:(k:Int)<1+(r:Int):=by omega
    obtain ⟨I,hI⟩:∃ I,I=k+1:=⟨_,rfl⟩
    have HI:=Lib.hid hI
    have hI4:I≤4:=by omega
    have hitl:(Lib.itoa (I:Int)).length≤20:=itoa_len (I:Int) (by unfold pab;omega)
    have hrw:(1+(k:Int))=(I:Int):=by omega
    clear hI
    go_wp2_with fail
    refine (pb0 I wr (by omega)).mono ?_
    rintro e w2 ⟨y,HY,hy,rfl,hu2⟩
    have HC2:=Lib.hid (HC.out.quiet hu2)
    clear hu2 HC
    go_wp2_with fail
    refine (pjY _ w2 (by simp [ByteArray.size_append];omega)).mono ?_
    rintro e w3 ⟨a,b,HA,HB,ha,hb,rfl,hu3⟩
    have HC3:=Lib.hid (HC2.out.quiet hu3)
    clear hu3 HC2
    go_wp2_with fail
    refine (HNX.out k' 3 w3 (by omega) (by rw [HK'.out];omega) HC3.out.up HC3.out.num).mono ?_
    rintro e w4 ⟨r2,k2,HR2,hr2,HK2,rfl,HN4,HU4⟩
    have HC4:=Lib.hid (HC3.out.next HU4.out HN4.out)
    obtain ⟨u',w5,hrunA,hownA,hupA⟩:=phQ w4 u8 (pb1 l k) k (I:Int) (1+(r2:Int)) (b:Int) (pdp l k) HC4.out.mem (by omega)
    have hkey:secN k=a:=by
     rw [HA.out,pae,HY.out,HI.out]
     rfl
    have hmem:memC k (1+nxtN l (k+1) 3)=⟨(I:Int),1+(r2:Int),(b:Int)⟩:=by
     have e1:nxtN l (k+1) 3=r2:=by rw [HR2.out,HK'.out,HAT.out]
     have e2:gP (secN k)=b:=by rw [HB.out,pae,HY.out,HI.out];rfl
     unfold memC
     rw [e1,e2,← HI.out]
     simp
    rw [← hmem,← phR] at hownA
    have hsec:=pai HC4.out.sec (fun x hx=>hupA.block x (paf HC4.out.sec x hx) (fun h=>HC4.out.apart x h hx))
    obtain ⟨s',w6,hrunB,hownB,hupB⟩:=pa2 w5 u9 (pbQ k) k a (pd8 k) hsec (by omega)
    rw [← hkey,← pje] at hownB
    have HC6:=Lib.hid (HC4.out.step hupA hownA hupB hownB)
    have HRA:=Lib.hid hrunA
    have HRB:=Lib.hid hrunB
    have HK3:Hid (k2=min (I+1) l.length):=by
     show _=_
     have e1:=HK2.out
     have e2:=HK'.out
     rw [HI.out,e1,e2]
     omega
    clear hrunA hownA hupA hsec hrunB hownB hupB hkey hmem HC4 HC3 HN4 HU4 HA HB HY HR2 HK2 HK' hitl hy
    go_wp2_with (first | (refine wpList_append_run _ rfl _ _ _ _ rfl _ _ u' w5 rfl rfl HRA.out ?_) | (refine wpList_append_run _ rfl _ _ _ _ rfl _ _ s' w6 rfl rfl HRB.out ?_))
    have hie:=HI.out
    exact ⟨⟨k+1,k2,by go_num,by omega,(by show _=_;rw [← hie];exact HK3.out),HC6.out⟩,(by first | (simp [intOf];done) | (simp [intOf];omega))⟩
  · obtain rfl:k=1+r:=by omega
    have HCF:Hid (CrSt w wr gm (.slice ao m cap) l (pax l) k' u8 u9):=by
     show CrSt _ _ _ _ _ _ _ _ _
     rw [HMN.out]
     exact HC.out
    have d1:¬ ((1+r:Nat):Int)<1+(r:Int):=by omega
    clear HC
    go_wp2_with fail
    go_ret2
    exact ⟨_,_,HCF.out.mem,HCF.out.sec,HCF.out.apart,(fun x h=>by
     have hb:=HCF.out.base
     rcases h with h | h
     · have:=HCF.out.offu x h;omega
     · have:=HCF.out.offs x h;omega),rfl,HCF.out.up⟩
def pdr (w:World) (v:Value) (pts:List (List Nat)):Prop:=∃ ao cap,v=.slice ao pts.length cap∧pts.length≤cap∧cap≤9223372036854775807∧∀ (i:Nat) l,pts[i]? =some l→∃ g u,ao=some ⟨g,0,none⟩∧g<w.heap.size∧w.cell? ⟨g,i,none⟩=some u∧Sl w u l
theorem pdr.upd {w w':World} {v:Value} {pts:List (List Nat)} (h:pdr w v pts) (u:Upd [] [] w w'):pdr w' v pts:=by
 obtain ⟨ao,cap,e,h1,h2,h3⟩:=h
 refine ⟨ao,cap,e,h1,h2,fun i l hi=>?_⟩
 obtain ⟨g,v,e,hg,hc,hs⟩:=h3 i l hi
 exact ⟨g,v,e,Nat.lt_of_lt_of_le hg u.size,(u.cell (p:=⟨g,i,none⟩) hg (by simp)).trans hc,hs.upd u⟩
theorem slI:∃ i,Tryz.prog.info? 22=some i∧i.zero=some (.slice none 0 0)∧i.size=1∧i.bytes=24:=by
 have h:(Tryz.prog.info? 22).map (fun i=>(i.zero,i.size,i.bytes))=some (some (.slice none 0 0),1,24):=by kernel_rfl
 obtain ⟨i,hi,he⟩:=Option.map_eq_some_iff.1 h
 simp only [Prod.mk.injEq] at he
 exact ⟨i,hi,he.1,he.2.1,he.2.2⟩
theorem pk9 (wr:World) (v:Value) (vs:List Value) (k:Nat) (ao:Option Addr) (n c:Nat) (hown:wr.ownsRow 0 22 1 v k vs) (hb:k≤1000000) :
 ∃ v' w',(Builtin.append_ #[26,26] 26 #[v,.slice (some ⟨wr.heap.size,0,none⟩) 1 1]).run Tryz.prog (wr.alloc (.cells #[.slice ao n c] 22))=.ok v' w'∧w'.ownsRow 0 22 1 v' (k+1) (vs ++ [.slice ao n c])∧Upd (foot v) (foot v') wr w':=by
 obtain ⟨iu,u1,u2,u3,u4⟩:=slI
 exact pcj (P:=Tryz.prog) 26 22 iu (.slice none 0 0) 1 24 Tryz.underlying26 u1 u2 u3 u4 rfl (by omega) (by omega) wr v k vs [.slice ao n c] rfl (by intro u hu;simp at hu;subst hu;rfl) hown hb
def pcl (ws:List Nat) (k j:Nat):List Nat:=(List.range j).map fun i=>startN ws k+i+1
theorem pla (ws:List Nat) (k j:Nat):pcl ws k (j+1)=pcl ws k j ++ [startN ws k+j+1]:=by simp [pcl,List.range_succ]
theorem pb2 (ws:List Nat) (k j:Nat):(pcl ws k j).length=j:=by simp [pcl]
theorem pcM {ws:List Nat} {k x:Nat} (h:ws[k]? =some x):(pcH ws)[k]? =some (pcl ws k x):=by
 have hk:=(List.getElem?_eq_some_iff.1 h).1
 have e:ws.getD k 0=x:=by rw [List.getD_eq_getElem?_getD,h];rfl
 simp [pcH,hk,pcl,← e]
theorem pbw (ws:List Nat):(pcH ws).length=ws.length:=by simp [pcH]
structure PtSt (w wr:World) (ws:List Nat) (k j:Nat) (u:Value) (vs:List Value) (t:Value):Prop where
 out:wr.ownsRow 0 22 1 u k vs
 len:vs.length=k
 inn:∀ (i:Nat) v,vs[i]? =some v→∃ l,(pcH ws)[i]? =some l∧wr.ownsRow 0 3 1 v l.length (pah l)∧(∀ x,x∈foot v→x ∉ foot u)∧(∀ x,x∈foot v→x ∉ foot t)∧∀ x,x∈foot v→w.heap.size≤x
 cur:wr.ownsRow 0 3 1 t j (pah (pcl ws k j))
 off:∀ x,x∈foot t→x ∉ foot u
 up:Upd [] [] w wr
 newu:∀ x,x∈foot u→w.heap.size≤x
 newt:∀ x,x∈foot t→w.heap.size≤x
section
variable {w wr w1 : World} {ws : List Nat} {k j : Nat} {u t u' t' : Value} {vs : List Value}
theorem PtSt.add (h:PtSt w wr ws k j u vs t) (hA:Upd (foot t) (foot t') wr w1) (hr:w1.ownsRow 0 3 1 t' (j+1) (pah (pcl ws k (j+1)))):PtSt w w1 ws k (j+1) u vs t':=by
 refine ⟨pai h.out (fun x hx=>hA.block x (paf h.out x hx) (fun ht=>h.off x ht hx)),h.len,fun i v hv=>?_,hr,fun x hx hu=>?_,h.up.past2 hA h.newt,h.newu,fun x hx=>?_⟩
 · obtain ⟨l,e,hr,h1,h2,h3⟩:=h.inn i v hv
   refine ⟨l,e,pai hr (fun x hx=>hA.block x (paf hr x hx) (h2 x hx)),h1,fun x hx ht=>?_,h3⟩
   rcases hA.new x ht with q | q
   · exact h2 x hx q
   · have:=paf hr x hx;omega
 · rcases hA.new x hx with q | q
   · exact h.off x q hu
   · have:=paf h.out x hu;omega
 · rcases hA.new x hx with q | q
   · exact h.newt x q
   · have:=h.up.size;omega
theorem PtSt.close (h:PtSt w wr ws k j u vs t) (hj:ws[k]? =some j) (hA:Upd (foot u) (foot u') wr w1) (hr:w1.ownsRow 0 22 1 u' (k+1) (vs ++ [t])):PtSt w w1 ws (k+1) 0 u' (vs ++ [t]) (.slice none 0 0):=by
 have hof:∀ (v:Value),(∀ x,x∈foot v→x<wr.heap.size)→(∀ x,x∈foot v→x ∉ foot u)→∀ x,x∈foot v→x ∉ foot u':=fun v hl hv x hx hu=>by
  rcases hA.new x hu with q | q
  · exact hv x hx q
  · have:=hl x hx;omega
 refine ⟨hr,by simp [h.len],fun i v hv=>?_,World.ownsRow_nil _ _ _ _,(fun x hx=>by cases hx),h.up.past2 hA h.newu,fun x hx=>?_,(fun x hx=>by cases hx)⟩
 · rcases Nat.lt_or_ge i k with hi | hi
   · rw [List.getElem?_append_left (by rw [h.len];exact hi)] at hv
     obtain ⟨l,e,hr,h1,h2,h3⟩:=h.inn i v hv
     exact ⟨l,e,pai hr (fun x hx=>hA.block x (paf hr x hx) (h1 x hx)),hof v (paf hr) h1,(fun x _ hx=>by cases hx),h3⟩
   · rw [List.getElem?_append_right (by rw [h.len];exact hi),h.len] at hv
     have hi0:i - k=0:=by
      have:=(List.getElem?_eq_some_iff.1 hv).1
      simp at this
      omega
     rw [hi0] at hv
     simp at hv
     subst hv
     have hik:i=k:=by omega
     refine ⟨pcl ws k j,by rw [hik];exact pcM hj,?_,hof t (paf h.cur) h.off,(fun x _ hx=>by cases hx),h.newt⟩
     rw [pb2]
     exact pai h.cur (fun x hx=>hA.block x (paf h.cur x hx) (h.off x hx))
 · rcases hA.new x hx with q | q
   · exact h.newu x q
   · have:=h.up.size;omega
end
def paB (w w' W:World):Prop:=∀ x,w.heap.size≤x→x<w'.heap.size→W.heap[x]? =w'.heap[x]?
theorem paB.refl (w w':World):paB w w' w':=fun _ _ _=>rfl
theorem PtSt.rd {w wr W:World} {ws:List Nat} {u t:Value} {vs:List Value} (h:PtSt w wr ws ws.length 0 u vs t) (hW:paB w wr W):pdr W u (pcH ws):=by
 have hl:=pbw ws
 have hout:W.ownsRow 0 22 1 u ws.length vs:=pai h.out (fun x hx=>hW x (h.newu x hx) (paf h.out x hx))
 by_cases h0:ws.length=0
 · obtain ⟨ao,cap,rfl,h1,h2⟩:=paj hout
   have hm:maxLen≤9223372036854775807:=by unfold maxLen;omega
   exact ⟨ao,cap,by rw [hl],by rw [hl];exact h1,by omega,fun i l hi=>by have:=(List.getElem?_eq_some_iff.1 hi).1;omega⟩
 · obtain ⟨g,cap,cur,rfl,hg,h1,h2,h3,h4⟩:=pcd hout (by omega)
   have hm:maxLen≤9223372036854775807:=by unfold maxLen;omega
   refine ⟨_,cap,by rw [hl],by rw [hl];exact h1,by omega,fun i l hi=>?_⟩
   have hil:=(List.getElem?_eq_some_iff.1 hi).1
   obtain ⟨v,hv⟩:∃ v,vs[i]? =some v:=⟨_,List.getElem?_eq_getElem (by rw [h.len];omega)⟩
   obtain ⟨l',e,hr,_,_,hn⟩:=h.inn i v hv
   rw [e] at hi
   injection hi with hi
   subst hi
   refine ⟨g,v,rfl,pag hg,?_,Sl.of_row (pai hr (fun x hx=>hW x (hn x hx) (paf hr x hx)))⟩
   have hv2:=hv
   rw [← h4,List.getElem?_take_of_lt (by omega)] at hv2
   rw [cell_of_row W g i _ _ _ hg]
   simpa using hv2
set_option maxHeartbeats 2000000 in
theorem pjf (v:Value) (ws:List Nat) (w:World) (hw:WsOk ws) (h:pb7 w v ws) :
 Calls Tryz.prog 114 #[v] w (fun e w'=>∃ p:Value,Hid (∀ W,paB w w' W→pdr W p (pcH ws))∧e=.returned (.tuple #[p,.bool true])∧Upd [] [] w w'):=by
 have HTO:=Lib.hid (pcY v ws w hw h)
 have hs:=hw.sum
 obtain ⟨ao,cap,rfl,h1,h2,h3⟩:=h
 have HM:=Lib.hid h3
 have HW:=Lib.hid hw
 have HT:=Lib.hid (pbE ws)
 obtain ⟨n,hn⟩:∃ n,n=ws.length:=⟨_,rfl⟩
 have HN:=Lib.hid hn
 have hn4:n≤4:=by rw [hn];exact hw.2.1
 obtain ⟨S,hS⟩:∃ S,S=ws.sum:=⟨_,rfl⟩
 rw [← hS] at hs HT HTO
 rw [← hn] at h1 HTO ⊢
 have hS0:¬ (S:Int)=0:=by omega
 have hS1:((S:Int) == 0)=false:=by rw [beq_eq_false_iff_ne];exact hS0
 have HS:=Lib.hid hs
 clear hn h3 hw hS hs
 go_enter Tryz.func114,Tryz.ntmps114
 go_wp2_with fail
 refine HTO.out.mono ?_
 rintro e w1 ⟨rfl,hq⟩
 have HM1:=Lib.hid (HM.out.upd hq)
 have HP1:Hid (PtSt w w1 ws 0 0 (.slice none 0 0) [] (.slice none 0 0)) :=
  ⟨World.ownsRow_nil _ _ _ _,rfl,fun i v hv=>by simp at hv,World.ownsRow_nil _ _ _ _,(fun x hx=>by cases hx),hq,(fun x hx=>by cases hx),(fun x hx=>by cases hx)⟩
 have HU1:=Lib.hid hq
 clear hq HTO
 go_wp2_with fail
 go_loopw [4,5,6,7,8] (fun u x i _ _ wr=>∃ (k:Nat) (vs:List Value) (t:Value),i=.int .i64 (k:Int)∧k≤n∧x=.int .i64 (startN ws k:Int)∧Hid (PtSt w wr ws k 0 u vs (.slice none 0 0))) (fun _ _ i _ _ _=>n - (intOf i).toNat)
 case atStart=>exact ⟨0,[],.slice none 0 0,rfl,Nat.zero_le _,rfl,HP1.out⟩
 case round =>
  obtain ⟨k,vs,t0,rfl,hk,rfl,HP⟩:=hrel
  by_cases hlt:k<n
  · obtain ⟨z,hz⟩:∃ z,ws[k]? =some z:=⟨_,List.getElem?_eq_getElem (by rw [← HN.out];exact hlt)⟩
    have hz1:=HW.out.2.2 z (List.mem_of_getElem? hz)
    have hsk:=pbc hz
    have hle:=HT.out (k+1)
    obtain ⟨X,hX⟩:∃ X,X=startN ws k:=⟨_,rfl⟩
    have hX2:(ws.take k).sum=X:=hX.symm
    have hXb:X+z≤12:=by have:=HS.out;omega
    have HNXT:Hid (startN ws (k+1)=X+z):=by show (ws.take (k+1)).sum=_;omega
    have HXX:=Lib.hid hX
    rw [← hX]
    have HZ:=Lib.hid hz
    have i0:(0:Int)≤(k:Int):=by omega
    have i1:(k:Int)<(n:Int):=by omega
    clear hz hsk hle hX hX2
    go_wp2_with fail
    go_loopw [5,7,8] (fun y t i wr=>∃ j:Nat,i=.int .i64 (j:Int)∧j≤z∧y=.int .i64 ((X+j:Nat):Int)∧Hid (PtSt w wr ws k j u4 vs t)) (fun _ _ i _=>z - (intOf i).toNat)
    case atStart=>exact ⟨0,rfl,Nat.zero_le _,rfl,HP.out⟩
    case round =>
     obtain ⟨j,rfl,hj,rfl,HQ⟩:=hrel
     obtain ⟨g,rfl,hg,c0,c1,c2⟩:=(HM.out.upd HQ.out.up) k _ (pbb HZ.out)
     dsimp only [memC] at c0 c1 c2
     clear c0 c2
     by_cases hjz:j<z
     · obtain ⟨q,hq⟩:∃ q,q=X+j+1:=⟨_,rfl⟩
       obtain ⟨t',w',hrun,hown',hup'⟩:=pa2 wr u7 (pcl ws k j) j q (pb2 ws k j) HQ.out.cur (by omega)
       have hpp:pcl ws k (j+1)=pcl ws k j ++ [q]:=by rw [pla,← HXX.out,hq]
       rw [← hpp] at hown'
       have HQ2:=Lib.hid (HQ.out.add hup' hown')
       have HRN:=Lib.hid hrun
       have hq3:((X+j:Nat):Int)+1=(q:Int):=by omega
       have hq4:(X:Int)+(j:Int)+1=(q:Int):=by omega
       have HQE:=Lib.hid hq
       have x1:(j:Int)<(z:Int):=by omega
       clear hrun hown' hup' hpp hq
       go_wp2_with (refine wpList_append_run _ rfl _ _ _ _ rfl _ _ t' w' rfl rfl HRN.out ?_)
       have hqe:=HQE.out
       exact ⟨⟨j+1,by go_num,by omega,(by rw [hqe];rfl),HQ2.out⟩,(by first | (simp [intOf];done) | (simp [intOf];omega))⟩
     · obtain rfl:j=z:=by omega
       obtain ⟨aot,ct,ht,_,_⟩:=paj HQ.out.cur
       obtain ⟨u',w',hrun,hown',hup'⟩:=pk9 wr u4 vs k aot j ct HQ.out.out (by omega)
       have HQ2:=Lib.hid (HQ.out.close HZ.out hup' (by rw [ht];exact hown'))
       have HRN:=Lib.hid hrun
       have x1:¬ (j:Int)<(j:Int):=by omega
       clear hrun hown' hup' HQ
       subst ht
       go_wp2_with (refine wpList_append_run _ rfl _ _ _ _ rfl _ _ u' w' rfl rfl HRN.out ?_)
       have hnx:=HNXT.out
       exact ⟨⟨k+1,_,.slice none 0 0,by go_num,by omega,(by rw [hnx];rfl),HQ2.out⟩,(by first | (simp [intOf];done) | (simp [intOf];omega))⟩
  · obtain rfl:k=n:=by omega
    have HPF:Hid (∀ W,paB w wr W→pdr W u4 (pcH ws)):=by
     have h:=HP.out
     rw [HN.out] at h
     exact fun W hW=>h.rd hW
    go_wp2_with fail
    go_ret2
    exact ⟨_,HPF,rfl,HP.out.up⟩
end Go.Proofs.YtheobkejohifaaaGreatDoor
