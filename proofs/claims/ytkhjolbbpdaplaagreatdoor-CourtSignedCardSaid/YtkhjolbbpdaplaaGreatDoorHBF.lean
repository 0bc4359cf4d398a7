/- deal.Read: the dealing with a text and what follows. -/
import Derived.Test.YtkhjolbbpdaplaaGreatDoorHBE
namespace Go.Proofs.YtkhjolbbpdaplaaGreatDoor
set_option maxHeartbeats 8000000
open Go.RowKit Go.Proofs.Tryz
set_option maxRecDepth 100000
structure DrSt (w wr:World) (gD gR:Nat) (c b:Value) (p:Int) (cs:List Int) (bxs:List (List UInt8)):Prop where
 row:wr.heap[gD]? =some (.cells (dlC c p b) 142 (0,0))
 res:wr.heap[gR]? =some (.cells dlZ 142 (0,0))
 com:wr.ownsRow 0 3 1 c cs.length (pc4 cs)
 box:paU wr b bxs
 up:Upd [] [] w wr
 base:w.heap.size<=gR/\gR<gD
 offc:∀ x,x∈foot c->gD<x
 offb:∀ x,x∈foot b->gD<x
 apart:∀ x,x∈foot c->x ∉ foot b
section
variable {w wr w1 w2 : World} {gD gR : Nat} {c b c' b' : Value} {p q : Int} {cs : List Int} {bxs : List (List UInt8)} {s : List UInt8}
theorem DrSt.quiet (h:DrSt w wr gD gR c b p cs bxs) (u:Uq wr w1):DrSt w w1 gD gR c b p cs bxs :=
 ⟨paa h.row u,paa h.res u,paj h.com (fun j a=>u.block j (pag h.com j a) (by simp)),h.box.same (fun j a=>u.block j (h.box.lt j a) (by simp)),h.up.trans u,h.base,h.offc,h.offb,h.apart⟩
theorem DrSt.lt (h:DrSt w wr gD gR c b p cs bxs):gD<wr.heap.size:=paf h.row
theorem DrSt.cells (h:DrSt w wr gD gR c b p cs bxs):wr.cell? ⟨gD,0,none⟩=some c/\wr.cell? ⟨gD,2,none⟩=some b:=⟨xa _ gD 0 _ _ _ h.row,xa _ gD 2 _ _ _ h.row⟩
theorem DrSt.addCom (h:DrSt w wr gD gR c b p cs bxs) (u:Upd (foot c) (foot c') wr w1) (j:w1.ownsRow 0 3 1 c' (cs.length+1) (pc4 (cs ++ [q]))):DrSt w (w1.setCell ⟨gD,0,none⟩ c') gD gR c' b p (cs ++ [q]) bxs:=by
 have m:=h.lt;have f:∀ x,x∈foot c'->gD<x:=fun x a=>by
  rcases u.new x a with e | e
  · exact h.offc x e
  · omega
 have d:∀ x,x≠gD->(w1.setCell ⟨gD,0,none⟩ c').heap[x]? =w1.heap[x]?:=fun x a=>xE _ _ _ _ a;have n:=h.base.2;refine ⟨xg w1 gD 0 _ _ c' ((u.block gD h.lt (fun q=>zc _ (h.offc gD q))).trans h.row),?_,?_,?_,?_,h.base,f,h.offb,fun x a g=>?_⟩
 · rw [d gR (by omega),u.block gR (by omega) (fun q=>by have:=h.offc gR q;omega)];exact h.res
 · have e:(cs ++ [q]).length=cs.length+1:=by simp
   rw [e];exact paj j (fun x a=>d x (by have:=f x a;omega))
 · exact h.box.same (fun x a=>(d x (by have:=h.offb x a;omega)).trans (u.block x (h.box.lt x a) (fun k=>h.apart x k a)))
 · exact (h.up.past2 u (fun x a=>by have:=h.offc x a;have:=h.base;omega)).setNew (p:=⟨gD,0,none⟩) (by show w.heap.size<=gD;have:=h.base;omega) _
 · rcases u.new x a with e | e
   · exact h.apart x e g
   · have:=h.box.lt x g;omega
theorem DrSt.addBox (h:DrSt w wr gD gR c b p cs bxs) (u:Upd (foot b) (foot b') wr w1) (g:paU w1 b' (bxs ++ [s])):DrSt w (w1.setCell ⟨gD,2,none⟩ b') gD gR c b' p cs (bxs ++ [s]):=by
 have m:=h.lt;have f:∀ x,x∈foot b'->gD<x:=fun x a=>by
  rcases u.new x a with e | e
  · exact h.offb x e
  · omega
 have d:∀ x,x≠gD->(w1.setCell ⟨gD,2,none⟩ b').heap[x]? =w1.heap[x]?:=fun x a=>xE _ _ _ _ a;have n:=h.base.2;refine ⟨xg w1 gD 2 _ _ b' ((u.block gD h.lt (fun q=>zc _ (h.offb gD q))).trans h.row),?_,?_,?_,?_,h.base,h.offc,f,fun x a j=>?_⟩
 · rw [d gR (by omega),u.block gR (by omega) (fun q=>by have:=h.offb gR q;omega)];exact h.res
 · exact paj h.com (fun x a=>(d x (by have:=h.offc x a;omega)).trans (u.block x (pag h.com x a) (fun k=>h.apart x a k)))
 · exact g.same (fun x a=>d x (by have:=f x a;omega))
 · exact (h.up.past2 u (fun x a=>by have:=h.offb x a;have:=h.base;omega)).setNew (p:=⟨gD,2,none⟩) (by show w.heap.size<=gD;have:=h.base;omega) _
 · rcases u.new x j with e | e
   · exact h.apart x a e
   · have:=pag h.com x a;omega
theorem DrSt.setP (h:DrSt w wr gD gR c b p cs bxs) (q):DrSt w (wr.setCell ⟨gD,1,none⟩ (.int .i64 q)) gD gR c b q cs bxs:=by
 have d:∀ x,x≠gD->(wr.setCell ⟨gD,1,none⟩ (.int .i64 q)).heap[x]? =wr.heap[x]?:=fun x a=>xE _ _ _ _ a;have e:=h.base.2;refine ⟨xg wr gD 1 _ _ _ h.row,?_,?_,?_,?_,h.base,h.offc,h.offb,h.apart⟩
 · rw [d gR (by omega)];exact h.res
 · exact paj h.com (fun x a=>d x (by have:=h.offc x a;omega))
 · exact h.box.same (fun x a=>d x (by have:=h.offb x a;omega))
 · exact h.up.setNew (p:=⟨gD,1,none⟩) (by show w.heap.size<=gD;have:=h.base;omega) _
end
def ptY (l:List UInt8) (w:World) (e:Ending) (w':World):Prop :=
 ∃ (cv bv:Value) (d:DlI) (ok:Bool),Hid ((ok=true/\IsDl l d/\d.fit)\/(ok=false/\(∀ d,¬ IsDl l d)/\cv=.slice none 0 0/\bv=.slice none 0 0/\d=⟨[],0,[]⟩))/\Hid (RdI w' cv d.coms/\RdS w' bv d.boxes)/\Hid (∀ x,x∈foot cv\/x∈foot bv->w.heap.size<=x)/\e=.returned (.tuple #[.agg #[cv,d.point,bv],.bool ok])/\Upd [] [] w w'
theorem drNo {l w W} (a:∀ d,¬ IsDl l d) (u:Uq w W):ptY l w (.returned (.tuple #[.agg dlZ,.bool false])) W :=
 ⟨_,_,⟨[],0,[]⟩,false,.inr ⟨rfl,a,rfl,rfl,rfl⟩,⟨RdI.nil _,RdS.nil _⟩,(fun x hx=>by rcases hx with hx | hx <;> cases hx),rfl,u⟩
theorem pjN:∀ W,W.length<=(Lib.join W [32]).length+1
 | []=>by simp
 | [x]=>by simp
 | x :: y :: r=>by
  have h:=pjN (y :: r)
  rw [pcG]
  simp only [xr,xF,zG] at h ⊢
  omega
theorem plh {l W} (h:pcb l W):W.length<=l.length+1:=by
 have:=pjN W;rw [h.2.2] at this;exact this
theorem pmr:prog.built 142 []=some dlZ:=by kernel_rfl
theorem pdI {l} {P:List ByteArray} {d} (h:IsDl l d) (m:pcb l (P.map bs)):P.length=3+d.coms.length+d.boxes.length/\(∀ x,P[0]? =some x->bs x=pe8)/\(∀ x,P[1]? =some x->bs x=Lib.itoa (d.coms.length:Int))/\(∀ j x,j<d.coms.length->P[2+j]? =some x->∃ c,d.coms[j]? =some c/\bs x=Lib.itoa c)/\(∀ x,P[2+d.coms.length]? =some x->bs x=Lib.itoa d.point)/\(∀ j x,j<d.boxes.length->P[3+d.coms.length+j]? =some x->∃ b,d.boxes[j]? =some b/\bs x=hexL b):=by
 have e:=h.words m;have k:=xU List.length e;simp only [DlI.words,yx,xF,xr] at k;have g:∀ i x,P[i]? =some x->d.words[i]? =some (bs x):=fun i x a=>by rw [<-e,ys,a];rfl
 refine ⟨by omega,fun x a=>?_,fun x a=>?_,fun j x f a=>?_,fun x a=>?_,fun j x f a=>?_⟩
 · have:=g 0 x a;simpa [DlI.words] using this.symm
 · have:=g 1 x a;simpa [DlI.words] using this.symm
 · have:=g (2+j) x a;rw [show 2+j=j+1+1 by omega] at this;simp only [DlI.words,yc] at this;rw [yu (by simpa using f),ys] at this;refine ⟨d.coms[j],xd f,?_⟩;rw [xd f] at this;simpa using this.symm
 · have:=g (2+d.coms.length) x a;rw [show 2+d.coms.length=d.coms.length+1+1 by omega] at this;simp only [DlI.words,yc] at this;rw [xC (by simp)] at this;simpa using this.symm
 · have:=g (3+d.coms.length+j) x a;rw [show 3+d.coms.length+j=(d.coms.length+1+j)+1+1 by omega] at this;simp only [DlI.words,yc] at this;rw [xC (by simp;omega),yx,show d.coms.length+1+j - d.coms.length=j+1 by omega,yc,ys] at this;refine ⟨d.boxes[j],xd f,?_⟩;rw [xd f] at this;simpa using this.symm
theorem pjO (s) (hs:s.size<=1000000) (w) (aE:Tabs w):Calls prog 217 #[.string s] w (ptY (bs s) w):=by
 obtain ⟨gR,a8⟩:=ae (w.heap.size);obtain ⟨w1,aJ⟩:=ae (w.alloc (.cells dlZ 142));have s1:=ah (aW a8 aJ);have u1:=ah (aU aJ);have S:Hid (w.heap.size<=gR):=xJ a8;have bl:w.alloc (.cells #[.slice none 0 0,.int .i64 0,.slice none 0 0] 142)=w1:=aJ;have bg:=ah (pil s (by omega) w1 (aE.upd u1.out));obtain ⟨DZ,aq⟩:=az (dlZ);have C:=ah aq;have aa:Hid (prog.built 142 []=some DZ):=by rw [aq];exact pmr
 have z:Fi 142 DZ:=by rw [aq];exact pbB _ _ _
 have ab:Fo DZ:=by rw [aq];show _=_;simp [dlZ,Value.oneCell']
 have HS:=ah hs;rw [<-aq] at s1;clear aJ hs aq;go_in;go_wp2_with fail;refine bg.out.mono ?_;rintro e O ⟨P,HP,rfl,aV⟩;obtain ⟨gP,aI⟩:=ae (w1.heap.size);obtain ⟨n,hn⟩:=az (P.length);rw [<-hn,aI];have q2:Uq w1 O:=by rw [aV];exact uR.alloc _
 have U2:=ah (u1.out.trans q2);have S2:=ah (paa s1.out q2);have RP:O.heap[gP]? =some (.cells (P.map Value.string).toArray 9 (0,0)):=by rw [aV,<-aI];exact xi _ _
 have aA:Hid (∀ W,Uq O W->∀ (j:Nat) (x:ByteArray),P[j]? =some x->W.cell? ⟨gP,j,none⟩=some (.string x)):=fun W u j x hx=>by
  rw [xa _ gP j _ _ _ (paa RP u),xD,ys,hx];rfl
 have ay:Hid (∀ (j:Nat) (x:ByteArray),P[j]? =some x->x.size<=1000000):=fun j x hx=>xB (HP.out.2.1 x (xt hx)) HS.out;have HN:=ah hn;have bC:n<=1000001:=by
  have h:=plh HP.out.1;rw [yx,pac] at h;have:=HS.out;omega
 have T2:=ah (aE.upd U2.out);have bI:Hid (gR<gP/\gP<O.heap.size):=⟨by rw [<-aI];exact paf s1.out,paf RP⟩
 clear bg aV aI hn q2 u1 s1 RP bl;by_cases h3:n<3
 · have A:Hid (∀ d,¬ IsDl (bs s) d):=fun d a=>by have:=(pdI a HP.out.1).1;have:=HN.out;omega
   have bd:(n:Int)<3:=by omega
   go_wp2_with (first | (refine bB aa ?_) | (refine bV S2 z rfl ab ?_))
   refine bF (xz _ _ _ _ _ _ S2.out) underlying142 z ?_;rw [C.out];exact drNo A.out (U2.out.setRowNew S.out _)
 have bd:¬ (n:Int)<3:=by omega
 obtain ⟨x0,a4⟩:∃ x,P[0]? =some x:=⟨_,xd (by rw [<-HN.out];omega)⟩
 obtain ⟨x1,aP⟩:∃ x,P[1]? =some x:=⟨_,xd (by rw [<-HN.out];omega)⟩
 have c0:=aA.out O uR 0 x0 a4;have c1:=aA.out O uR 1 x1 aP;have j1:(1:Int)<(n:Int):=by omega
 have j0:(0:Int)<(n:Int):=by omega
 by_cases hx:bs x0=pe8
 case neg =>
  have A:Hid (∀ d,¬ IsDl (bs s) d):=fun d a=>hx ((pdI a HP.out.1).2.1 x0 a4);have g1:(x0.toList == [100,101,97,108])=false:=by rw [xm,yi];exact hx
  clear hx;go_wp2_with (first | (refine bB aa ?_) | (refine bV S2 z rfl ab ?_))
  refine bF (xz _ _ _ _ _ _ S2.out) underlying142 z ?_;rw [C.out];exact drNo A.out (U2.out.setRowNew S.out _)
 have g1:(x0.toList == [100,101,97,108])=true:=by rw [yW,yi];exact hx
 have aG:=ah aP;clear a4 hx aP;by_cases f:∃ v,Lib.atoiAll (bs x1)=.ok v
 case neg =>
  have X:∀ v,Lib.atoiAll (bs x1)≠.ok v:=fun v e=>f ⟨v,e⟩;have A:Hid (∀ d,¬ IsDl (bs s) d):=fun d a=>by
   have h:=pdI a HP.out.1;have h1:=h.1;have U:=HN.out;have hi:pab (d.coms.length:Int):=by unfold pab;omega
   exact X _ (by rw [h.2.2.1 x1 aG.out];exact paI _ hi)
  have E:=ah (pbX x1 O (by have:=ay.out 1 x1 aG.out;omega) X T2.out);clear f X;go_wp2_with fail;refine E.out.mono ?_;rintro e w3 ⟨v,N,rfl,F,hq⟩;have U3:=ah (U2.out.trans hq);have S3:=ah (paa S2.out hq);clear hq E F;go_wp2_with (first | (refine bB aa ?_) | (refine bV S3 z rfl ab ?_))
  refine bF (xz _ _ _ _ _ _ S3.out) underlying142 z ?_;rw [C.out];exact drNo A.out (U3.out.setRowNew S.out _)
 obtain ⟨v,f⟩:=f;have F:pab v:=yU f;have HV:=ah f;have E:=ah (pco x1 v O (by have:=ay.out 1 x1 aG.out;omega) f);have aH:=ah F;have ap:Hid (∀ d,IsDl (bs s) d->v=(d.coms.length:Int)/\n=3+d.coms.length+d.boxes.length):=fun d a=>by
  have h:=pdI a HP.out.1;have h1:=h.1;have bD:=HN.out;have hi:pab (d.coms.length:Int):=by unfold pab;omega
  have:=HV.out;rw [h.2.2.1 x1 aG.out,paI _ hi] at this;injection this with this;exact ⟨this.symm,by omega⟩
 clear f;go_wp2_with fail;refine E.out.mono ?_;rintro e w3 ⟨rfl,hq⟩;have U3:=ah (U2.out.trans hq);have S3:=ah (paa S2.out hq);have Q3:=ah hq;clear hq E c0 c1 g1;have bn:IntKind.i64.wrap ((n:Int) - 3)=(n:Int) - 3:=zs _ (by omega);by_cases bm:v<0
 · have A:Hid (∀ d,¬ IsDl (bs s) d):=fun d a=>by have:=(ap.out d a).1;omega
   clear F;go_wp2_with (first | (refine bB aa ?_) | (refine bV S3 z rfl ab ?_))
   refine bF (xz _ _ _ _ _ _ S3.out) underlying142 z ?_;rw [C.out];exact drNo A.out (U3.out.setRowNew S.out _)
 by_cases bq:(n:Int) - 3<v
 · have A:Hid (∀ d,¬ IsDl (bs s) d):=fun d a=>by have:=ap.out d a;omega
   clear F;go_wp2_with (first | (refine bB aa ?_) | (refine bV S3 z rfl ab ?_))
   refine bF (xz _ _ _ _ _ _ S3.out) underlying142 z ?_;rw [C.out];exact drNo A.out (U3.out.setRowNew S.out _)
 obtain ⟨m,rfl⟩:∃ m:Nat,v=(m:Int):=⟨v.toNat,by omega⟩
 have hm:m+3<=n:=by omega
 clear bm bq F bn aH HV U2 S2;have aK:IntKind.i64.wrap (2+(m:Int))=2+(m:Int):=zs _ (by omega);have l1:¬ (n:Int)<2+(m:Int):=by omega
 have l2:¬ (2+(m:Int))<2:=by omega
 obtain ⟨g,aF⟩:=ae (w3.heap.size);obtain ⟨w4,aY⟩:=ae (w3.alloc (.cells #[.slice none 0 0,.int .i64 0,.slice none 0 0] 142));have q4:=aU aY;have bx:Hid (DrSt w w4 g gR (.slice none 0 0) (.slice none 0 0) 0 [] []) :=
  ⟨by rw [<-aF,<-aY];exact xi _ _,by rw [<-C.out];exact paa S3.out q4,x9 _ _ _ _,pdN _,U3.out.trans q4,⟨S.out,by rw [<-aF];exact paf S3.out⟩,(fun x h=>by cases h),(fun x h=>by cases h),(fun x h=>by cases h)⟩
 have Q4:=ah (Q3.out.trans q4);have aC:Hid (O.heap.size<=g):=by rw [<-aF];exact Q3.out.size
 clear q4 Q3 U3 S3;go_wp2_with fail;rw [show 2+m - 2=m by omega];clear aY aF aK l1 l2 bd;go_loopw [9,10,11,54] (fun _ _ _ i wr=>∃ (k:Nat) (c:Value) (cs:List Int),i=.int .i64 (k:Int)/\k<=m/\Hid (DrSt w wr g gR c (.slice none 0 0) 0 cs [])/\Hid (cs.length=k/\(∀ c∈cs,pab c)/\∀ d,IsDl (bs s) d->cs=d.coms.take k)/\Hid (Uq O wr)) (fun _ _ _ i _=>m - (intOf i).toNat)
 case atStart=>exact ⟨0,.slice none 0 0,[],rfl,xu _,bx.out,⟨rfl,(fun _ h=>by cases h),(fun d _=>by simp)⟩,Q4.out⟩
 case round =>
  obtain ⟨k,c,cs,rfl,hk,B,Z,T⟩:=hrel;by_cases a7:k<m
  · obtain ⟨x,hx⟩:∃ x,P[2+k]? =some x:=⟨_,xd (by rw [<-HN.out];omega)⟩
    have aj:=aA.out wr T.out (2+k) x hx;have bv:=ay.out _ x hx;have HX:=ah hx;have i0:(0:Int)<=(k:Int):=by omega
    have i1:(k:Int)<(m:Int):=by omega
    have TW:=ah (T2.out.upd T.out);clear hx;by_cases f:∃ v,Lib.atoiAll (bs x)=.ok v
    case neg =>
     have X:∀ v,Lib.atoiAll (bs x)≠.ok v:=fun v e=>f ⟨v,e⟩;have A:Hid (∀ d,¬ IsDl (bs s) d):=fun d a=>by
      have h:=pdI a HP.out.1;have h0:=(ap.out d a).1;obtain ⟨c,hc,he⟩:=h.2.2.2.1 k x (by omega) HX.out;exact X c (by rw [he];exact paI _ (a.1.1 c (xt hc)))
     have E:=ah (pbX x wr (by omega) X TW.out);clear f X;go_wp2_with fail;refine E.out.mono ?_;rintro e w5 ⟨v,N,rfl,F,hq⟩;have U5:=ah (B.out.up.trans hq);have S5:Fr w5 gR DZ 142:=by show _=_;rw [C.out];exact paa B.out.res hq
     clear hq E F aj;go_wp2_with (first | (refine bB aa ?_) | (refine bV S5 z rfl ab ?_))
     refine bF (xz _ _ _ _ _ _ S5.out) underlying142 z ?_;rw [C.out];exact drNo A.out (U5.out.setRowNew S.out _)
    obtain ⟨v,f⟩:=f;have F:pab v:=yU f;have HV:=ah f;have E:=ah (pco x v wr (by omega) f);have bo:Hid ((cs ++ [v]).length=k+1/\(∀ c∈cs ++ [v],pab c)/\∀ d,IsDl (bs s) d->cs ++ [v]=d.coms.take (k+1)):=by
     refine ⟨by rw [xr,Z.out.1];rfl,fun c hc=>?_,fun d a=>?_⟩
     · rcases yq.1 hc with h | h
       · exact Z.out.2.1 c h
       · rw [zl.1 h];exact F
     · have h:=pdI a HP.out.1;have h0:=(ap.out d a).1;obtain ⟨c,hc,he⟩:=h.2.2.2.1 k x (by omega) HX.out;have e:=HV.out;rw [he,paI _ (a.1.1 c (xt hc))] at e;injection e with e;rw [xN,hc,<-Z.out.2.2 d a,e];rfl
    clear f F;go_wp2_with fail;refine E.out.mono ?_;rintro e w5 ⟨rfl,hq⟩;have G:=ah (B.out.quiet hq);have br:=ah (T.out.trans hq);obtain ⟨c',w6,av,ai,ad⟩:=pa9 w5 c k (pc4 cs) v (by have h:=G.out.com;rw [Z.out.1] at h;exact h) (by omega);obtain ⟨aw,au,rfl,bk,bj⟩:=pan ai;have a5:=ah av;have H:=ah (G.out.addCom ad (q:=v) (by rw [Z.out.1,piU];exact ai));have rD:w6.heap[g]? =some (.cells (dlC c 0 (.slice none 0 0)) 142 (0,0)):=(ad.block g G.out.lt (fun q=>zc _ (G.out.offc g q))).trans G.out.row;have cD:=(xa _ g 0 _ _ _ rD).trans (show _=some c from rfl);have fD:=xp _ g 0 _ _ rD;have bt:=G.out.cells.1;have a0:Hid (Uq O (w6.setCell ⟨g,0,none⟩ (.slice aw (k+1) au))):=(br.out.past ad (fun j hj=>by have:=G.out.offc j hj;have:=aC.out;omega)).setNew (p:=⟨g,0,none⟩) aC.out _;clear hq E av ai ad rD aj B T;go_wp2_with (refine wpList_append_run _ rfl _ _ _ _ rfl _ _ (.slice aw (k+1) au) w6 rfl rfl a5.out ?_)
    exact ⟨⟨k+1,_,_,by go_num,by omega,H.out,bo.out,a0.out⟩,by first | (simp [intOf];done) | (simp [intOf];omega)⟩
  · obtain rfl:k=m:=by omega
    obtain ⟨y,hy⟩:∃ y,P[2+k]? =some y:=⟨_,xd (by rw [<-HN.out];omega)⟩
    have aj:=aA.out wr T.out (2+k) y hy;have bJ:=ay.out _ y hy;have HY:=ah hy;have TW:=ah (T2.out.upd T.out);have aK:IntKind.i64.wrap (2+(k:Int))=2+(k:Int):=zs _ (by omega);have i0:(0:Int)<=2+(k:Int):=by omega
    have i1:2+(k:Int)<(n:Int):=by omega
    have ar:Hid (∀ d,IsDl (bs s) d->k=d.coms.length/\bs y=Lib.itoa d.point/\pab d.point):=fun d a=>by
     have h0:=(ap.out d a).1;have e:k=d.coms.length:=by omega
     exact ⟨e,(pdI a HP.out.1).2.2.2.2.1 y (by rw [<-e];exact HY.out),a.1.2.1⟩
    clear hy;by_cases f:∃ v,Lib.atoiAll (bs y)=.ok v
    case neg =>
     have X:∀ v,Lib.atoiAll (bs y)≠.ok v:=fun v e=>f ⟨v,e⟩;have A:Hid (∀ d,¬ IsDl (bs s) d):=fun d a=>by
      obtain ⟨_,h1,U⟩:=ar.out d a;exact X d.point (by rw [h1];exact paI _ U)
     have E:=ah (pbX y wr (by omega) X TW.out);clear f X;go_wp2_with fail;refine E.out.mono ?_;rintro e w5 ⟨v,N,rfl,F,hq⟩;have G:=ah (B.out.quiet hq);have H:=ah (G.out.setP v);have cD:=(xa _ g 1 _ _ _ G.out.row).trans (show _=some (Value.int .i64 0) from rfl);have fD:=xp _ g 1 _ _ G.out.row;have S6:Hid ((w5.setCell ⟨g,1,none⟩ (.int .i64 v)).heap[gR]? =some (.cells DZ 142 (0,0))):=by show _=_;rw [C.out];exact H.out.res
     clear hq E F aj B T;go_wp2_with (first | (refine bB aa ?_) | (refine bV S6 z rfl ab ?_))
     refine bF (xz _ _ _ _ _ _ S6.out) underlying142 z ?_;rw [C.out];exact drNo A.out (H.out.up.setRowNew S.out _)
    obtain ⟨v,f⟩:=f;have F:pab v:=yU f;have aH:=ah F;have E:=ah (pco y v wr (by omega) f);have bh:Hid (∀ d,IsDl (bs s) d->v=d.point):=fun d a=>by
     obtain ⟨_,h1,U⟩:=ar.out d a;rw [h1,paI _ U] at f;injection f with f;exact f.symm
    clear f F;go_wp2_with fail;refine E.out.mono ?_;rintro e w5 ⟨rfl,hq⟩;have G:=ah (B.out.quiet hq);have H:=ah (G.out.setP v);have cD:=(xa _ g 1 _ _ _ G.out.row).trans (show _=some (Value.int .i64 0) from rfl);have fD:=xp _ g 1 _ _ G.out.row;have U6:Hid (Uq O (w5.setCell ⟨g,1,none⟩ (.int .i64 v))):=(T.out.trans hq).setNew (p:=⟨g,1,none⟩) aC.out _;obtain ⟨w6,aR⟩:=ae (w5.setCell ⟨g,1,none⟩ (.int .i64 v));rw [aR] at H U6;have bi:IntKind.i64.wrap (3+(k:Int))=3+(k:Int):=zs _ (by omega);have l3:¬ (n:Int)<3+(k:Int):=by omega
    have l4:¬ (3+(k:Int))<0:=by omega
    clear hq E aj B T G;have aM:Hid (∀ d,IsDl (bs s) d->d.boxes.length=n - (3+k)):=fun d a=>by
     have h0:=ap.out d a;have h1:=(ar.out d a).1;omega
    by_cases hz:n=3+k
    · have am:Hid (([]:List (List UInt8)).length<=1000000/\(∀ b∈([]:List (List UInt8)),b.length<=1000000)/\∀ d,IsDl (bs s) d->[]=d.boxes) :=
       ⟨xu _,(fun b hb=>by cases hb),fun d a=>(ze (by rw [aM.out d a];omega)).symm⟩
      go_wp2_with fail;refine yt 1 ?_;rw [xK];clear aR cD fD;obtain ⟨D,K⟩:∃ D:DlI,D=⟨cs,v,[]⟩:=⟨_,rfl⟩
      have ak:D.fit:=by
       rw [K];exact ⟨Z.out.2.1,aH.out,by show cs.length<=_;rw [Z.out.1];omega,am.out.1,am.out.2.1⟩
      have aT:Hid (∀ d,IsDl (bs s) d->d=D):=fun d a=>by
       rw [K];have h1:=Z.out.2.2 d a;rw [(ar.out d a).1,yb] at h1;have U:=bh.out d a;have h3:=am.out.2.2 d a
       cases d
       simp only at h1 U h3;rw [h1,U,h3]
      obtain ⟨DV,J⟩:=az (dlC c v (.slice none 0 0));have RD:=H.out.row;have RR:=H.out.res;rw [<-J] at RD;rw [<-C.out] at RR;have an:=ah RD;have ax:=ah RR;have al:=ah (pfp D c (.slice none 0 0) w6 ak (by rw [K];exact RdI.of_row H.out.com) (by rw [K];exact RdS.of_row H.out.box) (aE.upd H.out.up));have aB:(#[c,D.point,(.slice none 0 0)]:Array Value)=DV:=by rw [J,K];rfl
      rw [aB] at al;have af:Fi 142 DV:=by rw [J];exact pbB _ _ _
      have aO:Fo DV:=by
       rw [J];obtain ⟨a1,c1,e1,_⟩:=pan H.out.com;obtain ⟨a2,c2,e2,_⟩:=pan H.out.box;show _=_;rw [e1,e2];simp [dlC,Value.oneCell']
      have aN:Hid (DZ.size=DV.size):=by show _=_;rw [C.out,J];rfl
      have aS:=ah J;have Q:=ah (xf K ak);clear RD RR aB J K ak;go_wp2_with (refine bL an underlying142 af ?_)
      refine al.out.mono ?_;rintro e wT ⟨t,HT,_,rfl,hq⟩;have o:=ah (H.out.quiet hq);have aL:=ah (paa an.out hq);have ac:=ah (paa ax.out hq);clear hq al an ax;by_cases R:t=s
      case neg =>
       have A:Hid (∀ d,¬ IsDl (bs s) d):=fun d a=>by
        have e:=aT.out d a;rw [e] at a;exact R (paT (HT.out.trans a.2.symm))
       have g1:(t.toList == s.toList)=false:=by rw [<-yK];exact fun h=>R (paT (pbM.1 h))
       clear R;go_wp2_with (first | (refine bB aa ?_) | (refine bV ac z rfl ab ?_))
       refine bF (xz _ _ _ _ _ _ ac.out) underlying142 z ?_;rw [C.out];exact drNo A.out (o.out.up.setRowNew S.out _)
      have aQ:Hid (IsDl (bs s) D):=by
       refine ⟨⟨Q.out.2.1,Q.out.2.2.1,by have:=Q.out.2.2.2.1;omega⟩,?_⟩;rw [<-R];exact HT.out
      have g1:(t.toList == s.toList)=true:=pbM.2 (by rw [R]);obtain ⟨wF,Y⟩:=ae (wT.setRow gR DV);have RF:=bX Y ac;have UF:Hid (Uq w wF):=by show Upd _ _ _ _;rw [<-Y];exact o.out.up.setRowNew S.out _
      have aZ:Hid (RdI wF c cs/\RdS wF (.slice none 0 0) []):=by
       have aD:∀ x,x≠gR->wF.heap[x]? =wT.heap[x]?:=fun x hx=>by
        rw [<-Y];unfold World.setRow;rw [zZ,yy (fun e=>hx e.symm)]
       exact ⟨RdI.of_row (paj o.out.com (fun x hx=>aD x (by have:=o.out.offc x hx;have:=o.out.base;omega))),RdS.of_row (o.out.box.same (fun x hx=>aD x (by have:=o.out.offb x hx;have:=o.out.base;omega)))⟩
      have a3:=ah Y;clear R Y;go_wp2_with (first | (refine bL aL underlying142 af ?_) | (refine bS ac af aN aO a3 ?_))
      refine bF RF underlying142 af ?_;rw [aS.out];refine ⟨c,(.slice none 0 0),D,true,.inl ⟨rfl,aQ.out,Q.out.2⟩,?_,(fun x hx=>by have h1:=o.out.base;rcases hx with hx | hx;(have:=o.out.offc x hx;omega);(have:=o.out.offb x hx;omega)),?_,UF.out⟩
      · show RdI _ _ _/\RdS _ _ _;rw [Q.out.1];exact aZ.out
      · rw [Q.out.1];rfl
    · obtain ⟨r,hr⟩:=az (n - (3+k));have HR:=ah hr;have bK:3+k+r=n:=by omega
      go_wp2_with fail;rw [<-hr];clear hr hz bi l3 l4 aK cD fD aR i0 i1;have a0:=U6;go_loopw [13,14,15,91] (fun _ _ _ i wr=>∃ (j:Nat) (b:Value) (M:List (List UInt8)),i=.int .i64 (j:Int)/\j<=r/\Hid (DrSt w wr g gR c b v cs M)/\Hid (M.length=j/\(∀ b∈M,b.length<=1000000)/\∀ d,IsDl (bs s) d->M=d.boxes.take j)/\Hid (Uq O wr)) (fun _ _ _ i _=>r - (intOf i).toNat)
      case atStart=>exact ⟨0,.slice none 0 0,[],rfl,xu _,H.out,⟨rfl,(fun _ h=>by cases h),(fun d _=>by simp)⟩,a0.out⟩
      case round =>
       obtain ⟨j,b,M,rfl,hj,B,ao,T⟩:=hrel;by_cases a7:j<r
       · obtain ⟨x,hx⟩:∃ x,P[3+k+j]? =some x:=⟨_,xd (by rw [<-HN.out];omega)⟩
         have aj:=aA.out wr T.out (3+k+j) x hx;have bv:=ay.out _ x hx;have HX:=ah hx;have i0:(0:Int)<=(j:Int):=by omega
         have i1:(j:Int)<(r:Int):=by omega
         have ba:=ah (pir x (by omega) wr);have bb:Hid (∀ d,IsDl (bs s) d->∃ b,d.boxes[j]? =some b/\bs x=hexL b):=fun d a=>by
          have h1:=(ar.out d a).1;exact (pdI a HP.out.1).2.2.2.2.2 j x (by rw [aM.out d a,<-HR.out];exact a7) (by rw [<-h1];exact HX.out)
         clear hx;go_wp2_with fail;refine ba.out.mono ?_;rintro e w7 ⟨rr,ok,bf,a9,rfl,hq⟩;have ag:=ah (B.out.quiet hq);have bz:=ah (T.out.trans hq);rw [pac] at a9;have bw:Hid (rr.size<=1000000):=by show _<=_;omega
         clear hq ba aj B T a9
         cases ok with
         | false =>
          have A:Hid (∀ d,¬ IsDl (bs s) d):=fun d a=>by
           obtain ⟨b,_,hb⟩:=bb.out d a;have:=(bf.out b hb).1
           cases this
          have S7:Fr w7 gR DZ 142:=by show _=_;rw [C.out];exact ag.out.res
          go_wp2_with (first | (refine bB aa ?_) | (refine bV S7 z rfl ab ?_))
          refine bF (xz _ _ _ _ _ _ S7.out) underlying142 z ?_;rw [C.out];exact drNo A.out (ag.out.up.setRowNew S.out _)
         | true =>
          have a6:Hid ((M ++ [bs rr]).length=j+1/\(∀ b∈M ++ [bs rr],b.length<=1000000)/\∀ d,IsDl (bs s) d->M ++ [bs rr]=d.boxes.take (j+1)):=by
           refine ⟨by rw [xr,ao.out.1];rfl,fun c hc=>?_,fun d a=>?_⟩
           · rcases yq.1 hc with h | h
             · exact ao.out.2.1 c h
             · rw [zl.1 h,pac];exact bw.out
           · obtain ⟨b,h1,U⟩:=bb.out d a;rw [xN,h1,<-ao.out.2.2 d a,(bf.out b U).2];rfl
          obtain ⟨b',w8,av,ai,ad⟩:=pbE w7 b M rr ag.out.box (by rw [ao.out.1];omega);obtain ⟨aw,au,bc,bk,bj⟩:=pan ai;rw [a6.out.1] at bc;subst bc;have a5:=ah av;have bp:=ah (ag.out.addBox ad ai);have rD:w8.heap[g]? =some (.cells (dlC c v b) 142 (0,0)):=(ad.block g ag.out.lt (fun q=>zc _ (ag.out.offb g q))).trans ag.out.row;have cD:=(xa _ g 2 _ _ _ rD).trans (show _=some b from rfl);have fD:=xp _ g 2 _ _ rD;have bt:=ag.out.cells.2;have bu:Hid (Uq O (w8.setCell ⟨g,2,none⟩ (.slice aw (j+1) au))):=(bz.out.past ad (fun q hq=>by have:=ag.out.offb q hq;have:=aC.out;omega)).setNew (p:=⟨g,2,none⟩) aC.out _;clear av ai ad rD;go_wp2_with (refine wpList_append_run _ rfl _ _ _ _ rfl _ _ (.slice aw (j+1) au) w8 rfl rfl a5.out ?_)
          exact ⟨⟨j+1,_,_,by go_num,by omega,bp.out,a6.out,bu.out⟩,by first | (simp [intOf];done) | (simp [intOf];omega)⟩
       · obtain rfl:j=r:=by omega
         have am:Hid (M.length<=1000000/\(∀ b∈M,b.length<=1000000)/\∀ d,IsDl (bs s) d->M=d.boxes) :=
          ⟨by rw [ao.out.1];omega,ao.out.2.1,fun d a=>by have h:=ao.out.2.2 d a;rw [HR.out,<-aM.out d a,yb] at h;exact h⟩
         obtain ⟨D,K⟩:∃ D:DlI,D=⟨cs,v,M⟩:=⟨_,rfl⟩
         have ak:D.fit:=by
          rw [K];exact ⟨Z.out.2.1,aH.out,by show cs.length<=_;rw [Z.out.1];omega,am.out.1,am.out.2.1⟩
         have aT:Hid (∀ d,IsDl (bs s) d->d=D):=fun d a=>by
          rw [K];have h1:=Z.out.2.2 d a;rw [(ar.out d a).1,yb] at h1;have U:=bh.out d a;have h3:=am.out.2.2 d a
          cases d
          simp only at h1 U h3;rw [h1,U,h3]
         obtain ⟨DV,J⟩:=az (dlC c v b);have RD:=B.out.row;have RR:=B.out.res;rw [<-J] at RD;rw [<-C.out] at RR;have an:=ah RD;have ax:=ah RR;have al:=ah (pfp D c b wr ak (by rw [K];exact RdI.of_row B.out.com) (by rw [K];exact RdS.of_row B.out.box) (aE.upd B.out.up));have aB:(#[c,D.point,b]:Array Value)=DV:=by rw [J,K];rfl
         rw [aB] at al;have af:Fi 142 DV:=by rw [J];exact pbB _ _ _
         have aO:Fo DV:=by
          rw [J];obtain ⟨a1,c1,e1,_⟩:=pan B.out.com;obtain ⟨a2,c2,e2,_⟩:=pan B.out.box;show _=_;rw [e1,e2];simp [dlC,Value.oneCell']
         have aN:Hid (DZ.size=DV.size):=by show _=_;rw [C.out,J];rfl
         have aS:=ah J;have Q:=ah (xf K ak);clear RD RR aB J K ak;go_wp2_with (refine bL an underlying142 af ?_)
         refine al.out.mono ?_;rintro e wT ⟨t,HT,_,rfl,hq⟩;have o:=ah (B.out.quiet hq);have aL:=ah (paa an.out hq);have ac:=ah (paa ax.out hq);clear hq al an ax;by_cases R:t=s
         case neg =>
          have A:Hid (∀ d,¬ IsDl (bs s) d):=fun d a=>by
           have e:=aT.out d a;rw [e] at a;exact R (paT (HT.out.trans a.2.symm))
          have g1:(t.toList == s.toList)=false:=by rw [<-yK];exact fun h=>R (paT (pbM.1 h))
          clear R;go_wp2_with (first | (refine bB aa ?_) | (refine bV ac z rfl ab ?_))
          refine bF (xz _ _ _ _ _ _ ac.out) underlying142 z ?_;rw [C.out];exact drNo A.out (o.out.up.setRowNew S.out _)
         have aQ:Hid (IsDl (bs s) D):=by
          refine ⟨⟨Q.out.2.1,Q.out.2.2.1,by have:=Q.out.2.2.2.1;omega⟩,?_⟩;rw [<-R];exact HT.out
         have g1:(t.toList == s.toList)=true:=pbM.2 (by rw [R]);obtain ⟨wF,Y⟩:=ae (wT.setRow gR DV);have RF:=bX Y ac;have UF:Hid (Uq w wF):=by show Upd _ _ _ _;rw [<-Y];exact o.out.up.setRowNew S.out _
         have aZ:Hid (RdI wF c cs/\RdS wF b M):=by
          have aD:∀ x,x≠gR->wF.heap[x]? =wT.heap[x]?:=fun x hx=>by
           rw [<-Y];unfold World.setRow;rw [zZ,yy (fun e=>hx e.symm)]
          exact ⟨RdI.of_row (paj o.out.com (fun x hx=>aD x (by have:=o.out.offc x hx;have:=o.out.base;omega))),RdS.of_row (o.out.box.same (fun x hx=>aD x (by have:=o.out.offb x hx;have:=o.out.base;omega)))⟩
         have a3:=ah Y;clear R Y;go_wp2_with (first | (refine bL aL underlying142 af ?_) | (refine bS ac af aN aO a3 ?_))
         refine bF RF underlying142 af ?_;rw [aS.out];refine ⟨c,b,D,true,.inl ⟨rfl,aQ.out,Q.out.2⟩,?_,(fun x hx=>by have h1:=o.out.base;rcases hx with hx | hx;(have:=o.out.offc x hx;omega);(have:=o.out.offb x hx;omega)),?_,UF.out⟩
         · show RdI _ _ _/\RdS _ _ _;rw [Q.out.1];exact aZ.out
         · rw [Q.out.1];rfl
def padK:Nat->Nat->List UInt8
 | 0,_=>[]
 | k+1,r=>padK k (r / 10) ++ [UInt8.ofNat (48+r % 10)]
theorem pjP:∀ k,padK k 0=List.replicate k 48
 | 0=>rfl
 | k+1=>by
  rw [padK,show 0 / 10=0 by rfl,pjP k,uf]
  rfl
theorem pms:∀ k r,0<k->r<10 ^ k->padK k r=List.replicate (k - (Lib.decDigits r).length) 48 ++ Lib.decDigits r
 | 0,_,h,_=>absurd h (by omega)
 | k+1,r,_,hr=>by
  by_cases h:r<10
  · rw [padK,show r / 10=0 by omega,pjP,zE h,xV h]
    simp
  · have a:0<k:=by
     cases k with
     | zero=>simp at hr;omega
     | succ k=>omega
    rw [x8] at hr;rw [padK,pms k (r / 10) a (by omega)]
    conv=>rhs;rw [Lib.decDigits,dif_neg h]
    rw [xr];simp only [zw,xG];rw [show k+1 - ((Lib.decDigits (r / 10)).length+1)=k - (Lib.decDigits (r / 10)).length by omega]
theorem pmt:∀ k x,padK k (x % 10 ^ k)=padK k x
 | 0,_=>rfl
 | k+1,x=>by
  have a:x % 10 ^ (k+1) / 10=x / 10 % 10 ^ k:=by rw [x8,yk,Nat.mod_mul_right_div_self]
  have c:x % 10 ^ (k+1) % 10=x % 10:=vx x (by rw [x8];exact Nat.dvd_mul_left _ _)
  rw [padK,padK,a,c,pmt k (x / 10)]
theorem pqe:∀ k x,10 ^ k<=x->Lib.decDigits x=Lib.decDigits (x / 10 ^ k) ++ padK k x
 | 0,x,_=>by simp [padK]
 | k+1,x,h=>by
  have h0:1<=10 ^ k:=Nat.one_le_pow _ _ (by omega)
  rw [x8] at h
  conv=>lhs;rw [Lib.decDigits,dif_neg (by omega)]
  rw [pqe k (x / 10) (by omega),padK,x8,yk,<-ut,xG]
def grp (y:Nat):List UInt8:=if 1000000000<=y then padK 9 y else Lib.decDigits y
theorem ps4 {y} (h:1000000000<=y):grp y=List.replicate (9 - (Lib.decDigits (y % 1000000000)).length) 48 ++ Lib.decDigits (y % 1000000000):=by
 unfold grp;rw [xH h,<-pmt 9 y,show (10:Nat) ^ 9=1000000000 by decide,pms 9 _ (by omega) (by rw [show (10:Nat) ^ 9=1000000000 by decide];omega)]
theorem pry {y} (h:y<1000000000):grp y=Lib.decDigits (y % 1000000000):=by
 unfold grp;rw [yy (by omega),xV h]
def pis (y:Nat):List UInt8:=if y=0 then [] else Lib.decDigits y
theorem pmu {y} (h:0<y):pis y=pis (y / 1000000000) ++ grp y:=by
 unfold pis grp;rw [yy (by omega)];by_cases h1:1000000000<=y
 · rw [xH h1,yy (by omega),<-show (10:Nat) ^ 9=1000000000 by decide];exact pqe 9 y (by rw [show (10:Nat) ^ 9=1000000000 by decide];exact h1)
 · rw [yy h1,xH (by omega)];rfl
theorem pt0 {r a:Nat} (g:a<4294967296) (h:r<4294967296):bits .or .u64 ((r * 4294967296:Nat):Int) (a:Int)=((r * 4294967296+a:Nat):Int):=by
 show IntKind.u64.wrap ((BitVec.ofInt 64 ((r * 4294967296:Nat):Int) ||| BitVec.ofInt 64 (a:Int)).toNat:Int)=_;have d:(BitVec.ofInt 64 ((r * 4294967296:Nat):Int)).toNat=r * 4294967296:=by
  rw [yO];show (((r * 4294967296:Nat):Int) % 18446744073709551616).toNat=_;omega
 have f:(BitVec.ofInt 64 (a:Int)).toNat=a:=by
  rw [yO];show ((a:Int) % 18446744073709551616).toNat=_;omega
 have e:=zX (i:=32) (b:=a) (by simpa using g) r;have c:r * 4294967296 ||| a=r * 4294967296+a:=by
  rw [yk r];exact e.symm
 rw [uN,d,f,c];show ((r * 4294967296+a:Nat):Int) % 18446744073709551616=_;omega
theorem ps5 {a b r t} (c:r=b % 1000000000) (d:t=r * 4294967296+a):valW [t / 1000000000,b / 1000000000]=valW [a,b] / 1000000000/\t % 1000000000=valW [a,b] % 1000000000:=by
 simp only [valW];omega
theorem pt1 (a:Nat) (c:a<4294967296):bits .or .u64 0 (a:Int)=(a:Int):=by
 have h:=pt0 (r:=0) c (by omega);rw [vg,yB] at h;exact h
theorem ps6 {x} (h:4294967296<=x) (a:x<18446744073709551616):dw x=[x % 4294967296,x / 4294967296]:=by
 rw [pet (by omega),pcV (by omega) (by omega)]
theorem Wd.two {w v a b} (h:Wd w v [a,b]):∃ g c,v=.slice (some ⟨g,0,none⟩) 2 c/\2<=c/\c<=9223372036854775807/\g<w.heap.size/\w.cell? ⟨g,0,none⟩=some (.int .u32 (a:Int))/\w.cell? ⟨g,1,none⟩=some (.int .u32 (b:Int)):=by
 obtain ⟨k,c,rfl,h1,f,d⟩:=h;rcases d with d | ⟨b,rfl,j,e⟩
 · simp at d
 · exact ⟨b,c,rfl,by simpa using h1,f,j,e 0 _ rfl,e 1 _ rfl⟩
def ps7 (x:Nat) (w:World) (e:Ending) (w':World):Prop:=∃ v',Hid (Wd w' v' (dw (x / 1000000000)))/\Hid (∀ b,b∈foot v'->w.heap.size<=b)/\e=.returned (.tuple #[v',.int .u32 ((x % 1000000000:Nat):Int)])/\Upd [] [] w w'
theorem pgX (v d w) (E:Wd w v [d]) (S:d<4294967296):Calls prog 124 #[v,.int .u32 1000000000] w (ps7 d w):=by
 obtain ⟨g,U,rfl,_,_,F,C⟩:=E.one;have x:(Instr.makeSlice 119 (.int .i64 1) (.int .i64 1)).run prog w=.ok (.slice (some ⟨w.heap.size,0,none⟩) 1 1) (w.alloc (.cells (pcT (List.replicate 1 0)).toArray 163)):=pbT w 1 (by omega);obtain ⟨a,f⟩:=az (w.alloc (.cells (pcT (List.replicate 1 0)).toArray 163));have c:WB a w.heap.size [0]:=by rw [f];exact xi _ _
 have o:Uq w a:=by rw [f];exact uR.alloc _
 rw [<-f] at x;obtain ⟨G,k⟩:=az (w.heap.size);rw [<-k] at x c;obtain ⟨q,hq⟩:=az (d / 1000000000);obtain ⟨r,B⟩:=az (d % 1000000000);have d1:a.cell? ⟨g,0,none⟩=some (.int .u32 (d:Int)):=(o.cell F (by simp)).trans C;have k0:a.cell? ⟨G,0,none⟩=some (.int .u32 0):=c.cell (j:=0) rfl;have f0:=c.frozen 0;have H:WB (a.setCell ⟨G,0,none⟩ (.int .u32 (q:Int))) G [q]:=c.set 0 q;have y:Uq w (a.setCell ⟨G,0,none⟩ (.int .u32 (q:Int))):=o.setNew (p:=⟨G,0,none⟩) (by rw [k];exact xj _) _;have u:=ph7 _ _ _ (H.slice (by simp [maxLen])) (fun z Q=>by simp at Q;omega);rw [show valW [q]=q by simp [valW]] at u;have P:=ah u;have J:Hid (∀ (t:Value) (n m:Nat),foot t=foot (.slice (some ⟨G,0,none⟩) n m)->∀ b,b∈foot t->w.heap.size<=b):=by
  intro t n m h b A;rw [h] at A;have:b=G:=by simpa [foot,Value.ownBlock] using A
  rw [this,k];exact xj _
 have O:=ah y;have X:=pt1 d S;have N:(d:Int) / 1000000000=(q:Int):=by omega
 have T:(d:Int).tdiv 1000000000=(q:Int):=by rw [xP (by omega)];exact N
 have R:(d:Int) % 1000000000=(r:Int):=by omega
 have Y:(d:Int).tmod 1000000000=(r:Int):=by rw [xO (by omega)];exact R
 have Z:(d:Int) % 18446744073709551616=(d:Int):=by omega
 have e5:(d:Int) % 4294967296=(d:Int):=by omega
 have e6:(q:Int) % 4294967296=(q:Int):=by omega
 have e7:(r:Int) % 4294967296=(r:Int):=by omega
 have e8:(r:Int) % 18446744073709551616=(r:Int):=by omega
 have e9:(q:Int) % 18446744073709551616=(q:Int):=by omega
 have K:=ah hq;have M:=ah B;clear E C f o u H y c k F hq B;go_in;go_wp2_with fail;refine yt 2 ?_;rw [xK];go_wp2_with fail;rw [xK];go_wp2_with fail;refine P.out.mono ?_;rintro e W ⟨v,D,rfl,rfl⟩;go_wp2;go_ret2;exact ⟨v,by rw [<-K.out];exact D.out.1,J.out v _ _ D.out.2,by rw [<-M.out];rfl,O.out⟩
theorem pjQ (v a b w) (T:Wd w v [a,b]) (Z:a<4294967296) (B:b<4294967296):Calls prog 124 #[v,.int .u32 1000000000] w (ps7 (valW [a,b]) w):=by
 obtain ⟨g,ac,rfl,_,_,D,Q,R⟩:=T.two;have J:(Instr.makeSlice 119 (.int .i64 2) (.int .i64 2)).run prog w=.ok (.slice (some ⟨w.heap.size,0,none⟩) 2 2) (w.alloc (.cells (pcT (List.replicate 2 0)).toArray 163)):=pbT w 2 (by omega);obtain ⟨f,x⟩:=az (w.alloc (.cells (pcT (List.replicate 2 0)).toArray 163));have k:WB f w.heap.size [0,0]:=by rw [x];exact xi _ _
 have A:Uq w f:=by rw [x];exact uR.alloc _
 rw [<-x] at J;obtain ⟨G,r⟩:=az (w.heap.size);rw [<-r] at J k;obtain ⟨d,H⟩:=az (b / 1000000000);obtain ⟨o,K⟩:=az (b % 1000000000);obtain ⟨y,N⟩:=az (o * 4294967296);obtain ⟨t,F⟩:=az (o * 4294967296+a);obtain ⟨c,M⟩:=az (t / 1000000000);obtain ⟨q,O⟩:=az (t % 1000000000);have u:=ps5 K F;rw [<-M,<-H,<-O] at u;have af:g≠G:=by omega
 have d1:f.cell? ⟨g,0,none⟩=some (.int .u32 (a:Int)):=(A.cell D (by simp)).trans Q;have d2:f.cell? ⟨g,1,none⟩=some (.int .u32 (b:Int)):=(A.cell D (by simp)).trans R;have k0:f.cell? ⟨G,0,none⟩=some (.int .u32 0):=k.cell (j:=0) rfl;have k1:f.cell? ⟨G,1,none⟩=some (.int .u32 0):=k.cell (j:=1) rfl;have f0:=k.frozen 0;have f1:=k.frozen 1;have U:WB ((f.setCell ⟨G,1,none⟩ (.int .u32 (d:Int))).setCell ⟨G,0,none⟩ (.int .u32 (c:Int))) G [c,d]:=(k.set 1 d).set 0 c;have P:Uq w ((f.setCell ⟨G,1,none⟩ (.int .u32 (d:Int))).setCell ⟨G,0,none⟩ (.int .u32 (c:Int))):=(A.setNew (p:=⟨G,1,none⟩) (by rw [r];exact xj _) _).setNew (p:=⟨G,0,none⟩) (by rw [r];exact xj _) _;have W:c<4294967296:=by omega
 have E:=ph7 _ _ _ (U.slice (by simp [maxLen])) (fun z hz=>by simp at hz;omega);rw [u.1] at E;have HT:=ah E;have X:Hid (∀ (C:Value) (n m:Nat),foot C=foot (.slice (some ⟨G,0,none⟩) n m)->∀ b,b∈foot C->w.heap.size<=b):=by
  intro C n m h b B;rw [h] at B;have:b=G:=by simpa [foot,Value.ownBlock] using B
  rw [this,r];exact xj _
 have HU:=ah P;have HM:=ah u.2;have e1:=pt1 b B;have o2:bits .or .u64 (y:Int) (a:Int)=(t:Int):=by
  rw [N,F];exact pt0 Z (by omega)
 have e2:(b:Int) / 1000000000=(d:Int):=by omega
 have aa:(b:Int).tdiv 1000000000=(d:Int):=by rw [xP (by omega)];exact e2
 have e3:(b:Int) % 1000000000=(o:Int):=by omega
 have ad:(b:Int).tmod 1000000000=(o:Int):=by rw [xO (by omega)];exact e3
 have e4:(b:Int) % 18446744073709551616=(b:Int):=by omega
 have ab:(a:Int) % 18446744073709551616=(a:Int):=by omega
 have ak:(t:Int) % 18446744073709551616=(t:Int):=by omega
 have an:(y:Int) % 18446744073709551616=(y:Int):=by omega
 have am:(o:Int) % 18446744073709551616=(o:Int):=by omega
 have al:(d:Int) % 18446744073709551616=(d:Int):=by omega
 have ai:(c:Int) % 18446744073709551616=(c:Int):=by omega
 have ag:(q:Int) % 18446744073709551616=(q:Int):=by omega
 have e5:(o:Int) * 4294967296=(y:Int):=by omega
 have e6:(d:Int) % 4294967296=(d:Int):=by omega
 have e7:(q:Int) % 4294967296=(q:Int):=by omega
 have e8:(c:Int) % 4294967296=(c:Int):=by omega
 have e9:(t:Int) / 1000000000=(c:Int):=by omega
 have ao:(t:Int).tdiv 1000000000=(c:Int):=by rw [xP (by omega)];exact e9
 have Y:(t:Int) % 1000000000=(q:Int):=by omega
 have aj:(t:Int).tmod 1000000000=(q:Int):=by rw [xO (by omega)];exact Y
 clear T Q R x A E U P k r D M H O K N F u W;go_in;go_wp2_with fail;refine yt 3 ?_;rw [xK];go_wp2_with fail;rw [xK];go_wp2_with fail;rw [xK];go_wp2_with fail;refine HT.out.mono ?_;rintro e w1 ⟨v,S,rfl,rfl⟩;go_wp2;go_ret2;exact ⟨v,S.out.1,X.out v _ _ S.out.2,by rw [<-HM.out];rfl,HU.out⟩
theorem pjR (v x w) (a:Wd w v (dw x)) (h0:0<x) (c:x<18446744073709551616):Calls prog 124 #[v,.int .u32 1000000000] w (ps7 x w):=by
 by_cases h:x<4294967296
 · rw [pcV h0 h] at a;exact pgX v x w a h
 · rw [ps6 (by omega) c] at a;have e:valW [x % 4294967296,x / 4294967296]=x:=by simp only [valW];omega
   have k:=pjQ v _ _ w a (by omega) (by omega);rw [e] at k;exact k
end Go.Proofs.YtkhjolbbpdaplaaGreatDoor
