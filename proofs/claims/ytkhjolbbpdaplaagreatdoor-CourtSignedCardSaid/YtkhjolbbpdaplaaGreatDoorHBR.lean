/- court.Judge at a case: what both laws need and what follows. -/
import Derived.Test.YtkhjolbbpdaplaaGreatDoorHAP
import Derived.Test.YtkhjolbbpdaplaaGreatDoorHBQ
namespace Go.Proofs.YtkhjolbbpdaplaaGreatDoor
set_option maxHeartbeats 4000000
open Go.RowKit Go.Proofs.Tryz
set_option maxRecDepth 100000
section
variable {M : Array Value} {aw ar as' bw br bs' low high id pub : Int} {aT bT F A B : ByteArray}
theorem plg (h:MtIs M aw aT ar as' bw bT br bs' low high F A B id pub) (m:aT.size<=900000000) (q:bT.size<=900000000) (w) (j:Tabs w) :
 Calls prog 90 #[.agg M] w (MkPB (ConR (bs aT) (bs bT)) w):=by
 obtain ⟨g,o⟩:=ae (w.heap.size);obtain ⟨k,c⟩:=ae (w.alloc (.cells M 105));have a:=aW o c;have d:=ah (aU c);have u:=(xa _ g 9 _ _ _ a).trans h.a1;have t:=(xa _ g 13 _ _ _ a).trans h.b1;have f:=ah (ps2 aT bT m q k (j.upd d.out));clear h a;go_in;go_wp2_with fail;refine f.out.mono ?_;rintro e r ⟨b,p,rfl,hq⟩;have n:=ah (d.out.trans hq);clear hq f;go_wp2;go_ret;exact ⟨b,p,rfl,n.out⟩
end
theorem pmp (a L):∃ o k e,pcs a L=o/\∀ i,o=some i->L[i]? =some ⟨a,k,e⟩:=by
 cases h:pcs a L with
 | none=>exact ⟨none,0,0,rfl,fun i h=>by cases h⟩
 | some i =>
  have c:=h;unfold pcs at c;rw [vy] at c;obtain ⟨f,g,_⟩:=c;refine ⟨some i,L[i].weight,L[i].pub,rfl,fun j d=>?_⟩;injection d with d;subst d;rw [xd f,<-(yW.1 g)]
theorem pdH.toT {Q:Bool->Prop} {f:FuncId} {args:Array Value} {W:World} (h:Calls prog f args W (pdH Q W)):Calls prog f args W (MkPB Q W):=h
theorem MkPB.weak {Q R f args W} (h:Calls prog f args W (MkPB Q W)) (a:∀ b,Q b->R b):Calls prog f args W (MkPB R W):=by
 refine h.mono ?_;rintro e w' ⟨b,c,rfl,u⟩;exact ⟨b,a b c.out,rfl,u⟩
theorem Mk.toPB {q f args W} (h:Calls prog f args W (Mk (.bool q) W)):Calls prog f args W (MkPB (·=q) W):=by
 refine h.mono ?_;rintro e w' ⟨rfl,u⟩;exact ⟨q,rfl,rfl,u⟩
theorem pmq {ws} {i:Nat} {f g a} (h:(pdp ws)[i]? =some ⟨f,g,a⟩):pab a/\∃ x,ws[i]? =some x:=by
 have d:=(xe.1 h).1;rw [pe3] at d;obtain ⟨x,c⟩:∃ x,ws[i]? =some x:=⟨_,xd d⟩
 rw [paW c] at h;injection h with h;have e:(gP (secN i):Int)=a:=xU Mem.pub h;rw [<-e];exact ⟨plf _,x,c⟩
theorem prv (l):∀ c∈mixL (dsN (wsN l (manyN l)) pdF (manyN l)) (needN (wsN l (manyN l)).sum),memN c:=by
 refine prt (fun j g d e=>?_);obtain ⟨a,f⟩:=pik (pjB l) _ _ d e;rw [xx,xd (by omega)];exact a.1 _ (List.getElem_mem _)
def SgM (L:List Mem) (X:EvdG):Prop:=∃ (i:Nat) (wt pub:Int),L[i]? =some ⟨X.who,wt,pub⟩/\verB pub (bs X.aT) X.ar X.as'=true/\((X.kind=1\/X.kind=4)->verB pub (bs X.bT) X.br X.bs'=true)
def SgK (L:List Mem) (X:EvdG):Prop:=∃ (i:Nat) (wt pub:Int) (ra rb:Rc),L[i]? =some ⟨X.who,wt,pub⟩/\rcOk (bs X.aT) ra true/\rcOk (bs X.bT) rb true/\(verB pub (pa1 ra) ra.r ra.s=true/\ra.kiosk=X.who)/\verB pub (pa1 rb) rb.r rb.s=true/\rb.kiosk=X.who
def JgS (ws:List Nat) (X:EvdG) (w:World) (e:Ending) (w':World):Prop :=
 ∃ x y:Int,((y≠0/\x=0)\/(y=0/\x=X.who/\(((X.kind=6\/X.kind=7)/\SgK (kskL 2) X)\/(1<=X.kind/\X.kind<=5/\SgM (pdp ws) X))))/\e=.returned (.tuple #[x,y])/\Upd [] [] w w'
theorem peY.toS {o:Option Nat} {a c j:Bool->Prop} {ws:List Nat} {X:EvdG} {w w':World} {e:Ending} (h:peY o a c j X.who w e w') (d:∀ i,o=some i->a true->c true->((X.kind=6\/X.kind=7)/\SgK (kskL 2) X)\/(1<=X.kind/\X.kind<=5/\SgM (pdp ws) X)):JgS ws X w e w':=by
 obtain ⟨x,y,h,rfl,k⟩:=h;refine ⟨x,y,?_,rfl,k⟩;rcases h with ⟨_,rfl,rfl⟩ | ⟨i,g,⟨_,rfl,rfl⟩ | ⟨_,_,rfl,rfl⟩ | ⟨_,_,_,rfl,rfl⟩ | ⟨h1,f,_,rfl,rfl⟩⟩
 · exact .inl ⟨by omega,rfl⟩
 · exact .inl ⟨by omega,rfl⟩
 · exact .inl ⟨by omega,rfl⟩
 · exact .inl ⟨by omega,rfl⟩
 · exact .inr ⟨rfl,rfl,d i g h1 f⟩
theorem ptf {i:Nat} {d g a} (h:(kskL 2)[i]? =some ⟨d,g,a⟩):pab a:=by
 have c:=xt h;simp only [kskL,zh] at c;obtain ⟨k,_,f⟩:=c;have e:(gP (kskSec k):Int)=a:=xU Mem.pub f;rw [<-e];exact plf _
theorem pnT (l L K P KM S C KS w) (hC:CaseRd l w L K P KM S C KS) (X) (N:EvOk 60000 X) (v:Tabs w) :
 Calls prog 8 #[.agg #[L,K,P,KM,.int .i64 4,.int .i64 0],.agg X.V] w (JgS (wsN l (manyN l)) X w):=by
 obtain ⟨ws,aj⟩:=az (wsN l (manyN l));have aa:WsOk ws:=by rw [aj];exact pjB l
 have am:=prv l;obtain ⟨cs,ak⟩:=az (mixL (dsN (wsN l (manyN l)) pdF (manyN l)) (needN (wsN l (manyN l)).sum));have aE:cs.length=needN ws.sum:=by rw [ak,pii,aj]
 rw [<-ak] at am;have al:=hC.made.crew;have hK:=hC.made.coms;have hP:=hC.made.pts;rw [<-ak] at hK;rw [<-aj] at al hP ⊢;obtain ⟨ao,U,eL,h1,h2,hM⟩:=al;have ab:pbN w (.slice ao ws.length U) ws:=⟨ao,U,rfl,h1,h2,hM⟩
 obtain ⟨ca,cc,eK,_,_⟩:=hK.form;have aI:=hP;obtain ⟨pa,pc,eP,_,_,_⟩:=aI;obtain ⟨ka,kc,eM,aP,_,aA⟩:=hC.kmem;have aZ:=aa.sum;have aH:cs.length<=1000:=by
  rw [aE];have:=(pdC (t:=ws.sum) (by omega)).2;omega
 obtain ⟨gM,eg⟩:∃ gM,ao=some ⟨gM,0,none⟩:=by
  obtain ⟨x,hx⟩:∃ x,ws[0]? =some x:=⟨_,xd (by have:=aa.1;omega)⟩
  obtain ⟨g,e,_⟩:=hM 0 _ (paW hx);exact ⟨g,e⟩
 obtain ⟨gK,aR⟩:∃ gK,ka=some ⟨gK,0,none⟩:=by
  obtain ⟨g,e,_⟩:=aA 0 (peE 0) (by simp [kskL]);exact ⟨g,e⟩
 subst eg aR;obtain ⟨a,d,H,k,p,m,J,j,q,n,G,E,F,A,B,ci,ck,c1,c2⟩:=X;obtain ⟨⟨xk,xw⟩,⟨aQ,ag,ai⟩,⟨aO,av,ax⟩,⟨xl,xh⟩,⟨aq,aC,aF,aD⟩,aK,aN,fx,ay,hF,hA,a0,aV⟩:=N;simp only at xk xw aQ ag ai aO av ax xl xh aq aC aF aD aK aN hF hA;subst eL eK eP eM;rw [pbA] at hP ⊢;have aS:=aa.2.1;obtain ⟨SU,ad⟩:∃ SU:Array Value,SU=#[.slice (some ⟨gM,0,none⟩) ws.length U,.slice ca cs.length cc,.slice pa ws.length pc,.slice (some ⟨gK,0,none⟩) 2 kc,.int .i64 4,.int .i64 0]:=⟨_,rfl⟩
 obtain ⟨X,N⟩:∃ X:EvdG,X=⟨a,d,H,k,p,m,J,j,q,n,G,E,F,A,B,ci,ck,c1,c2⟩:=⟨_,rfl⟩
 by_cases aL:1<=a/\a<=7
 case neg =>
  have aG:crtF a=none:=by
   unfold crtF;rw [yy (by omega),yy (by omega),yy (by omega),yy (by omega),yy (by omega),yy (by omega),yy (by omega)]
  rw [<-N];refine (pp2 _ X (by rw [N];exact aG) (by rw [N];exact xk) w).mono ?_;rintro e w' ⟨rfl,hu⟩;exact ⟨0,14,.inl ⟨by omega,rfl⟩,rfl,hu⟩
 by_cases ap:a=6\/a=7
 · obtain ⟨o,wt,c,hi,R⟩:=pmp d (kskL 2);obtain ⟨y,oa,Z⟩:=pqh (bs k);obtain ⟨z,ob,Y⟩:=pqh (bs j);have key:∀ (D:Nat),crtF a=some (crtV true 100 101 D)->(∀ (A:Array Value) (W:World),(callFunc D A).run prog W=.ok (.enter D A) W) ->
    (∀ (M:Array Value) (h:MtIs M H k p m J j q n G E F A B d c) (W:World),Uq w W->Calls prog D #[.agg M] W (MkPB (fun _=>True) W)) ->
    Calls prog 8 #[.agg SU,.agg X.V] w (JgS ws X w):=fun D ab b3 g3=>by
    rw [ad,N];refine (pnb (some ⟨gM,0,none⟩) ws.length U ca cs.length cc pa ws.length pc gK 2 kc 4 0 a d H k p m J j q n G E F A B ci ck c1 c2 100 101 D ab xk (kskL 2) (pfO 2).symm aP (by omega) o wt c hi R (·=(oa && ob)) (·=((verB c (pa1 y) y.r y.s && decide (y.kiosk=d)) && (verB c (pa1 z) z.r z.s && decide (z.kiosk=d)))) (fun _=>True) w aA (fun _ _=>by kernel_rfl) (fun _ _=>by kernel_rfl) b3
     (fun i _ W u=>Mk.toPB (pnP (MtIs.ofG _ _ _ _ _ _ _ _ _ _ _ _ _ _ _ _ _ _ _ _ _ _ _ _ _ _ _ _ _ _ _ _ _ _ _ _ _) y z oa ob (by omega) (by omega) Z Y _ _ rfl rfl W (v.upd u)))
     (fun i T _ W u=>Mk.toPB (pqm (MtIs.ofG _ _ _ _ _ _ _ _ _ _ _ _ _ _ _ _ _ _ _ _ _ _ _ _ _ _ _ _ _ _ _ _ _ _ _ _ _) y z oa ob (by omega) (by omega) Z Y _ _ rfl rfl (ptf (R i T)) W (v.upd u)))
     (fun i _ _ _ W u=>g3 _ (MtIs.ofG _ _ _ _ _ _ _ _ _ _ _ _ _ _ _ _ _ _ _ _ _ _ _ _ _ _ _ _ _ _ _ _ _ _ _ _ _) W u)).mono fun _ _ h=>peY.toS (X:=⟨a,d,H,k,p,m,J,j,q,n,G,E,F,A,B,ci,ck,c1,c2⟩) h (fun i ho p1 p2=>.inl ⟨ap,?_⟩)
    have aB:oa=true/\ob=true:=by simpa using p1.symm
    have au:(verB c (pa1 y) y.r y.s=true/\y.kiosk=d)/\(verB c (pa1 z) z.r z.s=true/\z.kiosk=d):=by simpa using p2.symm
    rw [aB.1] at Z;rw [aB.2] at Y;exact ⟨i,wt,c,y,z,R i ho,Z,Y,au.1,au.2⟩
   rw [<-ad,<-N];rcases ap with rfl | rfl
   · exact key 102 rfl (fun _ _=>by kernel_rfl) (fun M h W u=>MkPB.weak (Mk.toPB (pix h y z oa ob (by omega) (by omega) Z Y _ _ rfl rfl W (v.upd u))) fun _ _=>trivial)
   · exact key 103 rfl (fun _ _=>by kernel_rfl) (fun M h W u=>MkPB.weak (Mk.toPB (plp h y z oa ob (by omega) (by omega) Z Y _ _ rfl rfl W (v.upd u))) fun _ _=>trivial)
 · obtain ⟨o,wt,c,hi,R⟩:=pmp d (pdp ws);have ac:∀ {f:FuncId} {args:Array Value} {Q:Bool->Prop} {W:World},Calls prog f args W (pdH Q W)->Calls prog f args W (MkPB (fun _=>True) W):=fun h=>MkPB.weak (pdH.toT h) fun _ _=>trivial;have key:∀ (f1 f2 D:Nat) (PF:Bool->Prop),crtF a=some (crtV false f1 f2 D)->(∀ (A:Array Value) (W:World),(callFunc f1 A).run prog W=.ok (.enter f1 A) W)->(∀ (A:Array Value) (W:World),(callFunc f2 A).run prog W=.ok (.enter f2 A) W)->(∀ (A:Array Value) (W:World),(callFunc D A).run prog W=.ok (.enter D A) W) ->
    (∀ (M:Array Value) (h:MtIs M H k p m J j q n G E F A B d c) (W:World),Uq w W->Calls prog f1 #[.agg M] W (MkPB PF W)) ->
    (pab c->∀ (M:Array Value) (h:MtIs M H k p m J j q n G E F A B d c) (W:World),Uq w W->Calls prog f2 #[.agg M] W (MkPB (fun b=>b=true->verB c (bs k) p m=true/\((a=1\/a=4)->verB c (bs j) q n=true)) W)) ->
    (PF true->∀ (M:Array Value) (i:Nat),o=some i->MtIs M H k p m J j q n G E F A B d c->MtMore M (.slice (some ⟨gM,0,none⟩) ws.length U) (.slice ca cs.length cc) (.slice pa ws.length pc) (i:Int) ci ck c1 c2->∀ W,Uq w W->Calls prog D #[.agg M] W (MkPB (fun _=>True) W)) ->
    Calls prog 8 #[.agg SU,.agg X.V] w (JgS ws X w):=fun f1 f2 D PF ab b1 b2 b3 g1 g2 g3=>by
    rw [ad,N];refine (phq gM ws.length U ca cs.length cc pa ws.length pc (some ⟨gK,0,none⟩) 2 kc 4 0 a d H k p m J j q n G E F A B ci ck c1 c2 f1 f2 D ab xk (pdp ws) (pe3 ws).symm h1 (by omega) o wt c hi R PF (fun b=>b=true->verB c (bs k) p m=true/\((a=1\/a=4)->verB c (bs j) q n=true)) (fun _=>True) w hM b1 b2 b3
     (fun i _ W u=>g1 _ (MtIs.ofG _ _ _ _ _ _ _ _ _ _ _ _ _ _ _ _ _ _ _ _ _ _ _ _ _ _ _ _ _ _ _ _ _ _ _ _ _) W u)
     (fun i T _ W u=>g2 (pmq (R i T)).1 _ (MtIs.ofG _ _ _ _ _ _ _ _ _ _ _ _ _ _ _ _ _ _ _ _ _ _ _ _ _ _ _ _ _ _ _ _ _ _ _ _ _) W u)
     (fun i T aJ _ W u=>g3 aJ _ i T (MtIs.ofG _ _ _ _ _ _ _ _ _ _ _ _ _ _ _ _ _ _ _ _ _ _ _ _ _ _ _ _ _ _ _ _ _ _ _ _ _) ⟨rfl,rfl,rfl,rfl,rfl,rfl,rfl,rfl⟩ W u)).mono fun _ _ h=>peY.toS (X:=⟨a,d,H,k,p,m,J,j,q,n,G,E,F,A,B,ci,ck,c1,c2⟩) h (fun i ho p1 p2=>.inr ⟨aL.1,by show a<=5;omega,i,wt,c,R i ho,p2 rfl⟩)
   have af:(a=2\/a=3\/a=5)->pab c->∀ (M:Array Value) (h:MtIs M H k p m J j q n G E F A B d c) (W:World),Uq w W->Calls prog 87 #[.agg M] W (MkPB (fun b=>b=true->verB c (bs k) p m=true/\((a=1\/a=4)->verB c (bs j) q n=true)) W):=fun aY hp M h W u=>by
    refine (pkG h hp ag ai (by omega) W (v.upd u)).mono ?_;rintro e w' ⟨b,HB,rfl,hu⟩;refine ⟨b,fun O=>⟨?_,fun hk=>by omega⟩,rfl,hu⟩;rw [HB.out] at O;simp at O;exact O.2
   have an:pab c->∀ (M:Array Value) (h:MtIs M H k p m J j q n G E F A B d c) (W:World),Uq w W->Calls prog 89 #[.agg M] W (MkPB (fun b=>b=true->verB c (bs k) p m=true/\((a=1\/a=4)->verB c (bs j) q n=true)) W):=fun hp M h W u=>by
    refine (pfK h hp ag ai (by omega) av ax (by omega) W (v.upd u)).mono ?_;rintro e w' ⟨b,HB,rfl,hu⟩;refine ⟨b,fun O=>?_,rfl,hu⟩;rw [HB.out] at O;simp at O;exact ⟨O.1.2,fun _=>O.2.2⟩
   rw [<-ad,<-N];rcases (by omega:a=1\/a=2\/a=3\/a=4\/a=5) with rfl | rfl | rfl | rfl | rfl
   · exact key 86 89 90 (fun _=>True) rfl (fun _ _=>by kernel_rfl) (fun _ _=>by kernel_rfl) (fun _ _=>by kernel_rfl) (fun M _ W _=>MkPB.weak (Mk.toPB (pfJ (M:=M) W)) fun _ _=>trivial) an (fun _ M i _ h _ W u=>MkPB.weak (plg h (by omega) (by omega) W (v.upd u)) fun _ _=>trivial)
   · exact key 92 87 93 _ rfl (fun _ _=>by kernel_rfl) (fun _ _=>by kernel_rfl) (fun _ _=>by kernel_rfl) (fun M h W u=>pdH.toT (pin h (by omega) W (v.upd u))) (af (by omega)) (fun hf M i T h mm W u=>by
      obtain ⟨_,zz,aM⟩:=pmq (R i T);exact ac (pg0 h i mm (by omega) (hf.1 rfl) cs ws zz W aa aM (hK.upd u) (hP.upd u) aE am aH (v.upd u)))
   · exact key 94 87 95 _ rfl (fun _ _=>by kernel_rfl) (fun _ _=>by kernel_rfl) (fun _ _=>by kernel_rfl) (fun M h W u=>pdH.toT (pit h fx ay xl xh hF hA (by omega) (by omega) W (v.upd u))) (af (by omega)) (fun _ M i _ h _ W u=>ac (pgZ h fx ay xl hF hA (by omega) (by omega) W))
   · exact key 96 89 97 _ rfl (fun _ _=>by kernel_rfl) (fun _ _=>by kernel_rfl) (fun _ _=>by kernel_rfl) (fun M h W u=>pdH.toT (plj h (by omega) (by omega) W (v.upd u))) an (fun hf M i _ h _ W u=>ac (pjT h (by omega) (by omega) (hf.1 rfl).1 (hf.1 rfl).2 W (v.upd u)))
   · exact key 98 87 99 _ rfl (fun _ _=>by kernel_rfl) (fun _ _=>by kernel_rfl) (fun _ _=>by kernel_rfl) (fun M h W u=>pdH.toT (pgH h (by omega) W (v.upd u))) (af (by omega)) (fun hf M i _ h mm W u=>ac (pfv h mm (by omega) (hf.1 rfl) ws W aa (ab.upd u) aq aC aF aD (v.upd u)))
def piC (n:Nat):Code->Option Code
 | .region i o d=>if i=n then some (.region i o d) else none
 | .seq a b=>match piC n a with
  | some c=>some c
  | none=>piC n b
 | .cond _ a b=>match piC n a with
  | some c=>some c
  | none=>piC n b
 | .block _ c=>piC n c
 | .loop c=>piC n c
 | .scope c=>piC n c
 | _=>none
noncomputable def sg18:Code:=(Tryz.f3.body.bind (piC 18)).getD .skip
noncomputable def sg20:Code:=(Tryz.f3.body.bind (piC 20)).getD .skip
section
variable {u0 u1 u2 u3 u4 u5 u6 u7 u8 u9 u10 u11 u12 u13 u14 u15 u16 u17 u18 u19 u20 u21 u22 u23 u24 u25 u26 u27 u28 u29 u30 u31 u32 u33 u34 u35 u36 u37 u38 u39 u40 u41 u42 u43 u44 u45 u46 u47 u48 u49 u50 u51 u52 u53 u54 u55 u56 u57 u58 u59 u60 u61 u62 u63 u64 u65 u66 u67 u68 u69 u70 u71 u72 u73 u74 u75 u76 u77 u78 u79 u80 u81 u82 u83 u84 u85 u86 u87 u88 u89 u90 u91 u92 u93 u94 u95 u96 u97 u98 u99 u100 u101 u102 u103 u104 u105 u106 u107 u108 u109 u110 u111 u112 u113 u114 u115 u116 u117 u118 u119 u120 u121 u122 u123 u124 u125 u126 u127 u128 u129 u130 u131 u132 u133 u134 u135 u136 u137 u138 u139 u140 u141 u142 u143 u144 u145 u146 u147 u148 u149 u150 u151 u152 u153 u154 u155 u156 u157 u158 u159 u160 u161 u162 u163 u164 u165 u166 u167 u168 u169 u170 u171 u172 u173 u174 u175 u176 u177 u178 u179 u180 u181 u182 u183 u184 u185 u186 u187 u188 u189 u190 u191 u192 u193 u194 u195 u196 u197 u198 : Value}
theorem prJ (gE gK t u n B k:Nat) (x o q r g Q) (F:(k:Int)<(n:Int)) (d:∀ c,Uq g c->c.cell? ⟨gE,1,none⟩=some (.int .i64 x)/\c.cell? ⟨t,0,none⟩=some (.int .i64 x)/\c.cell? ⟨u,0,none⟩=some (.int .i64 x)/\c.cell? ⟨gK,k * 3+2,none⟩=some (.int .i64 o)/\(Instr.loadAt 62 (.pointer (some ⟨t,0,none⟩))).run prog c=.ok (.agg q) c/\(Instr.loadAt 62 (.pointer (some ⟨u,0,none⟩))).run prog c=.ok (.agg r) c) (z:∀ W,Uq g W->Calls prog 10 #[.int .i64 o,.agg q] W (Mk (.bool true) W)) (A:∀ W,Uq g W->Calls prog 10 #[.int .i64 o,.agg r] W (Mk (.bool true) W)) (y:∀ (a) W,a.defers=[]->a.tmps.getD 6 undef=.bool true->Uq g W->Q .normal a W):Code.wp prog sg18 Q ⟨#[u0,u1,u2,u3,u4,u5,u6,.bool true,u8,.pointer (some ⟨gE,0,none⟩),.int .i64 x,u11,.slice (some ⟨gK,0,none⟩) n B,.int .i64 (k:Int),.pointer (some ⟨t,0,none⟩),.bool true,.pointer (some ⟨u,0,none⟩),.bool true,u18,u19,u20,u21,u22,u23,u24,u25,u26,u27,u28,u29,u30,u31,u32,u33,u34,u35,u36,u37,u38,u39,u40,u41,u42,u43,u44,u45,u46,u47,u48,u49,u50,u51,u52,u53,u54,u55,u56,u57,u58,u59,u60,u61,u62,u63,u64,u65,u66,u67,u68,u69,u70,u71,u72,u73,u74,u75,u76,u77,u78,u79,u80,u81,u82,u83,u84,u85,u86,u87,u88,u89,u90,u91,u92,u93,u94,u95,u96,u97,u98,u99,u100,u101,u102,u103,u104,u105,u106,u107,u108,u109,u110,u111,u112,u113,u114,u115,u116,u117,u118,u119,u120,u121,u122,u123,u124,u125,u126,u127,u128,u129,u130,u131,u132,u133,u134,u135,u136,u137,u138,u139,u140,u141,u142,u143,u144,u145,u146,u147,u148,u149,u150,u151,u152,u153,u154,u155,u156,u157,u158,u159,u160,u161,u162,u163,u164,u165,u166,u167,u168,u169,u170,u171,u172,u173,u174,u175,u176,u177,u178,u179,u180,u181,u182,u183,u184,u185,u186,u187,u188,u189,u190,u191,u192,u193,u194,u195,u196,u197,u198],[]⟩ g:=by
 have m:=ah d;have D:=ah z;have C:=ah A;have E:=ah y;have J:(0:Int)<=(k:Int):=by omega
 have p:Uq g g.drew:=uR.drew;clear d z A y
 conv=>arg 2;whnf
 refine bH m p fun f=>?_;refine tkS [0,1,2,3,4,5,6,7,8,9,10,11,12,13,14,15,16,17,18,19,20,21,22,23,24,25,26,27,28,29,30] f ?_;refine tkL 31 f q (fun w j=>j.2.2.2.2.1) ?_;refine tk1 32 fun K d=>?_;go_simp;refine (D.out _ p).mono ?_;rintro e H ⟨rfl,hq⟩;have h:=p.trans hq;clear hq;dsimp only;try rw [xH (by rfl)]
 refine tkK d (m.out _ h) fun f=>?_;clear d K;refine tkS [33,34,35,36,37,38,39] f ?_;refine tkL 40 f r (fun w j=>j.2.2.2.2.2) ?_;refine tk1 41 fun K d=>?_;go_simp;refine (C.out _ h).mono ?_;rintro e G ⟨rfl,hq⟩;have v:=h.trans hq;clear hq;dsimp only;try rw [xH (by rfl)]
 refine tkK d (m.out _ v) fun f=>?_;clear d K;refine tkS [42,43] f ?_;refine tkD ?_;exact E.out _ _ rfl rfl v
theorem pqy (gE v n C k:Nat) (x o r t A B g Q) (G:(k:Int)<(n:Int)) (d:∀ c,Uq g c->c.cell? ⟨gE,1,none⟩=some (.int .i64 x)/\c.cell? ⟨v,k * 3+2,none⟩=some (.int .i64 o)/\c.cell? ⟨gE,3,none⟩=some (.string r)/\c.cell? ⟨gE,7,none⟩=some (.string t)/\(Instr.loadAt 39 (.pointer (some ⟨gE,4,none⟩))).run prog c=.ok (.agg A) c/\(Instr.loadAt 39 (.pointer (some ⟨gE,8,none⟩))).run prog c=.ok (.agg B) c) (y:∀ W,Uq g W->Calls prog 11 #[.int .i64 o,.string r,.agg A] W (Mk (.bool true) W)) (z:∀ W,Uq g W->Calls prog 11 #[.int .i64 o,.string t,.agg B] W (Mk (.bool true) W)) (u:∀ (a) W,a.defers=[]->a.tmps.getD 6 undef=.bool true->Uq g W->Q .normal a W):Code.wp prog sg20 Q ⟨#[u0,u1,u2,u3,u4,u5,u6,.bool true,u8,.pointer (some ⟨gE,0,none⟩),.int .i64 x,u11,.slice (some ⟨v,0,none⟩) n C,.int .i64 (k:Int),u14,u15,u16,u17,.bool true,u19,u20,u21,u22,u23,u24,u25,u26,u27,u28,u29,u30,u31,u32,u33,u34,u35,u36,u37,u38,u39,u40,u41,u42,u43,u44,u45,u46,u47,u48,u49,u50,u51,u52,u53,u54,u55,u56,u57,u58,u59,u60,u61,u62,u63,u64,u65,u66,u67,u68,u69,u70,u71,u72,u73,u74,u75,u76,u77,u78,u79,u80,u81,u82,u83,u84,u85,u86,u87,u88,u89,u90,u91,u92,u93,u94,u95,u96,u97,u98,u99,u100,u101,u102,u103,u104,u105,u106,u107,u108,u109,u110,u111,u112,u113,u114,u115,u116,u117,u118,u119,u120,u121,u122,u123,u124,u125,u126,u127,u128,u129,u130,u131,u132,u133,u134,u135,u136,u137,u138,u139,u140,u141,u142,u143,u144,u145,u146,u147,u148,u149,u150,u151,u152,u153,u154,u155,u156,u157,u158,u159,u160,u161,u162,u163,u164,u165,u166,u167,u168,u169,u170,u171,u172,u173,u174,u175,u176,u177,u178,u179,u180,u181,u182,u183,u184,u185,u186,u187,u188,u189,u190,u191,u192,u193,u194,u195,u196,u197,u198],[]⟩ g:=by
 have m:=ah d;have E:=ah y;have D:=ah z;have F:=ah u;have M:(0:Int)<=(k:Int):=by omega
 have p:Uq g g.drew:=uR.drew;clear d y z u
 conv=>arg 2;whnf
 refine bH m p fun f=>?_;refine tkS [0,1,2,3,4,5,6,7,8,9,10,11,12,13,14,15,16,17] f ?_;refine tkL 18 f A (fun w j=>j.2.2.2.2.1) ?_;refine tk1 19 fun K d=>?_;go_simp;refine (E.out _ p).mono ?_;rintro e J ⟨rfl,hq⟩;have h:=p.trans hq;clear hq;dsimp only;try rw [xH (by rfl)]
 refine tkK d (m.out _ h) fun f=>?_;clear d K;refine tkS [20,21,22,23,24,25,26,27,28,29,30,31,32,33,34] f ?_;refine tkL 35 f B (fun w j=>j.2.2.2.2.2) ?_;refine tk1 36 fun K d=>?_;go_simp;refine (D.out _ h).mono ?_;rintro e H ⟨rfl,hq⟩;have q:=h.trans hq;clear hq;dsimp only;try rw [xH (by rfl)]
 refine tkK d (m.out _ q) fun f=>?_;clear d K;refine tkS [37,38,39] f ?_;refine tkD ?_;exact F.out _ _ rfl rfl q
theorem pnU (gE r n u k:Nat) (x o p C A B f Q) (D:(k:Int)<(n:Int)) (g:∀ d,Uq f d->d.cell? ⟨gE,1,none⟩=some (.int .i64 x)/\d.cell? ⟨r,k * 3+2,none⟩=some (.int .i64 o)/\d.cell? ⟨gE,3,none⟩=some (.string p)/\d.cell? ⟨gE,7,none⟩=some (.string C)/\(Instr.loadAt 39 (.pointer (some ⟨gE,4,none⟩))).run prog d=.ok (.agg A) d/\(Instr.loadAt 39 (.pointer (some ⟨gE,8,none⟩))).run prog d=.ok (.agg B) d) (t:∀ W,Uq f W->Calls prog 11 #[.int .i64 o,.string p,.agg A] W (Mk (.bool true) W)) (q:∀ (a) W,a.defers=[]->a.tmps.getD 6 undef=.bool true->Uq f W->Q .normal a W):Code.wp prog sg20 Q ⟨#[u0,u1,u2,u3,u4,u5,u6,.bool true,u8,.pointer (some ⟨gE,0,none⟩),.int .i64 x,u11,.slice (some ⟨r,0,none⟩) n u,.int .i64 (k:Int),u14,u15,u16,u17,.bool false,u19,u20,u21,u22,u23,u24,u25,u26,u27,u28,u29,u30,u31,u32,u33,u34,u35,u36,u37,u38,u39,u40,u41,u42,u43,u44,u45,u46,u47,u48,u49,u50,u51,u52,u53,u54,u55,u56,u57,u58,u59,u60,u61,u62,u63,u64,u65,u66,u67,u68,u69,u70,u71,u72,u73,u74,u75,u76,u77,u78,u79,u80,u81,u82,u83,u84,u85,u86,u87,u88,u89,u90,u91,u92,u93,u94,u95,u96,u97,u98,u99,u100,u101,u102,u103,u104,u105,u106,u107,u108,u109,u110,u111,u112,u113,u114,u115,u116,u117,u118,u119,u120,u121,u122,u123,u124,u125,u126,u127,u128,u129,u130,u131,u132,u133,u134,u135,u136,u137,u138,u139,u140,u141,u142,u143,u144,u145,u146,u147,u148,u149,u150,u151,u152,u153,u154,u155,u156,u157,u158,u159,u160,u161,u162,u163,u164,u165,u166,u167,u168,u169,u170,u171,u172,u173,u174,u175,u176,u177,u178,u179,u180,u181,u182,u183,u184,u185,u186,u187,u188,u189,u190,u191,u192,u193,u194,u195,u196,u197,u198],[]⟩ f:=by
 have m:=ah g;have y:=ah t;have z:=ah q;have F:(0:Int)<=(k:Int):=by omega
 have h:Uq f f.drew:=uR.drew;clear g t q
 conv=>arg 2;whnf
 refine bH m h fun c=>?_;refine tkS [0,1,2,3,4,5,6,7,8,9,10,11,12,13,14,15,16,17] c ?_;refine tkL 18 c A (fun w v=>v.2.2.2.2.1) ?_;refine tk1 19 fun K g=>?_;go_simp;refine (y.out _ h).mono ?_;rintro e E ⟨rfl,hq⟩;have j:=h.trans hq;clear hq;dsimp only;try rw [xH (by rfl)]
 refine tkK g (m.out _ j) fun c=>?_;clear g K;refine tkS [20,21,22,23,24] c ?_;refine tkN 25 c ?_;refine tkN 26 c ?_;refine tkN 27 c ?_;refine tkN 28 c ?_;refine tkN 29 c ?_;refine tkN 30 c ?_;refine tkN 31 c ?_;refine tkN 32 c ?_;refine tkN 33 c ?_;refine tkN 34 c ?_;refine tkN 35 c ?_;refine tkN 36 c ?_;refine tkS [37,38,39] c ?_;refine tkD ?_;exact z.out _ _ rfl rfl j
end
def jW (g p:Bool) (who:Int):Int:=if g && p then who else 0
def jE (g p:Bool):Int:=if g then (if p then 0 else 25) else 21
theorem pqz (a g h k m d j o n e f c F A B):(prog.info? 50).map (·.size)=some (evdL a g h k m d j o n e f c F A B).length:=by
 show _=some 19;kernel_rfl
theorem prK {c j m n o e k p q d f a F A B g W} (h:W.heap[g]? =some (.cells (evdL c j m n o e k p q d f a F A B).toArray 50 (0,0))) :
 (Instr.loadAt 50 (.pointer (some ⟨g,0,none⟩))).run prog W=.ok (.agg (evdL c j m n o e k p q d f a F A B).toArray) W :=
 xL W g 0 50 _ _ (pb5 rfl h) underlying50 rfl (pqz _ _ _ _ _ _ _ _ _ _ _ _ _ _ _)
theorem ppa.is {g p:Bool} {a:Int} {w w':World} {e:Ending} (h:ppa (·=true) (·=g) (·=p) a w e w'):Mk (.tuple #[.int .i64 (jW g p a),.int .i64 (jE g p)]) w e w':=by
 obtain ⟨x,y,h,rfl,c⟩:=h;refine ⟨?_,c⟩;rcases h with ⟨h,_⟩ | ⟨_,rfl,rfl,rfl⟩ | ⟨_,rfl,rfl,rfl,rfl⟩ | ⟨_,rfl,rfl,rfl,rfl⟩
 · cases h
 · rfl
 · rfl
 · rfl
theorem pr8 {w g id d c} (h:w.heap[g]? =some (.cells (mbrV id d c) 58 (0,0))):peX w (some ⟨g,0,none⟩) [⟨id,d,c⟩]:=by
 intro k m a
 match k,a with
 | 0,a =>
  simp at a;subst a;exact ⟨g,rfl,paf h,xa _ g 0 _ _ _ h,xa _ g 1 _ _ _ h,xa _ g 2 _ _ _ h⟩
theorem pnV {f args q w} (h:Calls prog f args w (Mk (.bool q) w)):Calls prog f args w (MkPB (·=q) w):=h.mono fun _ _ h=>⟨q,rfl,h.1,h.2⟩
theorem pdJ (e a o q r k n t v j m f F A B d c g p w) (z:w.heap[e]? =some (.cells (mbrV a d c) 58 (0,0)))
 (hF:∀ W,Uq w W->Calls prog 86 #[.agg (mtL (.slice (some ⟨e,0,none⟩) 1 1) (.slice none 0 0) (.slice none 0 0) (.slice none 0 0) 1 a o q r k n t v j m f F A B a d c).toArray] W (Mk (.bool true) W))
 (x:∀ W,Uq w W->Calls prog 89 #[.agg (mtL (.slice (some ⟨e,0,none⟩) 1 1) (.slice none 0 0) (.slice none 0 0) (.slice none 0 0) 1 a o q r k n t v j m f F A B a d c).toArray] W (Mk (.bool g) W))
 (y:∀ W,Uq w W->Calls prog 90 #[.agg (mtL (.slice (some ⟨e,0,none⟩) 1 1) (.slice none 0 0) (.slice none 0 0) (.slice none 0 0) 1 a o q r k n t v j m f F A B a d c).toArray] W (Mk (.bool p) W)) :
 Calls prog 8 #[.agg (supV e),.agg (evdL 1 a o q r k n t v j m f F A B).toArray] w (Mk (.tuple #[.int .i64 (jW g p a),.int .i64 (jE g p)]) w) :=
 (pjo e 1 1 none 0 0 none 0 0 none 0 0 0 0 1 a o q r k n t v j m f F A B 0 0 0 0 86 89 90 rfl (by omega) [⟨a,d,c⟩] rfl (xj _) (by omega) 0 d c (by simp [pcs]) rfl (·=true) (·=g) (·=p) w (pr8 z) (fun _ _=>by kernel_rfl) (fun _ _=>by kernel_rfl) (fun _ _=>by kernel_rfl)
  (fun W u=>pnV (hF W u)) (fun _ W u=>pnV (x W u)) (fun _ _ W u=>pnV (y W u))).mono fun _ _ h=>h.is
theorem pd5 (e a o q r k n t v j m f F A B d c g p w) (z:w.heap[e]? =some (.cells (mbrV a d c) 58 (0,0)))
 (hF:∀ W,Uq w W->Calls prog 94 #[.agg (mtL (.slice (some ⟨e,0,none⟩) 1 1) (.slice none 0 0) (.slice none 0 0) (.slice none 0 0) 3 a o q r k n t v j m f F A B a d c).toArray] W (Mk (.bool true) W))
 (x:∀ W,Uq w W->Calls prog 87 #[.agg (mtL (.slice (some ⟨e,0,none⟩) 1 1) (.slice none 0 0) (.slice none 0 0) (.slice none 0 0) 3 a o q r k n t v j m f F A B a d c).toArray] W (Mk (.bool g) W))
 (y:∀ W,Uq w W->Calls prog 95 #[.agg (mtL (.slice (some ⟨e,0,none⟩) 1 1) (.slice none 0 0) (.slice none 0 0) (.slice none 0 0) 3 a o q r k n t v j m f F A B a d c).toArray] W (Mk (.bool p) W)) :
 Calls prog 8 #[.agg (supV e),.agg (evdL 3 a o q r k n t v j m f F A B).toArray] w (Mk (.tuple #[.int .i64 (jW g p a),.int .i64 (jE g p)]) w) :=
 (pjo e 1 1 none 0 0 none 0 0 none 0 0 0 0 3 a o q r k n t v j m f F A B 0 0 0 0 94 87 95 rfl (by omega) [⟨a,d,c⟩] rfl (xj _) (by omega) 0 d c (by simp [pcs]) rfl (·=true) (·=g) (·=p) w (pr8 z) (fun _ _=>by kernel_rfl) (fun _ _=>by kernel_rfl) (fun _ _=>by kernel_rfl)
  (fun W u=>pnV (hF W u)) (fun _ W u=>pnV (x W u)) (fun _ _ W u=>pnV (y W u))).mono fun _ _ h=>h.is
theorem pqA (c a) (d:a[0]? =some (.int .i64 9)) (w):Calls prog 8 #[.agg c,.agg a] w (Mk (.tuple #[.int .i64 0,.int .i64 14]) w):=phF c a 9 d rfl (by unfold pab;omega) w
end Go.Proofs.YtkhjolbbpdaplaaGreatDoor
