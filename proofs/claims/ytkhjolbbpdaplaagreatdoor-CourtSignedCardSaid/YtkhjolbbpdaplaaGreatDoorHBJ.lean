/- deal.members, Check, fits and what follows. -/
import Derived.Test.YtkhjolbbpdaplaaGreatDoorHBI
namespace Go.Proofs.YtkhjolbbpdaplaaGreatDoor
set_option maxHeartbeats 8000000
open Go.RowKit Go.Proofs.Tryz
set_option maxRecDepth 100000
theorem RdI.toSl {w v l} (h:RdI w v (l.map fun n:Nat=>(n:Int))):Sl w v l:=by
 obtain ⟨m,f,rfl,h1,p,c⟩:=h;rw [yx] at h1 ⊢;refine ⟨m,f,rfl,h1,p,?_⟩;by_cases h0:l.length=0
 · exact .inl h0
 · obtain ⟨x,k⟩:∃ x,l[0]? =some x:=⟨_,xd (by omega)⟩
   obtain ⟨g,e,q,_⟩:=c 0 (x:Int) (by rw [ys,k];rfl);refine .inr ⟨g,e,q,fun j d o=>?_⟩;obtain ⟨t,a,_,r⟩:=c j (d:Int) (by rw [ys,o];rfl);rw [e] at a;injection a with a;injection a with a;subst a;exact r
theorem pmv:∀ {l:List Int},l.all memB=true->∃ cs:List Nat,l=cs.map (fun n:Nat=>(n:Int))/\∀ c∈cs,memN c
 | [],_=>⟨[],rfl,fun c h=>by cases h⟩
 | a :: r,h=>by
  rw [List.all_cons,yR] at h
  obtain ⟨n,rfl,e⟩:=pc3 h.1
  obtain ⟨cs,rfl,d⟩:=pmv h.2
  exact ⟨n :: cs,rfl,fun c hm=>by
   rcases yo.1 hm with rfl | hm
   · exact e
   · exact d c hm⟩
theorem pj8 (v l w) (h:RdI w v l) (q:∀ c∈l,pab c):Calls prog 265 #[v] w (MkB (l.all memB) w):=by
 obtain ⟨D,E,rfl,h1,M,u⟩:=h.form;obtain ⟨n,m⟩:=az (l.length);rw [<-m] at h1 h ⊢;have t:=ah m;have B:=ah u;have C:=ah q;clear h u q m;go_in;go_wp2;go_loopw [4,7] (fun _ i wr=>∃ k:Nat,i=.int .i64 (k:Int)/\k<=n/\Hid (∀ c∈l.take k,memB c=true)/\Hid (Uq w wr)) (fun _ i _=>n - (intOf i).toNat)
 case atStart=>exact ⟨0,rfl,xu _,(fun c h=>by simp at h),Upd.refl _ _⟩
 case round =>
  obtain ⟨k,rfl,G,y,j⟩:=hrel;by_cases A:k<n
  · obtain ⟨x,a⟩:∃ x,l[k]? =some x:=⟨_,xd (by rw [<-t.out];exact A)⟩
    obtain ⟨g,rfl,z,hc⟩:=B.out k x a;have K:wr.cell? ⟨g,k,none⟩=some (.int .i64 x):=(j.out.cell (p:=⟨g,k,none⟩) z (by simp)).trans hc;obtain ⟨b,f⟩:=ae (memB x);have r:=ah (paq x b wr (C.out x (xt a)) f);have d:=ah (xf f a);have J:(0:Int)<=(k:Int):=by omega
    have H:(k:Int)<(n:Int):=by omega
    clear hc z f a;go_wp2_with fail;refine r.out.mono ?_;rintro e F ⟨rfl,hq⟩;have o:=ah (j.out.trans hq);clear hq r
    cases b with
    | false =>
     go_wp2;go_ret;refine ⟨false,?_,rfl,o.out⟩;show _=_
     cases hall:l.all memB with
     | false=>rfl
     | true =>
      have:=(vd.1 hall) x (xt d.out.2);rw [d.out.1] at this
      cases this
    | true =>
     go_wp2_with fail;refine ⟨⟨k+1,by go_num,by omega,?_,o.out⟩,(by first | (simp [intOf];done) | (simp [intOf];omega))⟩;show ∀ c∈l.take (k+1),memB c=true;intro c hc;rw [xN,d.out.2] at hc;rcases yq.1 hc with hc | hc
     · exact y.out c hc
     · rw [show c=x by simpa using hc];exact d.out.1
  · obtain rfl:k=n:=by omega
    go_wp2;go_ret;refine ⟨true,?_,rfl,j.out⟩;show _=_;symm;rw [vd];have:=y.out;rw [t.out,yb] at this;exact this
def chkB (d:DlI) (n:Nat):Bool:=decide (d.boxes.length=n) && decide (1<=d.coms.length) && decide (d.coms.length<=n) && d.boxes.all (fun s=>decide (s.length=16)) && d.coms.all memB && memB d.point
theorem pnH (G Q d) (n:Nat) (w) (hc:RdI w G d.coms) (z:RdS w Q d.boxes) (hi:∀ c∈d.coms,pab c) (hp:pab d.point) (hn:n<=1000000) :
 Calls prog 218 #[.agg #[G,.int .i64 d.point,Q],n] w (MkB (chkB d n) w):=by
 obtain ⟨g,hg⟩:=ae (w.heap.size);obtain ⟨E,K⟩:=ae (w.alloc (.cells #[G,d.point,Q] 142));have r:=ah (aW hg K);have v:=ah (aU K);have N:=ah (fun W (u:Uq w W)=>pj8 G d.coms W (hc.upd u) hi);obtain ⟨T,B⟩:=az (d.point);obtain ⟨F,J⟩:=ae (memB d.point);have ak:=ah (fun W=>paq T F W (by rw [B];exact hp) (by rw [B];exact J));obtain ⟨R,S,rfl,_,_,_⟩:=hc.form;obtain ⟨O,X,rfl,_,_,ab⟩:=z.form;obtain ⟨m,A⟩:=az (d.coms.length);obtain ⟨q,hq⟩:=az (d.boxes.length);rw [<-A] at N;rw [<-A,<-hq,<-B] at r K;have HQ:=ah hq;have aj:=ah ab
 suffices HS:∀ P:Bool->Prop,Hid (∀ b,b=chkB d n->P b)->Calls prog 218 #[.agg #[.slice R m S,T,.slice O q X],n] w (MkQB P w) by
  rw [<-A,<-hq,<-B];refine (HS (fun b=>b=chkB d n) (fun _ h=>h)).mono ?_;rintro e w' ⟨b,z,rfl,hu⟩;exact ⟨b,z.out,rfl,hu⟩
 intro P H;have j:Hid (¬ (q=n/\1<=m/\m<=n)->P false):=fun h=>H.out _ (by
  unfold chkB;rw [<-A,<-hq];by_cases h1:q=n
  · by_cases f:1<=m
    · rw [yw (p:=m<=n) (fun t=>h ⟨h1,f,t⟩)];simp
    · rw [yw (p:=1<=m) f];simp
  · rw [yw h1];simp)
 have C:Hid (∀ x∈d.boxes,x.length≠16->P false):=fun x o h=>H.out _ (by
  unfold chkB;rw [show d.boxes.all (fun s=>decide (s.length=16))=false from ?_]
  · simp
  · rw [List.all_eq_false];exact ⟨x,o,by simpa using h⟩)
 have y:Hid (q=n->1<=m->m<=n->(∀ x∈d.boxes,x.length=16)->P (d.coms.all memB && F)):=fun h1 f t h4=>H.out _ (by
  unfold chkB;rw [<-A,<-hq,J,yG h1,yG f,yG t,show d.boxes.all (fun s=>decide (s.length=16))=true by rw [vd];intro x o;simpa using h4 x o];simp)
 have c0:E.cell? ⟨g,0,none⟩=some (.slice R m S):=xa _ g 0 _ _ _ r.out;have c2:E.cell? ⟨g,2,none⟩=some (.slice O q X):=xa _ g 2 _ _ _ r.out;have HK:Hid (∀ W,Uq E W->W.cell? ⟨g,0,none⟩=some (.slice R m S)/\W.cell? ⟨g,1,none⟩=some (.int .i64 T)/\W.cell? ⟨g,2,none⟩=some (.slice O q X)):=fun W u=>⟨xa _ g 0 _ _ _ (paa r.out u),xa _ g 1 _ _ _ (paa r.out u),xa _ g 2 _ _ _ (paa r.out u)⟩
 obtain ⟨bm,ac⟩:=ae (d.coms.all memB);rw [ac] at y N;clear hc z hi hp B J ab A hq H r ac;by_cases h1:q=n
 case neg =>
  have hF:P false:=j.out (fun h=>h1 h.1);have a:=ah hF;have ao:¬ (q:Int)=(n:Int):=by omega
  clear hF j C y;go_in;go_wp2;go_ret;exact ⟨false,a,rfl,v.out⟩
 by_cases f:1<=m
 case neg =>
  have hF:P false:=j.out (fun h=>f h.2.1);have a:=ah hF;subst h1;have af:(m:Int)<1:=by omega
  clear hF j C y;go_in;go_wp2;go_ret;exact ⟨false,a,rfl,v.out⟩
 by_cases t:m<=n
 case neg =>
  have hF:P false:=j.out (fun h=>t h.2.2);have a:=ah hF;subst h1;have af:¬ (m:Int)<1:=by omega
  have al:(q:Int)<(m:Int):=by omega
  clear hF j C y;go_in;go_wp2;go_ret;exact ⟨false,a,rfl,v.out⟩
 subst h1;have ai:Hid ((∀ x∈d.boxes,x.length=16)->P (bm && F)):=y.out rfl f t;have af:¬ (m:Int)<1:=by omega
 have al:¬ (q:Int)<(m:Int):=by omega
 have ap:¬ q<m:=by omega
 have aq:¬ m<1:=by omega
 clear j y f t;go_in;go_wp2;go_loopw [6,28] (fun _ i wr=>∃ k:Nat,i=.int .i64 (k:Int)/\k<=q/\Hid (∀ x∈d.boxes.take k,x.length=16)/\wr=E) (fun _ i _=>q - (intOf i).toNat)
 case atStart=>exact ⟨0,rfl,xu _,(fun c h=>by simp at h),(by first | trivial | rfl)⟩
 case round =>
  obtain ⟨k,rfl,hk,HX,rfl⟩:=hrel;by_cases Z:k<q
  · obtain ⟨x,o⟩:∃ x,d.boxes[k]? =some x:=⟨_,xd (by rw [<-HQ.out];exact Z)⟩
    obtain ⟨gb,rfl,aa,hc⟩:=aj.out k x o;obtain ⟨s,U⟩:∃ s:ByteArray,s=⟨x.toArray⟩:=⟨_,rfl⟩
    have c1:wr.cell? ⟨gb,k,none⟩=some (.string s):=(v.out.cell (p:=⟨gb,k,none⟩) aa (by simp)).trans (by rw [U];exact hc);have D:s.size=x.length:=by rw [U];rfl
    have M:=ah (xf o D);have i0:(0:Int)<=(k:Int):=by omega
    have i1:(k:Int)<(q:Int):=by omega
    clear hc aa U o;by_cases ad:s.size=16
    · have ag:(s.size:Int)=16:=by omega
      clear D;go_wp2_with fail;refine ⟨⟨k+1,by go_num,by omega,?_,(by first | trivial | rfl)⟩,(by first | (simp [intOf];done) | (simp [intOf];omega))⟩;show ∀ c∈d.boxes.take (k+1),c.length=16;intro c hc;rw [xN,M.out.1] at hc;rcases yq.1 hc with hc | hc
      · exact HX.out c hc
      · rw [show c=x by simpa using hc,<-M.out.2];exact ad
    · have ag:¬ (s.size:Int)=16:=by omega
      have a:=ah (C.out x (xt M.out.1) (by rw [<-D];exact ad));clear D;go_wp2;go_ret;exact ⟨false,a,rfl,v.out⟩
  · obtain rfl:k=q:=by omega
    have a:=ah (ai.out (by have:=HX.out;rw [HQ.out,yb] at this;exact this));have HM:=ah (N.out wr v.out);clear Z hk;go_wp2_with fail;refine HM.out.mono ?_;rintro e w1 ⟨b,HB,rfl,hq⟩;have z:b=bm:=HB.out;subst z;obtain ⟨_,d1,_⟩:=HK.out w1 hq;have Y:=ah (v.out.trans hq);clear hq HM c0 c2 HB
    cases b with
    | false =>
     go_wp2;go_ret;exact ⟨false,a.out,rfl,Y.out⟩
    | true =>
     have am:=ah (ak.out w1);go_wp2_with fail;refine am.out.mono ?_;rintro e w2 ⟨rfl,hq⟩;have an:=ah (Y.out.trans hq);clear hq d1;go_wp2;go_ret;exact ⟨F,by have:=a.out;rw [uq] at this;exact this,rfl,an.out⟩
def fitB (cs:List Nat) (y:Int) (x:Nat):Bool:=insB y && decide (gP y.toNat=atL cs x cs.length)
theorem pqi (y b) (h:insB y=b) (w):Calls prog 297 #[.int .i64 y] w (Mk (.bool b) w):=by
 refine (pnG y w).mono ?_;rintro e w' ⟨rfl,rfl⟩;exact ⟨by rw [h],Upd.refl _ _⟩
theorem pqj (m T p y cs) (x:Nat) (w) (U:Sl w m cs) (R:∀ c∈cs,memN c) (N:cs.length<=1000000) (hx:x<=1000000) :
 Calls prog 269 #[.agg #[m,.int .i64 p,T],.agg #[x,.int .i64 y]] w (MkB (fitB cs y x) w):=by
 obtain ⟨P,X⟩:=ae (w.heap.size);obtain ⟨S,J⟩:=ae (w.alloc (.cells #[m,p,T] 142));have Q:=aW X J;have O:=aU J;obtain ⟨t,aa⟩:=ae (S.heap.size);obtain ⟨q,M⟩:=ae (S.alloc (.cells #[x,y] 89));have C:=aW aa M;have F:=aU M;have v:=ah (O.trans F);have j:Hid (∀ W,Uq q W->W.cell? ⟨t,0,none⟩=some (.int .i64 (x:Int))/\W.cell? ⟨t,1,none⟩=some (.int .i64 y)/\W.cell? ⟨P,0,none⟩=some m):=fun W u=>⟨xa _ t 0 _ _ _ (paa C u),xa _ t 1 _ _ _ (paa C u),xa _ P 0 _ _ _ (paa Q (F.trans u))⟩
 have H:=ah (fun W (u:Uq w W)=>pr7 m cs x W (U.upd u) (fun c h=>by have:=(R c h).2.1;unfold Pn at this;omega) N (by omega));have o:Uq q q.drew:=uR.drew;clear Q C O F U R N hx;by_cases g:insB y=true
 · obtain ⟨n,rfl,hn⟩:∃ n:Nat,y=(n:Int)/\n<1152921504606845789:=by
    unfold insB at g;rw [yR,ye,ye] at g;exact ⟨y.toNat,by omega,by omega⟩
   have z:=ah (pqi (n:Int) true g);have ab:=ah (fun W=>pmg 4 n 2305843009213691579 W (by omega) (by omega) rfl);obtain ⟨a,E⟩:=az (atL cs x cs.length);rw [<-E] at H;have B:Hid (fitB cs (n:Int) x=decide (pP 4 n=a)):=by
    show _=_;unfold fitB;rw [g,uq,xW,E];rfl
   clear g E;go_in;go_upto_region 1 with (fail)
   refine @_root_.id ((∀ (r:Nat) (W:World),Hid (r=pP 4 n)->Hid (Uq q W)->(?pj1:Nat->World->Prop) r W)->_) (fun hJ=>?mj1) ?jj1
   case mj1 =>
    refine bH j o fun d=>?_;refine tkS [0,1] d ?_;refine tk1 2 fun K f=>?_;go_simp;refine (z.out _).mono ?_;rintro e Y ⟨rfl,hq⟩;have k:=o.trans hq;clear hq;dsimp only;try rw [xH (by rfl)]
    refine tkK f (j.out _ k) fun d=>?_;clear f K;refine tkS [3,4,5,7,8,9,10] d ?_;refine tk1 6 fun K f=>?_;go_simp;refine (ab.out _).mono ?_;rintro e ac ⟨r,D,hr,rfl,hq⟩;have A:=k.trans hq;clear hq;dsimp only;try rw [xH (by rfl)]
    refine tkK f (j.out _ A) fun d=>?_;clear f K;refine tk1 11 fun K f=>?_;go_simp;refine (H.out _ (v.out.trans A)).mono ?_;rintro e Z ⟨rfl,hq⟩;have G:=A.trans hq;clear hq;dsimp only;try rw [xH (by rfl)]
    refine tkK f (j.out _ G) fun d=>?_;clear f K;refine tkS [12,13,14] d ?_;refine tkD ?_;exact hJ r Z D (ah G)
   intro r w9 D U9;go_wp2;go_ret;refine ⟨_,?_,rfl,v.out.trans U9.out⟩;show _=_;rw [B.out,<-D.out];rw [Bool.eq_iff_iff,yW,ye];omega
 · rw [yK] at g;have z:=ah (pqi y false g);have B:Hid (fitB cs y x=false):=by
    show _=_;unfold fitB;rw [g,zt]
   clear g;go_in;go_upto_region 1 with (fail)
   refine bH j o fun d=>?_;refine tkS [0,1] d ?_;refine tk1 2 fun K f=>?_;go_simp;refine (z.out _).mono ?_;rintro e Y ⟨rfl,hq⟩;have k:=o.trans hq;clear hq;dsimp only;try rw [xH (by rfl)]
   refine tkK f (j.out _ k) fun d=>?_;clear f K;refine tkY 3 d ?_;refine tkN 4 d ?_;refine tkN 5 d ?_;refine tkN 6 d ?_;refine tkN 7 d ?_;refine tkN 8 d ?_;refine tkN 9 d ?_;refine tkN 10 d ?_;refine tkN 11 d ?_;refine tkN 12 d ?_;refine tkS [13,14] d ?_;refine tkD ?_;go_wp2;go_ret;refine ⟨false,?_,rfl,v.out.trans k⟩;show _=_;rw [B.out]
def opB (key:Int) (cs:List Nat) (s:List UInt8) (idx:Nat):Bool:=decide (s.length=16) && pj5 (opnL s (padI key idx)) && fitB cs (IntKind.i64.wrap (acc8 (opnL s (padI key idx)) 8:Int)) (idx+1)
def puG (b:Bool) (w:World) (e:Ending) (w':World):Prop:=∃ (x y:Int) (ok:Bool),Hid (ok=b)/\e=.returned (.tuple #[.agg #[x,y],.bool ok])/\Upd [] [] w w'
theorem shInfo (x y):(prog.info? 89).map (·.size)=some (#[x,y]:Array Value).size:=by
 show _=some 2;kernel_rfl
theorem shOne (x y):(#[.int .i64 x,.int .i64 y]:Array Value).all (·.oneCell')=true:=by simp [Value.oneCell']
theorem pnI (G bv p key cs J) (idx:Nat) (s w) (hc:Sl w G cs) (hb:RdS w bv J) (hm:∀ c∈cs,memN c) (hl:cs.length<=1000000) (hs:J[idx]? =some s) (hx:idx<1000000) (hk:pab key) (ab:Tabs w) :
 Calls prog 220 #[.int .i64 key,.agg #[G,.int .i64 p,bv],idx] w (puG (opB key cs s idx) w):=by
 obtain ⟨F,au⟩:=ae (w.heap.size);obtain ⟨ba,bc,rfl,_,_,am⟩:=hb.form;obtain ⟨o,rfl,ai,aa⟩:=am idx s hs;have ac:=(xe.1 hs).1;obtain ⟨n,hn⟩:=az (J.length);rw [<-hn] at ac ⊢;obtain ⟨f,r⟩:∃ f:Array Value,f=#[G,.int .i64 p,.slice (some ⟨o,0,none⟩) n bc]:=⟨_,rfl⟩
 obtain ⟨w0,aj⟩:=ae (w.alloc (.cells f 142));have r0:=aW au aj;have u0:=aU aj;obtain ⟨gR,ag⟩:=ae (w0.heap.size);obtain ⟨z,al⟩:=ae (w0.alloc (.cells #[.int .i64 0,.int .i64 0] 89));have r1:=aW ag al;have Z:=aU al;have N:=ah (u0.trans Z);have HD:=ah (paa r0 Z);have HR:=ah r1;have Q:Hid (w.heap.size<=gR):=by rw [<-ag];exact u0.size
 obtain ⟨t,ht⟩:∃ t:ByteArray,t=⟨s.toArray⟩:=⟨_,rfl⟩
 have ad:bs t=s:=by rw [ht];rfl
 have c2:z.cell? ⟨F,2,none⟩=some (.slice (some ⟨o,0,none⟩) n bc):=(xa _ F 2 _ _ _ HD.out).trans (by rw [r];rfl);have cb:z.cell? ⟨o,idx,none⟩=some (.string t):=(N.out.cell (p:=⟨o,idx,none⟩) ai (by simp)).trans (by rw [ht];exact aa);have q:=ah (pln key idx t z hk (by omega) (ab.upd N.out));rw [ad] at q;have S:=ah (fun (y:Int) W (u:Uq w W)=>pqj G (.slice (some ⟨o,0,none⟩) n bc) p y cs (idx+1) W (hc.upd u) hm hl (by omega));rw [<-r] at S ⊢;have ar:Fi 142 f:=by rw [r];exact pbB _ _ _
 have aw:Hid (∀ W,Uq z W->(Instr.loadAt 142 (.pointer (some ⟨F,0,none⟩))).run prog W=.ok (.agg f) W):=fun W u=>pc0 underlying142 ar.out (paa HD.out u);obtain ⟨P,U⟩:=az (padI key idx);have m:Hid (∀ (y:Int) (ok b:Bool),ok=(decide (s.length=16) && pj5 (opnL s P))->(ok=true->y=IntKind.i64.wrap (acc8 (opnL s P) 8:Int))->b=(ok && fitB cs y (idx+1))->b=opB key cs s idx):=by
  intro y ok b h1 h2 h3;rw [h3];unfold opB;rw [<-U,<-h1]
  cases ok with
  | false=>rfl
  | true=>rw [h2 rfl]
 rw [<-U] at q;have i0:(0:Int)<=(idx:Int):=by omega
 have i1:(idx:Int)<(n:Int):=by omega
 have e1:IntKind.i64.wrap ((idx:Int)+1)=((idx+1:Nat):Int):=by rw [pam (by omega) (by omega)];omega
 have e2:(idx:Int)+1=((idx+1:Nat):Int):=by omega
 obtain ⟨E,ak⟩:=az (idx+1);rw [<-ak] at e1 e2 S m;clear r0 r1 u0 Z hc hb hm hl hs hk ab am aa r ht ad hn ac ai U ak;go_in;go_wp2_with fail;refine q.out.mono ?_;rintro e w2 ⟨y,ok,g,rfl,hq⟩;have av:=ah (N.out.trans hq);have ao:=ah hq;have aq:=ah (paa HR.out hq);obtain ⟨C,k⟩:∃ C:Array Value,C=#[.int .i64 (E:Int),.int .i64 y]:=⟨_,rfl⟩
 obtain ⟨w3,D,B,Y,v⟩:=paz w2 89 #[.int .i64 0,.int .i64 0] C;obtain ⟨gX,ap⟩:=ae (w2.heap.size);rw [ap] at D B Y;have d:Fi 89 C:=by show _=_;rw [k];exact shInfo _ _
 have M:Fo C:=by show _=_;rw [k];exact shOne _ _
 have R:Hid ((#[.int .i64 0,.int .i64 0]:Array Value).size=C.size):=by show _=_;rw [k];rfl
 have HC:=ah k;have T:=ah (av.out.trans v);have LD:=ah (aw.out w3 (ao.out.trans v));have LS:=ah (pc0 underlying89 d.out Y.out);have RR:=ah (paa aq.out v);have af:Hid (prog.built 89 [(0,.int .i64 (E:Int)),(1,.int .i64 y)]=some C):=by show _=_;rw [k];kernel_rfl
 have K:=ah (S.out y w3 T.out);rw [<-HC.out] at K;obtain ⟨X,x⟩:=ae (w3.setRow gR #[.int .i64 0,.int .i64 0]);have ax:=ah x;have RZ:=ah (show X.heap[gR]? =some (.cells #[.int .i64 0,.int .i64 0] 89 (0,0)) by rw [<-x];exact xz _ _ _ _ _ _ RR.out);have UZ:=ah (show Uq w X by rw [<-x];exact T.out.setRowNew Q.out _);clear hq v q c2 cb k x
 cases ok with
 | false =>
  have H:Hid (false=opB key cs s idx):=m.out y false false g.out.2.1 g.out.2.2 rfl;clear m g;go_wp2_with (first | (refine wpList_buildTo rfl 89 #[] rfl _ rfl #[.int .i64 0,.int .i64 0] (by kernel_rfl) ?_) | (refine bB af ?_) | (refine bS D d R M B ?_) | (refine wpList_store_rowAs rfl 89 _ _ rfl gR #[.int .i64 0,.int .i64 0] rfl rfl _ _ RR.out (shInfo _ _) rfl (shOne _ _) X ax.out ?_))
  refine xI (results_row_tmp rfl _ _ gR _ _ _ _ rfl RZ.out underlying89 rfl (shInfo _ _)) rfl ⟨_,_,false,H,rfl,UZ.out⟩
 | true =>
  have H:Hid (∀ b,b=fitB cs y E->b=opB key cs s idx):=fun b h=>m.out y true b g.out.2.1 g.out.2.2 (by rw [h];rfl);clear m g;go_wp2_with (first | (refine wpList_buildTo rfl 89 #[] rfl _ rfl #[.int .i64 0,.int .i64 0] (by kernel_rfl) ?_) | (refine bB af ?_) | (refine bS D d R M B ?_) | (refine wpList_load_want (by rfl) 142 _ rfl F rfl f LD.out ?_) | (refine wpList_load_want (by rfl) 89 _ rfl gX rfl C LS.out ?_))
  refine K.out.mono ?_;rintro e w4 ⟨b,HB,rfl,hq⟩;have an:=ah (H.out b HB.out);have U4:=ah (T.out.trans hq);have A:=ah (paa RR.out hq);have X4:=ah (paa Y.out hq);clear hq K H HB D B LD LS
  cases b with
  | false =>
   obtain ⟨j,a⟩:=ae (w4.setRow gR #[.int .i64 0,.int .i64 0]);have O:=ah a;have RY:=ah (show j.heap[gR]? =some (.cells #[.int .i64 0,.int .i64 0] 89 (0,0)) by rw [<-a];exact xz _ _ _ _ _ _ A.out);have UY:=ah (show Uq w j by rw [<-a];exact U4.out.setRowNew Q.out _);clear a;go_wp2_with (first | (refine wpList_buildTo rfl 89 #[] rfl _ rfl #[.int .i64 0,.int .i64 0] (by kernel_rfl) ?_) | (refine wpList_store_rowAs rfl 89 _ _ rfl gR #[.int .i64 0,.int .i64 0] rfl rfl _ _ A.out (shInfo _ _) rfl (shOne _ _) j O.out ?_))
   refine xI (results_row_tmp rfl _ _ gR _ _ _ _ rfl RY.out underlying89 rfl (shInfo _ _)) rfl ⟨_,_,false,an,rfl,UY.out⟩
  | true =>
   obtain ⟨j,a⟩:=ae (w4.setRow gR C);have O:=ah a;have RY:=ah (show j.heap[gR]? =some (.cells C 89 (0,0)) by rw [<-a];exact xz _ _ _ _ _ _ A.out);have UY:=ah (show Uq w j by rw [<-a];exact U4.out.setRowNew Q.out _);clear a;go_wp2_with (first | (refine bL X4 underlying89 d ?_) | (refine bS A d R M O ?_))
   refine xI (results_row_tmp rfl _ _ gR _ C _ _ rfl RY.out underlying89 rfl d.out) rfl ⟨(E:Int),y,true,an,?_,UY.out⟩;rw [HC.out];rfl
def jdgI (ks:List Nat) (d:DlI) (ci ck c1 c2:Int):Int :=
 if chkB d ks.length=true/\0<=ci/\ci<(ks.length:Int) then if verE 4 ((ks.getD ci.toNat 0:Nat):Int) d.point ck c1 c2=true then if opB ck (d.coms.map Int.toNat) (d.boxes.getD ci.toNat []) ci.toNat=true then 2 else 1 else 0 else 0
theorem pj9:∀ cs:List Nat,(cs.map fun n:Nat=>(n:Int)).map Int.toNat=cs
 | []=>rfl
 | c :: r=>by rw [zr,zr,pj9 r];rfl
def MkJd (r:Int) (w:World) (e:Ending) (w':World):Prop:=∃ z:Int,Hid (z=r)/\e=.returned (.int .i64 z)/\Upd [] [] w w'
theorem pnJ (KV T P h d p a g f w) (F:Sl w KV h) (aM:h.length<=1000) (aA:∀ k∈h,pab (k:Int)) (R:RdI w T d.coms) (Q:RdS w P d.boxes) (aI:∀ c∈d.coms,pab c) (aj:pab d.point) (av:pab p) (aD:pab a) (ax:pab g) (aG:pab f) (ap:Tabs w) :
 Calls prog 171 #[KV,.agg #[T,.int .i64 d.point,P],.agg #[.int .i64 p,.int .i64 a,.int .i64 g,.int .i64 f]] w (MkJd (jdgI h d p a g f) w):=by
 obtain ⟨r,hr⟩:=ae (jdgI h d p a g f);rw [hr];obtain ⟨G,X⟩:=az (d.point);obtain ⟨S,B⟩:∃ S:Array Value,S=#[T,.int .i64 G,P]:=⟨_,rfl⟩
 obtain ⟨gD,aQ⟩:=ae (w.heap.size);obtain ⟨w0,au⟩:=ae (w.alloc (.cells S 142));have r0:=aW aQ au;have u0:=aU au;obtain ⟨o,aN⟩:=ae (w0.heap.size);obtain ⟨w1,aH⟩:=ae (w0.alloc (.cells #[p,a,g,f] 48));have r1:=aW aN aH;have u1:=aU aH;have af:=ah (u0.trans u1);have aJ:Fi 142 S:=by rw [B];exact pbB _ _ _
 have R0:=ah (paa r0 u1);have al:=ah (pnH T P d h.length w1 (R.upd af.out) (Q.upd af.out) aI aj (by omega));obtain ⟨ka,kc,rfl,_,_⟩:=F.form;obtain ⟨n,D⟩:=az (h.length);rw [<-X,<-B,<-D] at al;rw [<-X,<-B,<-D];have HK:Hid (∀ W,Uq w1 W->W.cell? ⟨o,0,none⟩=some (.int .i64 p)/\W.cell? ⟨o,1,none⟩=some (.int .i64 a)/\W.cell? ⟨gD,1,none⟩=some (.int .i64 G)/\(Instr.loadAt 46 (.pointer (some ⟨o,2,none⟩))).run prog W=.ok (.agg #[g,f]) W/\(Instr.loadAt 142 (.pointer (some ⟨gD,0,none⟩))).run prog W=.ok (.agg S) W):=fun W u=>by
  have q:=paa r1 u;refine ⟨xa _ o 0 _ _ _ q,xa _ o 1 _ _ _ q,(xa _ gD 1 _ _ _ (paa R0.out u)).trans (by rw [B];rfl),xL W o 2 46 [.int .i64 g,.int .i64 f] _ (fun j v A=>?_) underlying46 rfl (by kernel_rfl),pc0 underlying142 aJ.out (paa R0.out u)⟩
  match j,A with
  | 0,A=>simp at A;subst A;exact xa _ o 2 _ _ _ q
  | 1,A=>simp at A;subst A;exact xa _ o 3 _ _ _ q
 have N:Hid (jdgI h d p a g f=r):=hr;have z:=ah (xf F (xf aA (xf D aM)));have M:=ah (xf R (xf Q (xf X B)));have H:=ah (xf av (xf aD (xf ax (xf aG aj))));have aC:=ah (fun W (u:Uq w W)=>ap.upd u);clear hr X B r0 u0 r1 u1 F aM aA R Q aI aj av aD ax aG D ap;go_in;go_wp2_with (refine bL R0 underlying142 aJ ?_)
 refine al.out.mono ?_;rintro e E ⟨b,t,rfl,hq⟩;have aq:=ah hq;have C:=ah (af.out.trans hq);obtain ⟨k0,_⟩:=HK.out E hq;clear hq al
 cases b with
 | false =>
  have m:Hid ((0:Int)=r):=by show _=_;rw [<-N.out,jdgI,z.out.2.2.1.symm,yy (by rw [<-t.out];simp)]
  clear t;go_wp2;go_ret;exact ⟨0,m,rfl,C.out⟩
 | true =>
  by_cases g1:p<0
  · have m:Hid ((0:Int)=r):=by show _=_;rw [<-N.out,jdgI,yy (by omega)]
    clear t;go_wp2;go_ret;exact ⟨0,m,rfl,C.out⟩
  by_cases g2:(n:Int)<=p
  · have m:Hid ((0:Int)=r):=by show _=_;rw [<-N.out,jdgI,yy (by have:=z.out.2.2.1;omega)]
    clear t;go_wp2;go_ret;exact ⟨0,m,rfl,C.out⟩
  obtain ⟨i,hi⟩:∃ i:Nat,p=(i:Int):=⟨p.toNat,by omega⟩
  subst hi;have aE:i<n:=by omega
  obtain ⟨k,O⟩:∃ k,h[i]? =some k:=⟨_,xd (by rw [<-z.out.2.2.1];exact aE)⟩
  obtain ⟨gk,rfl,an⟩:=(z.out.1.upd C.out).get O;have aB:=z.out.2.1 k (xt O);obtain ⟨vb,am⟩:=ae (verE 4 (k:Int) G a g f);have aK:=ah (fun W (u:Uq E W)=>pne 4 (k:Int) G a g f vb W (by unfold pab;omega) aB (by have:=H.out.2.2.2.2;rw [<-M.out.2.2.1] at this;exact this) H.out.2.1 H.out.2.2.1 H.out.2.2.2.1 (aC.out W (C.out.trans u)) am);have ai:Hid ((if vb=true then if opB a (d.coms.map Int.toNat) (d.boxes.getD i []) i=true then 2 else 1 else 0)=r):=by
   show _=_;have R:chkB d h.length=true/\(0:Int)<=(i:Int)/\(i:Int)<(h.length:Int):=⟨by rw [<-z.out.2.2.1];exact t.out.symm,by omega,by have:=z.out.2.2.1;omega⟩
   have aR:h.getD i 0=k:=by rw [xx,O];rfl
   rw [<-N.out,jdgI,xH R,xW,aR,<-M.out.2.2.1,am]
  have ag:Hid (∀ W,Uq E W->W.cell? ⟨o,0,none⟩=some (.int .i64 (i:Int))/\W.cell? ⟨o,1,none⟩=some (.int .i64 a)/\W.cell? ⟨gD,1,none⟩=some (.int .i64 G)/\W.cell? ⟨gk,i,none⟩=some (.int .i64 (k:Int))/\(Instr.loadAt 46 (.pointer (some ⟨o,2,none⟩))).run prog W=.ok (.agg #[g,f]) W):=fun W u=>by
   obtain ⟨q0,q1,q2,q3,_⟩:=HK.out W (aq.out.trans u);exact ⟨q0,q1,q2,(u.cell (x6 _ _ an) (by simp)).trans an,q3⟩
  have i1:(i:Int)<(n:Int):=by omega
  have Z:Uq E E.drew:=uR.drew;have a0:=ah O;clear O an aB am aE N;go_upto_region 3 with (fail)
  clear k0;refine @_root_.id ((∀ (W:World),Hid (Uq E W)->(?pj1:World->Prop) W)->_) (fun hJ=>?mj1) ?jj1
  case mj1 =>
   refine bH ag Z fun U=>?_;refine tkS [0,1,2,3,4,5,6,7,8,9] U ?_;refine tkT 10 U ?_ (y:=(pap (by rfl) _ _ rfl _ rfl #[g,f] (fun w aP=>aP.2.2.2.2)));refine tk1 11 fun K F=>?_;go_simp;refine (aK.out _ Z).mono ?_;rintro e Y ⟨rfl,hq⟩;have ay:=Z.trans hq;clear hq;dsimp only;try rw [xH (by rfl)]
   refine tkK F (ag.out _ ay) fun U=>?_;clear F K;refine tkY 12 U ?_;refine tkD ?_;exact hJ Y (ah ay)
  intro Y ad;have J:=ah (C.out.trans ad.out);have aO:=ah (aq.out.trans ad.out);clear Z ad ag aK
  cases vb with
  | false =>
   have m:Hid ((0:Int)=r):=ai.out;clear t;go_wp2;go_ret;exact ⟨0,m,rfl,J.out⟩
  | true =>
   have aw:Hid ((if opB a (d.coms.map Int.toNat) (d.boxes.getD i []) i=true then 2 else 1)=r):=ai.out;have ac:=t.out.symm;unfold chkB at ac;simp only [yR,ye] at ac;obtain ⟨⟨⟨⟨⟨hb1,aV⟩,aT⟩,aZ⟩,ar⟩,aS⟩:=ac;obtain ⟨cs,ab,aF⟩:=pmv ar;have D:=z.out.2.2.1;obtain ⟨s,hs⟩:∃ s,d.boxes[i]? =some s:=⟨_,xd (by omega)⟩
   have aY:cs.length=d.coms.length:=by rw [ab,yx]
   obtain ⟨ob,ao⟩:=ae (opB a cs s i);have ak:=ah (pnI T P G a cs d.boxes i s Y (RdI.toSl (by rw [<-ab];exact M.out.1.upd J.out)) (M.out.2.1.upd J.out) aF (by have:=z.out.2.2.2;omega) hs (by have:=z.out.2.2.2;omega) H.out.2.1 (aC.out _ J.out));rw [<-M.out.2.2.2,ao] at ak;have aa:Hid ((if ob=true then (2:Int) else 1)=r):=by
    show _=_;rw [<-aw.out,ab,pj9,xx,hs,<-ao];rfl
   obtain ⟨k0,k1,_,_,kL⟩:=HK.out Y aO.out;have KL:=ah kL;clear hb1 aV aT aZ ar aS ab aF D hs aY ao t ai aw kL;go_wp2_with (refine bA KL ?_)
   refine ak.out.mono ?_;rintro e w4 ⟨x,y,b,t,rfl,hq⟩;have Q:b=ob:=t.out;subst Q;have aL:=ah (J.out.trans hq);clear hq ak k0 k1 KL t
   cases b with
   | false =>
    have m:Hid ((1:Int)=r):=aa.out;clear aa;go_wp2;go_ret;exact ⟨1,m,rfl,aL.out.alloc _⟩
   | true =>
    have m:Hid ((2:Int)=r):=aa.out;clear aa;go_wp2;go_ret;exact ⟨2,m,rfl,aL.out.alloc _⟩
theorem pqk (w):(zeroValue 4).run prog w=.ok (.bool false) w:=by kernel_rfl
theorem prD (w) (n:Nat) (g:n<=1000000):(Instr.makeSlice 28 (.int .i64 (n:Int)) (.int .i64 (n:Int))).run prog w=.ok (.slice (some ⟨w.heap.size,0,none⟩) n n) (w.alloc (.cells (List.replicate n (Value.slice none 0 0)).toArray 22)):=by
 have h:(prog.info? 22).map (fun i=>(i.zero,i.size,i.bytes))=some (some (.slice none 0 0),1,24):=by kernel_rfl
 obtain ⟨e,c,a⟩:=yp.1 h;simp only [yY] at a;have:=run_make (P:=prog) w 28 22 e (.slice none 0 0) underlying28 c a.1 .i64 .i64 n n (by omega) (by omega) (by rw [a.2.2];omega) (by omega);rw [this,a.2.1];have d:madeCells (Value.slice none 0 0).cells n=(List.replicate n (Value.slice none 0 0)).toArray:=by
  apply Array.ext
  · simp [madeCells]
  · intro i h1 f;simp [madeCells,Value.cells,Nat.mod_one]
 simp only [xW,zf,d]
def pta (W:World) (v:Value) (ws:List Nat):Prop:=∃ g,v=.slice (some ⟨g,0,none⟩) ws.length ws.length/\g<W.heap.size/\∀ (i x:Nat),ws[i]? =some x->∃ a c,W.cell? ⟨g,i,none⟩=some (.slice a x c)
structure PlSt (w wr:World) (gO k j:Nat) (ws:List Nat) (vs:List Value) (t:Value):Prop where
 row:wr.heap[gO]? =some (.cells vs.toArray 22 (0,0))
 len:vs.length=ws.length
 done:∀ i x,i<k->ws[i]? =some x->∃ a c,vs[i]? =some (.slice a x c)
 rest:∀ i,k<i->i<ws.length->vs[i]? =some (.slice none 0 0)
 cur:k<ws.length->vs[k]? =some t
 own:wr.ownsRow 0 3 1 t j (pah (pcc ws k j))
 off:∀ x,x∈foot t->gO<x
 up:Upd [] [] w wr
 base:w.heap.size<=gO
theorem PlSt.quiet {w wr w' c k j ws a t} (h:PlSt w wr c k j ws a t) (u:Uq wr w'):PlSt w w' c k j ws a t :=
 ⟨paa h.row u,h.len,h.done,h.rest,h.cur,paj h.own (fun x d=>u.block x (pag h.own x d) (by simp)),h.off,h.up.trans u,h.base⟩
theorem PlSt.add {w wr e r a k j ws m t d} (h:PlSt w wr a k j ws m t) (C:k<ws.length) (u:Upd (foot t) (foot d) wr e) (y:e.ownsRow 0 3 1 d (j+1) (pah (pcc ws k (j+1)))) (g:e.setCell ⟨a,k,none⟩ d=r) :
 PlSt w r a k (j+1) ws (m.set k d) d:=by
 have B:=paf h.row;have n:∀ x,x∈foot d->a<x:=fun x c=>by
  rcases u.new x c with q | q
  · exact h.off x q
  · omega
 have v:e.heap[a]? =some (.cells m.toArray 22 (0,0)):=(u.block a B (fun q=>zc _ (h.off a q))).trans h.row;have o:=xg e a k _ _ d v;rw [g] at o;have z:=h.len;refine ⟨?_,by simp [z],fun i x f c=>?_,fun i f A=>?_,fun _=>by rw [List.getElem?_set_self (by omega)],?_,n,?_,h.base⟩
 · rw [o];simp
 · rw [vo (by omega)];exact h.done i x f c
 · rw [vo (by omega)];exact h.rest i f A
 · rw [<-g];exact paj y (fun x c=>heap_setCell_other e _ _ _ (by have:=n x c;show x≠a;omega))
 · rw [<-g];exact (h.up.past u (fun x c=>by have:=h.off x c;have:=h.base;omega)).setNew (p:=⟨a,k,none⟩) h.base _
theorem PlSt.next {w wr g k j ws f t} (h:PlSt w wr g k j ws f t) (m:ws[k]? =some j):PlSt w wr g (k+1) 0 ws f (.slice none 0 0):=by
 have r:=(xe.1 m).1;obtain ⟨a,c,e,_⟩:=pan h.own;refine ⟨h.row,h.len,fun i x p d=>?_,fun i p q=>h.rest i (by omega) q,fun n=>h.rest _ (by omega) n,x9 _ _ _ _,(fun x d=>by cases d),h.up,h.base⟩;by_cases o:i<k
 · exact h.done i x o d
 · obtain rfl:i=k:=by omega
   rw [m] at d;injection d with d;refine ⟨a,c,?_⟩;rw [h.cur r,e,d]
theorem PlSt.fin {w wr d j ws g t} (h:PlSt w wr d ws.length j ws g t):pta wr (.slice (some ⟨d,0,none⟩) ws.length ws.length) ws:=by
 refine ⟨d,rfl,paf h.row,fun i x f=>?_⟩;obtain ⟨a,c,e⟩:=h.done i x (xe.1 f).1 f;exact ⟨a,c,(xa _ d i _ _ _ h.row).trans (by simpa using e)⟩
def piw (k:Nat) (x:Int):Option Value:=if 1<=x/\x<=(k:Int) then some (.bool true) else none
theorem pnK:piw 0=fun _=>none:=by
 funext x;unfold piw;rw [yy (by omega)]
theorem pnL (k):(fun y=>if y=((k+1:Nat):Int) then some (Value.bool true) else piw k y)=piw (k+1):=by
 funext y;unfold piw;by_cases h:y=((k+1:Nat):Int)
 · rw [xH h,xH (by omega)]
 · rw [yy h];by_cases a:1<=y/\y<=(k:Int)
   · rw [xH a,xH (by omega)]
   · rw [yy a,yy (by omega)]
def MkWp (ws:List Nat) (w:World) (e:Ending) (w':World):Prop:=∃ v:Value,Hid (pta w' v ws)/\e=.returned (.tuple #[v,.bool true])/\Upd [] [] w w'
theorem plo (L ws w) (G:WsOk ws) (hL:pbN w L ws):Calls prog 170 #[L] w (MkWp ws w):=by
 obtain ⟨ao,bk,rfl,h1,h2,hM⟩:=hL;have hs:=G.sum;have HM:=ah hM;have HW:=ah G;have HT:=ah (pbo ws);obtain ⟨n,B⟩:=az (ws.length);have D:=ah B;have bf:n<=4:=by rw [B];exact G.2.1
 have bl:1<=n:=by rw [B];exact G.1
 obtain ⟨S,hS⟩:=az (ws.sum);have aP:Hid (startN ws n=S):=by show (ws.take n).sum=S;rw [B,hS,yb]
 rw [<-hS] at hs HT;rw [<-B] at h1 ⊢;have bm:1<=S/\S<=12:=by omega
 have b1:¬ (n:Int)<1:=by omega
 have b2:¬ n<1:=by omega
 have b3:¬ (13:Int)<(n:Int):=by omega
 have b4:¬ 13<n:=by omega
 obtain ⟨F,aB⟩:=ae (w.heap.size);obtain ⟨w0,aE⟩:=ae (w.alloc (.map #[] 0));have aD:Hid (MapF w0 F 0 (piw 0)):=by show MapF _ _ _ _;rw [<-aE,<-aB,pnK];exact MapF.made w
 have a3:=ah (aU aE);have HG:Hid (w.heap.size<=F):=xJ aB;clear hM G B hS hs;have bd:=@run_makeMap prog;go_in;go_wp2_with fail;clear b1 b2 b3 b4;go_loopw [5,7,23] (fun x _ i wr=>∃ k:Nat,i=.int .i64 (k:Int)/\k<=n/\x=.int .i64 (startN ws k:Int)/\Hid (MapF wr F k (piw k))/\Hid (Uq w wr)) (fun _ _ i _=>n - (intOf i).toNat)
 case atStart=>exact ⟨0,rfl,xu _,rfl,aD.out,a3.out⟩
 case round =>
  obtain ⟨k,rfl,hk,rfl,K,T⟩:=hrel;by_cases v:k<n
  · obtain ⟨z,e⟩:∃ z,ws[k]? =some z:=⟨_,xd (by rw [<-D.out];exact v)⟩
    have a5:=HW.out.2.2 z (xt e);have ap:=paS e;have ak:=HT.out (k+1);obtain ⟨X,o⟩:=az (startN ws k);have af:(ws.take k).sum=X:=o.symm;have ba:X+z<=12:=by omega
    have ab:Hid (startN ws (k+1)=X+z):=by show (ws.take (k+1)).sum=_;omega
    rw [<-o];obtain ⟨g,rfl,hg,E⟩:=(HM.out.upd T.out).row (paW e);obtain ⟨pb,aM⟩:=az ((gP (secN k):Int));obtain ⟨id,ad⟩:=az (((k+1:Nat):Int));rw [<-aM,<-ad] at E;obtain ⟨C,a⟩:∃ C:Array Value,C=#[.int .i64 id,.int .i64 (z:Int),.int .i64 pb]:=⟨_,rfl⟩
    have r:=E wr uR;rw [<-a] at r;have ar:=ah r;obtain ⟨Y,H,M,p,A⟩:=paz wr 58 #[.int .i64 0,.int .i64 0,.int .i64 0] C;obtain ⟨f,ag⟩:=ae (wr.heap.size);rw [ag] at H M p;have aj:Fi 58 C:=by show _=_;rw [a];kernel_rfl
    have al:Fo C:=by show _=_;rw [a];simp [Value.oneCell']
    have av:Hid ((#[.int .i64 0,.int .i64 0,.int .i64 0]:Array Value).size=C.size):=by show _=_;rw [a];rfl
    have d0:Y.cell? ⟨f,0,none⟩=some (.int .i64 id):=(xa _ f 0 _ _ _ p.out).trans (by rw [a];rfl);have Z:Y.cell? ⟨f,1,none⟩=some (.int .i64 (z:Int)):=(xa _ f 1 _ _ _ p.out).trans (by rw [a];rfl);have aK:=ah (K.out.upd A (by simp));have bb:=ah (T.out.trans A);have a1:Hid (F<f):=by have:=K.out.lt;show _<_;omega
    have ai:-9223372036854775808<=id/\id<=9223372036854775807:=by omega
    have a7:=ah ai;have aY:=aK.out.look (x:=id) underlying246 (pqk _) ai;have aI:piw k id=none:=by unfold piw;rw [yy (by omega)]
    rw [aI] at aY;have aQ:=ah ad;have bg:=ah p.out;have HC:=ah a;have i0:(0:Int)<=(k:Int):=by omega
    have i1:(k:Int)<(n:Int):=by omega
    have z1:¬ (z:Int)<1:=by omega
    have z2:¬ z<1:=by omega
    have z3:¬ (20:Int)<(z:Int):=by omega
    have z4:¬ 20<z:=by omega
    clear e ap ak o af aM ad E r A aI a hg ai p;go_wp2_with (first | (refine bA ar ?_) | (refine bS H aj av al M ?_) | (refine wpList_put_F _ rfl _ _ _ 246 rfl _ underlying246 F k _ rfl aK.out (by unfold maxLen;omega) id _ rfl rfl a7.out ?_;intro w9 aF au;have d9:w9.cell? ⟨f,1,none⟩=some (.int .i64 (z:Int)):=(by rw [au.cell (x6 _ _ Z) (by have:=a1.out;simp;omega)];exact Z);have aN:=ah aF;have aZ:=ah au;clear aF au))
    have ac:=ab.out;refine ⟨⟨k+1,by go_num,by omega,(by rw [ac];first | rfl | go_num),?_,bb.out.past aZ.out (fun x R=>by simp at R;rw [R];exact HG.out)⟩,(by first | (simp [intOf];done) | (simp [intOf];omega))⟩;show MapF _ _ _ _;rw [<-pnL k,<-aQ.out];exact aN.out
  · obtain rfl:k=n:=by omega
    have a8:=aP.out;rw [a8];have s1:¬ (60:Int)<(S:Int):=by omega
    have s2:¬ 60<S:=by omega
    have aA:=prD wr k (by omega);obtain ⟨c,am⟩:=ae (wr.heap.size);obtain ⟨w1,Q⟩:=ae (wr.alloc (.cells (List.replicate k (Value.slice none 0 0)).toArray 22));have ay:=aW am Q;have aH:=aU Q;rw [Q,am] at aA;have aV:Hid (PlSt w w1 c 0 0 ws (List.replicate k (Value.slice none 0 0)) (.slice none 0 0)):=by
     have bc:=D.out;have h0:∀ i,i<k->(List.replicate k (Value.slice none 0 0))[i]? =some (Value.slice none 0 0):=fun i U=>by rw [zB,xH U]
     exact ⟨ay,by simp [bc],fun i x U=>absurd U (by omega),fun i _ U=>h0 i (by omega),fun _=>h0 0 (by omega),x9 _ _ _ _,(fun x R=>by cases R),T.out.trans aH,by rw [<-am];exact T.out.size⟩
    clear v hk ay aH K aD HG;go_wp2_with fail;clear s1 s2 aA Q;have a2:=ah (fun i z (h:ws[i]? =some z) W (u:Uq w W)=>(HM.out.upd u).row (paW h));go_loopw [9,10,11,56] (fun x _ _ i a9=>∃ (j:Nat) (vs:List Value),i=.int .i64 (j:Int)/\j<=k/\x=.int .i64 ((startN ws j+1:Nat):Int)/\Hid (PlSt w a9 c j 0 ws vs (.slice none 0 0))) (fun _ _ _ i _=>k - (intOf i).toNat)
    case atStart=>exact ⟨0,_,rfl,xu _,rfl,aV.out⟩
    case round =>
     obtain ⟨j,vs,rfl,hj,rfl,J⟩:=hrel;by_cases v:j<k
     · obtain ⟨z,e⟩:∃ z,ws[j]? =some z:=⟨_,xd (by rw [<-D.out];exact v)⟩
       have a5:=HW.out.2.2 z (xt e);have ap:=paS e;have ak:=HT.out (j+1);obtain ⟨X,o⟩:=az (startN ws j);have af:(ws.take j).sum=X:=o.symm;have ba:X+z<=12:=by omega
       have ab:Hid (startN ws (j+1)=X+z):=by show (ws.take (j+1)).sum=_;omega
       have aT:=ah o;have a0:=ah e;rw [<-o];obtain ⟨g,rfl,hg,E⟩:=a2.out j z e wr J.out.up;obtain ⟨C,a⟩:∃ C:Array Value,C=#[.int .i64 ((j+1:Nat):Int),.int .i64 (z:Int),.int .i64 (gP (secN j):Int)]:=⟨_,rfl⟩
       have r:=E wr uR;rw [<-a] at r;have ar:=ah r;obtain ⟨Y,H,M,p,A⟩:=paz wr 58 #[.int .i64 0,.int .i64 0,.int .i64 0] C;obtain ⟨f,ag⟩:=ae (wr.heap.size);rw [ag] at H M p;have aj:Fi 58 C:=by show _=_;rw [a];kernel_rfl
       have al:Fo C:=by show _=_;rw [a];simp [Value.oneCell']
       have av:Hid ((#[.int .i64 0,.int .i64 0,.int .i64 0]:Array Value).size=C.size):=by show _=_;rw [a];rfl
       have Z:Y.cell? ⟨f,1,none⟩=some (.int .i64 (z:Int)):=(xa _ f 1 _ _ _ p.out).trans (by rw [a];rfl);have a4:=ah (J.out.quiet A);have i0:(0:Int)<=(j:Int):=by omega
       have i1:(j:Int)<(k:Int):=by omega
       clear e ap ak o af A a hg r E J;go_wp2_with (first | (refine wpList_load_atW (by rfl) 58 _ rfl g (j * 3) rfl C ar.out ?_) | (refine bS H aj av al M ?_))
       clear Z;go_loopw [9,63] (fun x i aS=>∃ (m:Nat) (an:List Value) (t:Value),i=.int .i64 (m:Int)/\m<=z/\x=.int .i64 ((X+1+m:Nat):Int)/\Hid (PlSt w aS c j m ws an t)) (fun _ i _=>z - (intOf i).toNat)
       case atStart=>exact ⟨0,vs,_,rfl,xu _,rfl,a4.out⟩
       case round =>
        obtain ⟨m,an,t,rfl,hm,rfl,d⟩:=hrel;by_cases bj:m<z
        · obtain ⟨y,hy⟩:=az (X+m+1);obtain ⟨t',w',ax,N,aa⟩:=paZ wr t (pcc ws j m) m y (pb8 ws j m) d.out.own (by omega);have aC:pcc ws j (m+1)=pcc ws j m ++ [y]:=by rw [phC,<-aT.out,hy]
          rw [<-aC] at N;obtain ⟨ta,tc,rfl,_⟩:=pan N;have P:j<ws.length:=by rw [<-D.out];exact v
          obtain ⟨w3,a6⟩:=ae (w'.setCell ⟨c,j,none⟩ (.slice ta (m+1) tc));have aw:=ah (d.out.add P aa N a6);have aL:=paf d.out.row;have aq:w'.heap[c]? =some (.cells an.toArray 22 (0,0)):=(aa.block c aL (fun q=>zc _ (d.out.off c q))).trans d.out.row;have cK:wr.cell? ⟨c,j,none⟩=some t:=(xa _ c j _ _ _ d.out.row).trans (by simpa using d.out.cur P);have bn:w'.cell? ⟨c,j,none⟩=some t:=(xa _ c j _ _ _ aq).trans (by simpa using d.out.cur P);have fK:w'.frozen? ⟨c,j,none⟩=false:=xp _ _ _ _ _ aq;have aR:=ah ax;have aG:X+1+m=y:=by omega
          have bi:y<=100:=by omega
          have HY:=ah hy;have m1:(m:Int)<(z:Int):=by omega
          rw [aG];clear ax N aa aC P aL aq hy aG d;go_wp2_with (refine wpList_append_run _ rfl _ _ _ _ rfl _ _ (.slice ta (m+1) tc) w' rfl rfl aR.out ?_)
          have bh:=HY.out;exact ⟨⟨m+1,_,_,by go_num,by omega,(by rw [show X+1+(m+1)=y+1 by omega];first | rfl | go_num),aw.out⟩,(by first | (simp [intOf];done) | (simp [intOf];omega))⟩
        · obtain rfl:m=z:=by omega
          have aw:=ah (d.out.next a0.out);clear d;go_wp2_with fail;have ac:=ab.out;exact ⟨⟨j+1,_,by go_num,by omega,(by rw [ac,show X+m+1=X+1+m by omega]),aw.out⟩,(by first | (simp [intOf];done) | (simp [intOf];omega))⟩
     · obtain rfl:j=k:=by omega
       have O:=J.out;rw [D.out] at O;have K:=ah O.fin;have aO:=ah O.up;clear O J v;go_wp2;go_ret2;refine ⟨_,?_,rfl,aO.out⟩;show pta _ _ _;have aJ:=K.out;rw [<-D.out] at aJ;exact aJ
end Go.Proofs.YtkhjolbbpdaplaaGreatDoor
