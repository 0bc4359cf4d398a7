/- group.Element, beacon.Base, accepts, Verify and what follows. -/
import Derived.Test.YtkhjolbbpdaplaaGreatDoorHBH
namespace Go.Proofs.YtkhjolbbpdaplaaGreatDoor
set_option maxHeartbeats 8000000
open Go.RowKit Go.Proofs.Tryz
set_option maxRecDepth 100000
abbrev vd:=@List.all_eq_true
theorem pj0 (s w) (B:s.size<=281474976710000) (g:Tabs w) :
 Calls prog 293 #[.string s] w (MkN 2305843009213691579 (pri (bs s)) w):=by
 have v:(ByteArray.mk #[101,47]).size=2:=rfl;have o:=ah (pg6 (⟨#[101,47]⟩ ++ s) w (by simp [ByteArray.size_append,v];omega) g);have F:¬ 9223372036854775807<2+s.size:=by omega
 have f:bs (⟨#[101,47]⟩ ++ s)=[101,47] ++ bs s:=by rw [pae];rfl
 have x:=ah f;clear f;go_in;go_wp2_with fail;refine o.out.mono ?_;rintro e d ⟨r,m,E,rfl,y⟩;obtain ⟨q,hq⟩:=az (r % 2305843009213691578);have z:q<2305843009213691578:=by rw [hq];exact yP _ (by omega)
 have c:((r:Int) % 2305843009213691578)=(q:Int):=by rw [hq];simp
 have a:=residue_any (r:Int) 2305843009213691578 d (by omega) (by omega);rw [c] at a;have a:=ah a;have D:IntKind.i64.wrap (1+(q:Int))=((q+1:Nat):Int):=by rw [pam (by omega) (by omega)];omega
 have A:1+(q:Int)=((q+1:Nat):Int):=by omega
 have k:=ah hq;clear hq c;go_wp2_with fail;refine a.out.mono ?_;rintro e C ⟨u,j,_,_,rfl,rfl⟩;have h:u=(q:Int):=j.out;subst h;go_wp2_with fail;refine (pkW (q+1) (q+1) d (by omega) (by omega)).mono ?_;rintro e G ⟨t,p,n,rfl,rfl⟩;go_wp2;go_ret;refine ⟨t,?_,n,rfl,y⟩;show _=_;rw [p.out,k.out,m.out,x.out];rfl
theorem pqg (n w) (c:pab n) (a:Tabs w):Calls prog 259 #[.int .i64 n] w (MkN 2305843009213691579 (baseN n) w):=by
 have v:=ah (paA n w c a);have d:=ah (itoa_len n c);have q:=ah a;clear c;go_in;go_wp2_with fail;refine v.out.mono ?_;rintro e o ⟨y,m,x,rfl,f⟩;have u:(ByteArray.mk #[114,111,117,110,100,47]).size=6:=rfl;have g:(ByteArray.mk #[114,111,117,110,100,47] ++ y).size<=1000:=by simp [ByteArray.size_append,u];have:=d.out;omega
 have j:=ah g;have z:¬ 9223372036854775807<6+y.size:=by have:=d.out;omega
 have k:=ah (q.out.upd f);clear x a;go_wp2_with fail;refine (pj0 _ o (by have:=j.out;omega) k.out).mono ?_;rintro e A ⟨r,t,p,rfl,h⟩;go_wp2;go_ret;refine ⟨r,?_,p,rfl,f.trans h⟩;show _=_;rw [t.out,pae,m.out];rfl
def MkQB (P:Bool->Prop) (w:World) (e:Ending) (w':World):Prop:=∃ b:Bool,Hid (P b)/\e=.returned (.bool b)/\Upd [] [] w w'
def accB (cs ws:List Nat) (n x v c z:Int):Bool:=decide (1<=x/\x<=(ws.sum:Int)) && verE 4 (atL cs x.toNat cs.length:Int) (baseN n:Int) v c z
theorem pll (K P cs ws n x v c z w) (U:WsOk ws) (d:Sl w K cs) (hP:pel w P (pdg ws)) (av:cs.length<=1000) (ao:∀ c∈cs,c<=9223372036854775807) (hn:pab n) (hx:pab x) (p:pab v) (hc:pab c) (hz:pab z) (ai:Tabs w) :
 Calls prog 212 #[.agg #[K,P],.int .i64 n,.agg #[.int .i64 x,.int .i64 v,.int .i64 c,.int .i64 z]] w (MkB (accB cs ws n x v c z) w):=by
 obtain ⟨g,hg⟩:=ae (w.heap.size);obtain ⟨w0,H⟩:=ae (w.alloc (.cells #[K,P] 30));have M:=aW hg H;have u0:=aU H;obtain ⟨o,aH⟩:=ae (w0.heap.size);obtain ⟨r,aq⟩:=ae (w0.alloc (.cells #[x,v,c,z] 86));have r1:=aW aH aq;have u1:=aU aq;have E:=ah (u0.trans u1);obtain ⟨pa,pc,rfl,_,_,hp⟩:=hP.upd E.out;obtain ⟨ka,kc,rfl,_,_⟩:=d.form;have al:=ah (d.upd E.out);have ax:=ah hp;have HW:=ah U;have HT:=ah (pbo ws);have hs:=U.sum;rw [pbA];rw [pbA] at M H;obtain ⟨m,G⟩:=az (ws.length);have HM:=ah G;have aM:m<=4:=by rw [G];exact U.2.1
 rw [<-G] at M H;obtain ⟨S,T⟩:=az (ws.sum);rw [<-T] at hs HT;have aQ:1<=S/\S<=12:=by have:=hs;omega
 have c1:r.cell? ⟨g,1,none⟩=some (.slice pa m pc):=xa _ g 1 _ _ _ (paa M u1);have c2:r.cell? ⟨o,0,none⟩=some (.int .i64 x):=xa _ o 0 _ _ _ r1;have aB:Hid (startN ws m=S):=by show (ws.take m).sum=S;rw [G,T,yb]
 have an:=ah (ai.upd E.out);obtain ⟨q,hq⟩:=az (cs.length);have R:Hid (∀ W,Uq r W->W.cell? ⟨g,0,none⟩=some (.slice ka q kc)/\W.cell? ⟨o,0,none⟩=some (.int .i64 x)/\W.cell? ⟨o,1,none⟩=some (.int .i64 v)/\(Instr.loadAt 46 (.pointer (some ⟨o,2,none⟩))).run prog W=.ok (.agg #[c,z]) W):=fun W u=>by
  have h1:=paa M (u1.trans u);have Y:=paa r1 u;refine ⟨by rw [hq];exact xa _ g 0 _ _ _ h1,xa _ o 0 _ _ _ Y,xa _ o 1 _ _ _ Y,xL W o 2 46 [.int .i64 c,.int .i64 z] _ (fun j u p=>?_) underlying46 rfl (by kernel_rfl)⟩
  match j,p with
  | 0,p=>simp at p;subst p;exact xa _ o 2 _ _ _ Y
  | 1,p=>simp at p;subst p;exact xa _ o 3 _ _ _ Y
 suffices HSF:∀ Q:Bool->Prop,Hid (∀ b,b=accB cs ws n x v c z->Q b)->Calls prog 212 #[.agg #[.slice ka q kc,.slice pa m pc],n,.agg #[x,v,c,z]] w (MkQB Q w) by
  have h:=HSF (fun b=>b=accB cs ws n x v c z) (fun _ h=>h);rw [<-G,<-hq];refine h.mono ?_;rintro e w' ⟨b,A,rfl,Z⟩;exact ⟨b,A.out,rfl,Z⟩
 intro Q HQ;have O:Hid (∀ b,b=(decide (1<=x/\x<=(S:Int)) && verE 4 (atL cs x.toNat q:Int) (baseN n:Int) v c z)->Q b):=fun b A=>HQ.out b (by rw [A,accB,T,hq]);rw [<-hq] at H al av;have ak:Hid (∀ (f:Nat) (W:World),x=(f:Int)->Uq r W->Calls prog 258 #[.slice ka q kc,x] W (Mk (.int .i64 (atL cs f q:Int)) W)):=fun f W J u=>by
  have h:=pr7 (.slice ka q kc) cs f W (al.out.upd u) ao (by omega) (by rw [J] at hx;have:=hx.2;omega);rw [<-hq] at h;rw [J];exact h
 have aI:=ah (fun W (u:Uq r W)=>pqg n W hn (an.out.upd u));have aJ:=ah (fun (a b:Int) (F:pab a) (A:pab b) W (u:Uq r W)=>pgt 4 a b v c z W (by unfold pab;omega) F A p hc hz (an.out.upd u));clear hP hp d hq G T U hs av ao u0 u1 M r1 HQ ai hn p hc hz;go_in;go_wp2;go_loopw [7,9,13] (fun t _ i wr=>∃ k:Nat,i=.int .i64 (k:Int)/\k<=m/\t=.int .i64 (startN ws k:Int)/\wr=r) (fun _ _ i _=>m - (intOf i).toNat)
 case atStart=>exact ⟨0,rfl,xu _,rfl,rfl⟩
 case round =>
  obtain ⟨k,rfl,hk,rfl,aG⟩:=hrel;subst aG;by_cases aj:k<m
  · obtain ⟨zz,ac⟩:∃ z,ws[k]? =some z:=⟨_,xd (by rw [<-HM.out];exact aj)⟩
    have aK:=paS ac;have aD:=HT.out (k+1);obtain ⟨X,hX⟩:=az (startN ws k);have aA:(ws.take k).sum=X:=hX.symm;have aP:X+zz<=12:=by omega
    have aw:Hid (startN ws (k+1)=X+zz):=by show (ws.take (k+1)).sum=_;omega
    obtain ⟨gp,u,rfl,_,cu,Z⟩:=ax.out k _ (pdD ac);obtain ⟨ua,uc,rfl,_,_⟩:=Z.form;rw [pb8] at cu;rw [<-hX];have i0:(0:Int)<=(k:Int):=by omega
    have i1:(k:Int)<(m:Int):=by omega
    clear ac aK aD hX aA Z;go_wp2_with fail;have ay:=aw.out;exact ⟨⟨k+1,by go_num,by omega,(by rw [ay];refine ⟨?_,trivial⟩;first | rfl | go_num)⟩,(by first | (simp [intOf];done) | (simp [intOf];omega))⟩
  · obtain rfl:k=m:=by omega
    have ap:=aB.out;rw [ap];clear aj hk;by_cases g1:x<1
    · have N:Hid (Q false):=O.out _ (by rw [yw (by omega),zt]);go_wp2;go_ret;exact ⟨false,N,rfl,E.out⟩
    · by_cases g3:(S:Int)<x
      · have N:Hid (Q false):=O.out _ (by rw [yw (by omega),zt]);go_wp2;go_ret;exact ⟨false,N,rfl,E.out⟩
      · obtain ⟨f,J⟩:∃ f:Nat,x=(f:Int):=⟨x.toNat,by omega⟩
        obtain ⟨a,F⟩:=az (atL cs f q);have ar:pab (a:Int):=by have:=pr6 cs f q;rw [<-F] at this;unfold pab;omega
        have au:=ah (fun W u=>ak.out f W J u);rw [<-F] at au;have aF:Hid (∀ b,b=verE 4 (a:Int) (baseN n:Int) v c z->Q b):=fun b A=>O.out b (by rw [yG (by omega),A,F,show x.toNat=f by omega,uq]);have ag:Uq wr wr.drew:=uR.drew;have aL:=ah ar;clear F J ar O ak ap;go_upto_region 9 with (fail)
        refine @_root_.id ((∀ (B:Nat) (C:Bool) (W:World),Hid (B=baseN n)->Hid (C=verE 4 (a:Int) (B:Int) v c z)->Hid (Uq wr W)->(?pj1:Nat->Bool->World->Prop) B C W)->_) (fun hJ=>?mj1) ?jj1
        case mj1 =>
         refine bH R ag fun D=>?_;refine tkS [0,1,2,3,5,7,8,9] D ?_;refine tkT 10 D ?_ (y:=(pap (by rfl) _ _ rfl _ rfl #[c,z] (fun w aE=>aE.2.2.2)));refine tk1 4 fun K d=>?_;go_simp;refine (au.out _ ag).mono ?_;rintro e aO ⟨rfl,hq⟩;have aa:=ag.trans hq;clear hq;dsimp only;try rw [xH (by rfl)]
         refine tkK d (R.out _ aa) fun D=>?_;clear d K;refine tk1 6 fun K d=>?_;go_simp;refine (aI.out _ aa).mono ?_;rintro e aN ⟨B,ab,aR,rfl,hq⟩;have ad:=aa.trans hq;clear hq;dsimp only;try rw [xH (by rfl)]
         refine tkK d (R.out _ ad) fun D=>?_;clear d K;refine tk1 11 fun K d=>?_;go_simp;refine (aJ.out (a:Int) (B:Int) aL.out (by unfold pab;omega) _ ad).mono ?_;rintro e aC ⟨C,af,rfl,hq⟩;have am:=ad.trans hq;clear hq;dsimp only;try rw [xH (by rfl)]
         refine tkK d (R.out _ am) fun D=>?_;clear d K;refine tkY 12 D ?_;refine tkD ?_;exact hJ B C aC ab af (ah am)
        intro B C w9 ab af U9;have N:Hid (Q C):=aF.out _ (by rw [af.out,ab.out]);go_wp2;go_ret;exact ⟨C,N,rfl,E.out.trans U9.out⟩
theorem plm (K P cs ws n x v c z w) (q:WsOk ws) (r:Sl w K cs) (t:pel w P (pdg ws)) (E:cs.length=needN ws.sum) (k:∀ c∈cs,memN c) (H:cs.length<=1000) (S:pab n) (G:pab x) (Q:pab v) (h:pab c) (R:pab z) (A:Tabs w) :
 Calls prog 165 #[.agg #[K,P],.int .i64 n,.agg #[.int .i64 x,.int .i64 v,.int .i64 c,.int .i64 z]] w (MkB (accB cs ws n x v c z) w):=by
 obtain ⟨g,hg⟩:=ae (w.heap.size);obtain ⟨O,D⟩:=ae (w.alloc (.cells #[K,P] 30));have N:=aW hg D;have J:=aU D;obtain ⟨a,U⟩:=ae (O.heap.size);obtain ⟨p,F⟩:=ae (O.alloc (.cells #[x,v,c,z] 86));have M:=aW U F;have y:=aU F;have j:=ah (J.trans y);have m:=ah (paa N y);have X:=ah M;have Y:=ah (pp8 K P cs ws p q (r.upd j.out) (t.upd j.out) E k);have C:=ah (fun W (u:Uq w W)=>pll K P cs ws n x v c z W q (r.upd u) (t.upd u) H (fun c h=>by have:=(k c h).2.1;unfold Pn at this;omega) S G Q h R (A.upd u));obtain ⟨b0,B⟩:=az (accB cs ws n x v c z);rw [<-B] at C ⊢;have Z:p.cell? ⟨g,0,none⟩=some K:=xa _ g 0 _ _ _ m.out;have d1:p.cell? ⟨g,1,none⟩=some P:=xa _ g 1 _ _ _ m.out;clear q r t E k H S G Q h R A N M J y B;go_in;go_wp2_with fail;refine Y.out.mono ?_;rintro e d ⟨rfl,hq⟩;have T:=ah (j.out.trans hq);have o:=paa m.out hq;have f:=paa X.out hq;have e0:d.cell? ⟨g,0,none⟩=some K:=xa _ g 0 _ _ _ o;have e1:d.cell? ⟨g,1,none⟩=some P:=xa _ g 1 _ _ _ o;have f0:d.cell? ⟨a,0,none⟩=some (.int .i64 x):=xa _ a 0 _ _ _ f;have f1:d.cell? ⟨a,1,none⟩=some (.int .i64 v):=xa _ a 1 _ _ _ f;have f2:d.cell? ⟨a,2,none⟩=some (.int .i64 c):=xa _ a 2 _ _ _ f;have f3:d.cell? ⟨a,3,none⟩=some (.int .i64 z):=xa _ a 3 _ _ _ f;clear hq o f Z d1;go_wp2_with fail;refine (C.out _ T.out).mono ?_;rintro e w3 ⟨b,HB,rfl,hq⟩;go_wp2;go_ret;exact ⟨b,HB,rfl,T.out.trans hq⟩
theorem pcf {P d p q u a} (h:d.results=#[.cell p a,.cell q a,.tmp u]) (c w g k t cs ds o)
 (m:c.getD p undef=.pointer (some ⟨g,0,none⟩)) (x:w.heap[g]? =some (.cells cs t (0,0))) (hq:c.getD q undef=.pointer (some ⟨k,0,none⟩)) (r:w.heap[k]? =some (.cells ds t (0,0)))
 (e:P.underlying a=some (.struct o)) (n:(P.info? a).map (·.size)=some cs.size) (y:(P.info? a).map (·.size)=some ds.size) :
 (results d c).run P w=.ok (.tuple #[.agg cs,.agg ds,c.getD u undef]) w:=by
 have h1:=zu (P:=P) w g t a cs (0,0) _ x e rfl n;have v:=zu (P:=P) w k t a ds (0,0) _ r e rfl y;have f:c[p]?.getD undef=.pointer (some ⟨g,0,none⟩):=by simpa using m
 have j:c[q]?.getD undef=.pointer (some ⟨k,0,none⟩):=by simpa using hq
 simp [results,h,f,j,asAddr,h1,v]
theorem pgK (a T U Z Y g c):∃ j k h d e f,a.heap.size=e/\a.alloc (.cells Z T)=j/\j.heap.size=f/\j.alloc (.cells Y U)=k /\
 Hid (k.heap[e]? =some (.cells Z T (0,0)))/\Hid (k.setRow e g=h)/\Hid (h.heap[f]? =some (.cells Y U (0,0)))/\Hid (h.setRow f c=d) /\
 Hid (d.heap[e]? =some (.cells g T (0,0)))/\Hid (d.heap[f]? =some (.cells c U (0,0)))/\Uq a d:=by
 have r:=xi a (.cells Z T);have u:Uq a (a.alloc (.cells Z T)):=uR.alloc _;have n:(a.alloc (.cells Z T)).heap.size=a.heap.size+1:=by simp
 have t:=xi (a.alloc (.cells Z T)) (.cells Y U);have o:Uq (a.alloc (.cells Z T)) ((a.alloc (.cells Z T)).alloc (.cells Y U)):=uR.alloc _;have p:=paa r o;have m:a.heap.size≠(a.alloc (.cells Z T)).heap.size:=by rw [n];omega
 have q:=pal t m.symm g;exact ⟨_,_,_,_,_,_,rfl,rfl,rfl,rfl,p,rfl,q,rfl,pal (xz _ _ _ _ _ _ p) m c,xz _ _ _ _ _ _ q,((u.trans o).setRowNew (xj _) g).setRowNew (by rw [n];omega) c⟩
theorem pqh (l):∃ x ok,rcOk l x ok:=by
 by_cases h:∃ y:Rc,y.ok/\l=pcg y
 · obtain ⟨y,a,e⟩:=h;exact ⟨y,true,a,fun _=>e,fun h=>by cases h⟩
 · exact ⟨Rc.zero,false,Rc.zero_ok,(fun h=>by cases h),fun _=>⟨rfl,fun y a e=>h ⟨y,a,e⟩⟩⟩
theorem peG {l x ok} (h:rcOk l x ok):x.draw.size<=l.length:=by
 cases ok with
 | true =>
  have e:=h.2.1 rfl;rw [e,<-pac,pcg,pa1];simp;omega
 | false =>
  rw [(h.2.2 rfl).1];exact xu _
theorem peH (s) (m:s.size<=1000000) (x ok) (c:rcOk (bs s) x ok) (R) (g:R=(rcV x).toArray) (w) (a:Tabs w):Calls prog 9 #[.string s] w (Mk (.tuple #[.agg R,.bool ok]) w):=by
 refine (pm2 s w (by omega) a).mono ?_;rintro e w' ⟨y,k,h,rfl,j⟩;obtain ⟨f,d⟩:=pky h.out c;rw [f,d,g];exact ⟨rfl,j⟩
theorem pfa {x} (a:x.ok) {R} (d:R=(rcV x).toArray) {g W} (h:W.heap[g]? =some (.cells R 62 (0,0))):(Instr.loadAt 62 (.pointer (some ⟨g,0,none⟩))).run prog W=.ok (.agg R) W:=by
 subst d;exact xL W g 0 62 _ _ (fun j v c=>by rw [yB];exact (xa _ g j _ _ _ h).trans ((xD).trans c)) underlying62 rfl (pdy a)
section
variable {M : Array Value} {aw ar as' bw br bs' low high id pub : Int} {aT bT F A B : ByteArray}
theorem pch (h:MtIs M aw aT ar as' bw bT br bs' low high F A B id pub) (ra rb R ob) (za:aT.size<=1000000) (zb:bT.size<=1000000) (hA:rcOk (bs aT) ra R) (hB:rcOk (bs bT) rb ob) (a d) (J:a=(rcV ra).toArray) (O:d=(rcV rb).toArray) (w) (ab:Tabs w) :
 Calls prog 172 #[.agg M] w (Mk (.tuple #[.agg a,.agg d,.bool (R && ob)]) w):=by
 have U:=hA.1;have T:=hB.1;obtain ⟨H,AO,AZ⟩:=pdA U a J;obtain ⟨G,BO,BZ⟩:=pdA T d O;obtain ⟨g,hg⟩:=ae (w.heap.size);obtain ⟨w0,af⟩:=ae (w.alloc (.cells M 105));have r0:=aW hg af;have u0:=aU af;obtain ⟨c,am⟩:=ae (w0.heap.size);obtain ⟨w1,aj⟩:=ae (w0.alloc (.cells Tryz.zeroCells62 62));have r1:=aW am aj;have u1:=aU aj;obtain ⟨f,ao⟩:=ae (w1.heap.size);obtain ⟨w2,ag⟩:=ae (w1.alloc (.cells Tryz.zeroCells62 62));have r2:=aW ao ag;have Q:=aU ag;have l1:g<c:=by rw [<-am];exact paf r0
 have l2:c<f:=by rw [<-ao];exact paf r1
 have lw:w.heap.size<=c:=by omega
 have aa:w.heap.size<=f:=by omega
 have M2:=ah (paa (paa r0 u1) Q);have A2:=ah (paa r1 Q);have B2:=ah r2;have U2:=ah ((u0.trans u1).trans Q);have cA:=(xa _ g 9 _ _ _ M2.out).trans h.a1;have ap:=ah h.b1;have ai:=ah (fun W (u:Uq w W)=>peH aT za ra R hA a J W (ab.upd u));have ac:=ah (fun W (u:Uq w W)=>peH bT zb rb ob hB d O W (ab.upd u));have x:Hid (∀ W:World,W.heap[c]? =some (.cells a 62 (0,0))->W.heap[f]? =some (.cells d 62 (0,0))->(Instr.loadAt 62 (.pointer (some ⟨c,0,none⟩))).run prog W=.ok (.agg a) W/\(Instr.loadAt 62 (.pointer (some ⟨f,0,none⟩))).run prog W=.ok (.agg d) W):=fun W q1 q2=>⟨pfa U J q1,pfa T O q2⟩
 clear h r0 r1 r2 u0 u1 Q hA hB J O U T za zb;go_in;go_wp2_with fail;refine (ai.out w2 U2.out).mono ?_;rintro e w3 ⟨rfl,hq⟩;have M3:=ah (paa M2.out hq);have A3:=ah (paa A2.out hq);have B3:=ah (paa B2.out hq);have U3:=ah (U2.out.trans hq);obtain ⟨w4,X⟩:=ae (w3.setRow c a);have A4:(w3.setRow c a).heap[c]? =some (.cells a 62 (0,0)):=xz _ _ _ _ _ _ A3.out;have P:=pal M3.out (by omega:g≠c) a;have B4:=pal B3.out (by omega:f≠c) a;have V4:=U3.out.setRowNew lw a;rw [X] at A4 P B4 V4;have al:=ah X;have cB:=(xa _ g 13 _ _ _ P).trans ap.out;have an:=ah A4;have aq:=ah P;have ak:=ah B4;have Z:=ah V4;clear hq M2 A2 B2 U2 M3 B3 U3 X A4 P B4 V4 ai;go_wp2_with (refine bS A3 H AZ AO al ?_)
 refine (ac.out w4 Z.out).mono ?_;rintro e w5 ⟨rfl,hq⟩;have A5:=ah (paa an.out hq);have B5:=ah (paa ak.out hq);have U5:=ah (Z.out.trans hq);obtain ⟨z,Y⟩:=ae (w5.setRow f d);have B6:(w5.setRow f d).heap[f]? =some (.cells d 62 (0,0)):=xz _ _ _ _ _ _ B5.out;have A6:=pal A5.out (by omega:c≠f) d;have V6:=U5.out.setRowNew aa d;rw [Y] at A6 B6 V6;have av:=ah Y;have y:=ah A6;have N:=ah B6;have ad:=ah V6;have k:Uq z z.drew:=uR.drew;clear hq A5 U5 Y A6 B6 V6 ac an ak aq Z cA cB A3 al;go_upto_region 3 with (first | (refine bS B5 G BZ BO av ?_))
 cases R with
 | false =>
  refine bG (S:=fun p=>(Instr.loadAt 62 (.pointer (some ⟨c,0,none⟩))).run prog p=.ok (.agg a) p/\(Instr.loadAt 62 (.pointer (some ⟨f,0,none⟩))).run prog p=.ok (.agg d) p) (x.out _ (paa y.out k) (paa N.out k)) fun j=>?_;refine tkL 0 j a (fun w t=>t.1) ?_;refine tkL 1 j d (fun w t=>t.2) ?_;refine tkS [2,3] j ?_;refine tkN 4 j ?_;refine tkY 5 j ?_;refine tk1 6 fun K n=>?_;rw [xH (by rfl)];refine xM 62 _ _ rfl c a rfl rfl _ _ (paa y.out k) H.out rfl AO.out ?_;obtain ⟨C,m⟩:=az (z.drew.setRow c a);have q:(z.drew.setRow c a).heap[c]? =some (.cells a 62 (0,0)):=xz _ _ _ _ _ _ (paa y.out k);have o:=pal (paa N.out k) (by omega:f≠c) a;have D:=(ad.out.trans k).setRowNew lw a;rw [<-m] at q o D ⊢;clear m;refine tkK n (x.out _ q o) fun j=>?_;clear n K;refine tk1 7 fun K n=>?_;rw [xH (by rfl)];refine bR o G rfl BO ?_;obtain ⟨au,m⟩:=az (C.setRow f d);have v:(C.setRow f d).heap[f]? =some (.cells d 62 (0,0)):=xz _ _ _ _ _ _ o;have r:=pal q (by omega:c≠f) d;have E:=D.setRowNew aa d;rw [<-m] at r v E ⊢;clear m;refine tkK n (x.out _ r v) fun j=>?_;clear n K;refine tkY 8 j ?_;refine tkD ?_;go_wp2_with fail;refine xI (pcf rfl _ _ c f _ a d _ rfl r rfl v underlying62 H.out G.out) rfl ⟨rfl,E⟩
 | true =>
  refine bG (S:=fun p=>(Instr.loadAt 62 (.pointer (some ⟨c,0,none⟩))).run prog p=.ok (.agg a) p/\(Instr.loadAt 62 (.pointer (some ⟨f,0,none⟩))).run prog p=.ok (.agg d) p) (x.out _ (paa y.out k) (paa N.out k)) fun j=>?_;refine tkL 0 j a (fun w t=>t.1) ?_;refine tkL 1 j d (fun w t=>t.2) ?_;refine tkS [2,3,4,5] j ?_;refine tk1 6 fun K n=>?_;rw [xH (by rfl)];refine xM 62 _ _ rfl c a rfl rfl _ _ (paa y.out k) H.out rfl AO.out ?_;obtain ⟨C,m⟩:=az (z.drew.setRow c a);have q:(z.drew.setRow c a).heap[c]? =some (.cells a 62 (0,0)):=xz _ _ _ _ _ _ (paa y.out k);have o:=pal (paa N.out k) (by omega:f≠c) a;have D:=(ad.out.trans k).setRowNew lw a;rw [<-m] at q o D ⊢;clear m;refine tkK n (x.out _ q o) fun j=>?_;clear n K;refine tk1 7 fun K n=>?_;rw [xH (by rfl)];refine bR o G rfl BO ?_;obtain ⟨au,m⟩:=az (C.setRow f d);have v:(C.setRow f d).heap[f]? =some (.cells d 62 (0,0)):=xz _ _ _ _ _ _ o;have r:=pal q (by omega:c≠f) d;have E:=D.setRowNew aa d;rw [<-m] at r v E ⊢;clear m;refine tkK n (x.out _ r v) fun j=>?_;clear n K;refine tkY 8 j ?_;refine tkD ?_;go_wp2_with fail;refine xI (pcf rfl _ _ c f _ a d _ rfl r rfl v underlying62 H.out G.out) rfl ⟨rfl,E⟩
end
structure MtMore (M:Array Value) (L K P:Value) (i ci ck c1 c2:Int):Prop where
 l:M[0]? =some L
 k:M[1]? =some K
 p:M[2]? =some P
 i:M[25]? =some (.int .i64 i)
 c:M[21]? =some (.int .i64 ci)/\M[22]? =some (.int .i64 ck)/\M[23]? =some (.int .i64 c1)/\M[24]? =some (.int .i64 c2)
theorem pj2 (b n c a x q w) (h:Sl w (.slice (some ⟨b,0,none⟩) n c) a) (k:n=a.length) (g:n<=1000000) (hq:(a.map fun y:Nat=>(y:Int)).contains x=q):Calls prog 164 #[.slice (some ⟨b,0,none⟩) n c,.int .i64 x] w (Ret (.bool q) w):=by
 refine (Tryz.slices_Contains_int b 0 n c (a.map fun y:Nat=>(y:Int)) x w (by simp;omega) (by omega) (fun j d=>?_)).mono ?_
 · rw [yx] at d;obtain ⟨y,f⟩:∃ y,a[j]? =some y:=⟨_,xd d⟩
   rw [yB,h.at f,xx,ys,f];rfl
 · rintro e w' ⟨rfl,rfl⟩;refine ⟨?_,rfl⟩;rw [xy (by simp;omega),hq]
def wrgB (cs ws:List Nat) (k zz:Nat) (id:Int) (ev:EvG) (ep x v c z:Int):Bool:=decide (ep=0) && decide (ev.h=id) && ((pcc ws k zz).map fun y:Nat=>(y:Int)).contains x && !accB cs ws ev.n x v c z
section
variable {M : Array Value} {aw ar as' bw br bs' low high id pub ci ck c1 c2 : Int} {aT bT F A B : ByteArray} {L K P : Value}
theorem pg0 (h:MtIs M aw aT ar as' bw bT br bs' low high F A B id pub) (k:Nat) (C:MtMore M L K P (k:Int) ci ck c1 c2) (ht:aT.size<=900000) (hp:∃ a ep x v c z,pft (bs aT) a ep x v c z) (cs ws f w) (hw:WsOk ws) (hk:ws[k]? =some f) (hK:Sl w K cs) (hP:pel w P (pdg ws)) (aF:cs.length=needN ws.sum) (ax:∀ c∈cs,memN c) (hl:cs.length<=1000) (aa:Tabs w) :
 Calls prog 93 #[.agg M] w (pdH (fun b=>∃ a ep x v c z,pft (bs aT) a ep x v c z/\b=wrgB cs ws k f id a ep x v c z) w):=by
 obtain ⟨g,hg⟩:=ae (w.heap.size);obtain ⟨w0,ap⟩:=ae (w.alloc (.cells M 105));have r0:=ah (aW hg ap);have u0:=ah (aU ap);have aG:=ah (pgD aT ht w0 (aa.upd u0.out));have c9:=(xa _ g 9 _ _ _ r0.out).trans h.a1;have aH:=(xe.1 hk).1;obtain ⟨pa,H,rfl,_,_,af⟩:=hP;obtain ⟨G,u,rfl,ay,cu,Q⟩:=af k _ (pdD hk);obtain ⟨ua,uc,rfl,_,_⟩:=Q.form;rw [pb8] at cu Q;rw [pbA] at C;obtain ⟨m,hm⟩:=az (ws.length);have hP:pel w (.slice (some ⟨G,0,none⟩) m H) (pdg ws):=⟨_,H,by rw [hm,pbA],by assumption,by assumption,af⟩
 rw [<-hm] at C aH;obtain ⟨S,hS⟩:∃ S:Array Value,S=#[K,.slice (some ⟨G,0,none⟩) m H]:=⟨_,rfl⟩
 have aD:Hid (∀ W,Uq w0 W->W.cell? ⟨g,2,none⟩=some (.slice (some ⟨G,0,none⟩) m H)/\W.cell? ⟨g,25,none⟩=some (.int .i64 (k:Int))/\W.cell? ⟨g,26,none⟩=some (.int .i64 id)/\W.cell? ⟨G,k,none⟩=some (.slice ua f uc)/\(Instr.loadAt 30 (.pointer (some ⟨g,1,none⟩))).run prog W=.ok (.agg S) W):=fun W v=>by
  have q:=paa r0.out v;refine ⟨(xa _ g 2 _ _ _ q).trans C.p,(xa _ g 25 _ _ _ q).trans C.i,(xa _ g 26 _ _ _ q).trans h.i,((u0.out.trans v).cell (p:=⟨G,k,none⟩) ay (by simp)).trans cu,?_⟩;rw [hS];refine xL W g 1 30 [K,.slice (some ⟨G,0,none⟩) m H] _ (fun j v o=>?_) underlying30 rfl (by show _=some 2;kernel_rfl)
  match j,o with
  | 0,o=>simp at o;subst o;exact (xa _ g 1 _ _ _ q).trans C.k
  | 1,o=>simp at o;subst o;exact (xa _ g 2 _ _ _ q).trans C.p
 obtain ⟨b,a8,aq⟩:∃ b,Hid (ua=some ⟨b,0,none⟩)/\Hid (∀ (x:Int) (q:Bool) W,Uq w W->((pcc ws k f).map fun y:Nat=>(y:Int)).contains x=q->Calls prog 164 #[.slice ua f uc,x] W (Ret (.bool q) W)):=by
  have h1:=hw.2.2 f (xt hk);have aJ:=pb8 ws k f;obtain ⟨b,e,_⟩:=Q.get (k:=0) (d:=startN ws k+0+1) (pjL (by omega));subst e;exact ⟨b,rfl,fun x q W v hq=>pj2 b f uc _ x q W (Q.upd v) aJ.symm (by omega) hq⟩
 have aj:=ah (fun (n x v c z:Int) (E:pab n) (hx:pab x) (o:pab v) (hc:pab c) (hz:pab z) W (vv:Uq w W)=>plm K (.slice (some ⟨G,0,none⟩) m H) cs ws n x v c z W hw (hK.upd vv) (hP.upd vv) aF ax hl E hx o hc hz (aa.upd vv));rw [<-hS] at aj;have au:=ah hp;clear h C hp hk hK hP af aF ax hl Q cu ay hw aa hm hS;go_in;go_wp2_with fail;refine aG.out.mono ?_;rintro e w1 ⟨O,ep,x,v,c,z,ok,ak,an,rfl,hq⟩;obtain ⟨a,t⟩:∃ a,Hid (O=a.V.toArray/\pft (bs aT) a ep x v c z):=by
  rcases an.out with ⟨_,a,he,ac⟩ | ⟨_,E⟩
  · exact ⟨a,he,ac⟩
  · obtain ⟨a,a1,a2,a3,a4,a5,ac⟩:=au.out;exact absurd ac (E _ _ _ _ _ _)
 have J:Hid (pab a.n/\pab x/\pab v/\pab c/\pab z):=by
  obtain ⟨aI,_,_,_,_,X⟩:=t.out.2;exact ⟨aI.1.2.2.2.2.1,X.1,X.2.1,X.2.2.1,X.2.2.2.1⟩
 obtain ⟨n,E⟩:=az (a.n);obtain ⟨N,ab⟩:=az (a.h);have a6:Hid (O[2]? =some (.int .i64 N)):=by show _=_;rw [t.out.1,ab];rfl
 have aC:Hid (O[4]? =some (.int .i64 n)):=by show _=_;rw [t.out.1,E];rfl
 obtain ⟨D,r⟩:∃ D:Array Value,D=#[.int .i64 x,.int .i64 v,.int .i64 c,.int .i64 z]:=⟨_,rfl⟩
 have aY:Hid (D[0]? =some (.int .i64 x)):=by show _=_;rw [r];rfl
 have aL:Fi 86 D:=by rw [r];exact pdo _ _ _ _
 have aP:Fo D:=by rw [r];exact peF _ _ _ _
 have a0:Hid ((#[.int .i64 0,.int .i64 0,.int .i64 0,.int .i64 0]:Array Value).size=D.size):=by rw [r];rfl
 obtain ⟨wA,wB,wC,wD,gE,gQ,aK,ao,aN,aO,ZA,WC,ZB,WD,FA,FB,Z⟩:=pgK w1 71 86 evZ.toArray #[.int .i64 0,.int .i64 0,.int .i64 0,.int .i64 0] O D;rw [<-paH] at ao ZA;have aE:Hid ((zZ0:Array Value).size=O.size):=by show _=_;rw [paH];exact ak.out.2.2
 have U:=ah ((u0.out.trans hq).trans Z);have aB:=ah (aD.out wD (hq.trans Z));have al:=ah r;have aQ:=ah FA.out;have aM:=ah FB.out;have aZ:=ah (hq.trans Z);rw [<-r];have Y:=ah (xf E ab);clear hq Z aG r E ab an au c9;have m2:=aB.out.1;go_upto_region 3 with (first | (refine bS ZA ak.out.1 aE ak.out.2.1 WC ?_) | (refine bS ZB aL a0 aP WD ?_))
 have e2:=(xa _ gE 2 _ _ _ FA.out).trans a6.out;have T:=(xa _ gE 4 _ _ _ FA.out).trans aC.out;have p0:=(xa _ gQ 0 _ _ _ FB.out).trans aY.out;obtain ⟨_,ag,av,mk,_⟩:=aB.out;clear aE ZA WC ZB WD FA FB aK aN ao aO;by_cases g1:ep=0
 case neg =>
  have aV:(ep == 0)=false:=by rw [xm];exact g1
  have ba:(ep != 0)=true:=by rw [bne,aV];rfl
  clear m2 ag av mk e2 T p0;go_quiet (fail);go_wp2;go_ret;exact ⟨false,⟨a,ep,x,v,c,z,t.out.2,by unfold wrgB;rw [yw g1,zt,zt,zt]⟩,rfl,U.out.drewN _⟩
 subst g1;by_cases g2:N=id
 case neg =>
  have aR:(N == id)=false:=by rw [xm];exact g2
  have a9:(N != id)=true:=by rw [bne,aR];rfl
  have HN:=ah g2;clear m2 ag mk T p0 g2;go_quiet (fail);go_wp2;go_ret;exact ⟨false,⟨a,0,x,v,c,z,t.out.2,by unfold wrgB;rw [<-Y.out.2,yw HN.out,Bool.and_false,zt,zt]⟩,rfl,U.out.drewN _⟩
 subst g2;have g3:¬ (m:Int)<=(k:Int):=by omega
 have a7:decide ((m:Int)<=(k:Int))=false:=yw g3;have k0:(0:Int)<=(k:Int):=by omega
 have k1:(k:Int)<(m:Int):=by omega
 obtain ⟨q,hq⟩:=ae (((pcc ws k f).map fun y:Nat=>(y:Int)).contains x);have HW:Hid (∀ bv,bv=(q && !accB cs ws n x v c z)->bv=wrgB cs ws k f N a 0 x v c z):=by
  intro bv aS;unfold wrgB;rw [aS,yG rfl,<-Y.out.2,yG rfl,hq,Y.out.1];rfl
 have ad:=ah (fun n=>aq.out x q (wD.drewN n) (U.out.drewN _) hq);clear m2 hq aq T aH
 cases q with
 | false =>
  go_quiet ((go_at_call 164;exact pfS (ad.out _)));go_wp2;go_ret;exact ⟨false,⟨a,0,x,v,c,z,t.out.2,HW.out _ rfl⟩,rfl,U.out.drewN _⟩
 | true =>
  go_quiet ((go_at_call 164;exact pfS (ad.out _)));obtain ⟨wE,ai⟩:=ae (wD.drewN nq);have R:Uq wD wE:=by rw [<-ai];exact uR.drewN nq
  have UE:=ah (U.out.trans R);have am:=ah (pbu al.out (paa aM.out R));have aA:=ah ((aD.out wE (aZ.out.trans R)).2.2.2.2);have T:=(xa _ gE 4 _ _ _ (paa aQ.out R)).trans aC.out;have HV:=ah (aj.out n x v c z (by rw [Y.out.1];exact J.out.1) J.out.2.1 J.out.2.2.1 J.out.2.2.2.1 J.out.2.2.2.2 wE UE.out);rw [<-al.out] at HV;clear ag av mk e2 p0 R ad aj;rw [ai];clear ai;go_wp2_with (first | (refine bA aA ?_) | (refine bA am ?_))
  refine HV.out.mono ?_;rintro e wF ⟨bv,HB,rfl,hq⟩;have UF:=ah (UE.out.trans hq);clear hq HV T aA am;go_wp2;go_ret;exact ⟨!bv,⟨a,0,x,v,c,z,t.out.2,HW.out _ (by rw [HB.out];rfl)⟩,rfl,UF.out⟩
end
theorem pc0 {R T c} (d:prog.underlying T=some (.struct c)) (a:(prog.info? T).map (·.size)=some R.size) {g W} (h:W.heap[g]? =some (.cells R T (0,0))):(Instr.loadAt T (.pointer (some ⟨g,0,none⟩))).run prog W=.ok (.agg R) W :=
 xL W g 0 T R.toList _ (pb5 (by simp) h) d rfl (by rw [uQ];exact a)
def insB (y:Int):Bool:=decide (0<=y) && decide (y<=1152921504606845788)
theorem pnG (y w):Calls prog 297 #[.int .i64 y] w (Ret (.bool (insB y)) w):=by
 by_cases h0:0<=y
 · by_cases h1:y<=1152921504606845788
   · have e:insB y=true:=by unfold insB;rw [yG h0,yG h1];rfl
     rw [e];clear e;go_in;go_wp2;go_ret;exact ⟨rfl,rfl⟩
   · have e:insB y=false:=by unfold insB;rw [yG h0,yw h1];rfl
     rw [e];clear e;go_in;go_wp2;go_ret;exact ⟨rfl,rfl⟩
 · have e:insB y=false:=by unfold insB;rw [yw h0];rfl
   rw [e];clear e;go_in;go_wp2;go_ret;exact ⟨rfl,rfl⟩
def padI (key:Int) (idx:Nat):List UInt8:=sha ([98,111,120,47] ++ Lib.itoa key ++ [47] ++ Lib.itoa (idx:Int))
theorem prA (key idx):(padI key idx).length=32:=pbP _
theorem prB (key) (idx:Nat) (w) (h:pab key) (H:idx<9223372036854775808) (d:Tabs w):Calls prog 296 #[.int .i64 key,idx] w (Mk (.agg (byteVals (padI key idx)).toArray) w):=by
 have k:pab (idx:Int):=by unfold pab;omega
 have R:=itoa_len key h;have X:=itoa_len (idx:Int) k;obtain ⟨g,B⟩:=ae (w.heap.size);obtain ⟨j,a⟩:=ae (w.alloc (.cells (byteVals zero32).toArray 60));have A:Hid (AB 60 j g zero32):=by show j.heap[g]? =_;rw [<-B,<-a];exact xi _ _
 have m:=ah (aU a);have K:=ah (xJ B);have r:=ah (fun W (u:Uq w W)=>paA key W h (d.upd u));have E:=ah (fun W (u:Uq w W)=>paA (idx:Int) W k (d.upd u));have O:=ah (fun W (u:Uq w W)=>d.upd u);have C:=a;rw [show (byteVals zero32).toArray=zZ2 from rfl] at C;clear h H k a;go_in;go_wp2_with fail;refine (r.out j m.out).mono ?_;rintro e J ⟨y,M,S,rfl,hq⟩;have n:=ah (m.out.trans hq);have q:=ah (A.out.upd hq);clear hq A r;go_wp2_with fail;refine (E.out J n.out).mono ?_;rintro e x ⟨z,N,U,rfl,hq⟩;have t:=ah (n.out.trans hq);have o:=ah (q.out.upd hq);have Q:(ByteArray.mk #[98,111,120,47]).size=4:=rfl;have P:(ByteArray.mk #[47]).size=1:=rfl;clear hq q;go_wp2_with fail;refine (pn0 _ x (by simp [ByteArray.size_append];omega) (O.out x t.out)).mono ?_;rintro e T ⟨rfl,hq⟩;have F:=ah (t.out.trans hq);have v:=ah (o.out.upd hq);obtain ⟨D,c⟩:=az (sha (bs (⟨#[98,111,120,47]⟩ ++ y ++ ⟨#[47]⟩ ++ z)));have p:D.length=32:=by rw [c];exact pbP _
 have f:=ah p;have G:Hid (D=padI key idx):=by
  show _=_;rw [c];simp only [pae,M.out,N.out];rfl
 rw [<-c];clear hq c p o;go_wp2_with (refine yH rfl 60 _ _ rfl g (byteVals D).toArray rfl rfl _ _ v.out (hashInfo f.out) (by simp [byteVals,f.out,zero32]) (hashOne _) ?_)
 refine xI (yX rfl _ _ g _ (byteVals D).toArray _ _ rfl (v.out.setRow D) underlying60 rfl (hashInfo f.out)) rfl ⟨?_,F.out.setRowNew K.out _⟩;rw [G.out]
def opnL (s p:List UInt8):List UInt8:=List.zipWith (· ^^^ ·) s (p.take 16)
theorem prC {s p k a b} (d:s[k]? =some a) (c:p[k]? =some b) (e:k<16):(opnL s p)[k]? =some (a ^^^ b):=by
 unfold opnL;rw [List.getElem?_zipWith,d,xR e,c]
def pj5 (o:List UInt8):Bool:=(o.drop 8).all (· == 0)
def puF (s p:List UInt8) (w:World) (e:Ending) (w':World):Prop :=
 ∃ (y:Int) (ok:Bool),Hid (pab y/\ok=(decide (s.length=16) && pj5 (opnL s p))/\(ok=true->y=IntKind.i64.wrap (acc8 (opnL s p) 8:Int)))/\e=.returned (.tuple #[y,.bool ok])/\Upd [] [] w w'
theorem pt4:(byteVals (List.replicate 16 0)).toArray=#[.int .u8 0,.int .u8 0,.int .u8 0,.int .u8 0,.int .u8 0,.int .u8 0,.int .u8 0,.int .u8 0,.int .u8 0,.int .u8 0,.int .u8 0,.int .u8 0,.int .u8 0,.int .u8 0,.int .u8 0,.int .u8 0]:=rfl
theorem pbq (x):pab (IntKind.i64.wrap x):=by
 rw [IntKind.wrap_i64];unfold pab;omega
theorem pln (key) (idx:Nat) (s w) (g:pab key) (S:idx<9223372036854775808) (am:Tabs w) :
 Calls prog 268 #[.int .i64 key,idx,.string s] w (puF (bs s) (padI key idx) w):=by
 by_cases N:s.size=16
 case neg =>
  have hq:¬ (s.size:Int)=16:=by omega
  have HN:Hid ((false:Bool)=(decide ((bs s).length=16) && pj5 (opnL (bs s) (padI key idx)))):=by
   show _=_;rw [pac,yw N];rfl
  clear g S;go_in;go_wp2;go_ret2;exact ⟨0,false,⟨by unfold pab;omega,HN.out,fun h=>by cases h⟩,rfl,uR.alloc _⟩
 case pos =>
  obtain ⟨P,o⟩:=az (padI key idx);obtain ⟨O,W⟩:=az (opnL (bs s) P);have v:Hid (P.length=32):=by show _=_;rw [o,prA]
  have ap:Hid (O.length=16):=by show _=_;rw [W];simp [opnL,pac,N,v.out]
  obtain ⟨c,al⟩:=ae (w.heap.size);obtain ⟨D,J⟩:=ae (w.alloc (.cells (byteVals (List.replicate 16 0)).toArray 313));have R0:Hid (AB 313 D c (List.replicate 16 0)):=by show D.heap[c]? =_;rw [<-al,<-J];exact xi _ _
  have U0:Hid (Uq w D):=by rw [<-J];exact uR.alloc _
  have H:=ah (prB key idx D g S (am.upd U0.out));have HG:Hid (w.heap.size<=c):=xJ al;have hq:(s.size:Int)=16:=by omega
  rw [<-o] at H;rw [pt4] at J;have A:=ah (xf o W);rw [<-o];clear g S o W;go_in;go_wp2_with fail;refine H.out.mono ?_;rintro e w1 ⟨rfl,r⟩;obtain ⟨gP,F⟩:=ae (w1.heap.size);obtain ⟨w2,U,W2,R2,K⟩:=paz w1 60 (byteVals zero32).toArray (byteVals P).toArray;rw [F] at U W2 R2;have ak:=ah (hashInfo v.out);have ac:Hid ((byteVals zero32).toArray.size=(byteVals P).toArray.size):=by show _=_;simp [byteVals,v.out,zero32]
  have af:=ah (hashOne P);have U2:=ah (U0.out.trans (r.trans K));have RB:=ah ((R0.out.upd r).upd K);have ai:c<gP:=by rw [<-F];exact paf (R0.out.upd r)
  have aC:=ah ai;clear r K ai H;go_wp2_with (refine wpList_store_rowAs rfl 60 _ _ rfl gP (byteVals P).toArray rfl rfl _ _ U.out ak.out ac.out af.out w2 W2.out ?_)
  clear U W2 ak ac af F;go_loopw [10,11,18] (fun n _ i wr=>∃ (k z:Nat) (B:List UInt8),i=.int .i64 (k:Int)/\k<=16/\n=.int .u64 (z:Int)/\z<256 ^ min k 8/\Hid (z=acc8 O (min k 8))/\Hid (AB 313 wr c B/\B.length=16)/\Hid (AB 60 wr gP P)/\Hid (∀ j,8<=j->j<k->O[j]? =some 0)/\Hid (Uq w wr)) (fun _ _ i _=>16 - (intOf i).toNat)
  case atStart=>exact ⟨0,0,_,rfl,xu _,rfl,by decide,rfl,⟨RB.out,by simp⟩,R2.out,fun j h1 E=>absurd E (by omega),U2.out⟩
  case round =>
   obtain ⟨k,z,B,rfl,g,rfl,f,m,d,HP,HO,HU⟩:=hrel;by_cases ab:k<16
   · have aB:k<s.size:=by omega
     have Z:=pc6 s k aB;obtain ⟨b,X⟩:∃ b,P[k]? =some b:=⟨_,xd (by have:=v.out;omega)⟩
     obtain ⟨a,ha⟩:=ae (s[k]);rw [ha] at Z;have t:=prC Z X ab;rw [<-A.out.2] at t;have hx:=pmm a b;obtain ⟨x,G⟩:=az (a ^^^ b);rw [<-G] at t hx;have Y:=ah t;have ar:=HP.out.cell X;have au:a.toNat ^^^ b.toNat=x.toNat:=by rw [G];exact (UInt8.toNat_xor a b).symm
     have aA:wr.frozen? ⟨c,k,none⟩=false:=d.out.1.frozen k;have ay:wr.cell? ⟨c,k,none⟩=some (.int .u8 ((B.getD k 0).toNat:Int)):=d.out.1.cell (by rw [xx,xd (by have:=d.out.2;omega)];rfl);have i0:(0:Int)<=(k:Int):=by omega
     have i1:(k:Int)<(s.size:Int):=by omega
     have i2:(k:Int)<32:=by omega
     have i3:(k:Int)<16:=by omega
     obtain ⟨C,u⟩:=ae ((wr.setCell ⟨c,k,none⟩ (.int .u8 (x.toNat:Int))).drew);have R:AB 313 C c (B.set k x):=by rw [<-u];exact (d.out.1.set k x).upd uR.drew
     have ag:=ah (xf R (show (B.set k x).length=16 by rw [zS];exact d.out.2));have aa:Hid (AB 60 C gP P):=by show AB _ _ _ _;rw [<-u];exact (HP.out.other (by have:=aC.out;omega) _).upd uR.drew
     have M:Hid (Uq w C):=by show Upd _ _ _ _;rw [<-u];exact (HU.out.setNew (p:=⟨c,k,none⟩) HG.out _).drew
     have ad:C.cell? ⟨c,k,none⟩=some (.int .u8 (x.toNat:Int)):=R.cell (by rw [List.getElem?_set_self (by have:=d.out.2;omega)]);have aw:=ah ad;clear Z X t G R ad au;go_upto_region 9 with (fail)
     go_region;clear ar ay aA hx u ha;have c3:=aw.out;by_cases h8:k<8
     · rw [show min k 8=k by omega] at f m;have aq:z<72057594037927936:=by
        have:256 ^ k<=256 ^ 7:=zm (by omega) (by omega);have e:(256:Nat) ^ 7=72057594037927936:=by decide
        omega
       have av:=or64 z x aq;have aD:=x.toNat_lt;have g8:(k:Int)<8:=by omega
       have aj:Hid (z * 256+x.toNat=acc8 O (k+1)):=by show _=_;rw [acc8,<-m.out,xx,Y.out];rfl
       have HA:=ah (pkv O (k+1));clear f;go_wp2_with fail;refine ⟨⟨k+1,z * 256+x.toNat,B.set k x,by go_num,by omega,?_,by rw [show min (k+1) 8=k+1 by omega,aj.out];exact HA.out,by rw [show min (k+1) 8=k+1 by omega];exact aj.out,ag.out,aa.out,fun j h1 E=>absurd E (by omega),M.out⟩,by simp [intOf];omega⟩;rw [show (z:Int) * 256=(z:Int) * 256 % 18446744073709551616 by omega,av]
     · rw [show min k 8=8 by omega] at f m;have g8:¬ (k:Int)<8:=by omega
       by_cases Q:x.toNat=0
       · have ax:Hid (O[k]? =some 0):=by show _=_;rw [Y.out,show x=0 from zQ.1 (by rw [Q];rfl)]
         rw [Q] at c3;go_wp2_with fail;refine ⟨⟨k+1,z,B.set k x,by go_num,by omega,rfl,by rw [show min (k+1) 8=8 by omega];exact f,by rw [show min (k+1) 8=8 by omega];exact m.out,ag.out,aa.out,fun j h1 E=>?_,M.out⟩,by simp [intOf];omega⟩;by_cases q:j<k
         · exact HO.out j h1 q
         · obtain rfl:j=k:=by omega
           exact ax.out
       · have g0:¬ (x.toNat:Int)=0:=by omega
         have ao:Hid (pj5 O=false):=by
          show _=_;unfold pj5;rw [List.all_eq_false];refine ⟨x,xt (i:=k - 8) (by rw [zL,show 8+(k - 8)=k by omega];exact Y.out),?_⟩;intro e;rw [yW] at e;exact Q (by rw [e];rfl)
         go_wp2;go_ret2;exact ⟨0,false,⟨by unfold pab;omega,by rw [<-A.out.2,ao.out,Bool.and_false],fun h=>by cases h⟩,rfl,M.out⟩
   · obtain rfl:k=16:=by omega
     have an:Hid (pj5 O=true):=by
      show _=_;unfold pj5;rw [vd];intro y T;obtain ⟨j,q⟩:=List.getElem?_of_mem T;rw [zL] at q;have hl:=(xe.1 q).1;have h0:=HO.out (8+j) (by omega) (by have:=ap.out;omega);rw [q] at h0;injection h0 with h0;rw [h0];rfl
     have aE:z<18446744073709551616:=f;obtain ⟨y,T⟩:=ae (IntKind.i64.wrap (z:Int));have HY:=ah T;clear ab g f;go_wp2;go_ret2;refine ⟨y,true,⟨by rw [<-HY.out];exact pbq _,?_,fun _=>?_⟩,rfl,HU.out⟩
     · rw [<-A.out.2,an.out,pac,N];rfl
     · rw [<-HY.out,m.out,A.out.2];rfl
end Go.Proofs.YtkhjolbbpdaplaaGreatDoor
