/- sortesref33.Case.Guilty: the evidence of the kinds 1 to 5. -/
import Derived.Test.YtkhjolbbpdaplaaGreatDoorHBM
namespace Go.Proofs.YtkhjolbbpdaplaaGreatDoor
set_option maxHeartbeats 8000000
open Go.RowKit Go.Proofs.Tryz
set_option maxRecDepth 100000
theorem pbi (a m r) (g:pab a) (f:1<=m/\m<=4611686018427387903) (d:a % m=r) (w):Calls prog 21 #[.int .i64 a,.int .i64 m] w (Ret (.int .i64 r) w):=by
 refine (pbC a m w g f).mono ?_;rintro e w' ⟨y,c,_,_,rfl,rfl⟩;exact ⟨by rw [c.out,d],rfl⟩
def pmz (l:List Int) (kind at':Int) (ea eb:EvG) (X:EvdG):Prop:=∃ (k:Nat) (F1 F2:EvG) (T1 T2:ByteArray),k<manyN l/\(k:Int)=at' % (manyN l:Int)/\F1=(ea.from ((k+1:Nat):Int)).signed (secN k)/\F2=(eb.from ((k+1:Nat):Int)).signed (secN k)/\bs T1=F1.text/\bs T2=F2.text /\
 X={ evd0 with kind:=kind,who:=((k+1:Nat):Int),aw:=F1.h,aT:=T1,ar:=F1.r,as':=F1.s,bw:=F2.h,bT:=T2,br:=F2.r,bs':=F2.s }
def pqv (d:Int) (x v c z:Int):List UInt8:=Lib.itoa d ++ 32 :: pfr x v c z
def ptN (l:List Int) (k:Nat):Nat:=startN (wsN l (manyN l)) k+1
theorem CaseRd.point {l w L K P r S C F} (h:CaseRd l w L K P r S C F) {k} (M:k<manyN l):∃ a z c m y,P=.slice (some ⟨a,0,none⟩) (manyN l) z/\a<w.heap.size/\w.cell? ⟨a,k,none⟩=some (.slice (some ⟨c,0,none⟩) m y)/\1<=m/\c<w.heap.size/\w.cell? ⟨c,0,none⟩=some (.int .i64 (ptN l k:Int))/\1<=ptN l k/\ptN l k<=60:=by
 obtain ⟨H,o,e,h1,R,A⟩:=h.made.pts;have D:(wsN l (manyN l)).length=manyN l:=by simp [wsN]
 have d:=pjB l;obtain ⟨x,f⟩:∃ x,(wsN l (manyN l))[k]? =some x:=⟨_,xd (by omega)⟩
 have Q:=d.2.2 x (xt f);obtain ⟨g,u,B,p,E,t⟩:=A k _ (pdD f);rw [pbA,D,B] at e;obtain ⟨O,n,rfl,T,U,j⟩:=t;have J:=pb8 (wsN l (manyN l)) k x;rcases j with j | ⟨b,rfl,v,q⟩
 · omega
 · have N:=d.sum;have G:startN (wsN l (manyN l)) k<=(wsN l (manyN l)).sum:=pbo _ _;refine ⟨g,o,b,_,n,e,p,E,by omega,v,q 0 _ ?_,by unfold ptN;omega,by unfold ptN;omega⟩;unfold pcc;rw [ys,vw (by omega)];rfl
def ptc (l:List Int) (at' q0 q1 q2:Int) (X:EvdG):Prop:=∃ (TX:ByteArray) (k y:Nat),k<manyN l/\(k:Int)=at' % (manyN l:Int)/\(y:Int)=q2 % 1152921504606845789/\bs TX=pqv (q2 % 8 / 7) (ptN l k) (prtV y (1+q1 % 9)) (prtC y (1+q1 % 9)) (prtZ y (1+q1 % 9))/\TX.size<=200/\pmz l 2 at' { evCs (q0 % 50) (1+q1 % 9) TX with k:=5 } (evCs (q0 % 50) (1+q1 % 9) ⟨#[116,119,111]⟩) X
theorem ptd {x v c z W g} (h:W.heap[g]? =some (.cells #[.int .i64 x,.int .i64 v,.int .i64 c,.int .i64 z] 86 (0,0))):(Instr.loadAt 86 (.pointer (some ⟨g,0,none⟩))).run prog W=.ok (.agg #[.int .i64 x,.int .i64 v,.int .i64 c,.int .i64 z]) W :=
 xL W g 0 86 [.int .i64 x,.int .i64 v,.int .i64 c,.int .i64 z] _ (fun j u a=>by rw [xa _ _ _ _ _ _ h,yB];simpa using a) underlying86 rfl (by show _=some 4;kernel_rfl)
def pte (l:List Int) (at' q0 q1 q2:Int) (X:EvdG):Prop:=∃ (k fx ax ay r s:Nat) (F A T:ByteArray),k<manyN l/\(k:Int)=at' % (manyN l:Int)/\(fx:Int)=q1 % 1000/\(ax:Int)=q2 % 1000/\ay=(if fx * fx=ax then ax+1 else ax)/\bs F=be fx/\bs A=be ay/\bs T=pbv (q0 % 100) (q0 % 100+1) fx ay /\
 r=gP (nonceN (secN k) (bs T))/\s=sWith (secN k) (nonceN (secN k) (bs T)) (bs T) /\
 X={ evd0 with kind:=3,who:=((k+1:Nat):Int),aw:=((k+1:Nat):Int),aT:=T,ar:=(r:Int),as':=(s:Int),low:=q0 % 100,high:=q0 % 100+1,F:=F,A:=A }
theorem pgM (c a F A B):(prog.info? 44).map (·.size)=some (dspG c a F A B).size:=by
 show _=some 5;kernel_rfl
theorem pkf (c a F A B):(dspG c a F A B).all (·.oneCell')=true:=by simp [dspG,Value.oneCell']
theorem pmA {D c a F A B} (d:D=dspG c a F A B) {W g} (h:W.heap[g]? =some (.cells D 44 (0,0))):(Instr.loadAt 44 (.pointer (some ⟨g,0,none⟩))).run prog W=.ok (.agg D) W:=by
 subst d;exact xL W g 0 44 (dspG c a F A B).toList _ (fun j u e=>by rw [xa _ _ _ _ _ _ h,yB];simpa using e) underlying44 rfl (by show _=some 5;kernel_rfl)
theorem pt6 (a b c):(prog.info? 52).map (·.size)=some (#[.int .i64 a,.int .i64 b,.int .i64 c]:Array Value).size:=by
 show _=some 3;kernel_rfl
def puH (l:List Int) (kd at' q0 q1 q2:Int) (X:EvdG):Prop :=
 (kd=1/\pmz l 1 at' (evCs (q0 % 50) (1+q1 % 9) ⟨#[111,110,101]⟩) (evCs (q0 % 50) (1+q1 % 9) ⟨#[116,119,111]⟩) X)\/(kd=2/\ptc l at' q0 q1 q2 X)\/(kd=3/\pte l at' q0 q1 q2 X) \/
 (kd=4/\pmz l 4 at' (evCs (q0 % 50) (1+q1 % 9) ⟨#[111,110,101]⟩) (evCs (q0 % 50+q2 % 3) (1+q1 % 9) ⟨#[116,119,111]⟩) X)\/(kd=5/\∃ k:Nat,k<manyN l/\(k:Int)=at' % (manyN l:Int)/\pls l k q0 q1 q2 X)
theorem pkg (kd) (hkd:kd=1\/kd=2\/kd=3\/kd=4\/kd=5) (l L K P KM S C KS w) (hC:CaseRd l w L K P KM S C KS) (dx q0 q1 J) (d2:pab dx) (fa:pab q0) (eS:pab q1) (e2:pab J) :
 Calls prog 6 #[.agg (csV L K P KM S C KS),.int .i64 kd,.int .i64 dx,.agg #[.int .i64 q0,.int .i64 q1,.int .i64 J]] w (fun e w'=>∃ X,Hid (puH l kd dx q0 q1 J X)/\e=.returned (.agg X.V)/\Uq w w'):=by
 have eR:=ah hkd;have g6:(kd == 6)=false:=by rw [xm];omega
 have g7:(kd == 7)=false:=by rw [xm];omega
 clear hkd;have a8:=ah hC;have fU:=pdi l;obtain ⟨n,hn⟩:=az (manyN l);obtain ⟨dn,mc,hL,_,_,_⟩:=hC.memb (k:=0) (by omega);obtain ⟨fN,sc,hS,_,_⟩:=hC.sec (k:=0) (by omega);rw [<-hn] at hL hS fU;have HN:=ah hn;obtain ⟨CA,dH⟩:=az (csV L K P KM S C KS);have a4:=ah dH;have f0:Hid (L=.slice (some ⟨dn,0,none⟩) n mc/\S=.slice (some ⟨fN,0,none⟩) n sc):=⟨hL,hS⟩
 obtain ⟨gC,eN⟩:=ae (w.heap.size);obtain ⟨w0,eE⟩:=ae (w.alloc (.cells CA 36));have r0:=aW eN eE;have u0:=aU eE;obtain ⟨O,eV⟩:=ae (w0.heap.size);obtain ⟨w1,e8⟩:=ae (w0.alloc (.cells #[q0,q1,J] 52));have r1:=aW eV e8;have u1:=aU e8;obtain ⟨gR,eU⟩:=ae (w1.heap.size);obtain ⟨w2,e7⟩:=ae (w1.alloc (.cells zZ1 50));have r2:w2.heap[gR]? =some (.cells evd0.V 50 (0,0)):=aW eU e7;have u2:=aU e7;have fb:gC<O:=by rw [<-eV];exact paf r0
 have eY:O<gR:=by rw [<-eU];exact paf r1
 have fF:Hid (w.heap.size<=gC/\gC<O/\O<gR):=⟨xJ eN,fb,eY⟩
 have eD:=ah (paa r0 (u1.trans u2));have eM:=ah (paa r1 u2);have eJ:=ah r2;have U2:=ah ((u0.trans u1).trans u2);have a6:=ah (xf d2 (xf fa (xf eS e2)));have cL:w2.cell? ⟨gC,0,none⟩=some (.slice (some ⟨dn,0,none⟩) n mc):=by rw [xa _ gC 0 _ _ _ eD.out,dH,<-hL];rfl
 have n0:(0:Int)<(n:Int):=by omega
 have fE:=ah (fun W=>pbC dx (n:Int) W d2 (by omega));rw [<-dH];clear hC hn dH hL hS d2 fa eS e2 r0 u0 r1 u1 r2 u2 fb eY;go_in;go_upto_region 9 with (fail)
 go_wp2_with fail;refine (fE.out w2).mono ?_;rintro e w3 ⟨fd,cw,gl,gn,rfl,rfl⟩;obtain ⟨k,rfl⟩:∃ k:Nat,fd=(k:Int):=⟨fd.toNat,by omega⟩
 have hk:k<n:=by omega
 have ao:Hid (k<manyN l):=by rw [<-HN.out];exact hk
 obtain ⟨gm,fw,et,eT,dS,_⟩:=a8.out.memb ao.out;rw [f0.out.1,<-HN.out] at et;obtain ⟨rfl,rfl⟩:dn=gm/\mc=fw:=by simp at et;exact et
 obtain ⟨id,dE⟩:=az (((k+1:Nat):Int));rw [<-dE] at dS;have aD:=ah dE;have cM:w2.cell? ⟨dn,k * 3,none⟩=some (.int .i64 id):=(U2.out.cell (p:=⟨dn,k * 3,none⟩) eT (by simp)).trans dS;obtain ⟨X0,d1⟩:∃ X:EvdG,X={ evd0 with kind:=kd,who:=id }:=⟨_,rfl⟩
 obtain ⟨EV,ct⟩:=az (X0.V);obtain ⟨B,eX⟩:=ae (w2.heap.size);obtain ⟨w3,d8⟩:=ae (w2.alloc (.cells zZ1 50));have r3:Fr w3 B evd0.V 50:=by show _=_;rw [<-eX,<-d8];exact xi _ _
 have u3:=aU d8;obtain ⟨w4,du⟩:=ae (w3.setRow B EV);have u4:=bY du u3 (by omega);have eG:=bX du r3;have fn:Hid (prog.built 50 [(0,.int .i64 kd),(1,.int .i64 id)]=some EV):=by rw [ct,d1];exact EvdG.built _ _
 have eI:Fi 50 EV:=by rw [ct];exact X0.info
 have fV:Hid (evd0.V.size=EV.size):=by show _=_;rw [ct];rfl
 have fs:Fo EV:=by rw [ct];exact X0.one
 have e1:gR<B:=by rw [<-eX];exact paf eJ.out
 have i0:(0:Int)<=(k:Int):=by omega
 have i1:(k:Int)<(n:Int):=by omega
 have fu:=ah du;have dl:=ah ct;have cq:Hid (pab id):=by show pab id;rw [dE];unfold pab;omega
 have aQ:=ah d1;clear du ct d1 dE dS eT;go_wp2_with (first | (refine bB fn ?_) | (refine bS r3 eI fV fs fu ?_))
 have d5:Hid (∀ W,Uq w4 W->W.cell? ⟨O,0,none⟩=some (.int .i64 q0)/\W.cell? ⟨O,1,none⟩=some (.int .i64 q1)):=fun W u=>by
  have h:=paa eM.out (u4.trans u);exact ⟨xa _ O 0 _ _ _ h,xa _ O 1 _ _ _ h⟩
 obtain ⟨qa,ec⟩:=ae (q0 % 50);obtain ⟨nb,dX⟩:=ae (q1 % 9);have ef:=ah (fun w=>pbi q0 _ qa a6.out.2.1 (by omega) ec w);have d3:=ah (fun w=>pbi q1 _ nb a6.out.2.2.1 (by omega) dX w);have fD:0<=qa:=by omega
 have fH:qa<50:=by omega
 have f8:0<=nb:=by omega
 have fW:nb<9:=by omega
 have gj:IntKind.i64.wrap (1+nb)=1+nb:=pam (by omega) (by omega);have cC:Hid (qa=q0 % 50):=ec.symm;have cc:Hid (nb=q1 % 9):=dX.symm;have a9:Hid (0<=qa/\qa<50/\0<=nb/\nb<9):=⟨fD,fH,f8,fW⟩
 clear ec dX;have ak:Uq w4 w4.drew:=uR.drew;refine @_root_.id ((∀ (M:Nat) (W:World),Fr W M ((evCs qa (1+nb) ⟨#[111,110,101]⟩).V.toArray) 71->Hid (Uq w4 W)->Hid (w4.heap.size<=M)->(?pj1:Nat->World->Prop) M W)->_) (fun hJ=>?mj1) ?jj1
 case mj1 =>
  refine bH d5 ak fun f=>?_;refine tkS [0,1] f ?_;refine tkQ 2 f (ef.out) ?_;refine tkS [3,4] f ?_;refine tkQ 5 f (d3.out) ?_;refine tkY 6 f ?_;refine tkT 7 f ?_ (y:=(pav (by rfl) 71 _ rfl ((evCs qa (1+nb) ⟨#[111,110,101]⟩).V.toArray) (zP (xU (fun z=>prog.built 71 z) (by kernel_rfl)) (pnw qa (1+nb) ⟨#[111,110,101]⟩))));refine tk1 8 fun K d=>?_;go_simp;obtain ⟨M,aO,aj,D,ev,hq⟩:=paG w4 (.cells zZ0 71);rw [<-aj,<-D];have bA:w4.heap.size<=M:=(by omega);have ad:=hq;clear aj D hq;refine tkK d (d5.out _ ad) fun f=>?_;clear d K;refine tk1 9 fun K d=>?_;rw [xH (by rfl)];refine xM 71 _ _ rfl M ((evCs qa (1+nb) ⟨#[111,110,101]⟩).V.toArray) rfl rfl _ _ ev.out (EvG.info rfl) rfl (EvG.one _) ?_;obtain ⟨ag,D,fg,ai⟩:=aX ev ad bA ((evCs qa (1+nb) ⟨#[111,110,101]⟩).V.toArray);rw [<-D];clear D;refine tkK d (d5.out _ ai) fun f=>?_;clear d K;refine tkD ?_;exact hJ M ag fg (ah ai) (ah bA)
 intro M w5 dA fZ fT
 skip
 obtain ⟨EA,cs⟩:=az (evCs qa (1+nb) ⟨#[111,110,101]⟩);obtain ⟨AV,bI⟩:=az (EA.V.toArray);rw [<-cs,<-bI] at dA ⊢;have bi:=ah cs;have cA:=ah bI;have dZ:EA.p.length=32:=by rw [cs];rfl
 have cD:Fi 71 AV:=by rw [bI];exact EvG.info dZ
 have f7:Hid (evZ.toArray.size=AV.size):=by show _=_;rw [bI,pcr];exact (EvG.V_len dZ).symm
 have gb:Fo AV:=by rw [bI];exact EvG.one _
 obtain ⟨gB,eH⟩:=ae (w5.heap.size);obtain ⟨w6,eF⟩:=ae (w5.alloc (.cells zZ0 71));have r6:Fr w6 gB evZ.toArray 71:=by show _=_;rw [<-eH,<-eF,paH];exact xi _ _
 have u6:=aU eF;obtain ⟨w7,dG⟩:=ae (w6.setRow gB AV);have u7:=bY dG u6 (by omega);have dY:=bX dG r6;have fM:=ah dG;have e4:M<gB:=by rw [<-eH];exact paf dA.out
 have eO:B<M:=by have:=paf eG.out;have:=fT.out;omega
 have hb1:=fF.out;have S7:Hid (GuSt w w7 gC O gR B M gB CA EV AV AV q0 q1 J):=by
  have ua:=fZ.out.trans u7;have ub:=u4.trans ua;exact ⟨paa eD.out ub,paa eM.out ub,paa eJ.out ub,paa eG.out ua,paa dA.out u7,dY.out,U2.out.trans ub,⟨hb1.1,hb1.2.1,hb1.2.2,e1,eO,e4⟩⟩
 have dt:=S7.out.setB 5 (.string ⟨#[116,119,111]⟩);obtain ⟨Z,el⟩:=ae (w7.setCell ⟨gB,5,none⟩ (.string ⟨#[116,119,111]⟩));rw [el] at dt;obtain ⟨EB,dT⟩:=az (evCs qa (1+nb) ⟨#[116,119,111]⟩);obtain ⟨BV,eh⟩:=az (EB.V.toArray);have aV:AV.setIfInBounds 5 (.string ⟨#[116,119,111]⟩)=BV:=by rw [bI,eh,cs,dT];simp [EvG.V,evCs]
 rw [aV] at dt;have H:=ah dt;have f5:w7.frozen? ⟨gB,5,none⟩=false:=xp _ _ _ _ _ dY.out;have k5:w7.cell? ⟨gB,5,none⟩=some (.string ⟨#[111,110,101]⟩):=by rw [xa _ gB 5 _ _ _ dY.out,bI,cs];rfl
 have cl:=ah dT;have cv:=ah eh;have fY:=ah el;have b7:Fi 36 CA:=by rw [a4.out];exact pjJ _ _ _ _ _ _ _
 clear dt aV cs bI dT eh dG el u6 u7 u4 u3 e1 eO e4 hb1 cL cM ak i0 i1 dZ;go_upto_region 14 with (first | (refine bL dA underlying71 cD ?_) | (refine bS r6 cD f7 gb fM ?_))
 rw [fY.out];clear g6 g7;have fe:=eR.out;clear eR;rcases fe with hkd | hkd | hkd | hkd | hkd <;> subst hkd
 · skip
   have bd:Hid (EA.ok/\EA.x.size<=1000000):=by rw [bi.out];have:=a9.out;exact ⟨pbL _ (by unfold pab;omega) (by unfold pab;omega),(by decide:(ByteArray.mk #[111,110,101]).size<=1000000)⟩
   have aP:Hid (EB.ok/\EB.x.size<=1000000):=by rw [cl.out];have:=a9.out;exact ⟨pbL _ (by unfold pab;omega) (by unfold pab;omega),(by decide:(ByteArray.mk #[116,119,111]).size<=1000000)⟩
   have aE:Hid (EV=X0.V):=dl;obtain ⟨aN,b3⟩:=az (EV);rw [<-b3] at aE H;obtain ⟨m,aF⟩:=az ((EA.from id).signed (secN k));have bu:Hid (∀ W,Uq w W->Calls prog 34 #[.agg CA,k,.agg AV] W (pie m W)):=fun W u=>by
    rw [a4.out,cA.out,aF,aD.out];exact pbV l L K P KM S C KS W (a8.out.upd u) k ao.out EA bd.out.1 bd.out.2
   have aR:m.ok:=by rw [aF];exact EvG.signed_ok (EvG.from_ok bd.out.1 cq.out) _
   have a1:m.x.size<=1000000:=by rw [aF];exact bd.out.2
   have bv:Hid (∀ (EW:Array Value) W,EW=m.V.toArray->Calls prog 33 #[.agg EW] W (MkVt m W)):=fun EW W h=>by
    rw [h];exact pbU m aR a1 W
   have da:Hid (m=(EA.from id).signed (secN k)/\m.ok/\m.x.size<=1000000):=⟨aF,aR,a1⟩
   clear aF aR a1;obtain ⟨o,aG⟩:=az ((EB.from id).signed (secN k));have bp:Hid (∀ W,Uq w W->Calls prog 34 #[.agg CA,k,.agg BV] W (pie o W)):=fun W u=>by
    rw [a4.out,cv.out,aG,aD.out];exact pbV l L K P KM S C KS W (a8.out.upd u) k ao.out EB aP.out.1 aP.out.2
   have aY:o.ok:=by rw [aG];exact EvG.signed_ok (EvG.from_ok aP.out.1 cq.out) _
   have a0:o.x.size<=1000000:=by rw [aG];exact aP.out.2
   have bq:Hid (∀ (EW:Array Value) W,EW=o.V.toArray->Calls prog 33 #[.agg EW] W (MkVt o W)):=fun EW W h=>by
    rw [h];exact pbU o aY a0 W
   have dj:Hid (o=(EB.from id).signed (secN k)/\o.ok/\o.x.size<=1000000):=⟨aG,aY,a0⟩
   clear aG aY a0;go_wp2_with (first | (refine bL H.out.c underlying36 b7 ?_) | (refine bL H.out.a underlying71 cD ?_))
   have b0:=H.out.up;refine (bu.out _ b0).mono ?_;rintro e v1 ⟨cR,cI,rfl,hq⟩;have R1:=ah (H.out.quiet hq);clear hq b0;go_wp2_with fail;refine (bv.out cR _ cI.out).mono ?_;rintro e x1 ⟨T1,cT,rfl,hq⟩;have P1:=ah (R1.out.quiet hq);obtain ⟨V1,av⟩:∃ V:Array Value,V=#[.int .i64 m.h,.string T1,.int .i64 m.r,.int .i64 m.s]:=⟨_,rfl⟩
   rw [<-av];have bn:Hid (x1.there B 2 V1.size):=pay P1.out.v (by rw [av,aE.out];exact (by decide:2+4<=19));have cS:Fi 41 V1:=by rw [av];exact pb3 _ _ _ _
   have c7:Fo V1:=by rw [av];exact pcJ _ _ _ _
   obtain ⟨y1,aq⟩:=ae (x1.setCells B 2 V1.toList);have af:=P1.out.setV 2 V1.toList;rw [aq] at af;obtain ⟨X1,an⟩:∃ X:EvdG,X={ X0 with aw:=m.h,aT:=T1,ar:=m.r,as':=m.s }:=⟨_,rfl⟩
   obtain ⟨aB,am⟩:=az (X1.V);have bt:paY aN 2 V1.toList=aB:=by rw [aE.out,am,an,av];rfl
   rw [bt] at af;have S9:=ah af;have bk:=ah aq;have cE:=ah an;have aH:=ah am;clear hq af bt an am aq av R1 P1 bv bu;have cU:Fi 71 BV:=by rw [cv.out];exact EvG.info aP.out.1.2.2.2.2.2.1
   go_wp2_with (first | (refine bM bn cS c7 bk ?_) | (refine bL S9.out.c underlying36 b7 ?_) | (refine bL S9.out.b underlying71 cU ?_))
   have b1:=S9.out.up;refine (bp.out _ b1).mono ?_;rintro e v2 ⟨c4,cF,rfl,hq⟩;have R2:=ah (S9.out.quiet hq);clear hq b1;go_wp2_with fail;refine (bq.out c4 _ cF.out).mono ?_;rintro e x2 ⟨T2,cZ,rfl,hq⟩;have P2:=ah (R2.out.quiet hq);obtain ⟨V2,au⟩:∃ V:Array Value,V=#[.int .i64 o.h,.string T2,.int .i64 o.r,.int .i64 o.s]:=⟨_,rfl⟩
   rw [<-au];have c8:Hid (x2.there B 6 V2.size):=pay P2.out.v (by rw [au,aH.out];exact (by decide:6+4<=19));have c6:Fi 41 V2:=by rw [au];exact pb3 _ _ _ _
   have dk:Fo V2:=by rw [au];exact pcJ _ _ _ _
   obtain ⟨y2,bb⟩:=ae (x2.setCells B 6 V2.toList);have aL:=P2.out.setV 6 V2.toList;rw [bb] at aL;obtain ⟨U,aA⟩:∃ X:EvdG,X={ X1 with bw:=o.h,bT:=T2,br:=o.r,bs':=o.s }:=⟨_,rfl⟩
   obtain ⟨N,ab⟩:=az (U.V);have bz:paY aB 6 V2.toList=N:=by rw [aH.out,ab,aA,au];rfl
   rw [bz] at aL;have ap:=ah aL;have cX:=ah bb;have cH:=ah aA;have ac:=ah ab;clear hq aL bz aA ab bb au R2 P2 bq bp;obtain ⟨z9,R⟩:=ae (y2.setRow gR N);have a2:=ah R;have al:Fi 50 N:=by rw [ac.out];exact U.info
   have bc:Hid (evd0.V.size=N.size):=by show _=_;rw [ac.out];rfl
   have ba:Fo N:=by rw [ac.out];exact U.one
   have a3:=bX R ap.out.r;have a7:Hid (Uq w z9):=by show Upd _ _ _ _;rw [<-R];exact ap.out.up.setRowNew (by have:=ap.out.base;omega) _
   clear R;go_wp2_with (first | (refine bM c8 c6 dk cX ?_) | (refine bL ap.out.v underlying50 al ?_) | (refine bS ap.out.r al bc ba a2 ?_))
   refine bE a3 underlying50 al ⟨U,?_,?_,a7.out⟩
   · refine .inl ⟨rfl,?_⟩;have aC:=cw.out;rw [HN.out] at aC;refine ⟨k,m,o,T1,T2,ao.out,aC,?_,?_,cT.out,cZ.out,?_⟩
     · rw [da.out.1,bi.out,aD.out,cC.out,cc.out]
     · rw [dj.out.1,cl.out,aD.out,cC.out,cc.out]
     · rw [cH.out,cE.out,aQ.out,aD.out]
   · rw [ac.out]
 · skip
   have bd:Hid (EA.ok/\EA.x.size<=1000000):=by rw [bi.out];have:=a9.out;exact ⟨pbL _ (by unfold pab;omega) (by unfold pab;omega),(by decide:(ByteArray.mk #[111,110,101]).size<=1000000)⟩
   have aP:Hid (EB.ok/\EB.x.size<=1000000):=by rw [cl.out];have:=a9.out;exact ⟨pbL _ (by unfold pab;omega) (by unfold pab;omega),(by decide:(ByteArray.mk #[116,119,111]).size<=1000000)⟩
   have aE:Hid (EV=X0.V):=dl;obtain ⟨aN,b3⟩:=az (EV);rw [<-b3] at aE H;obtain ⟨gp,pc,gx,xn,xc,hP,e5,eL,gq,aj,em,d4,ed⟩:=a8.out.point ao.out;obtain ⟨x,hx⟩:=az (ptN l k);rw [<-hx] at em d4 ed;rw [<-HN.out] at hP;have er:Hid (1<=x/\x<=60):=⟨d4,ed⟩
   have HX:=ah hx;have eQ:Hid (pab (1+nb)):=by have:=a9.out;show pab _;unfold pab;omega
   have aa:Hid (∀ W,Uq Z W->W.cell? ⟨gC,2,none⟩=some (.slice (some ⟨gp,0,none⟩) n pc)/\W.cell? ⟨gp,k,none⟩=some (.slice (some ⟨gx,0,none⟩) xn xc)/\W.cell? ⟨gx,0,none⟩=some (.int .i64 (x:Int))/\W.cell? ⟨O,2,none⟩=some (.int .i64 J)/\W.cell? ⟨M,4,none⟩=some (.int .i64 (1+nb))):=fun W u=>by
    have q:=H.out.quiet u;refine ⟨?_,(q.up.cell (p:=⟨gp,k,none⟩) e5 (by simp)).trans eL,(q.up.cell (p:=⟨gx,0,none⟩) aj (by simp)).trans em,xa _ O 2 _ _ _ q.q,?_⟩
    · rw [xa _ gC 2 _ _ _ q.c,a4.out,<-hP];rfl
    · rw [xa _ M 4 _ _ _ q.a,cA.out,bi.out];rfl
   have i0:(0:Int)<=(k:Int):=by omega
   have i1:(k:Int)<(n:Int):=by have:=ao.out;have:=HN.out;omega
   have i2:(0:Int)<(xn:Int):=by omega
   have i3:0<xn:=by omega
   have ak:Uq Z Z.drew:=uR.drew;have eC:Hid (M<Z.heap.size):=paf H.out.a;obtain ⟨y,hy⟩:∃ y:Nat,J % 1152921504606845789=(y:Int):=⟨(J % 1152921504606845789).toNat,by omega⟩
   have ga:=ah (fun w=>pbi J _ (y:Int) a6.out.2.2.2 (by omega) hy w);have y1:(y:Int)<1152921504606845789:=by omega
   have HY:Hid ((y:Int)=J % 1152921504606845789):=hy.symm;clear hP e5 eL aj em d4 ed hx hy;go_upto_region 16 with (fail)
   refine @_root_.id ((∀ (v c z gP:Nat) (W:World),Hid (v=prtV y (1+nb)/\c=prtC y (1+nb)/\z=prtZ y (1+nb))->Hid ((y:Int)<1152921504606845789/\v<2305843009213691579/\c<1152921504606845789/\z<1152921504606845789)->Hid (W.heap[gP]? =some (.cells #[x,v,c,z] 86 (0,0)))->Hid (Uq Z W)->Hid (Z.heap.size<=gP)->(?pj7:Nat->Nat->Nat->Nat->World->Prop) v c z gP W)->_) (fun hJ=>?mj7) ?jj7
   case mj7 =>
    refine bH aa ak fun f=>?_;refine tkS [0,1,2,3,4,5,6,7,8,9,10] f ?_;refine tkQ 11 f (ga.out) ?_;refine tkS [12,13,14] f ?_;refine tkA [15,16] ?_;refine tkC (fun K d=>?_) ?_
    · go_simp;refine (phx x y (1+nb) _ er.out (by omega) eQ.out).mono ?_;rintro e aO ⟨v,c,z,b6,hv,hc,hz,rfl,hq⟩;have ad:=ak.trans hq;clear hq;go_wp2_with fail;refine tkK d (aa.out _ ad) fun f=>?_;clear d K;refine tk1 16 fun K d=>?_;go_simp;obtain ⟨gP,ag,aj,D,cQ,hq⟩:=paw aO (.cells ptZ 86);have dK:=aj;simp only [ptZ] at D;rw [<-aj,<-D];have bP:Z.heap.size<=gP:=(by have:=ad.size;omega);have ai:=ad.trans hq;clear aj dK D hq;refine tkK d (aa.out _ ai) fun f=>?_;clear d K;refine tk1 17 fun K d=>?_;rw [xH (by rfl)];refine xM 86 _ _ rfl gP #[x,v,c,z] rfl rfl _ _ cQ.out (pdo _ _ _ _) rfl (by simp [Value.oneCell']) ?_;obtain ⟨cr,D,dP,aK⟩:=aX cQ ai bP #[x,v,c,z];rw [<-D];clear D;refine tkK d (aa.out _ aK) fun f=>?_;clear d K;refine tkD ?_;exact hJ v c z gP cr b6 (ah ⟨y1,hv,hc,hz⟩) dP (ah aK) (ah bP)
    refine tkZ fun K d=>?_;go_simp;obtain ⟨gP,aO,aj,D,fl,hq⟩:=paG Z (.cells ptZ 86);have dK:=aj;simp only [ptZ] at D;rw [<-aj,<-D];have bP:Z.heap.size<=gP:=(by omega);have ad:=hq;clear aj dK D hq;refine tkK d (aa.out _ ad) fun f=>?_;clear d K;refine tk1 15 fun K d=>?_;go_simp;refine (phx x y (1+nb) _ er.out (by omega) eQ.out).mono ?_;rintro e ag ⟨v,c,z,b6,hv,hc,hz,rfl,hq⟩;have ai:=ad.trans hq;have cQ:=ah (paa fl.out hq);clear hq;go_wp2_with fail;refine tkK d (aa.out _ ai) fun f=>?_;clear d K;refine tk1 17 fun K d=>?_;rw [xH (by rfl)];refine xM 86 _ _ rfl gP #[x,v,c,z] rfl rfl _ _ cQ.out (pdo _ _ _ _) rfl (by simp [Value.oneCell']) ?_;obtain ⟨cr,D,dP,aK⟩:=aX cQ ai bP #[x,v,c,z];rw [<-D];clear D;refine tkK d (aa.out _ aK) fun f=>?_;clear d K;refine tkD ?_;exact hJ v c z gP cr b6 (ah ⟨y1,hv,hc,hz⟩) dP (ah aK) (ah bP)
   intro v c z gP w9 b6 fo eZ U9 eP
   skip
   have S9:=ah (H.out.quiet U9.out);have cK:w9.cell? ⟨M,1,none⟩=some (.int .i64 4):=by rw [xa _ M 1 _ _ _ S9.out.a,cA.out,bi.out];rfl
   have fK:w9.frozen? ⟨M,1,none⟩=false:=xp _ _ _ _ _ S9.out.a;obtain ⟨bO,bC⟩:=ae (w9.setCell ⟨M,1,none⟩ (.int .i64 5));have dp:=S9.out.setA 1 (.int .i64 5);have ey:bO.heap[gP]? =some (.cells #[x,v,c,z] 86 (0,0)):=by rw [<-bC];exact pai eZ.out (by have:=eP.out;have:=eC.out;omega)
   rw [bC] at dp;obtain ⟨fG,dL⟩:∃ E,E={ evCs qa (1+nb) ⟨#[111,110,101]⟩ with k:=5 }:=⟨_,rfl⟩
   obtain ⟨ep,dQ⟩:=az (fG.V.toArray);have aV:AV.setIfInBounds 1 (.int .i64 5)=ep:=by rw [cA.out,bi.out,dQ,dL];simp [EvG.V,evCs]
   rw [aV] at dp;have cp:=ah dp;have cO:=ah ey;have dR:=ah bC;have dq:=ah (xf dQ dL);have aZ:Hid (∀ W A',GuSt w W gC O gR B M gB CA aN A' BV q0 q1 J->W.heap[gP]? =some (.cells #[x,v,c,z] 86 (0,0))->W.cell? ⟨O,2,none⟩=some (.int .i64 J)/\(Instr.loadAt 86 (.pointer (some ⟨gP,0,none⟩))).run prog W=.ok (.agg #[x,v,c,z]) W):=fun W A' h hp=>⟨xa _ O 2 _ _ _ h.q,ptd hp⟩
   have ak:Uq bO bO.drew:=uR.drew;clear aV dp ey bC dQ dL aa eZ;go_upto_region 18 with (fail)
   rw [dR.out];refine @_root_.id ((∀ (m8 dd:Int) (s1 s2 TX:ByteArray) (W:World),Hid (m8=J % 8/\m8 / 7=dd)->Hid (bs s1=Lib.itoa dd/\bs s2=pfr x v c z/\s1.size+1+s2.size<=200)->Hid (TX=s1 ++ ByteArray.mk #[32] ++ s2)->Hid (GuSt w W gC O gR B M gB CA aN (ep.setIfInBounds 5 (.string TX)) BV q0 q1 J)->(?pj22:Int->Int->ByteArray->ByteArray->ByteArray->World->Prop) m8 dd s1 s2 TX W)->_) (fun hJ=>?mj22) ?jj22
   case mj22 =>
    refine bG (S:=fun wp=>wp.cell? ⟨O,2,none⟩=some (.int .i64 J)/\(Instr.loadAt 86 (.pointer (some ⟨gP,0,none⟩))).run prog wp=.ok (.agg #[x,v,c,z]) wp) (aZ.out _ _ (cp.out.quiet ak) (paa cO.out ak)) fun f=>?_;refine tkS [0,1] f ?_;refine tkT 6 f ?_ (y:=(pap (by rfl) _ _ rfl _ rfl (#[x,v,c,z]:Array Value) (fun w c5=>c5.2)));refine tk1 2 fun K d=>?_;go_simp;refine (pbC J 8 _ a6.out.2.2.2 (by omega)).mono ?_;rintro e wq ⟨m8,gc,f9,gh,rfl,rfl⟩;obtain ⟨dd,fC⟩:=ae (m8.tdiv 7);have eW:m8 / 7=dd:=(by rw [<-fC,xP f9]);have gg:0<=dd/\dd<=1:=(by omega);have gf:IntKind.i64.wrap dd=dd:=pam (by omega) (by omega);have cm:=ah eW;clear eW;go_wp2_with fail;refine tkK d (aZ.out _ _ (cp.out.quiet ak) (paa cO.out ak)) fun f=>?_;clear d K;refine tkY 3 f ?_;refine tk1 4 fun K d=>?_;go_simp;refine (paB dd _ (by unfold pab;omega)).mono ?_;rintro e aO ⟨s1,fv,fL,rfl,hq⟩;have ad:=ak.trans hq;clear hq;have ft:=itoa_len dd (by unfold pab;omega);have t1:¬ 9223372036854775807<s1.size+1:=(by omega);go_wp2_with fail;refine tkK d (aZ.out _ _ (cp.out.quiet ad) (paa cO.out ad)) fun f=>?_;clear d K;refine tkY 5 f ?_;refine tk1 7 fun K d=>?_;go_simp;have fJ:=fo.out;have fr:=er.out;have bJ:=ah (show pab (x:Int)/\pab (v:Int)/\pab (c:Int)/\pab (z:Int) by unfold pab;omega);clear fJ fr;refine (pni (x:Int) v c z bJ.out.1 bJ.out.2.1 bJ.out.2.2.1 bJ.out.2.2.2 _).mono ?_;rintro e ag ⟨s2,fI,fy,rfl,hq⟩;have ai:=ad.trans hq;clear hq;have fA:=pjy (x:Int) v c z bJ.out.1 bJ.out.2.1 bJ.out.2.2.1 bJ.out.2.2.2;have t2:¬ 9223372036854775807<s1.size+1+s2.size:=(by omega);have fS:Hid (s1.size+1+s2.size<=200):=(by show _<=_;omega);have dy:=cp.out.quiet ai;have cx:ag.cell? ⟨M,5,none⟩=some (.string ⟨#[111,110,101]⟩):=(by rw [xa _ M 5 _ _ _ dy.a,dq.out.1,dq.out.2];rfl);have fx:ag.frozen? ⟨M,5,none⟩=false:=xp _ _ _ _ _ dy.a;have fh:=ah (paa cO.out ai);have fR:=ah dy;clear fL fy ft fA dy;go_wp2_with fail;refine tkK d (aZ.out _ _ (cp.out.quiet ai) (paa cO.out ai)) fun f=>?_;clear d K;refine tkS [8,9] f ?_;refine tk1 10 fun K d=>?_;go_simp;obtain ⟨TX,eK⟩:=az (s1 ++ ByteArray.mk #[32] ++ s2);rw [<-eK];have dz:=ah eK;have b4:=ah (fR.out.setA 5 (.string TX));have ez:=ah (pai (g:=M) (i:=5) (v:=.string TX) fh.out (by have:=eP.out;have:=eC.out;omega));obtain ⟨W3,aJ⟩:=az (ag.setCell ⟨M,5,none⟩ (.string TX));rw [<-aJ] at b4 ez ⊢;clear aJ;refine tkK d (aZ.out _ _ b4.out ez.out) fun f=>?_;clear d K;refine tkD ?_;exact hJ m8 dd s1 s2 TX W3 (ah ⟨gc.out,cm.out⟩) (ah ⟨fv.out,fI.out,fS.out⟩) dz b4
   intro m8 dd s1 s2 TX gi eB b4 dz H;obtain ⟨EC,bh⟩:∃ E,E={ evCs qa (1+nb) TX with k:=5 }:=⟨_,rfl⟩
   obtain ⟨CV,bW⟩:=az (EC.V.toArray);have aV:ep.setIfInBounds 5 (.string TX)=CV:=by rw [dq.out.1,dq.out.2,bW,bh];simp [EvG.V,evCs]
   rw [aV] at H;have eg:Hid (bs TX=pqv dd x v c z/\TX.size<=200):=by
    refine ⟨?_,?_⟩
    · rw [dz.out,pae,pae,b4.out.1,b4.out.2.1,pqv];simp [bs]
    · rw [dz.out];have:=b4.out.2.2;have f6:(ByteArray.mk #[32]).size=1:=rfl;simp only [xT,f6];exact this
   have d9:=ah bh;have dF:=ah bW;have aS:Hid (EC.ok/\EC.x.size<=1000000):=by
    have h1:=a9.out;have h2:(evCs qa (1+nb) TX).ok:=pbL _ (by unfold pab;omega) (by unfold pab;omega);have h3:=eg.out.2;rw [bh];exact ⟨⟨h2.1,by unfold pab;simp,h2.2.2⟩,by show TX.size<=1000000;omega⟩
   have cD:Fi 71 CV:=by rw [bW];exact EvG.info aS.out.1.2.2.2.2.2.1
   clear aV bW bh aZ S9 cp;obtain ⟨m,aF⟩:=az ((EC.from id).signed (secN k));have bu:Hid (∀ W,Uq w W->Calls prog 34 #[.agg CA,k,.agg CV] W (pie m W)):=fun W u=>by
    rw [a4.out,dF.out,aF,aD.out];exact pbV l L K P KM S C KS W (a8.out.upd u) k ao.out EC aS.out.1 aS.out.2
   have aR:m.ok:=by rw [aF];exact EvG.signed_ok (EvG.from_ok aS.out.1 cq.out) _
   have a1:m.x.size<=1000000:=by rw [aF];exact aS.out.2
   have bv:Hid (∀ (EW:Array Value) W,EW=m.V.toArray->Calls prog 33 #[.agg EW] W (MkVt m W)):=fun EW W h=>by
    rw [h];exact pbU m aR a1 W
   have da:Hid (m=(EC.from id).signed (secN k)/\m.ok/\m.x.size<=1000000):=⟨aF,aR,a1⟩
   clear aF aR a1;obtain ⟨o,aG⟩:=az ((EB.from id).signed (secN k));have bp:Hid (∀ W,Uq w W->Calls prog 34 #[.agg CA,k,.agg BV] W (pie o W)):=fun W u=>by
    rw [a4.out,cv.out,aG,aD.out];exact pbV l L K P KM S C KS W (a8.out.upd u) k ao.out EB aP.out.1 aP.out.2
   have aY:o.ok:=by rw [aG];exact EvG.signed_ok (EvG.from_ok aP.out.1 cq.out) _
   have a0:o.x.size<=1000000:=by rw [aG];exact aP.out.2
   have bq:Hid (∀ (EW:Array Value) W,EW=o.V.toArray->Calls prog 33 #[.agg EW] W (MkVt o W)):=fun EW W h=>by
    rw [h];exact pbU o aY a0 W
   have dj:Hid (o=(EB.from id).signed (secN k)/\o.ok/\o.x.size<=1000000):=⟨aG,aY,a0⟩
   clear aG aY a0;go_wp2_with (first | (refine bL H.out.c underlying36 b7 ?_) | (refine bL H.out.a underlying71 cD ?_))
   have b0:=H.out.up;refine (bu.out _ b0).mono ?_;rintro e v1 ⟨cR,cI,rfl,hq⟩;have R1:=ah (H.out.quiet hq);clear hq b0;go_wp2_with fail;refine (bv.out cR _ cI.out).mono ?_;rintro e x1 ⟨T1,cT,rfl,hq⟩;have P1:=ah (R1.out.quiet hq);obtain ⟨V1,av⟩:∃ V:Array Value,V=#[.int .i64 m.h,.string T1,.int .i64 m.r,.int .i64 m.s]:=⟨_,rfl⟩
   rw [<-av];have bn:Hid (x1.there B 2 V1.size):=pay P1.out.v (by rw [av,aE.out];exact (by decide:2+4<=19));have cS:Fi 41 V1:=by rw [av];exact pb3 _ _ _ _
   have c7:Fo V1:=by rw [av];exact pcJ _ _ _ _
   obtain ⟨y1,aq⟩:=ae (x1.setCells B 2 V1.toList);have af:=P1.out.setV 2 V1.toList;rw [aq] at af;obtain ⟨X1,an⟩:∃ X:EvdG,X={ X0 with aw:=m.h,aT:=T1,ar:=m.r,as':=m.s }:=⟨_,rfl⟩
   obtain ⟨aB,am⟩:=az (X1.V);have bt:paY aN 2 V1.toList=aB:=by rw [aE.out,am,an,av];rfl
   rw [bt] at af;have S9:=ah af;have bk:=ah aq;have cE:=ah an;have aH:=ah am;clear hq af bt an am aq av R1 P1 bv bu;have cU:Fi 71 BV:=by rw [cv.out];exact EvG.info aP.out.1.2.2.2.2.2.1
   go_wp2_with (first | (refine bM bn cS c7 bk ?_) | (refine bL S9.out.c underlying36 b7 ?_) | (refine bL S9.out.b underlying71 cU ?_))
   have b1:=S9.out.up;refine (bp.out _ b1).mono ?_;rintro e v2 ⟨c4,cF,rfl,hq⟩;have R2:=ah (S9.out.quiet hq);clear hq b1;go_wp2_with fail;refine (bq.out c4 _ cF.out).mono ?_;rintro e x2 ⟨T2,cZ,rfl,hq⟩;have P2:=ah (R2.out.quiet hq);obtain ⟨V2,au⟩:∃ V:Array Value,V=#[.int .i64 o.h,.string T2,.int .i64 o.r,.int .i64 o.s]:=⟨_,rfl⟩
   rw [<-au];have c8:Hid (x2.there B 6 V2.size):=pay P2.out.v (by rw [au,aH.out];exact (by decide:6+4<=19));have c6:Fi 41 V2:=by rw [au];exact pb3 _ _ _ _
   have dk:Fo V2:=by rw [au];exact pcJ _ _ _ _
   obtain ⟨y2,bb⟩:=ae (x2.setCells B 6 V2.toList);have aL:=P2.out.setV 6 V2.toList;rw [bb] at aL;obtain ⟨U,aA⟩:∃ X:EvdG,X={ X1 with bw:=o.h,bT:=T2,br:=o.r,bs':=o.s }:=⟨_,rfl⟩
   obtain ⟨N,ab⟩:=az (U.V);have bz:paY aB 6 V2.toList=N:=by rw [aH.out,ab,aA,au];rfl
   rw [bz] at aL;have ap:=ah aL;have cX:=ah bb;have cH:=ah aA;have ac:=ah ab;clear hq aL bz aA ab bb au R2 P2 bq bp;obtain ⟨z9,R⟩:=ae (y2.setRow gR N);have a2:=ah R;have al:Fi 50 N:=by rw [ac.out];exact U.info
   have bc:Hid (evd0.V.size=N.size):=by show _=_;rw [ac.out];rfl
   have ba:Fo N:=by rw [ac.out];exact U.one
   have a3:=bX R ap.out.r;have a7:Hid (Uq w z9):=by show Upd _ _ _ _;rw [<-R];exact ap.out.up.setRowNew (by have:=ap.out.base;omega) _
   clear R;go_wp2_with (first | (refine bM c8 c6 dk cX ?_) | (refine bL ap.out.v underlying50 al ?_) | (refine bS ap.out.r al bc ba a2 ?_))
   refine bE a3 underlying50 al ⟨U,?_,?_,a7.out⟩
   · refine .inr (.inl ⟨rfl,?_⟩);have aC:=cw.out;rw [HN.out] at aC;refine ⟨TX,k,y,ao.out,aC,HY.out,?_,eg.out.2,⟨k,m,o,T1,T2,ao.out,aC,?_,?_,cT.out,cZ.out,?_⟩⟩
     · rw [eg.out.1,HX.out,b6.out.1,b6.out.2.1,b6.out.2.2,<-eB.out.2,eB.out.1,cc.out]
     · rw [da.out.1,d9.out,aD.out,cC.out,cc.out]
     · rw [dj.out.1,cl.out,aD.out,cC.out,cc.out]
     · rw [cH.out,cE.out,aQ.out,aD.out]
   · rw [ac.out]
 · skip
   have aE:Hid (EV=X0.V):=dl;obtain ⟨aN,b3⟩:=az (EV);rw [<-b3] at aE H;have aa:Hid (∀ W,Uq Z W->W.cell? ⟨O,0,none⟩=some (.int .i64 q0)/\W.cell? ⟨O,1,none⟩=some (.int .i64 q1)/\W.cell? ⟨O,2,none⟩=some (.int .i64 J)):=fun W u=>by
    have q:=(H.out.quiet u).q;exact ⟨xa _ O 0 _ _ _ q,xa _ O 1 _ _ _ q,xa _ O 2 _ _ _ q⟩
   have ak:Uq Z Z.drew:=uR.drew;have fm:Hid (gB<Z.heap.size):=paf H.out.b;obtain ⟨t,eb⟩:=ae (q0 % 100);obtain ⟨fx,ea⟩:∃ y:Nat,q1 % 1000=(y:Int):=⟨(q1 % 1000).toNat,by omega⟩
   obtain ⟨ax,d6⟩:∃ y:Nat,J % 1000=(y:Int):=⟨(J % 1000).toNat,by omega⟩
   have ef:=ah (fun w=>pbi q0 _ t a6.out.2.1 (by omega) eb w);have d3:=ah (fun w=>pbi q1 _ (fx:Int) a6.out.2.2.1 (by omega) ea w);have e6:=ah (fun w=>pbi J _ (ax:Int) a6.out.2.2.2 (by omega) d6 w);have bU:Hid (t=q0 % 100/\(fx:Int)=q1 % 1000/\(ax:Int)=J % 1000):=⟨eb.symm,ea.symm,d6.symm⟩
   have a5:Hid (0<=t/\t<100/\(fx:Int)<1000/\(ax:Int)<1000):=by refine ⟨?_,?_,?_,?_⟩ <;> omega
   have gr:fx<1000/\ax<1000:=by omega
   clear eb ea d6;go_upto_region 20 with (fail)
   refine @_root_.id ((∀ (F A:ByteArray) (j:Nat) (W:World),Hid (bs F=be fx/\bs A=be ax)->Hid (W.heap[j]? =some (.cells #[t,.int .i64 0,.string F,.string A,.string ⟨#[]⟩] 44 (0,0)))->Hid (Uq Z W)->Hid (Z.heap.size<=j)->(?pj29:ByteArray->ByteArray->Nat->World->Prop) F A j W)->_) (fun hJ=>?mj29) ?jj29
   case mj29 =>
    refine bH aa ak fun f=>?_;refine tkS [0,1] f ?_;refine tkQ 2 f (ef.out) ?_;refine tkS [3,4] f ?_;refine tkQ 5 f (d3.out) ?_;refine tkS [7,8] f ?_;refine tkA [6,12] ?_;refine tkC (fun K d=>?_) ?_
    · go_simp;refine (pbs fx _ (by omega)).mono ?_;rintro e aO ⟨F,HF,rfl,hq⟩;have ad:=ak.trans hq;clear hq;go_wp2_with fail;refine tkK d (aa.out _ ad) fun f=>?_;clear d K;refine tkQ 9 f (e6.out) ?_;refine tkA [10,12] ?_;refine tkC (fun K d=>?_) ?_
      · go_simp;refine (pbs ax _ (by omega)).mono ?_;rintro e ag ⟨A,HA,rfl,hq⟩;have ai:=ad.trans hq;clear hq;go_wp2_with fail;refine tkK d (aa.out _ ai) fun f=>?_;clear d K;refine tkY 11 f ?_;refine tk1 12 fun K d=>?_;go_simp;obtain ⟨j,cr,aj,D,bx,hq⟩:=paw ag (.cells zZ5 44);rw [<-aj,<-D];have bD:Z.heap.size<=j:=(by have:=ai.size;omega);have aK:=ai.trans hq;clear aj D hq;refine tkK d (aa.out _ aK) fun f=>?_;clear d K;refine tk1 13 fun K d=>?_;rw [xH (by rfl)];refine xM 44 _ _ rfl j #[t,.int .i64 0,.string F,.string A,.string ⟨#[]⟩] rfl rfl _ _ bx.out (pgM _ _ _ _ _) rfl (pkf _ _ _ _ _) ?_;obtain ⟨c9,D,cN,bK⟩:=aX bx aK bD #[t,.int .i64 0,.string F,.string A,.string ⟨#[]⟩];rw [<-D];clear D;refine tkK d (aa.out _ bK) fun f=>?_;clear d K;refine tkD ?_;exact hJ F A j c9 (ah ⟨HF.out,HA.out⟩) cN (ah bK) (ah bD)
      refine tkZ fun K d=>?_;go_simp;obtain ⟨j,ag,aj,D,dO,hq⟩:=paw aO (.cells zZ5 44);rw [<-aj,<-D];have bD:Z.heap.size<=j:=(by have:=ad.size;omega);have ai:=ad.trans hq;clear aj D hq;refine tkK d (aa.out _ ai) fun f=>?_;clear d K;refine tk1 10 fun K d=>?_;go_simp;refine (pbs ax _ (by omega)).mono ?_;rintro e cr ⟨A,HA,rfl,hq⟩;have aK:=ai.trans hq;have bx:=ah (paa dO.out hq);clear hq;go_wp2_with fail;refine tkK d (aa.out _ aK) fun f=>?_;clear d K;refine tkY 11 f ?_;refine tk1 13 fun K d=>?_;rw [xH (by rfl)];refine xM 44 _ _ rfl j #[t,.int .i64 0,.string F,.string A,.string ⟨#[]⟩] rfl rfl _ _ bx.out (pgM _ _ _ _ _) rfl (pkf _ _ _ _ _) ?_;obtain ⟨c9,D,cN,bK⟩:=aX bx aK bD #[t,.int .i64 0,.string F,.string A,.string ⟨#[]⟩];rw [<-D];clear D;refine tkK d (aa.out _ bK) fun f=>?_;clear d K;refine tkD ?_;exact hJ F A j c9 (ah ⟨HF.out,HA.out⟩) cN (ah bK) (ah bD)
    refine tkZ fun K d=>?_;go_simp;obtain ⟨j,aO,aj,D,ff,hq⟩:=paG Z (.cells zZ5 44);rw [<-aj,<-D];have bD:Z.heap.size<=j:=(by omega);have ad:=hq;clear aj D hq;refine tkK d (aa.out _ ad) fun f=>?_;clear d K;refine tk1 6 fun K d=>?_;go_simp;refine (pbs fx _ (by omega)).mono ?_;rintro e ag ⟨F,HF,rfl,hq⟩;have ai:=ad.trans hq;have dO:=ah (paa ff.out hq);clear hq;go_wp2_with fail;refine tkK d (aa.out _ ai) fun f=>?_;clear d K;refine tkQ 9 f (e6.out) ?_;refine tk1 10 fun K d=>?_;go_simp;refine (pbs ax _ (by omega)).mono ?_;rintro e cr ⟨A,HA,rfl,hq⟩;have aK:=ai.trans hq;have bx:=ah (paa dO.out hq);clear hq;go_wp2_with fail;refine tkK d (aa.out _ aK) fun f=>?_;clear d K;refine tkY 11 f ?_;refine tk1 13 fun K d=>?_;rw [xH (by rfl)];refine xM 44 _ _ rfl j #[t,.int .i64 0,.string F,.string A,.string ⟨#[]⟩] rfl rfl _ _ bx.out (pgM _ _ _ _ _) rfl (pkf _ _ _ _ _) ?_;obtain ⟨c9,D,cN,bK⟩:=aX bx aK bD #[t,.int .i64 0,.string F,.string A,.string ⟨#[]⟩];rw [<-D];clear D;refine tkK d (aa.out _ bK) fun f=>?_;clear d K;refine tkD ?_;exact hJ F A j c9 (ah ⟨HF.out,HA.out⟩) cN (ah bK) (ah bD)
   intro F A j w9 bg de U9 f2
   skip
   have S9:=ah (H.out.quiet U9.out);have ei:gB<j:=by have:=f2.out;have:=fm.out;omega
   have cz:=ah ei;have c0:w9.cell? ⟨j,0,none⟩=some (.int .i64 t):=by rw [xa _ j 0 _ _ _ de.out];rfl
   have c1:w9.cell? ⟨j,1,none⟩=some (.int .i64 0):=by rw [xa _ j 1 _ _ _ de.out];rfl
   have f1:w9.frozen? ⟨j,1,none⟩=false:=xp _ _ _ _ _ de.out;have fQ:IntKind.i64.wrap (t+1)=t+1:=pam (by have:=a5.out;omega) (by have:=a5.out;omega);obtain ⟨bO,bC⟩:=ae (w9.setCell ⟨j,1,none⟩ (.int .i64 (t+1)));have ap:=S9.out.other ei 1 (.int .i64 (t+1));obtain ⟨DV,dU⟩:=az (dspG t (t+1) F A ⟨#[]⟩);have dr:=xg _ j 1 _ _ (.int .i64 (t+1)) de.out;rw [bC] at ap dr;rw [show (#[t,.int .i64 0,.string F,.string A,.string ⟨#[]⟩]:Array Value).setIfInBounds 1 (.int .i64 (t+1))=DV by rw [dU];rfl] at dr;have fk:=ah ap;have eA:=ah dr;have ca:=ah dU;have dR:=ah bC;obtain ⟨sq,dI⟩:=az (fx * fx);have fi:sq<=1000000:=by
    rw [dI];have:=a5.out;have:=zC (show fx<=999 by omega) (show fx<=999 by omega);omega
   have f4:Hid (∀ W,Calls prog 28 #[.string F] W (pde sq W)):=fun W=>by
    rw [dI];exact pd4 F fx W bg.out.1 (by have:=a5.out;omega)
   have eu:=ah dI;have ds:Hid ((be sq).length<=1000000/\(be ax).length<=1000000):=by
    have:=a5.out;exact ⟨xB (pka (by omega)) (by omega),xB (pka (by omega)) (by omega)⟩
   have aZ:Hid (∀ W,Uq bO W->W.cell? ⟨j,2,none⟩=some (.string F)/\W.cell? ⟨j,3,none⟩=some (.string A)):=fun W u=>by
    have h:=paa eA.out u;refine ⟨?_,?_⟩
    · rw [xa _ j 2 _ _ _ h,ca.out];rfl
    · rw [xa _ j 3 _ _ _ h,ca.out];rfl
   have ak:Uq bO bO.drew:=uR.drew;clear ei ap dr dU bC dI fi aa de;go_upto_region 22 with (fail)
   rw [dR.out];refine @_root_.id ((∀ (G:ByteArray) (r:Int) (W:World),Hid (CmpE sq ax r)->Hid (-1<=r/\r<=1)->Hid (Uq bO W)->(?pj39:ByteArray->Int->World->Prop) G r W)->_) (fun hJ=>?mj39) ?jj39
   case mj39 =>
    refine bH aZ ak fun f=>?_;refine tkS [0,1,3,4] f ?_;refine tk1 2 fun K d=>?_;go_simp;refine (f4.out _).mono ?_;rintro e aO ⟨G,HG,rfl,hq⟩;have ad:=ak.trans hq;clear hq;go_wp2_with fail;refine tkK d (aZ.out _ ad) fun f=>?_;clear d K;refine tk1 5 fun K d=>?_;go_simp;refine (ptb G A sq ax _ HG.out bg.out.2 ds.out.1 ds.out.2).mono ?_;rintro e wq ⟨r,HR,hr,rfl,rfl⟩;go_wp2_with fail;refine tkK d (aZ.out _ ad) fun f=>?_;clear d K;refine tkY 6 f ?_;refine tkD ?_;exact hJ G r aO HR (ah hr) (ah ad)
   intro G r cu HR gd e0
   skip
   have dc:=ah (fk.out.quiet e0.out);have dm:=ah (paa eA.out e0.out);clear c0 c1 f1 fQ aZ;by_cases dB:r=0
   · have hE:sq=ax:=HR.out.1 dB;subst dB;have dM:Hid (∀ W,Uq cu W->W.cell? ⟨j,3,none⟩=some (.string A)):=fun W u=>by
      rw [xa _ j 3 _ _ _ (paa dm.out u),ca.out];rfl
     have dD:Uq cu cu.drew:=uR.drew;clear ak;go_upto_region 23 with (fail)
     refine @_root_.id ((∀ (A2:ByteArray) (W:World),Hid (bs A2=be (ax+1))->Hid (GuSt w W gC O gR B M gB CA aN AV BV q0 q1 J)->Fr W j (DV.setIfInBounds 3 (.string A2)) 44->(?pj45:ByteArray->World->Prop) A2 W)->_) (fun hJ=>?mj45) ?jj45
     case mj45 =>
      refine bG (S:=fun wp=>True) (trivial) fun f=>?_;refine tkY 0 f ?_;refine tkA [1,2] ?_;refine tkC (fun K d=>?_) ?_
      · have c3:=dM.out _ dD;go_simp;clear c3;refine tkK d (trivial) fun f=>?_;clear d K;refine tk1 2 fun K d=>?_;go_simp;refine (phz _).mono ?_;rintro e aO ⟨rfl,hq⟩;have dJ:=dD.trans hq;clear hq;go_wp2_with fail;refine tkK d (trivial) fun f=>?_;clear d K;refine tk1 3 fun K d=>?_;go_simp;refine (pe1 A ⟨#[1]⟩ ax 1 _ bg.out.2 (by rw [pcY];rfl) (by have:=ds.out;omega) (by rw [pcY];decide)).mono ?_;rintro e ag ⟨A2,cy,rfl,hq⟩;have db:=dJ.trans hq;clear hq;have ce:=ah (paa dm.out db);have dV:=ah (dc.out.quiet db);have c3:ag.cell? ⟨j,3,none⟩=some (.string A):=(by rw [xa _ j 3 _ _ _ ce.out,ca.out];rfl);have f3:ag.frozen? ⟨j,3,none⟩=false:=xp _ _ _ _ _ ce.out;go_wp2_with fail;refine tkK d (trivial) fun f=>?_;clear d K;refine tkY 4 f ?_;refine tk1 5 fun K d=>?_;go_simp;have bj:=ah (dV.out.other cz.out 3 (.string A2));have bZ:=ah (xg _ j 3 _ _ (.string A2) ce.out);obtain ⟨W3,aJ⟩:=az (ag.setCell ⟨j,3,none⟩ (.string A2));rw [<-aJ] at bj bZ ⊢;clear aJ;refine tkK d (trivial) fun f=>?_;clear d K;refine tkD ?_;exact hJ A2 W3 cy bj bZ
      refine tkZ fun K d=>?_;go_simp;refine (phz _).mono ?_;rintro e aO ⟨rfl,hq⟩;have dJ:=dD.trans hq;clear hq;go_wp2_with fail;refine tkK d (trivial) fun f=>?_;clear d K;refine tk1 1 fun K d=>?_;have c3:=dM.out _ dJ;go_simp;clear c3;refine tkK d (trivial) fun f=>?_;clear d K;refine tk1 3 fun K d=>?_;go_simp;refine (pe1 A ⟨#[1]⟩ ax 1 _ bg.out.2 (by rw [pcY];rfl) (by have:=ds.out;omega) (by rw [pcY];decide)).mono ?_;rintro e ag ⟨A2,cy,rfl,hq⟩;have db:=dJ.trans hq;clear hq;have ce:=ah (paa dm.out db);have dV:=ah (dc.out.quiet db);have c3:ag.cell? ⟨j,3,none⟩=some (.string A):=(by rw [xa _ j 3 _ _ _ ce.out,ca.out];rfl);have f3:ag.frozen? ⟨j,3,none⟩=false:=xp _ _ _ _ _ ce.out;go_wp2_with fail;refine tkK d (trivial) fun f=>?_;clear d K;refine tkY 4 f ?_;refine tk1 5 fun K d=>?_;go_simp;have bj:=ah (dV.out.other cz.out 3 (.string A2));have bZ:=ah (xg _ j 3 _ _ (.string A2) ce.out);obtain ⟨W3,aJ⟩:=az (ag.setCell ⟨j,3,none⟩ (.string A2));rw [<-aJ] at bj bZ ⊢;clear aJ;refine tkK d (trivial) fun f=>?_;clear d K;refine tkD ?_;exact hJ A2 W3 cy bj bZ
     intro A2 d0 cy bj bZ
     skip
     obtain ⟨Y,co⟩:=az (dspG t (t+1) F A2 ⟨#[]⟩);have ex:Fr d0 j Y 44:=by
      have h:=bZ.out;rw [show DV.setIfInBounds 3 (.string A2)=Y by rw [ca.out,co];rfl] at h;exact h
     have aM:=ah co;obtain ⟨ay,cn⟩:=az (ax+1);have cP:Hid (bs A2=be ay):=by show _=_;rw [cn];exact cy.out
     have d7:Hid (ay=(if fx * fx=ax then ax+1 else ax)):=by show _=_;rw [<-eu.out,xH hE,cn]
     have cG:Hid (ay<2000):=by show _<_;have:=a5.out;omega
     clear co cn bZ cy dD dM;have df:(prog.info? 44).map (·.size)=some Y.size:=by rw [aM.out];exact pgM _ _ _ _ _
     have cm:=ah df;have dW:Fo Y:=by rw [aM.out];exact pkf _ _ _ _ _
     have bn:Hid (d0.there B 10 Y.size):=pay bj.out.v (by rw [aM.out,aE.out];exact (by decide:10+5<=19));obtain ⟨y1,aq⟩:=ae (d0.setCells B 10 Y.toList);have af:=bj.out.setV 10 Y.toList;rw [aq] at af;obtain ⟨X1,an⟩:∃ X:EvdG,X={ X0 with low:=t,high:=t+1,F:=F,A:=A2 }:=⟨_,rfl⟩
     obtain ⟨aB,am⟩:=az (X1.V);have cY:paY aN 10 Y.toList=aB:=by rw [aE.out,am,an,aM.out,aQ.out];rfl
     rw [cY] at af;have T1:=ah af;have bl:Fr y1 j Y 44:=by show _=_;rw [<-aq];exact pax ex.out (by have:=cz.out;have:=bj.out.base;omega)
     have bk:=ah aq;have dh:=ah an;have aH:=ah am;obtain ⟨gs,cW,ck,c2,cd⟩:=a8.out.sec ao.out;obtain ⟨sx,bo⟩:=az (secN k);have cJ:sx<1152921504606845789:=by rw [bo];exact pgC k
     rw [<-bo] at cd;have cb:=ah (xf bo cJ);rw [<-HN.out] at ck;have bf:Hid (∀ W VX,GuSt w W gC O gR B M gB CA VX AV BV q0 q1 J->VX[1]? =some (.int .i64 id)->W.heap[j]? =some (.cells Y 44 (0,0))->W.cell? ⟨B,1,none⟩=some (.int .i64 id)/\W.cell? ⟨gC,6,none⟩=some (.slice (some ⟨gs,0,none⟩) n cW)/\W.cell? ⟨gs,k,none⟩=some (.int .i64 (sx:Int))/\(Instr.loadAt 44 (.pointer (some ⟨j,0,none⟩))).run prog W=.ok (.agg Y) W):=fun W VX h hv hd=>by
      refine ⟨?_,?_,(h.up.cell (p:=⟨gs,k,none⟩) c2 (by simp)).trans cd,pmA aM.out hd⟩
      · rw [xa _ B 1 _ _ _ h.v];exact hv
      · rw [xa _ gC 6 _ _ _ h.c,a4.out,<-ck];rfl
     have b9:Hid (aB[1]? =some (.int .i64 id)):=by rw [am,an,aQ.out];rfl
     have ej:Hid (∀ W,Calls prog 31 #[.agg Y] W (MkS (pbv t (t+1) fx ay) W)):=fun W=>by
      have:=a5.out;have:=cG.out;rw [aM.out];exact pgF t (t+1) F A2 ⟨#[]⟩ fx ay (by unfold pab;omega) (by unfold pab;omega) bg.out.1 cP.out (by omega) (by omega) W
     have dN:Hid ((pbv t (t+1) fx ay).length<=100):=by
      have:=a5.out;have:=cG.out;exact pcv (by unfold pab;omega) (by unfold pab;omega) (by omega) (by omega)
     have i0:(0:Int)<=(k:Int):=by omega
     have i1:(k:Int)<(n:Int):=by have:=ao.out;have:=HN.out;omega
     have ch:Uq y1 y1.drew:=uR.drew;clear af cY an am aq ck c2 cd bo cJ df;go_upto_region 25 with (first | (refine bL ex underlying44 cm ?_) | (refine bM bn cm dW bk ?_))
     refine @_root_.id ((∀ (T:ByteArray) (r s:Nat) (V3:Array Value) (W:World),Hid (bs T=pbv t (t+1) fx ay/\r=gP (nonceN (expN (sx:Int)) (bs T))/\s=sWith (expN (sx:Int)) (nonceN (expN (sx:Int)) (bs T)) (bs T))->Hid (V3=#[.int .i64 id,.string T,.int .i64 (r:Int),.int .i64 (s:Int)])->Hid (GuSt w W gC O gR B M gB CA (paY aB 2 V3.toList) AV BV q0 q1 J)->(?pj49:ByteArray->Nat->Nat->Array Value->World->Prop) T r s V3 W)->_) (fun hJ=>?mj49) ?jj49
     case mj49 =>
      refine bG (S:=fun wp=>wp.cell? ⟨B,1,none⟩=some (.int .i64 id)/\wp.cell? ⟨gC,6,none⟩=some (.slice (some ⟨gs,0,none⟩) n cW)/\wp.cell? ⟨gs,k,none⟩=some (.int .i64 (sx:Int))/\(Instr.loadAt 44 (.pointer (some ⟨j,0,none⟩))).run prog wp=.ok (.agg Y) wp) (bf.out _ _ (T1.out.quiet ch) b9.out (paa bl.out ch)) fun f=>?_;refine tkS [0,1,2,3,4,5,6] f ?_;refine tkL 7 f Y (fun w c5=>c5.2.2.2) ?_;refine tk1 8 fun K d=>?_;go_simp;refine (ej.out _).mono ?_;rintro e aO ⟨T,HT,hT,rfl,hq⟩;have ci:=ch.trans hq;clear hq;have es:T.size<=140737488355000:=(by have:=dN.out;omega);go_wp2_with fail;refine tkK d (bf.out _ _ (T1.out.quiet ci) b9.out (paa bl.out ci)) fun f=>?_;clear d K;refine tk1 9 fun K d=>?_;go_simp;refine (pe2 id (sx:Int) T _ (by have:=cb.out.2;omega) es).mono ?_;rintro e ag ⟨r,s,cV,hr,hs,rfl,hq⟩;have bm:=ci.trans hq;clear hq;obtain ⟨V3,cf⟩:∃ V:Array Value,V=#[.int .i64 id,.string T,.int .i64 (r:Int),.int .i64 (s:Int)]:=⟨_,rfl⟩;rw [<-cf];have T2:=ah (T1.out.quiet bm);have aI:=ah cf;clear cf;go_wp2_with fail;refine tkK d (bf.out _ _ (T1.out.quiet bm) b9.out (paa bl.out bm)) fun f=>?_;clear d K;refine tkY 10 f ?_;refine tk1 11 fun K d=>?_;rw [xH (by rfl)];refine vf 41 _ _ rfl B 2 V3 rfl rfl (pay T2.out.v (by rw [aH.out,aI.out];exact (by decide:2+4<=19))) (by rw [aI.out];exact pb3 _ _ _ _) (by rw [aI.out];exact pcJ _ _ _ _) ?_;have cg:=T2.out.setV 2 V3.toList;have b2:=pax (g:=B) (i:=2) (l:=V3.toList) (paa bl.out bm) (by have:=cz.out;have:=T2.out.base;omega);obtain ⟨W3,aJ⟩:=az (ag.setCells B 2 V3.toList);rw [<-aJ] at cg b2 ⊢;clear aJ;have T3:=ah cg;have en:=ah b2;clear cg b2;refine tkK d (bf.out _ _ T3.out (by rw [aH.out,aI.out,dh.out,aQ.out];rfl) en.out) fun f=>?_;clear d K;refine tkD ?_;exact hJ T r s V3 W3 (ah ⟨HT.out,cV.out.1,cV.out.2⟩) aI T3
     intro T r s V3 ek b5 aI T3
     skip
     obtain ⟨U,aA⟩:∃ X:EvdG,X={ X1 with aw:=id,aT:=T,ar:=(r:Int),as':=(s:Int) }:=⟨_,rfl⟩
     obtain ⟨N,ab⟩:=az (U.V);have cj:=T3.out;rw [show paY aB 2 V3.toList=N by rw [aH.out,ab,aA,aI.out];rfl] at cj;have T4:=ah cj;have di:=ah aA;have ac:=ah ab;obtain ⟨z9,R⟩:=ae (ek.setRow gR N);have a2:=ah R;have al:Fi 50 N:=by rw [ac.out];exact U.info
     have bc:Hid (evd0.V.size=N.size):=by show _=_;rw [ac.out];rfl
     have ba:Fo N:=by rw [ac.out];exact U.one
     have a3:=bX R T4.out.r;have a7:Hid (Uq w z9):=by show Upd _ _ _ _;rw [<-R];exact T4.out.up.setRowNew (by have:=T4.out.base;omega) _
     clear R aA ab cj T3;go_wp2_with (first | (refine bL T4.out.v underlying50 al ?_) | (refine bS T4.out.r al bc ba a2 ?_))
     refine bE a3 underlying50 al ⟨U,?_,?_,a7.out⟩
     · refine .inr (.inr (.inl ⟨rfl,?_⟩));have aC:=cw.out;have hx:=cb.out.1;have e9:expN (sx:Int)=sx:=peb cb.out.2;have h1:=b5.out.2.1;have h2:=b5.out.2.2;rw [HN.out] at aC;rw [e9,hx] at h1 h2;refine ⟨k,fx,ax,ay,r,s,F,A2,T,ao.out,aC,bU.out.2.1,bU.out.2.2,d7.out,bg.out.1,cP.out,?_,h1,h2,?_⟩
       · rw [b5.out.1,bU.out.1]
       · rw [di.out,dh.out,aQ.out,aD.out,bU.out.1]
     · rw [ac.out]
   · have hE:¬ sq=ax:=fun h=>dB (HR.out.2 h);have gu:(r == 0)=false:=by simpa using dB
     obtain ⟨Y,co⟩:=az (DV);have aM:Hid (Y=dspG t (t+1) F A ⟨#[]⟩):=by show _=_;rw [co,ca.out]
     have ew:Fr cu j Y 44:=by rw [co];exact dm
     obtain ⟨ay,cn⟩:=az (ax);have cP:Hid (bs A=be ay):=by show _=_;rw [cn];exact bg.out.2
     have d7:Hid (ay=(if fx * fx=ax then ax+1 else ax)):=by show _=_;rw [<-eu.out,yy hE,cn]
     have cG:Hid (ay<2000):=by show _<_;have:=a5.out;omega
     clear co cn dm ak;have df:(prog.info? 44).map (·.size)=some Y.size:=by rw [aM.out];exact pgM _ _ _ _ _
     have cm:=ah df;have dW:Fo Y:=by rw [aM.out];exact pkf _ _ _ _ _
     have bn:Hid (cu.there B 10 Y.size):=pay dc.out.v (by rw [aM.out,aE.out];exact (by decide:10+5<=19));obtain ⟨y1,aq⟩:=ae (cu.setCells B 10 Y.toList);have af:=dc.out.setV 10 Y.toList;rw [aq] at af;obtain ⟨X1,an⟩:∃ X:EvdG,X={ X0 with low:=t,high:=t+1,F:=F,A:=A }:=⟨_,rfl⟩
     obtain ⟨aB,am⟩:=az (X1.V);have cY:paY aN 10 Y.toList=aB:=by rw [aE.out,am,an,aM.out,aQ.out];rfl
     rw [cY] at af;have T1:=ah af;have bl:Fr y1 j Y 44:=by show _=_;rw [<-aq];exact pax ew.out (by have:=cz.out;have:=dc.out.base;omega)
     have bk:=ah aq;have dh:=ah an;have aH:=ah am;obtain ⟨gs,cW,ck,c2,cd⟩:=a8.out.sec ao.out;obtain ⟨sx,bo⟩:=az (secN k);have cJ:sx<1152921504606845789:=by rw [bo];exact pgC k
     rw [<-bo] at cd;have cb:=ah (xf bo cJ);rw [<-HN.out] at ck;have bf:Hid (∀ W VX,GuSt w W gC O gR B M gB CA VX AV BV q0 q1 J->VX[1]? =some (.int .i64 id)->W.heap[j]? =some (.cells Y 44 (0,0))->W.cell? ⟨B,1,none⟩=some (.int .i64 id)/\W.cell? ⟨gC,6,none⟩=some (.slice (some ⟨gs,0,none⟩) n cW)/\W.cell? ⟨gs,k,none⟩=some (.int .i64 (sx:Int))/\(Instr.loadAt 44 (.pointer (some ⟨j,0,none⟩))).run prog W=.ok (.agg Y) W):=fun W VX h hv hd=>by
      refine ⟨?_,?_,(h.up.cell (p:=⟨gs,k,none⟩) c2 (by simp)).trans cd,pmA aM.out hd⟩
      · rw [xa _ B 1 _ _ _ h.v];exact hv
      · rw [xa _ gC 6 _ _ _ h.c,a4.out,<-ck];rfl
     have b9:Hid (aB[1]? =some (.int .i64 id)):=by rw [am,an,aQ.out];rfl
     have ej:Hid (∀ W,Calls prog 31 #[.agg Y] W (MkS (pbv t (t+1) fx ay) W)):=fun W=>by
      have:=a5.out;have:=cG.out;rw [aM.out];exact pgF t (t+1) F A ⟨#[]⟩ fx ay (by unfold pab;omega) (by unfold pab;omega) bg.out.1 cP.out (by omega) (by omega) W
     have dN:Hid ((pbv t (t+1) fx ay).length<=100):=by
      have:=a5.out;have:=cG.out;exact pcv (by unfold pab;omega) (by unfold pab;omega) (by omega) (by omega)
     have i0:(0:Int)<=(k:Int):=by omega
     have i1:(k:Int)<(n:Int):=by have:=ao.out;have:=HN.out;omega
     have ch:Uq y1 y1.drew:=uR.drew;clear af cY an am aq ck c2 cd bo cJ df;go_upto_region 25 with (first | (refine bL ew underlying44 cm ?_) | (refine bM bn cm dW bk ?_))
     refine @_root_.id ((∀ (T:ByteArray) (r s:Nat) (V3:Array Value) (W:World),Hid (bs T=pbv t (t+1) fx ay/\r=gP (nonceN (expN (sx:Int)) (bs T))/\s=sWith (expN (sx:Int)) (nonceN (expN (sx:Int)) (bs T)) (bs T))->Hid (V3=#[.int .i64 id,.string T,.int .i64 (r:Int),.int .i64 (s:Int)])->Hid (GuSt w W gC O gR B M gB CA (paY aB 2 V3.toList) AV BV q0 q1 J)->(?pj58:ByteArray->Nat->Nat->Array Value->World->Prop) T r s V3 W)->_) (fun hJ=>?mj58) ?jj58
     case mj58 =>
      refine bG (S:=fun wp=>wp.cell? ⟨B,1,none⟩=some (.int .i64 id)/\wp.cell? ⟨gC,6,none⟩=some (.slice (some ⟨gs,0,none⟩) n cW)/\wp.cell? ⟨gs,k,none⟩=some (.int .i64 (sx:Int))/\(Instr.loadAt 44 (.pointer (some ⟨j,0,none⟩))).run prog wp=.ok (.agg Y) wp) (bf.out _ _ (T1.out.quiet ch) b9.out (paa bl.out ch)) fun f=>?_;refine tkS [0,1,2,3,4,5,6] f ?_;refine tkL 7 f Y (fun w c5=>c5.2.2.2) ?_;refine tk1 8 fun K d=>?_;go_simp;refine (ej.out _).mono ?_;rintro e aO ⟨T,HT,hT,rfl,hq⟩;have ci:=ch.trans hq;clear hq;have es:T.size<=140737488355000:=(by have:=dN.out;omega);go_wp2_with fail;refine tkK d (bf.out _ _ (T1.out.quiet ci) b9.out (paa bl.out ci)) fun f=>?_;clear d K;refine tk1 9 fun K d=>?_;go_simp;refine (pe2 id (sx:Int) T _ (by have:=cb.out.2;omega) es).mono ?_;rintro e ag ⟨r,s,cV,hr,hs,rfl,hq⟩;have bm:=ci.trans hq;clear hq;obtain ⟨V3,cf⟩:∃ V:Array Value,V=#[.int .i64 id,.string T,.int .i64 (r:Int),.int .i64 (s:Int)]:=⟨_,rfl⟩;rw [<-cf];have T2:=ah (T1.out.quiet bm);have aI:=ah cf;clear cf;go_wp2_with fail;refine tkK d (bf.out _ _ (T1.out.quiet bm) b9.out (paa bl.out bm)) fun f=>?_;clear d K;refine tkY 10 f ?_;refine tk1 11 fun K d=>?_;rw [xH (by rfl)];refine vf 41 _ _ rfl B 2 V3 rfl rfl (pay T2.out.v (by rw [aH.out,aI.out];exact (by decide:2+4<=19))) (by rw [aI.out];exact pb3 _ _ _ _) (by rw [aI.out];exact pcJ _ _ _ _) ?_;have cg:=T2.out.setV 2 V3.toList;have b2:=pax (g:=B) (i:=2) (l:=V3.toList) (paa bl.out bm) (by have:=cz.out;have:=T2.out.base;omega);obtain ⟨W3,aJ⟩:=az (ag.setCells B 2 V3.toList);rw [<-aJ] at cg b2 ⊢;clear aJ;have T3:=ah cg;have en:=ah b2;clear cg b2;refine tkK d (bf.out _ _ T3.out (by rw [aH.out,aI.out,dh.out,aQ.out];rfl) en.out) fun f=>?_;clear d K;refine tkD ?_;exact hJ T r s V3 W3 (ah ⟨HT.out,cV.out.1,cV.out.2⟩) aI T3
     intro T r s V3 ek b5 aI T3
     skip
     obtain ⟨U,aA⟩:∃ X:EvdG,X={ X1 with aw:=id,aT:=T,ar:=(r:Int),as':=(s:Int) }:=⟨_,rfl⟩
     obtain ⟨N,ab⟩:=az (U.V);have cj:=T3.out;rw [show paY aB 2 V3.toList=N by rw [aH.out,ab,aA,aI.out];rfl] at cj;have T4:=ah cj;have di:=ah aA;have ac:=ah ab;obtain ⟨z9,R⟩:=ae (ek.setRow gR N);have a2:=ah R;have al:Fi 50 N:=by rw [ac.out];exact U.info
     have bc:Hid (evd0.V.size=N.size):=by show _=_;rw [ac.out];rfl
     have ba:Fo N:=by rw [ac.out];exact U.one
     have a3:=bX R T4.out.r;have a7:Hid (Uq w z9):=by show Upd _ _ _ _;rw [<-R];exact T4.out.up.setRowNew (by have:=T4.out.base;omega) _
     clear R aA ab cj T3;go_wp2_with (first | (refine bL T4.out.v underlying50 al ?_) | (refine bS T4.out.r al bc ba a2 ?_))
     refine bE a3 underlying50 al ⟨U,?_,?_,a7.out⟩
     · refine .inr (.inr (.inl ⟨rfl,?_⟩));have aC:=cw.out;have hx:=cb.out.1;have e9:expN (sx:Int)=sx:=peb cb.out.2;have h1:=b5.out.2.1;have h2:=b5.out.2.2;rw [HN.out] at aC;rw [e9,hx] at h1 h2;refine ⟨k,fx,ax,ay,r,s,F,A,T,ao.out,aC,bU.out.2.1,bU.out.2.2,d7.out,bg.out.1,cP.out,?_,h1,h2,?_⟩
       · rw [b5.out.1,bU.out.1]
       · rw [di.out,dh.out,aQ.out,aD.out,bU.out.1]
     · rw [ac.out]
 · skip
   have bd:Hid (EA.ok/\EA.x.size<=1000000):=by rw [bi.out];have:=a9.out;exact ⟨pbL _ (by unfold pab;omega) (by unfold pab;omega),(by decide:(ByteArray.mk #[111,110,101]).size<=1000000)⟩
   have aP:Hid (EB.ok/\EB.x.size<=1000000):=by rw [cl.out];have:=a9.out;exact ⟨pbL _ (by unfold pab;omega) (by unfold pab;omega),(by decide:(ByteArray.mk #[116,119,111]).size<=1000000)⟩
   have aE:Hid (EV=X0.V):=dl;obtain ⟨aN,b3⟩:=az (EV);rw [<-b3] at aE H;have aa:Hid (∀ W BX,GuSt w W gC O gR B M gB CA aN AV BX q0 q1 J->W.cell? ⟨M,0,none⟩=some (.int .i64 qa)/\W.cell? ⟨O,2,none⟩=some (.int .i64 J)):=fun W BX h=>by
    refine ⟨?_,xa _ O 2 _ _ _ h.q⟩;rw [xa _ M 0 _ _ _ h.a,cA.out,bi.out];rfl
   have cB:Z.cell? ⟨gB,0,none⟩=some (.int .i64 qa):=by rw [xa _ gB 0 _ _ _ H.out.b,cv.out,cl.out];rfl
   have fB:Z.frozen? ⟨gB,0,none⟩=false:=xp _ _ _ _ _ H.out.b;have ak:Uq Z Z.drew:=uR.drew;go_upto_region 28 with (fail)
   refine @_root_.id ((∀ (m3:Int) (W:World),Hid (m3=J % 3)->Hid (0<=m3/\m3<3)->Hid (GuSt w W gC O gR B M gB CA aN AV (BV.setIfInBounds 0 (.int .i64 (qa+m3))) q0 q1 J)->(?pj67:Int->World->Prop) m3 W)->_) (fun hJ=>?mj67) ?jj67
   case mj67 =>
    refine bG (S:=fun wp=>wp.cell? ⟨M,0,none⟩=some (.int .i64 qa)/\wp.cell? ⟨O,2,none⟩=some (.int .i64 J)) (aa.out _ _ (H.out.quiet ak)) fun f=>?_;refine tkS [0,1,2,3] f ?_;refine tk1 4 fun K d=>?_;go_simp;refine (pbC J 3 _ a6.out.2.2.2 (by omega)).mono ?_;rintro e wq ⟨m3,eo,fO,fP,rfl,rfl⟩;have d8:IntKind.i64.wrap (qa+m3)=qa+m3:=pam (by have:=a9.out;omega) (by have:=a9.out;omega);go_wp2_with fail;refine tkK d (aa.out _ _ (H.out.quiet ak)) fun f=>?_;clear d K;refine tkS [5,6] f ?_;refine tk1 7 fun K d=>?_;go_simp;have ee:=ah ((H.out.setB 0 (.int .i64 (qa+m3))).quiet (uR.drew));obtain ⟨W9,e3⟩:=az ((Z.setCell ⟨gB,0,none⟩ (.int .i64 (qa+m3))).drew);rw [<-e3] at ee ⊢;clear e3;refine tkK d (aa.out _ _ ee.out) fun f=>?_;clear d K;refine tkD ?_;exact hJ m3 W9 eo (ah ⟨fO,fP⟩) ee
   intro m3 w9 eo fj H;obtain ⟨EC,bh⟩:=az (evCs (qa+m3) (1+nb) ⟨#[116,119,111]⟩);obtain ⟨CV,bW⟩:=az (EC.V.toArray);have aV:BV.setIfInBounds 0 (.int .i64 (qa+m3))=CV:=by rw [cv.out,cl.out,bW,bh];simp [EvG.V,evCs]
   rw [aV] at H;have d9:=ah bh;have dF:=ah bW;have aS:Hid (EC.ok/\EC.x.size<=1000000):=by rw [bh];have:=a9.out;have:=fj.out;exact ⟨pbL _ (by unfold pab;omega) (by unfold pab;omega),(by decide:(ByteArray.mk #[116,119,111]).size<=1000000)⟩
   clear aV bW bh aa cB fB;obtain ⟨m,aF⟩:=az ((EA.from id).signed (secN k));have bu:Hid (∀ W,Uq w W->Calls prog 34 #[.agg CA,k,.agg AV] W (pie m W)):=fun W u=>by
    rw [a4.out,cA.out,aF,aD.out];exact pbV l L K P KM S C KS W (a8.out.upd u) k ao.out EA bd.out.1 bd.out.2
   have aR:m.ok:=by rw [aF];exact EvG.signed_ok (EvG.from_ok bd.out.1 cq.out) _
   have a1:m.x.size<=1000000:=by rw [aF];exact bd.out.2
   have bv:Hid (∀ (EW:Array Value) W,EW=m.V.toArray->Calls prog 33 #[.agg EW] W (MkVt m W)):=fun EW W h=>by
    rw [h];exact pbU m aR a1 W
   have da:Hid (m=(EA.from id).signed (secN k)/\m.ok/\m.x.size<=1000000):=⟨aF,aR,a1⟩
   clear aF aR a1;obtain ⟨o,aG⟩:=az ((EC.from id).signed (secN k));have bp:Hid (∀ W,Uq w W->Calls prog 34 #[.agg CA,k,.agg CV] W (pie o W)):=fun W u=>by
    rw [a4.out,dF.out,aG,aD.out];exact pbV l L K P KM S C KS W (a8.out.upd u) k ao.out EC aS.out.1 aS.out.2
   have aY:o.ok:=by rw [aG];exact EvG.signed_ok (EvG.from_ok aS.out.1 cq.out) _
   have a0:o.x.size<=1000000:=by rw [aG];exact aS.out.2
   have bq:Hid (∀ (EW:Array Value) W,EW=o.V.toArray->Calls prog 33 #[.agg EW] W (MkVt o W)):=fun EW W h=>by
    rw [h];exact pbU o aY a0 W
   have dj:Hid (o=(EC.from id).signed (secN k)/\o.ok/\o.x.size<=1000000):=⟨aG,aY,a0⟩
   clear aG aY a0;go_wp2_with (first | (refine bL H.out.c underlying36 b7 ?_) | (refine bL H.out.a underlying71 cD ?_))
   have b0:=H.out.up;refine (bu.out _ b0).mono ?_;rintro e v1 ⟨cR,cI,rfl,hq⟩;have R1:=ah (H.out.quiet hq);clear hq b0;go_wp2_with fail;refine (bv.out cR _ cI.out).mono ?_;rintro e x1 ⟨T1,cT,rfl,hq⟩;have P1:=ah (R1.out.quiet hq);obtain ⟨V1,av⟩:∃ V:Array Value,V=#[.int .i64 m.h,.string T1,.int .i64 m.r,.int .i64 m.s]:=⟨_,rfl⟩
   rw [<-av];have bn:Hid (x1.there B 2 V1.size):=pay P1.out.v (by rw [av,aE.out];exact (by decide:2+4<=19));have cS:Fi 41 V1:=by rw [av];exact pb3 _ _ _ _
   have c7:Fo V1:=by rw [av];exact pcJ _ _ _ _
   obtain ⟨y1,aq⟩:=ae (x1.setCells B 2 V1.toList);have af:=P1.out.setV 2 V1.toList;rw [aq] at af;obtain ⟨X1,an⟩:∃ X:EvdG,X={ X0 with aw:=m.h,aT:=T1,ar:=m.r,as':=m.s }:=⟨_,rfl⟩
   obtain ⟨aB,am⟩:=az (X1.V);have bt:paY aN 2 V1.toList=aB:=by rw [aE.out,am,an,av];rfl
   rw [bt] at af;have S9:=ah af;have bk:=ah aq;have cE:=ah an;have aH:=ah am;clear hq af bt an am aq av R1 P1 bv bu;have cU:Fi 71 CV:=by rw [dF.out];exact EvG.info aS.out.1.2.2.2.2.2.1
   go_wp2_with (first | (refine bM bn cS c7 bk ?_) | (refine bL S9.out.c underlying36 b7 ?_) | (refine bL S9.out.b underlying71 cU ?_))
   have b1:=S9.out.up;refine (bp.out _ b1).mono ?_;rintro e v2 ⟨c4,cF,rfl,hq⟩;have R2:=ah (S9.out.quiet hq);clear hq b1;go_wp2_with fail;refine (bq.out c4 _ cF.out).mono ?_;rintro e x2 ⟨T2,cZ,rfl,hq⟩;have P2:=ah (R2.out.quiet hq);obtain ⟨V2,au⟩:∃ V:Array Value,V=#[.int .i64 o.h,.string T2,.int .i64 o.r,.int .i64 o.s]:=⟨_,rfl⟩
   rw [<-au];have c8:Hid (x2.there B 6 V2.size):=pay P2.out.v (by rw [au,aH.out];exact (by decide:6+4<=19));have c6:Fi 41 V2:=by rw [au];exact pb3 _ _ _ _
   have dk:Fo V2:=by rw [au];exact pcJ _ _ _ _
   obtain ⟨y2,bb⟩:=ae (x2.setCells B 6 V2.toList);have aL:=P2.out.setV 6 V2.toList;rw [bb] at aL;obtain ⟨U,aA⟩:∃ X:EvdG,X={ X1 with bw:=o.h,bT:=T2,br:=o.r,bs':=o.s }:=⟨_,rfl⟩
   obtain ⟨N,ab⟩:=az (U.V);have bz:paY aB 6 V2.toList=N:=by rw [aH.out,ab,aA,au];rfl
   rw [bz] at aL;have ap:=ah aL;have cX:=ah bb;have cH:=ah aA;have ac:=ah ab;clear hq aL bz aA ab bb au R2 P2 bq bp;obtain ⟨z9,R⟩:=ae (y2.setRow gR N);have a2:=ah R;have al:Fi 50 N:=by rw [ac.out];exact U.info
   have bc:Hid (evd0.V.size=N.size):=by show _=_;rw [ac.out];rfl
   have ba:Fo N:=by rw [ac.out];exact U.one
   have a3:=bX R ap.out.r;have a7:Hid (Uq w z9):=by show Upd _ _ _ _;rw [<-R];exact ap.out.up.setRowNew (by have:=ap.out.base;omega) _
   clear R;go_wp2_with (first | (refine bM c8 c6 dk cX ?_) | (refine bL ap.out.v underlying50 al ?_) | (refine bS ap.out.r al bc ba a2 ?_))
   refine bE a3 underlying50 al ⟨U,?_,?_,a7.out⟩
   · refine .inr (.inr (.inr (.inl ⟨rfl,?_⟩)));have aC:=cw.out;rw [HN.out] at aC;refine ⟨k,m,o,T1,T2,ao.out,aC,?_,?_,cT.out,cZ.out,?_⟩
     · rw [da.out.1,bi.out,aD.out,cC.out,cc.out]
     · rw [dj.out.1,d9.out,aD.out,cC.out,cc.out,eo.out]
     · rw [cH.out,cE.out,aQ.out,aD.out]
   · rw [ac.out]
 · skip
   obtain ⟨QV,dC⟩:∃ Q:Array Value,Q=#[.int .i64 q0,.int .i64 q1,.int .i64 J]:=⟨_,rfl⟩
   have fp:Fr Z O QV 52:=by show _=_;rw [dC];exact H.out.q
   have fq:Fi 52 QV:=by rw [dC];exact pt6 _ _ _
   have fX:Hid (Calls prog 32 #[.agg CA,.agg EV,k,.agg QV] Z (fun e w'=>∃ X:EvdG,Hid (pls l k q0 q1 J X)/\e=.returned (.agg X.V)/\Uq Z w')):=by
    rw [a4.out,dl.out,dC];exact pqt l L K P KM S C KS Z (a8.out.upd H.out.up) k ao.out X0 (by rw [aQ.out,aD.out]) q0 q1 J a6.out.2.1 a6.out.2.2.1 a6.out.2.2.2
   clear dC;go_wp2_with (first | (refine bL H.out.c underlying36 b7 ?_) | (refine bL H.out.v underlying50 eI ?_) | (refine bL fp underlying52 fq ?_))
   refine fX.out.mono ?_;rintro e w9 ⟨U,di,rfl,hq⟩;have T4:=ah (H.out.quiet hq);obtain ⟨N,ab⟩:=az (U.V);rw [<-ab];have ac:=ah ab;obtain ⟨z9,R⟩:=ae (w9.setRow gR N);have a2:=ah R;have al:Fi 50 N:=by rw [ab];exact U.info
   have bc:Hid (evd0.V.size=N.size):=by show _=_;rw [ab];rfl
   have ba:Fo N:=by rw [ab];exact U.one
   have a3:=bX R T4.out.r;have a7:Hid (Uq w z9):=by show Upd _ _ _ _;rw [<-R];exact T4.out.up.setRowNew (by have:=T4.out.base;omega) _
   clear R ab hq;go_wp2_with (refine bS T4.out.r al bc ba a2 ?_)
   refine bE a3 underlying50 al ⟨U,?_,?_,a7.out⟩
   · refine .inr (.inr (.inr (.inr ⟨rfl,?_⟩)));have aC:=cw.out;rw [HN.out] at aC;exact ⟨k,ao.out,aC,di.out⟩
   · rw [ac.out]
end Go.Proofs.YtkhjolbbpdaplaaGreatDoor
