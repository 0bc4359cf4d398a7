/- The walk of CourtSigned. -/
import Derived.Test.YtkhjolbbpdaplaaGreatDoorHBS
namespace Go.Proofs.YtkhjolbbpdaplaaGreatDoor
set_option maxHeartbeats 8000000
open Go.RowKit Go.Proofs.Tryz
set_option maxRecDepth 100000
theorem pqB (q:Int):∃ r s m a,q.tmod 7=r/\r+7=s/\0<=s/\s<14/\s.tmod 7=m/\1+m=a/\1<=a/\a<=7:=by
 have h1:q.tmod 7<7:=vA q (by omega);have c:-7<q.tmod 7:=Int.lt_tmod_of_pos q (by omega);have e:(q.tmod 7+7).tmod 7<7:=vA _ (by omega);have d:0<=(q.tmod 7+7).tmod 7:=Int.tmod_nonneg 7 (by omega);exact ⟨_,_,_,_,rfl,rfl,by omega,by omega,rfl,rfl,by omega,by omega⟩
theorem phK {a b c d g W} (h:W.heap[g]? =some (.cells #[.int .i64 a,.int .i64 b,.int .i64 c,.int .i64 d] 25 (0,0))) :
 (Instr.loadAt 24 (.pointer (some ⟨g,0,none⟩))).run prog W=.ok (.agg #[.int .i64 a,.int .i64 b]) W/\(Instr.loadAt 24 (.pointer (some ⟨g,2,none⟩))).run prog W=.ok (.agg #[.int .i64 c,.int .i64 d]) W:=by
 refine ⟨xL W g 0 24 [.int .i64 a,.int .i64 b] _ ?_ underlying24 rfl (by kernel_rfl),xL W g 2 24 [.int .i64 c,.int .i64 d] _ ?_ underlying24 rfl (by kernel_rfl)⟩
 · intro j v e
   match j,e with
   | 0,e=>simp at e;subst e;exact xa _ g 0 _ _ _ h
   | 1,e=>simp at e;subst e;exact xa _ g 1 _ _ _ h
 · intro j v e
   match j,e with
   | 0,e=>simp at e;subst e;exact xa _ g 2 _ _ _ h
   | 1,e=>simp at e;subst e;exact xa _ g 3 _ _ _ h
theorem pt9 {l w L K P c S C d} (h:CaseRd l w L K P c S C d) (a) (e:a=csV L K P c S C d):Fi 36 a/\Fo a:=by
 subst e;refine ⟨pjJ _ _ _ _ _ _ _,?_⟩;obtain ⟨y,B,j,_⟩:=h.made.crew;obtain ⟨F,A,g,_⟩:=h.made.coms;obtain ⟨D,u,m,_⟩:=h.made.pts;obtain ⟨q,E,o,_⟩:=h.kmem;obtain ⟨z,x,f,_⟩:=h.made.secs;obtain ⟨v,r,n,_⟩:=h.made.coefs;obtain ⟨t,p,k,_⟩:=h.ksec;show _=_;rw [j,g,m,o,f,n,k];simp [csV,Value.oneCell']
theorem pfx (l v q0 q1 q2 q3 q4 c0 c1 c2 c3 w) (d:RdO w v l) (hi:∀ x∈l,pab x) (hl:l.length<=9223372036854775807) (_h0:pab q0) (h1:pab q1) (h2:pab q2) (h3:pab q3) (h4:pab q4) (g0:pab c0) (g1:pab c1) (g2:pab c2) (g3:pab c3) (aP:Tabs w) :
 Calls prog 3 #[v,.agg #[.int .i64 q0,.int .i64 q1,.int .i64 q2,.int .i64 q3,.int .i64 q4],.agg #[.int .i64 c0,.int .i64 c1,.int .i64 c2,.int .i64 c3]] w (prV w):=by
 obtain ⟨M,cc⟩:=ae (w.heap.size);obtain ⟨wa,bO⟩:=ae (w.alloc (.cells #[q0,q1,q2,q3,q4] 23));have ra:=aW cc bO;have ua:=aU bO;obtain ⟨gH,b7⟩:=ae (wa.heap.size);obtain ⟨w0,bn⟩:=ae (wa.alloc (.cells #[c0,c1,c2,c3] 25));have rb:=aW b7 bn;have ub:=aU bn;have r0:=ah (paa ra ub);have s0:=ah rb;have u0:=ah (ua.trans ub);have bj:=ah (pkr w0 (aP.upd u0.out));have bm:=ah (fun W (u:Uq w W)=>pnu l v W (d.upd u) hi hl);have HQ:=ah (xf h1 (xf h2 (xf h3 h4)));have HC:=ah (xf g0 (xf g1 (xf g2 g3)));obtain ⟨r,s,m,kk,t1,e2,b0,b1,t3,e4,k1,k7⟩:=pqB q0;have t2:IntKind.i64.wrap (r+7)=s:=by rw [zs _ (by omega)];exact e2
 have t4:IntKind.i64.wrap (1+m)=kk:=by rw [zs _ (by omega)];exact e4
 have an:=ah (xf k1 k7);clear d hi hl _h0 h1 h2 h3 h4 g0 g1 g2 g3 ra rb ua ub e2 e4 k1 k7;go_in;go_wp2_with fail;refine bj.out.mono ?_;rintro e w1 ⟨rfl,hq⟩;have U1:=ah (u0.out.trans hq);have R1:=ah (paa r0.out hq);have S1:=ah (paa s0.out hq);clear hq bj r0 s0;go_wp2_with fail;refine (bm.out w1 U1.out).mono ?_;rintro e w2 ⟨L,K,P,KM,S,C,KS,bW,rfl,hq⟩;obtain ⟨CA,av⟩:=az (csV L K P KM S C KS);rw [<-av];obtain ⟨aJ,ba⟩:=pt9 bW.out CA av;have ci:Hid ((zZ3:Array Value).size=CA.size):=by rw [av];rfl
 obtain ⟨w3,Z3,W3,aA,aD⟩:=paz w2 36 zZ3 CA;obtain ⟨G,cl⟩:=ae (w2.heap.size);rw [cl] at Z3 W3 aA;have U3:=ah ((U1.out.trans hq).trans aD);have R3:=ah (paa (paa R1.out hq) aD);have S3:=ah (paa (paa S1.out hq) aD);have a1:=ah (bW.out.upd aD);have aR:=ah (pkp l L K P KM S C KS w3 a1.out kk q1 q2 q3 q4 HQ.out.1 HQ.out.2.1 HQ.out.2.2.1 HQ.out.2.2.2 an.out);rw [<-av] at aR;have j0:w3.cell? ⟨M,0,none⟩=some (.int .i64 q0):=xa _ M 0 _ _ _ R3.out;have j1:w3.cell? ⟨M,1,none⟩=some (.int .i64 q1):=xa _ M 1 _ _ _ R3.out;have j2:w3.cell? ⟨M,2,none⟩=some (.int .i64 q2):=xa _ M 2 _ _ _ R3.out;have j3:w3.cell? ⟨M,3,none⟩=some (.int .i64 q3):=xa _ M 3 _ _ _ R3.out;have j4:w3.cell? ⟨M,4,none⟩=some (.int .i64 q4):=xa _ M 4 _ _ _ R3.out;have aK:=ah av;clear hq aD bm U1 R1 S1 av;go_wp2_with (first | (refine bS Z3 aJ ci ba W3 ?_) | (refine bL aA underlying36 aJ ?_))
 refine aR.out.mono ?_;rintro e w4 ⟨X,HX,rfl,hq⟩;obtain ⟨XV,am⟩:=az (X.V);rw [<-am];have H:Fi 50 XV:=by rw [am];exact X.info
 have cf:Fo XV:=by rw [am];exact X.one
 have cv:Hid ((zZ1:Array Value).size=XV.size):=by rw [am];rfl
 obtain ⟨w5,Z5,W5,aB,aI⟩:=paz w4 50 zZ1 XV;obtain ⟨gE,aE⟩:=ae (w4.heap.size);rw [aE] at Z5 W5 aB;have U5:=ah ((U3.out.trans hq).trans aI);have bZ:Hid (w.heap.size<=gE/\G<gE/\w3.heap.size<=gE):=⟨by rw [<-aE];exact (U3.out.trans hq).size,by rw [<-aE];exact paf (paa aA.out hq),by rw [<-aE];exact hq.size⟩
 have bD:=ah (paa (paa aA.out hq) aI);have S5:=ah (paa (paa S3.out hq) aI);have bu:=ah (hq.trans aI);have a9:=ah (fun W=>pmD 50000 X c0 c1 W HX.out HC.out.1 HC.out.2.1 (by omega));have bK:=ah (fun (Y:EvdG) (hY:EvOk 50001 Y) W=>pmD 50001 Y c2 c3 W hY HC.out.2.2.1 HC.out.2.2.2 (by omega));rw [<-am] at a9;have aF:Hid (∀ W,Uq w5 W->(Instr.loadAt 24 (.pointer (some ⟨gH,0,none⟩))).run prog W=.ok (.agg #[c0,c1]) W/\(Instr.loadAt 24 (.pointer (some ⟨gH,2,none⟩))).run prog W=.ok (.agg #[c2,c3]) W):=fun W u=>phK (paa S5.out u);have b4:Hid (gH<gE):=by rw [<-aE];exact paf (paa S3.out hq)
 have bP:Hid (∀ W,Uq w5 W->(Instr.loadAt 50 (.pointer (some ⟨gE,0,none⟩))).run prog W=.ok (.agg XV) W):=fun W u=>pc0 underlying50 H.out (paa aB.out u);have cu:Hid (∀ T:Array Value,(prog.info? 50).map (·.size)=some T.size->XV.size=T.size):=fun T h=>by have h2:=H.out;rw [h] at h2;injection h2 with h2;exact h2.symm
 have au:Uq w5 w5.drew:=uR.drew;clear hq aI aR j0 j1 j2 j3 j4 am S3 R3;go_upto_region 4 with (first | (refine bS Z5 H cv cf W5 ?_))
 refine @_root_.id ((∀ (T:EvdG) (YV D:Array Value) (W:World),Hid (EvOk 50002 T)->Hid (D=T.V)->Fi 50 D->Fr W gE D 50->Fr W G CA 36->Hid (Uq w3 W)->(?pj1:EvdG->Array Value->Array Value->World->Prop) T YV D W)->_) (fun hJ=>?mj1) ?jj1
 case mj1 =>
  refine bH aF au fun aa=>?_;refine tkY 1 aa ?_;refine tkT 2 aa ?_ (y:=(pap (by rfl) _ _ rfl _ rfl #[c0,c1] (fun w a5=>a5.1)));refine tkY 4 aa ?_;refine tkT 5 aa ?_ (y:=(pap (by rfl) _ _ rfl _ rfl #[c2,c3] (fun w a5=>a5.2)));refine tk1 0 fun K E=>?_;rw [xH (by rfl)];refine pck 50 _ rfl gE 0 rfl XV (bP.out _ au) ?_;refine tkK E (aF.out _ au) fun aa=>?_;clear E K;refine tk1 3 fun K E=>?_;go_simp;refine (a9.out _).mono ?_;rintro e cC ⟨Y,HY,rfl,hq⟩;have bI:=au.trans hq;clear hq;obtain ⟨YV,bx⟩:=az (Y.V);have b2:=ah (fun W=>bK.out Y HY.out W);rw [<-bx] at b2 ⊢;clear bx;dsimp only;try rw [xH (by rfl)]
  refine tkK E (aF.out _ bI) fun aa=>?_;clear E K;refine tk1 6 fun K E=>?_;go_simp;refine (b2.out _).mono ?_;rintro e ca ⟨T,J,rfl,hq⟩;have ao:=bI.trans hq;clear hq;obtain ⟨D,bg⟩:=az (T.V);have ab:=ah T.info;have bw:=ah T.one;rw [<-bg] at ab bw ⊢;have aN:=ah bg;clear bg;dsimp only;try rw [xH (by rfl)]
  refine tkK E (aF.out _ ao) fun aa=>?_;clear E K;refine tk1 7 fun K E=>?_;rw [xH (by rfl)];refine xM 50 _ _ rfl gE D rfl rfl _ _ (paa aB.out ao) ab.out (cu.out D ab.out) bw.out ?_;obtain ⟨bo,bh⟩:=az (ca.setRow gE D);have fE:Fr bo gE D 50:=(by show _=_;rw [bh];exact xz _ _ _ _ _ _ (paa aB.out ao));have hS:=pal (paa S5.out ao) (by have:=b4.out;omega:gH≠gE) D;have fC:=pal (paa bD.out ao) (by have:=bZ.out;omega:G≠gE) D;have u3:=(bu.out.trans ao).setRowNew bZ.out.2.2 D;rw [<-bh] at hS fC u3 ⊢;clear bh;refine tkK E (phK hS) fun aa=>?_;clear E K;refine tkD ?_;exact hJ T YV D bo J aN ab fE (ah fC) (ah u3)
 intro T YV D w6 J aN ab bb a4 bc;have aQ:=ah (a1.out.upd bc.out);have U6:=ah (U3.out.trans bc.out);obtain ⟨SU,a3⟩:∃ SU:Array Value,SU=#[L,K,P,KM,.int .i64 4,.int .i64 0]:=⟨_,rfl⟩
 have bq:Hid ((Instr.loadAt 32 (.pointer (some ⟨G,0,none⟩))).run prog w6=.ok (.agg SU) w6):=by
  rw [a3];exact xL w6 G 0 32 [L,K,P,KM,.int .i64 4,.int .i64 0] _ (fun j v d=>(xa _ G (0+j) _ _ _ a4.out).trans (by
   rw [aK.out]
   match j,d with
   | 0,d=>simp at d;subst d;rfl
   | 1,d=>simp at d;subst d;rfl
   | 2,d=>simp at d;subst d;rfl
   | 3,d=>simp at d;subst d;rfl
   | 4,d=>simp at d;subst d;rfl
   | 5,d=>simp at d;subst d;rfl)) underlying32 rfl (by show _=some 6;kernel_rfl)
 have bk:EvOk 60000 T:={ J.out with ta:=by have:=J.out.ta;omega,tb:=by have:=J.out.tb;omega }
 have HJ:=ah (pnT l L K P KM S C KS w6 aQ.out T bk (aP.upd U6.out));rw [<-a3,<-aN.out] at HJ;clear a3 bk;go_wp2_with (first | (refine bA bq ?_) | (refine bL bb underlying50 ab ?_))
 refine HJ.out.mono ?_;rintro e o ⟨x,y,cq,rfl,hq⟩;have R:=ah (U6.out.trans hq);have cg:=ah (paa bb.out hq);have aV:=ah (paa a4.out hq);have aS:=ah (aQ.out.upd hq);clear hq HJ bq bb a4 aQ U6 bc aB a9 bK aF bP Z5 W5 bD S5 bu aA a1;rcases cq with ⟨hy,rfl⟩ | ⟨rfl,hx,ce⟩
 · have gy:(y != 0)=true:=by simpa using hy
   clear hy;go_wp2;go_ret;exact ⟨rfl,R.out⟩
 obtain ⟨t,ax⟩:=az (T.kind);obtain ⟨ta,ac⟩:=az (T.aT);obtain ⟨tb,ai⟩:=az (T.bT);obtain ⟨A,hA⟩:∃ A:Array Value,A=#[.int .i64 T.ar,.int .i64 T.as']:=⟨_,rfl⟩
 obtain ⟨B,hB⟩:∃ A:Array Value,A=#[.int .i64 T.br,.int .i64 T.bs']:=⟨_,rfl⟩
 have aM:Hid (∀ W,Uq o W->W.cell? ⟨gE,0,none⟩=some (.int .i64 t)/\W.cell? ⟨gE,1,none⟩=some (.int .i64 x)/\W.cell? ⟨gE,3,none⟩=some (.string ta)/\W.cell? ⟨gE,7,none⟩=some (.string tb)/\(Instr.loadAt 39 (.pointer (some ⟨gE,4,none⟩))).run prog W=.ok (.agg A) W/\(Instr.loadAt 39 (.pointer (some ⟨gE,8,none⟩))).run prog W=.ok (.agg B) W):=fun W u=>by
  have q:=paa cg.out u;rw [aN.out] at q;refine ⟨(xa _ gE 0 _ _ _ q).trans (by rw [ax];rfl),(xa _ gE 1 _ _ _ q).trans (by rw [hx];rfl),(xa _ gE 3 _ _ _ q).trans (by rw [ac];rfl),(xa _ gE 7 _ _ _ q).trans (by rw [ai];rfl),?_,?_⟩
  · rw [hA];exact phJ (l:=[.int .i64 T.ar,.int .i64 T.as']) q rfl underlying39 (by kernel_rfl)
  · rw [hB];exact phJ (l:=[.int .i64 T.br,.int .i64 T.bs']) q rfl underlying39 (by kernel_rfl)
 have cF:=ah (xf ac (xf ai (xf hA (xf hB ax))));have a8:ta.size<=60000/\tb.size<=60000:=by have:=J.out.ta;have:=J.out.tb;rw [ac,ai];omega
 have cy:=ah a8;have aw:=ah (fun W (u:Uq w W)=>aP.upd u);obtain ⟨e0,e1,e3,e7,_⟩:=aM.out o uR;rcases ce with ⟨bi,E⟩ | ⟨bl,bv,hM⟩
 · obtain ⟨i,wt,f,ra,rb,F,ad,al,⟨va,ka⟩,vb,kb⟩:=E;rw [<-ac] at ad;rw [<-ai] at al;have cn:i<2:=by have:=(xe.1 F).1;rwa [pfO] at this
   obtain ⟨kA,kc,eM,_,_,a7⟩:=aS.out.kmem;obtain ⟨gK,cs,_⟩:=a7 0 (peE 0) (by simp [kskL]);subst cs eM;have ak:x=70+(i:Int)/\f=(gP (kskSec i):Int):=by
    simp [kskL,cn] at F;exact ⟨by rw [hx];exact (xU Mem.id F).symm,(xU Mem.pub F).symm⟩
   have aY:Hid (∀ W,Uq o W->W.cell? ⟨G,3,none⟩=some (.slice (some ⟨gK,0,none⟩) 2 kc)):=fun W u=>(xa _ G 3 _ _ _ (paa aV.out u)).trans (by rw [aK.out];rfl);have aH:Hid (∀ W,Uq o W->∀ k,k<2->W.cell? ⟨gK,k * 3,none⟩=some (.int .i64 (70+(k:Int)))/\W.cell? ⟨gK,k * 3+2,none⟩=some (.int .i64 (gP (kskSec k):Int))):=fun W u k hk=>by
    obtain ⟨g,e,ag,a0,_,a2⟩:=a7 k (peE k) (by simp [kskL,hk]);injection e with e;injection e with e;subst e;exact ⟨(u.cell (p:=⟨gK,k * 3,none⟩) ag (by simp)).trans a0,(u.cell (p:=⟨gK,k * 3+2,none⟩) ag (by simp)).trans a2⟩
   have cL:o.cell? ⟨G,0,none⟩=some L:=(xa _ G 0 _ _ _ aV.out).trans (by rw [aK.out];rfl);have cK:=aY.out o uR;obtain ⟨RA,ap⟩:=az ((rcV ra).toArray);obtain ⟨Z,ay⟩:=az ((rcV rb).toArray);obtain ⟨AI,AO,AZ⟩:=pdA ad.1 RA ap;obtain ⟨BI,BO,BZ⟩:=pdA al.1 Z ay;have cm:=ah (fun W (u:Uq w W)=>peH ta (by omega) ra true ad RA ap W (aw.out W u));have b6:=ah (fun W (u:Uq w W)=>peH tb (by omega) rb true al Z ay W (aw.out W u));have aj:pab f:=by rw [ak.2];exact plf _
   have da:=peG ad;have db:=peG al;rw [pac] at da db;have aL:Hid (∀ W,Uq w W->Calls prog 10 #[f,.agg RA] W (Mk (.bool true) W)):=fun W u=>by rw [ap];exact pc9 f ra true aj ad.1 (by omega) va W (aw.out W u)
   have aC:Hid (∀ W,Uq w W->Calls prog 10 #[f,.agg Z] W (Mk (.bool true) W)):=fun W u=>by rw [ay];exact pc9 f rb true aj al.1 (by omega) vb W (aw.out W u)
   have co:Hid (RA[0]? =some (.int .i64 x)):=by rw [ap,hx,<-ka];rfl
   have cr:Hid (Z[0]? =some (.int .i64 x)):=by rw [ay,hx,<-kb];rfl
   have ch:Hid (∀ (U Q:Nat) (W:World),W.heap[U]? =some (.cells RA 62 (0,0))->W.heap[Q]? =some (.cells Z 62 (0,0))->(Instr.loadAt 62 (.pointer (some ⟨U,0,none⟩))).run prog W=.ok (.agg RA) W/\(Instr.loadAt 62 (.pointer (some ⟨Q,0,none⟩))).run prog W=.ok (.agg Z) W):=fun U Q W p q=>⟨pfa ad.1 ap p,pfa al.1 ay q⟩
   have H:=ah ak;have ct:Hid (t=6\/t=7):=by rw [ax];exact bi
   clear ax ac ai hA hB ad al va ka vb kb ap ay da db aj a7 F ak a8 hx bi ab aJ ba;rcases ct.out with rfl | rfl
   all_goals (
    go_wp2_with fail;clear cL cK;go_loopw [13] (fun p wr=>∃ k:Nat,p=.int .i64 (k:Int)/\k<=i/\o=wr) (fun p _=>2 - (intOf p).toNat)
    case atStart=>exact ⟨0,rfl,xu _,rfl⟩
    case round =>
     obtain ⟨k,rfl,hk,rfl⟩:=hrel;obtain ⟨ck,cp⟩:=aH.out o uR k (by omega);have k0:(0:Int)<=(k:Int):=by omega
     have k1:(k:Int)<2:=by omega
     obtain ⟨af,N⟩:∃ z:Int,z=70+(k:Int):=⟨_,rfl⟩
     rw [<-N] at ck;by_cases O:k=i
     · have bf:x=af:=by rw [N,O];exact H.out.1
       have aq:(gP (kskSec k):Int)=f:=by rw [O];exact H.out.2.symm
       rw [aq] at cp;subst bf;have bC:=ah (cm.out o R.out);have cj:Hid (∀ W,Uq o W->W.cell? ⟨gK,k * 3+2,none⟩=some (.int .i64 f)):=fun W u=>by rw [<-aq];exact (aH.out W u k (by omega)).2
       clear N O aq hk;go_wp2_with fail;refine bC.out.mono ?_;rintro e w8 ⟨rfl,hq⟩;obtain ⟨w9,Z9,W9,R9,bJ⟩:=paz w8 62 Tryz.zeroCells62 RA;obtain ⟨U,cw⟩:=ae (w8.heap.size);rw [cw] at Z9 W9 R9;have V9:=ah (hq.trans bJ);have bz:=ah (b6.out w9 (R.out.trans V9.out));obtain ⟨_,_,_,cx,_⟩:=aM.out w9 V9.out;clear hq bJ bC;go_wp2_with (refine bS Z9 AI AZ AO W9 ?_)
       refine bz.out.mono ?_;rintro e wa ⟨rfl,hq⟩;obtain ⟨wb,Zb,Wb,Rb,bd⟩:=paz wa 62 Tryz.zeroCells62 Z;obtain ⟨Q,cd⟩:=ae (wa.heap.size);rw [cd] at Zb Wb Rb;have Vb:=ah ((V9.out.trans hq).trans bd);have b9:=ah (paa (paa R9.out hq) bd);have au:Uq wb wb.drew:=uR.drew;have an:Hid (∀ W,Uq wb W->W.cell? ⟨gE,1,none⟩=some (.int .i64 x)/\W.cell? ⟨U,0,none⟩=some (.int .i64 x)/\W.cell? ⟨Q,0,none⟩=some (.int .i64 x)/\W.cell? ⟨gK,k * 3+2,none⟩=some (.int .i64 f)/\(Instr.loadAt 62 (.pointer (some ⟨U,0,none⟩))).run prog W=.ok (.agg RA) W/\(Instr.loadAt 62 (.pointer (some ⟨Q,0,none⟩))).run prog W=.ok (.agg Z) W):=fun W u=>by
        have a:=paa b9.out u;have b:=paa Rb.out u;obtain ⟨p,q⟩:=ch.out U Q W a b;exact ⟨(aM.out W (Vb.out.trans u)).2.1,(xa _ U 0 _ _ _ a).trans co.out,(xa _ Q 0 _ _ _ b).trans cr.out,cj.out W (Vb.out.trans u),p,q⟩
       have a6:=ah (R.out.trans Vb.out);clear hq bd bz cx e0 e1 e3 e7 ck cp;go_upto_region 18 with (first | (refine bS Zb BI BZ BO Wb ?_))
       refine prJ gE gK U Q 2 kc k x f RA Z wb _ k1 an.out (fun W u=>aL.out W (a6.out.trans u)) (fun W u=>aC.out W (a6.out.trans u)) ?_;intro a W hd h6 u;go_wp2_with fail;exact xI (results_tmp rfl _ _ _) hd ⟨by rw [h6],a6.out.trans u⟩
     · have aG:¬ af=x:=by have:=H.out.1;omega
       have g1:(af == x)=false:=by rw [xm];exact aG
       have aO:Hid (k+1<=i):=by show _<=_;omega
       clear N aG O hk;go_wp2_with fail;exact ⟨⟨k+1,by go_num,aO.out,(by first | trivial | rfl)⟩,(by first | (simp [intOf];done) | (simp [intOf];omega))⟩)
 · obtain ⟨i,wt,f,F,va,vb⟩:=hM;rw [<-ax] at bl bv vb;rw [<-ac] at va;rw [<-ai] at vb;have ag:=(xe.1 F).1;rw [pe3] at ag;have b3:(wsN l (manyN l)).length=manyN l:=by simp [wsN]
   obtain ⟨n,hn⟩:=az (manyN l);rw [b3,<-hn] at ag;have ak:x=((i+1:Nat):Int)/\f=(gP (secN i):Int):=by
    obtain ⟨z,hz⟩:∃ z,(wsN l (manyN l))[i]? =some z:=⟨_,xd (by omega)⟩
    rw [paW hz] at F;injection F with F;exact ⟨by rw [hx];exact (xU Mem.id F).symm,(xU Mem.pub F).symm⟩
   obtain ⟨gM,aZ,eM,_⟩:=aS.out.memb (k:=i) (by omega);rw [<-hn] at eM;have aY:Hid (o.cell? ⟨G,0,none⟩=some (.slice (some ⟨gM,0,none⟩) n aZ)):=(xa _ G 0 _ _ _ aV.out).trans (by rw [aK.out,<-eM];rfl);have aH:Hid (∀ W,Uq o W->∀ k,k<n->W.cell? ⟨gM,k * 3,none⟩=some (.int .i64 ((k+1:Nat):Int))/\W.cell? ⟨gM,k * 3+2,none⟩=some (.int .i64 (gP (secN k):Int))):=fun W u k hk=>by
    obtain ⟨g,c,e,_,a0,a2⟩:=(aS.out.upd u).memb (k:=k) (by omega);rw [eM] at e;injection e with e;injection e with e;injection e with e;subst e;exact ⟨a0,a2⟩
   have cL:=aY.out;have aj:pab f:=by rw [ak.2];exact plf _
   have cz:n<=4:=by rw [hn];exact (pdi l).2
   have aL:Hid (∀ W,Uq w W->Calls prog 11 #[f,.string ta,.agg A] W (Mk (.bool true) W)):=fun W u=>by
    rw [hA];refine (pdM f ta T.ar T.as' W aj J.out.a.2.1 J.out.a.2.2 (by omega) (aw.out W u)).mono ?_;rintro e w' ⟨b,hb,rfl,hu⟩;exact ⟨by rw [hb.out,va],hu⟩
   have aC:Hid ((t=1\/t=4)->∀ W,Uq w W->Calls prog 11 #[f,.string tb,.agg B] W (Mk (.bool true) W)):=fun h4 W u=>by
    rw [hB];refine (pdM f tb T.br T.bs' W aj J.out.b.2.1 J.out.b.2.2 (by omega) (aw.out W u)).mono ?_;rintro e w' ⟨b,hb,rfl,hu⟩;exact ⟨by rw [hb.out,vb h4],hu⟩
   have H:=ah ak;have cb:=ah ag;clear ax ac ai hA hB va vb aj F ak a8 hx hn b3 ag eM ab aJ ba;have k6:(t == 6)=false:=by rw [xm];omega
   have k7:(t == 7)=false:=by rw [xm];omega
   have bU:¬ t=6:=by omega
   have bt:¬ t=7:=by omega
   clear bl bv;go_wp2_with fail;clear cL;go_loopw [13] (fun p wr=>∃ k:Nat,p=.int .i64 (k:Int)/\k<=i/\o=wr) (fun p _=>n - (intOf p).toNat)
   case atStart=>exact ⟨0,rfl,xu _,rfl⟩
   case round =>
    obtain ⟨k,rfl,hk,rfl⟩:=hrel;have bp:k<n:=by have:=cb.out;omega
    obtain ⟨ck,cp⟩:=aH.out o uR k bp;have k0:(0:Int)<=(k:Int):=by omega
    have k1:(k:Int)<(n:Int):=by omega
    obtain ⟨af,N⟩:=az (((k+1:Nat):Int));rw [<-N] at ck;by_cases O:k=i
    · have bf:x=af:=by rw [N,O];exact H.out.1
      have aq:(gP (secN k):Int)=f:=by rw [O];exact H.out.2.symm
      subst bf;have an:Hid (∀ W,Uq o W->W.cell? ⟨gE,1,none⟩=some (.int .i64 x)/\W.cell? ⟨gM,k * 3+2,none⟩=some (.int .i64 f)/\W.cell? ⟨gE,3,none⟩=some (.string ta)/\W.cell? ⟨gE,7,none⟩=some (.string tb)/\(Instr.loadAt 39 (.pointer (some ⟨gE,4,none⟩))).run prog W=.ok (.agg A) W/\(Instr.loadAt 39 (.pointer (some ⟨gE,8,none⟩))).run prog W=.ok (.agg B) W):=fun W u=>by
       obtain ⟨_,p1,p3,p7,pA,pB⟩:=aM.out W u;exact ⟨p1,by rw [<-aq];exact (aH.out W u k bp).2,p3,p7,pA,pB⟩
      have au:Uq o o.drew:=uR.drew;clear N O aq hk cp;go_upto_region 19 with (fail)
      by_cases kb:t=1\/t=4
      · have b5:=ah (aC.out kb);clear k6 k7 bU bt aC;rcases kb with rfl | rfl
        all_goals (
         go_upto_region 20 with (fail)
         clear e0 e1 e3 e7 ck;refine pqy gE gM n aZ k x f ta tb A B o _ k1 an.out (fun W u=>aL.out W (R.out.trans u)) (fun W u=>b5.out W (R.out.trans u)) ?_;intro a W hd h6 u;go_wp2_with fail;exact xI (results_tmp rfl _ _ _) hd ⟨by rw [h6],R.out.trans u⟩)
      · have cB:(t == 1)=false:=by rw [xm];omega
        have cA:(t == 4)=false:=by rw [xm];omega
        have cE:¬ t=1:=by omega
        have cD:¬ t=4:=by omega
        clear kb k6 k7 bU bt aC;go_upto_region 20 with (fail)
        clear e0 e1 e3 e7 ck;refine pnU gE gM n aZ k x f ta tb A B o _ k1 an.out (fun W u=>aL.out W (R.out.trans u)) ?_;intro a W hd h6 u;go_wp2_with fail;exact xI (results_tmp rfl _ _ _) hd ⟨by rw [h6],R.out.trans u⟩
    · have aG:¬ af=x:=by have:=H.out.1;omega
      have g1:(af == x)=false:=by rw [xm];exact aG
      have aO:Hid (k+1<=i):=by show _<=_;omega
      clear N aG O hk;go_wp2_with fail;exact ⟨⟨k+1,by go_num,aO.out,(by first | trivial | rfl)⟩,(by first | (simp [intOf];done) | (simp [intOf];omega))⟩
end Go.Proofs.YtkhjolbbpdaplaaGreatDoor
