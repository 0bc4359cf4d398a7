/- sortesref33.Case.Guilty of the kinds 6 and 7 and what follows. -/
import Derived.Test.YtkhjolbbpdaplaaGreatDoorHBP
namespace Go.Proofs.YtkhjolbbpdaplaaGreatDoor
set_option maxHeartbeats 8000000
open Go.RowKit Go.Proofs.Tryz
set_option maxRecDepth 100000
def two2 (a b:Int):Nat->Int
 | 0=>a
 | _=>b
theorem pcL {a b} (e:pab a) (c:pab b):∀ j,j<2->pab (two2 a b j):=fun j d=>by
 match j,d with
 | 0,_=>exact e
 | 1,_=>exact c
theorem pcl (a b):prog.built 24 [(0,.int .i64 a),(1,.int .i64 b)]=some #[.int .i64 a,.int .i64 b]:=by kernel_rfl
theorem pfQ (h T):prog.built 41 [(0,.int .i64 h),(1,.string T)]=some #[.int .i64 h,.string T,.int .i64 0,.int .i64 0]:=by kernel_rfl
theorem pkm (k h A B):prog.built 50 [(0,.int .i64 k),(1,.int .i64 h),(2,.agg #[.int .i64 h,.string A,.int .i64 0,.int .i64 0]),(3,.agg #[.int .i64 h,.string B,.int .i64 0,.int .i64 0])]=some ({ evd0 with kind:=k,who:=h,aw:=h,aT:=A,bw:=h,bT:=B }:EvdG).V:=by kernel_rfl
def puI (kd at':Int) (a b c d:Int) (X:EvdG):Prop:=∃ (q:Nat) (A B:ByteArray),q<2/\(q:Int)=at' % 2/\bs A=pcg (prR q (two2 a b) (two2 c d) 0)/\bs B=pcg (prR q (two2 a b) (two2 c d) 1)/\X={ evd0 with kind:=kd,who:=70+(q:Int),aw:=70+(q:Int),aT:=A,bw:=70+(q:Int),bT:=B }
def puJ (kd q0 q1 q2 a b c d:Int):Prop:=a=1+q0 % 100/\((kd=6/\b=a+1+q1 % 9/\c=5+q2 % 9/\d=q1 % 5)\/(kd=7/\b=a/\c=5/\d=6+q1 % 5))
def MkGk (kd at' q0 q1 q2:Int) (w:World) (e:Ending) (w':World):Prop:=∃ (X:EvdG) (a b c d:Int),Hid (puJ kd q0 q1 q2 a b c d/\puI kd at' a b c d X)/\e=.returned (.agg X.V)/\Upd [] [] w w'
theorem pfR {R} (d:∀ j,j<2->(R j).ok) {V k e} (c:V=(rsV R 2).toArray) (h0:k=(rcV (R 0)).toArray) (h1:e=(rcV (R 1)).toArray) {g W} (h:W.heap[g]? =some (.cells V 82 (0,0))) :
 (Instr.loadAt 62 (.pointer (some ⟨g,0,none⟩))).run prog W=.ok (.agg k) W/\(Instr.loadAt 62 (.pointer (some ⟨g,102,none⟩))).run prog W=.ok (.agg e) W:=by
 subst c h0 h1;have f:=paM (d 0 (by omega));have c:rsV R 2=rcV (R 0) ++ rcV (R 1):=rfl;rw [c] at h;refine ⟨xL W g 0 62 _ _ (fun j v a=>?_) underlying62 rfl (pdy (d 0 (by omega))),xL W g 102 62 _ _ (fun j v a=>?_) underlying62 rfl (pdy (d 1 (by omega)))⟩
 · refine (xa _ g _ _ _ _ h).trans ?_;rw [xD,yB,yu (xe.1 a).1];exact a
 · refine (xa _ g _ _ _ _ h).trans ?_;rw [xD,xC (by rw [f];omega),f,show 102+j - 102=j by omega];exact a
theorem plt {R} (h:∀ j,j<2->(R j).ok):(rsV R 2).toArray.all (·.oneCell')=true:=by
 obtain ⟨_,h0,_⟩:=pdA (h 0 (by omega)) _ rfl;obtain ⟨_,h1,_⟩:=pdA (h 1 (by omega)) _ rfl;have c:=h0.out;have a:=h1.out;simp only [rsV,uB,List.all_append,xH (by omega:0<2),xH (by omega:1<2)];rw [uB] at c a;rw [c,a];rfl
theorem pkn (l L K P KM S C KS w) (hC:CaseRd l w L K P KM S C KS) (kd aj q0 T q2) (bU:kd=6\/kd=7) (bx:pab aj) (bv:pab q0) (a2:pab T) (bq:pab q2) :
 Calls prog 6 #[.agg (csV L K P KM S C KS),.int .i64 kd,.int .i64 aj,.agg #[.int .i64 q0,.int .i64 T,.int .i64 q2]] w (MkGk kd aj q0 T q2 w):=by
 obtain ⟨ma,mc,rfl,_,_,hM⟩:=hC.kmem;obtain ⟨N,ay⟩:=az (csV L K P (.slice ma 2 mc) S C KS);obtain ⟨q,hq⟩:∃ q:Nat,aj % 2=(q:Int):=⟨(aj % 2).toNat,by have:=yF aj (by omega:(2:Int)≠0);omega⟩
 have aM:q<2:=by have:=yj aj (by omega:(0:Int)<2);omega
 have bz:=ah (pbi aj 2 (q:Int) bx (by omega) hq);obtain ⟨m0,aN⟩:=ae (q0 % 100);obtain ⟨m1,aS⟩:=ae (T % 9);obtain ⟨m2,aO⟩:=ae (q2 % 9);obtain ⟨t,aR⟩:=ae (T % 5);have b0:0<=m0/\m0<100:=by rw [<-aN];exact ⟨yF _ (by omega),yj _ (by omega)⟩
 have b1:0<=m1/\m1<9:=by rw [<-aS];exact ⟨yF _ (by omega),yj _ (by omega)⟩
 have b2:0<=m2/\m2<9:=by rw [<-aO];exact ⟨yF _ (by omega),yj _ (by omega)⟩
 have b3:0<=t/\t<5:=by rw [<-aR];exact ⟨yF _ (by omega),yj _ (by omega)⟩
 have bo:=ah (pbi q0 100 m0 bv (by omega) aN);have bm:=ah (pbi T 9 m1 a2 (by omega) aS);have bp:=ah (pbi q2 9 m2 bq (by omega) aO);have a8:=ah (pbi T 5 t a2 (by omega) aR);obtain ⟨n,hn⟩:∃ n,1+m0=n:=⟨_,rfl⟩
 have en:IntKind.i64.wrap (1+m0)=n:=by rw [pam (by omega) (by omega)];exact hn
 have bf:=ah (fun W (u:Uq w W) (a b c d:Int) (ha:pab a) (hb:pab b) (hc:pab c) (hd:pab d)=>(pg1 l L K P (.slice ma 2 mc) S C KS W (hC.upd u) q aM (two2 a b) (two2 c d) (pcL ha hb) (pcL hc hd)));rw [<-ay] at bf;have a1:Hid (∀ W,Uq w W->∀ a b c d:Int,pab a->pab b->pab c->pab d->Calls prog 22 #[.agg N,q,.agg #[a,b],.agg #[c,d]] W (pt7 (prR q (two2 a b) (two2 c d)) W)):=fun W u a b c d ha hb hc hd=>bf.out W u a b c d ha hb hc hd;obtain ⟨gm,rfl,bj,cm,_,_⟩:=hM q (peE q) (by simp [kskL,aM]);have bO:Fi 36 N:=by rw [ay];exact pjJ _ _ _ _ _ _ _
 have b7:Hid (N[3]? =some (.slice (some ⟨gm,0,none⟩) 2 mc)):=by rw [ay];rfl
 rw [<-ay];obtain ⟨id,a3⟩:∃ x:Int,70+(q:Int)=x:=⟨_,rfl⟩
 have bC:Hid (∀ W,Uq w W->W.cell? ⟨gm,q * 3,none⟩=some (.int .i64 id)):=fun W u=>by rw [<-a3];exact (u.cell (p:=⟨gm,q * 3,none⟩) bj (by simp)).trans cm
 obtain ⟨gC,bK⟩:=ae (w.heap.size);obtain ⟨w0,bl⟩:=ae (w.alloc (.cells N 36));have r0:=aW bK bl;have u0:=aU bl;obtain ⟨gQ,bW⟩:=ae (w0.heap.size);obtain ⟨w1,bu⟩:=ae (w0.alloc (.cells #[q0,T,q2] 52));have r1:=aW bW bu;have u1:=aU bu;obtain ⟨gR,bk⟩:=ae (w1.heap.size);obtain ⟨G,bh⟩:=ae (w1.alloc (.cells evd0.V 50));have r2:=aW bk bh;have u2:=aU bh;have RC:=ah (paa (paa r0 u1) u2);have RQ:=ah (paa r1 u2);have RR:=ah r2;have U2:=ah ((u0.trans u1).trans u2);have aP:Hid (w.heap.size<=gR/\gR<G.heap.size):=⟨by rw [<-bk];exact (u0.trans u1).size,paf r2⟩
 rw [pmB] at bh;have v:Hid (∀ W,Uq G W->W.cell? ⟨gQ,0,none⟩=some (.int .i64 q0)/\W.cell? ⟨gQ,1,none⟩=some (.int .i64 T)/\W.cell? ⟨gQ,2,none⟩=some (.int .i64 q2)/\W.cell? ⟨gC,3,none⟩=some (.slice (some ⟨gm,0,none⟩) 2 mc)/\(Instr.loadAt 36 (.pointer (some ⟨gC,0,none⟩))).run prog W=.ok (.agg N) W):=fun W u=>by
  have q:=paa RQ.out u;have c:=paa RC.out u;exact ⟨xa _ gQ 0 _ _ _ q,xa _ gQ 1 _ _ _ q,xa _ gQ 2 _ _ _ q,(xa _ gC 3 _ _ _ c).trans b7.out,pc0 underlying36 bO.out c⟩
 obtain ⟨c0,_⟩:=v.out G uR;have b9:(0:Int)<=(q:Int):=by omega
 have ca:(q:Int)<2:=by omega
 have ax:=ah (xf hq (xf aM a3));have au:=ah (xf aN (xf aS (xf aO aR)));have bt:=ah hn;obtain ⟨Z,hZ⟩:∃ Z,Z=Tryz.zeroCells82:=⟨_,rfl⟩
 have br:Hid (Z=(rsV (fun _=>Rc.zero) 0).toArray):=by show _=_;rw [hZ];rfl
 have cb:1<=n/\n<=100:=by omega
 clear hC hM ay hq aN aS aO aR hn bx bv a2 bq cm bj r0 u0 r1 u1 r2 u2 bf a3 aM;go_in;rcases bU with rfl | rfl
 · skip
   go_wp2_with fail;refine (bz.out _).mono ?_;rintro e w' ⟨rfl,rfl⟩;go_wp2_with fail;refine (bo.out _).mono ?_;rintro e w' ⟨rfl,rfl⟩;have ap:Uq G G.drew:=uR.drew;obtain ⟨n1,ao⟩:=ae (n+1);obtain ⟨F,am⟩:=ae (n1+m1);obtain ⟨D,an⟩:∃ x,5+m2=x:=⟨_,rfl⟩
   have f1:IntKind.i64.wrap (n+1)=n1:=by rw [pam (by omega) (by omega)];exact ao
   have f2:IntKind.i64.wrap (n1+m1)=F:=by rw [pam (by omega) (by omega)];exact am
   have f3:IntKind.i64.wrap (5+m2)=D:=by rw [pam (by omega) (by omega)];exact an
   obtain ⟨V,R⟩:=az ((rsV (prR q (two2 n F) (two2 D t)) 2).toArray);have aI:Hid (∀ W,Uq w W->Calls prog 22 #[.agg N,q,.agg #[n,F],.agg #[D,t]] W (Mk (.agg V) W)):=fun W u=>by rw [R];exact a1.out W u n F D t (by unfold pab;omega) (by unfold pab;omega) (by unfold pab;omega) (by unfold pab;omega)
   have H:∀ j,j<2->(prR q (two2 n F) (two2 D t) j).ok:=fun j hj=>pkl q _ _ j (by omega) (pcL (by unfold pab;omega) (by unfold pab;omega) j hj) (pcL (by unfold pab;omega) (by unfold pab;omega) j hj);have aE:Fi 82 V:=by show _=_;rw [R];exact pmH (pbW H 2)
   have aD:Fo V:=by show _=_;rw [R];exact plt H
   have aA:Hid ((Tryz.zeroCells82).size=V.size):=by show _=_;rw [<-hZ,br.out,R,yJ,yJ,pbW (fun _ _=>Rc.zero_ok),pbW H]
   have ag:=ah (xf R H);have aZ:=ah (xf ao (xf am an));have bg:=ah (pcl n F);have ba:=ah (pcl D t);clear R H ao am an;go_upto_region 4 with (fail)
   refine @_root_.id ((∀ (o:Nat) (W:World),Fr W o V 82->Hid (Uq G W)->Hid (G.heap.size<=o)->(?pj1:Nat->World->Prop) o W)->_) (fun hJ=>?mj1) ?jj1
   case mj1 =>
    refine bG (S:=fun Q=>Q.cell? ⟨gQ,1,none⟩=some (.int .i64 T)/\Q.cell? ⟨gQ,2,none⟩=some (.int .i64 q2)/\(Instr.loadAt 36 (.pointer (some ⟨gC,0,none⟩))).run prog Q=.ok (.agg N) Q) ((by obtain ⟨_,k,r,_,m⟩:=v.out _ ap;exact ⟨k,r,m⟩)) fun f=>?_;refine tkL 0 f N (fun w O=>O.2.2) ?_;refine tkS [1,2,3,4,5,6] f ?_;refine tkQ 7 f (bm.out) ?_;refine tkY 8 f ?_;refine tkT 9 f ?_ (y:=(pav (by rfl) 24 _ rfl #[n,F] (zP (xU (fun z=>prog.built 24 z) (by kernel_rfl)) bg.out)));refine tkS [10,11] f ?_;refine tkQ 12 f (bp.out) ?_;refine tkS [13,14,15] f ?_;refine tkQ 16 f (a8.out) ?_;refine tkT 17 f ?_ (y:=(pav (by rfl) 24 _ rfl #[D,t] (zP (xU (fun z=>prog.built 24 z) (by kernel_rfl)) ba.out)));refine tkA [18,19] ?_;refine tkC (fun K g=>?_) ?_
    · go_simp;refine (aI.out _ (U2.out.trans ap)).mono ?_;rintro e aC ⟨rfl,hq⟩;have M:=ap.trans hq;clear hq;dsimp only;try rw [xH (by rfl)]
      refine tkK g ((by obtain ⟨_,k,r,_,m⟩:=v.out _ M;exact ⟨k,r,m⟩)) fun f=>?_;clear g K;refine tk1 19 fun K g=>?_;go_simp;obtain ⟨o,bb,ab,h,X,hq⟩:=paw (aC) (.cells Tryz.zeroCells82 82);rw [<-ab,<-h];have bX:G.heap.size<=o:=(by have:=M.size;omega);have aa:=M.trans hq;clear ab h hq;refine tkK g ((by obtain ⟨_,k,r,_,m⟩:=v.out _ aa;exact ⟨k,r,m⟩)) fun f=>?_;clear g K;refine tk1 20 fun K g=>?_;rw [xH (by rfl)];refine bR X aE aA aD ?_;obtain ⟨al,h,ak,Y⟩:=aX X aa bX V;rw [<-h];clear h;refine tkK g ((by obtain ⟨_,k,r,_,m⟩:=v.out _ Y;exact ⟨k,r,m⟩)) fun f=>?_;clear g K;refine tkD ?_;exact hJ o al ak (ah Y) (ah bX)
    refine tkZ fun K g=>?_;go_simp;obtain ⟨o,aC,ab,h,a0,hq⟩:=paG G (.cells Tryz.zeroCells82 82);rw [<-ab,<-h];have bX:G.heap.size<=o:=(by omega);have M:=hq;clear ab h hq;refine tkK g ((by obtain ⟨_,k,r,_,m⟩:=v.out _ M;exact ⟨k,r,m⟩)) fun f=>?_;clear g K;refine tk1 18 fun K g=>?_;go_simp;refine (aI.out _ (U2.out.trans M)).mono ?_;rintro e bb ⟨rfl,hq⟩;have aa:=M.trans hq;have X:=ah (paa a0.out hq);clear hq;dsimp only;try rw [xH (by rfl)]
    refine tkK g ((by obtain ⟨_,k,r,_,m⟩:=v.out _ aa;exact ⟨k,r,m⟩)) fun f=>?_;clear g K;refine tk1 20 fun K g=>?_;rw [xH (by rfl)];refine bR X aE aA aD ?_;obtain ⟨al,h,ak,Y⟩:=aX X aa bX V;rw [<-h];clear h;refine tkK g ((by obtain ⟨_,k,r,_,m⟩:=v.out _ Y;exact ⟨k,r,m⟩)) fun f=>?_;clear g K;refine tkD ?_;exact hJ o al ak (ah Y) (ah bX)
   intro o w3 aJ af aQ;have bi:Hid (o≠gR):=by have:=aQ.out;have:=aP.out;show _≠_;omega
   obtain ⟨_,_,_,c3,_⟩:=v.out w3 af.out;have ck:=bC.out w3 (U2.out.trans af.out);obtain ⟨R0,ad⟩:=az ((rcV ((prR q (two2 n F) (two2 D t)) 0)).toArray);have a7:Hid (∀ W,Calls prog 23 #[.agg R0] W (MkS (pcg ((prR q (two2 n F) (two2 D t)) 0)) W)):=fun W=>by rw [ad];exact pdl _ (ag.out.2 0 (by omega)) (by show 5<=_;omega) W
   obtain ⟨R1,ai⟩:=az ((rcV ((prR q (two2 n F) (two2 D t)) 1)).toArray);have a4:Hid (∀ W,Calls prog 23 #[.agg R1] W (MkS (pcg ((prR q (two2 n F) (two2 D t)) 1)) W)):=fun W=>by rw [ai];exact pdl _ (ag.out.2 1 (by omega)) (by show 5<=_;omega) W
   have aq:Hid (∀ W,Uq w3 W->(Instr.loadAt 62 (.pointer (some ⟨o,0,none⟩))).run prog W=.ok (.agg R0) W/\(Instr.loadAt 62 (.pointer (some ⟨o,102,none⟩))).run prog W=.ok (.agg R1) W):=fun W u=>pfR ag.out.2 ag.out.1 ad ai (paa aJ.out u);have aF:=ah (paa RR.out af.out);have UW:=ah (U2.out.trans af.out);have aL:Uq w3 w3.drew:=uR.drew;have bd:=ah ad;have a5:=ah ai;clear ad ai;go_upto_region 8 with (fail)
   refine bH aq aL fun f=>?_;refine tkS [0,1,2,3] f ?_;refine tkL 4 f R0 (fun w O=>O.1) ?_;refine tkS [7,8] f ?_;refine tkL 9 f R1 (fun w O=>O.2) ?_;refine tk1 5 fun K g=>?_;go_simp;refine (a7.out _).mono ?_;rintro e x1 ⟨A,HA,_,rfl,hq⟩;have aK:=aL.trans hq;clear hq;dsimp only;try rw [xH (by rfl)]
   refine tkK g (aq.out _ aK) fun f=>?_;clear g K;refine tkT 6 f ?_ (y:=(pav (by rfl) 41 _ rfl #[id,.string A,.int .i64 0,.int .i64 0] (zP (xU (fun z=>prog.built 41 z) (by kernel_rfl)) (pfQ id A))));refine tk1 10 fun K g=>?_;go_simp;refine (a4.out _).mono ?_;rintro e x2 ⟨B,HB,_,rfl,hq⟩;have ac:=aK.trans hq;clear hq;obtain ⟨J,aB⟩:∃ E:EvdG,Hid (E=({ evd0 with kind:=6,who:=id,aw:=id,aT:=A,bw:=id,bT:=B }:EvdG)):=⟨_,rfl⟩;dsimp only;try rw [xH (by rfl)]
   refine tkK g (aq.out _ ac) fun f=>?_;clear g K;refine tkT 11 f ?_ (y:=(pav (by rfl) 41 _ rfl #[id,.string B,.int .i64 0,.int .i64 0] (zP (xU (fun z=>prog.built 41 z) (by kernel_rfl)) (pfQ id B))));refine tkT 12 f ?_ (y:=(pav (by rfl) 50 _ rfl J.V (zP (xU (fun z=>prog.built 50 z) (by kernel_rfl)) (by rw [aB.out];exact pkm 6 id A B))));refine tk1 13 fun K g=>?_;rw [xH (by rfl)];refine xM 50 _ _ rfl gR J.V rfl rfl _ _ (paa aF.out ac) (EvdG.info _) rfl (EvdG.one _) ?_;obtain ⟨x3,h⟩:=az (x2.setRow gR J.V);have R9:Fr x3 gR J.V 50:=(by show _=_;rw [h];exact xz _ _ _ _ _ _ (paa aF.out ac));have aG:=(UW.out.trans ac).setRowNew aP.out.1 J.V;have aH:=pal (paa aJ.out ac) bi.out J.V;rw [<-h] at aG aH ⊢;clear h;refine tkK g (pfR ag.out.2 ag.out.1 bd.out a5.out aH) fun f=>?_;clear g K;refine tkD ?_;go_wp2_with fail;refine bE R9 underlying50 J.info ⟨J,n,F,D,t,⟨⟨by rw [<-bt.out,au.out.1],.inl ⟨rfl,by rw [<-aZ.out.2.1,<-aZ.out.1,au.out.2.1],by rw [<-aZ.out.2.2,au.out.2.2.1],au.out.2.2.2.symm⟩⟩,q,A,B,ax.out.2.1,ax.out.1.symm,HA.out,HB.out,by rw [aB.out,ax.out.2.2]⟩,rfl,aG⟩
 · skip
   go_wp2_with fail;refine (bz.out _).mono ?_;rintro e w' ⟨rfl,rfl⟩;go_wp2_with fail;refine (bo.out _).mono ?_;rintro e w' ⟨rfl,rfl⟩;have ap:Uq G G.drew:=uR.drew;obtain ⟨n1,ao⟩:=ae (n+1);obtain ⟨F,am⟩:=ae (n1+m1);obtain ⟨D,an⟩:∃ x,5+m2=x:=⟨_,rfl⟩
   have f1:IntKind.i64.wrap (n+1)=n1:=by rw [pam (by omega) (by omega)];exact ao
   have f2:IntKind.i64.wrap (n1+m1)=F:=by rw [pam (by omega) (by omega)];exact am
   have f3:IntKind.i64.wrap (5+m2)=D:=by rw [pam (by omega) (by omega)];exact an
   obtain ⟨V,R⟩:=az ((rsV (prR q (two2 n F) (two2 D t)) 2).toArray);have aI:Hid (∀ W,Uq w W->Calls prog 22 #[.agg N,q,.agg #[n,F],.agg #[D,t]] W (Mk (.agg V) W)):=fun W u=>by rw [R];exact a1.out W u n F D t (by unfold pab;omega) (by unfold pab;omega) (by unfold pab;omega) (by unfold pab;omega)
   have H:∀ j,j<2->(prR q (two2 n F) (two2 D t) j).ok:=fun j hj=>pkl q _ _ j (by omega) (pcL (by unfold pab;omega) (by unfold pab;omega) j hj) (pcL (by unfold pab;omega) (by unfold pab;omega) j hj);have aE:Fi 82 V:=by show _=_;rw [R];exact pmH (pbW H 2)
   have aD:Fo V:=by show _=_;rw [R];exact plt H
   have aA:Hid ((Tryz.zeroCells82).size=V.size):=by show _=_;rw [<-hZ,br.out,R,yJ,yJ,pbW (fun _ _=>Rc.zero_ok),pbW H]
   have ag:=ah (xf R H);have aZ:=ah (xf ao (xf am an));have bg:=ah (pcl n F);have ba:=ah (pcl D t);clear R H ao am an;go_upto_region 4 with (fail)
   refine @_root_.id ((∀ (o:Nat) (W:World),Fr W o V 82->Hid (Uq G W)->Hid (G.heap.size<=o)->(?pj20:Nat->World->Prop) o W)->_) (fun hJ=>?mj20) ?jj20
   case mj20 =>
    refine bG (S:=fun Q=>Q.cell? ⟨gQ,1,none⟩=some (.int .i64 T)/\Q.cell? ⟨gQ,2,none⟩=some (.int .i64 q2)/\(Instr.loadAt 36 (.pointer (some ⟨gC,0,none⟩))).run prog Q=.ok (.agg N) Q) ((by obtain ⟨_,k,r,_,m⟩:=v.out _ ap;exact ⟨k,r,m⟩)) fun f=>?_;refine tkL 0 f N (fun w O=>O.2.2) ?_;refine tkS [1,2,3,4,5,6] f ?_;refine tkQ 7 f (bm.out) ?_;refine tkY 8 f ?_;refine tkT 9 f ?_ (y:=(pav (by rfl) 24 _ rfl #[n,F] (zP (xU (fun z=>prog.built 24 z) (by kernel_rfl)) bg.out)));refine tkS [10,11] f ?_;refine tkQ 12 f (bp.out) ?_;refine tkS [13,14,15] f ?_;refine tkQ 16 f (a8.out) ?_;refine tkT 17 f ?_ (y:=(pav (by rfl) 24 _ rfl #[D,t] (zP (xU (fun z=>prog.built 24 z) (by kernel_rfl)) ba.out)));refine tkA [18,19] ?_;refine tkC (fun K g=>?_) ?_
    · go_simp;refine (aI.out _ (U2.out.trans ap)).mono ?_;rintro e aC ⟨rfl,hq⟩;have M:=ap.trans hq;clear hq;dsimp only;try rw [xH (by rfl)]
      refine tkK g ((by obtain ⟨_,k,r,_,m⟩:=v.out _ M;exact ⟨k,r,m⟩)) fun f=>?_;clear g K;refine tk1 19 fun K g=>?_;go_simp;obtain ⟨o,bb,ab,h,X,hq⟩:=paw (aC) (.cells Tryz.zeroCells82 82);rw [<-ab,<-h];have bX:G.heap.size<=o:=(by have:=M.size;omega);have aa:=M.trans hq;clear ab h hq;refine tkK g ((by obtain ⟨_,k,r,_,m⟩:=v.out _ aa;exact ⟨k,r,m⟩)) fun f=>?_;clear g K;refine tk1 20 fun K g=>?_;rw [xH (by rfl)];refine bR X aE aA aD ?_;obtain ⟨al,h,ak,Y⟩:=aX X aa bX V;rw [<-h];clear h;refine tkK g ((by obtain ⟨_,k,r,_,m⟩:=v.out _ Y;exact ⟨k,r,m⟩)) fun f=>?_;clear g K;refine tkD ?_;exact hJ o al ak (ah Y) (ah bX)
    refine tkZ fun K g=>?_;go_simp;obtain ⟨o,aC,ab,h,a0,hq⟩:=paG G (.cells Tryz.zeroCells82 82);rw [<-ab,<-h];have bX:G.heap.size<=o:=(by omega);have M:=hq;clear ab h hq;refine tkK g ((by obtain ⟨_,k,r,_,m⟩:=v.out _ M;exact ⟨k,r,m⟩)) fun f=>?_;clear g K;refine tk1 18 fun K g=>?_;go_simp;refine (aI.out _ (U2.out.trans M)).mono ?_;rintro e bb ⟨rfl,hq⟩;have aa:=M.trans hq;have X:=ah (paa a0.out hq);clear hq;dsimp only;try rw [xH (by rfl)]
    refine tkK g ((by obtain ⟨_,k,r,_,m⟩:=v.out _ aa;exact ⟨k,r,m⟩)) fun f=>?_;clear g K;refine tk1 20 fun K g=>?_;rw [xH (by rfl)];refine bR X aE aA aD ?_;obtain ⟨al,h,ak,Y⟩:=aX X aa bX V;rw [<-h];clear h;refine tkK g ((by obtain ⟨_,k,r,_,m⟩:=v.out _ Y;exact ⟨k,r,m⟩)) fun f=>?_;clear g K;refine tkD ?_;exact hJ o al ak (ah Y) (ah bX)
   intro o w3 aJ af aQ;have bi:Hid (o≠gR):=by have:=aQ.out;have:=aP.out;show _≠_;omega
   obtain ⟨U,a6⟩:∃ x,6+t=x:=⟨_,rfl⟩
   have f6:IntKind.i64.wrap (6+t)=U:=by rw [pam (by omega) (by omega)];exact a6
   obtain ⟨V2,av⟩:=az ((rsV (prR q (two2 n n) (two2 5 U)) 2).toArray);have bZ:Hid (∀ W,Uq w W->Calls prog 22 #[.agg N,q,.agg #[n,n],.agg #[.int .i64 5,U]] W (Mk (.agg V2) W)):=fun W u=>by rw [av];exact a1.out W u n n 5 U (by unfold pab;omega) (by unfold pab;omega) (by unfold pab;omega) (by unfold pab;omega)
   have H:∀ j,j<2->(prR q (two2 n n) (two2 5 U) j).ok:=fun j hj=>pkl q _ _ j (by omega) (pcL (by unfold pab;omega) (by unfold pab;omega) j hj) (pcL (by unfold pab;omega) (by unfold pab;omega) j hj);have bD:Fi 82 V2:=by show _=_;rw [av];exact pmH (pbW H 2)
   have bJ:Fo V2:=by show _=_;rw [av];exact plt H
   have bI:Hid (V.size=V2.size):=by show _=_;rw [ag.out.1,av,yJ,yJ,pbW ag.out.2,pbW H]
   have ar:=ah (xf av H);have b5:=ah a6;have b6:=ah (pcl n n);have bP:=ah (pcl 5 U);have b4:=ah (U2.out.trans af.out);have bc:Uq w3 w3.drew:=uR.drew;clear av H a6;go_upto_region 6 with (fail)
   refine @_root_.id ((∀ (W:World),Fr W o V2 82->Hid (Uq G W)->(?pj33:World->Prop) W)->_) (fun hJ=>?mj33) ?jj33
   case mj33 =>
    refine bG (S:=fun Q=>Q.cell? ⟨gQ,1,none⟩=some (.int .i64 T)/\(Instr.loadAt 36 (.pointer (some ⟨gC,0,none⟩))).run prog Q=.ok (.agg N) Q) ((by obtain ⟨_,k,_,_,m⟩:=v.out _ (af.out.trans bc);exact ⟨k,m⟩)) fun f=>?_;refine tkL 0 f N (fun w O=>O.2) ?_;refine tkS [1,2,3] f ?_;refine tkT 4 f ?_ (y:=(pav (by rfl) 24 _ rfl #[n,n] (zP (xU (fun z=>prog.built 24 z) (by kernel_rfl)) b6.out)));refine tkS [5,6] f ?_;refine tkQ 7 f (a8.out) ?_;refine tkY 8 f ?_;refine tkT 9 f ?_ (y:=(pav (by rfl) 24 _ rfl #[.int .i64 5,U] (zP (xU (fun z=>prog.built 24 z) (by kernel_rfl)) bP.out)));refine tk1 10 fun K g=>?_;go_simp;refine (bZ.out _ (b4.out.trans bc)).mono ?_;rintro e x1 ⟨rfl,hq⟩;have aV:=bc.trans hq;clear hq;dsimp only;try rw [xH (by rfl)]
    refine tkK g ((by obtain ⟨_,k,_,_,m⟩:=v.out _ (af.out.trans aV);exact ⟨k,m⟩)) fun f=>?_;clear g K;refine tk1 11 fun K g=>?_;rw [xH (by rfl)];refine xM 82 _ _ rfl o V2 rfl rfl _ _ (paa aJ.out aV) bD.out bI.out bJ.out ?_;obtain ⟨x2,h⟩:=az (x1.setRow o V2);have R6:Fr x2 o V2 82:=(by show _=_;rw [h];exact xz _ _ _ _ _ _ (paa aJ.out aV));have a9:=(af.out.trans aV).setRowNew aQ.out V2;rw [<-h] at a9 ⊢;clear h;refine tkK g ((by obtain ⟨_,k,_,_,m⟩:=v.out _ a9;exact ⟨k,m⟩)) fun f=>?_;clear g K;refine tkD ?_;exact hJ x2 R6 (ah a9)
   intro w4 bn aY;obtain ⟨_,_,_,c3,_⟩:=v.out w4 aY.out;have ck:=bC.out w4 (U2.out.trans aY.out);obtain ⟨R0,ad⟩:=az ((rcV ((prR q (two2 n n) (two2 5 U)) 0)).toArray);have a7:Hid (∀ W,Calls prog 23 #[.agg R0] W (MkS (pcg ((prR q (two2 n n) (two2 5 U)) 0)) W)):=fun W=>by rw [ad];exact pdl _ (ar.out.2 0 (by omega)) (by show 5<=_;omega) W
   obtain ⟨R1,ai⟩:=az ((rcV ((prR q (two2 n n) (two2 5 U)) 1)).toArray);have a4:Hid (∀ W,Calls prog 23 #[.agg R1] W (MkS (pcg ((prR q (two2 n n) (two2 5 U)) 1)) W)):=fun W=>by rw [ai];exact pdl _ (ar.out.2 1 (by omega)) (by show 5<=_;omega) W
   have aq:Hid (∀ W,Uq w4 W->(Instr.loadAt 62 (.pointer (some ⟨o,0,none⟩))).run prog W=.ok (.agg R0) W/\(Instr.loadAt 62 (.pointer (some ⟨o,102,none⟩))).run prog W=.ok (.agg R1) W):=fun W u=>pfR ar.out.2 ar.out.1 ad ai (paa bn.out u);have aF:=ah (paa RR.out aY.out);have UW:=ah (U2.out.trans aY.out);have aL:Uq w4 w4.drew:=uR.drew;have bd:=ah ad;have a5:=ah ai;clear ad ai;go_upto_region 8 with (fail)
   refine bH aq aL fun f=>?_;refine tkS [0,1,2,3] f ?_;refine tkL 4 f R0 (fun w O=>O.1) ?_;refine tkS [7,8] f ?_;refine tkL 9 f R1 (fun w O=>O.2) ?_;refine tk1 5 fun K g=>?_;go_simp;refine (a7.out _).mono ?_;rintro e x1 ⟨A,HA,_,rfl,hq⟩;have aK:=aL.trans hq;clear hq;dsimp only;try rw [xH (by rfl)]
   refine tkK g (aq.out _ aK) fun f=>?_;clear g K;refine tkT 6 f ?_ (y:=(pav (by rfl) 41 _ rfl #[id,.string A,.int .i64 0,.int .i64 0] (zP (xU (fun z=>prog.built 41 z) (by kernel_rfl)) (pfQ id A))));refine tk1 10 fun K g=>?_;go_simp;refine (a4.out _).mono ?_;rintro e x2 ⟨B,HB,_,rfl,hq⟩;have ac:=aK.trans hq;clear hq;obtain ⟨J,aB⟩:∃ E:EvdG,Hid (E=({ evd0 with kind:=7,who:=id,aw:=id,aT:=A,bw:=id,bT:=B }:EvdG)):=⟨_,rfl⟩;dsimp only;try rw [xH (by rfl)]
   refine tkK g (aq.out _ ac) fun f=>?_;clear g K;refine tkT 11 f ?_ (y:=(pav (by rfl) 41 _ rfl #[id,.string B,.int .i64 0,.int .i64 0] (zP (xU (fun z=>prog.built 41 z) (by kernel_rfl)) (pfQ id B))));refine tkT 12 f ?_ (y:=(pav (by rfl) 50 _ rfl J.V (zP (xU (fun z=>prog.built 50 z) (by kernel_rfl)) (by rw [aB.out];exact pkm 7 id A B))));refine tk1 13 fun K g=>?_;rw [xH (by rfl)];refine xM 50 _ _ rfl gR J.V rfl rfl _ _ (paa aF.out ac) (EvdG.info _) rfl (EvdG.one _) ?_;obtain ⟨x3,h⟩:=az (x2.setRow gR J.V);have R9:Fr x3 gR J.V 50:=(by show _=_;rw [h];exact xz _ _ _ _ _ _ (paa aF.out ac));have aG:=(UW.out.trans ac).setRowNew aP.out.1 J.V;have aH:=pal (paa bn.out ac) bi.out J.V;rw [<-h] at aG aH ⊢;clear h;refine tkK g (pfR ar.out.2 ar.out.1 bd.out a5.out aH) fun f=>?_;clear g K;refine tkD ?_;go_wp2_with fail;refine bE R9 underlying50 J.info ⟨J,n,n,5,U,⟨⟨by rw [<-bt.out,au.out.1],.inr ⟨rfl,rfl,rfl,by rw [<-b5.out,au.out.2.2.2]⟩⟩,q,A,B,ax.out.2.1,ax.out.1.symm,HA.out,HB.out,by rw [aB.out,ax.out.2.2]⟩,rfl,aG⟩
theorem i64_small {n} (h:-1000000<=n/\n<=1000000):pab n:=by unfold pab;omega
theorem pko (q) (m:Int) (a:0<m) (c:m<=100000):0<=q % m/\q % m<100000:=by
 have:=yF q (by omega:m≠0);have:=yj q a;omega
theorem pgO {l g p c a X} (h:pmz l g p c a X) (t:c.ok) (u:a.ok) (E:c.x.size<=1000) (D:a.x.size<=1000) (q:pab g):EvOk 50000 X:=by
 obtain ⟨k,C,z,A,y,F,_,j,n,r,v,rfl⟩:=h;have f:pab ((k+1:Nat):Int):=by have:=pdi l;unfold pab;omega
 have d:=EvG.signed_ok (c.from_ok t f) (secN k);have e:=EvG.signed_ok (a.from_ok u f) (secN k);rw [<-j] at d;rw [<-n] at e;have o:C.x=c.x:=by rw [j];rfl
 have m:z.x=a.x:=by rw [n];rfl
 have B:=EvG.text_len d (by rw [o];omega);have w:=EvG.text_len e (by rw [m];omega);rw [<-r,pac,o] at B;rw [<-v,pac,m] at w;have h0:pab 0:=by unfold pab;omega
 exact ⟨⟨q,f⟩,⟨d.2.2.1,d.2.2.2.2.2.2⟩,⟨e.2.2.1,e.2.2.2.2.2.2⟩,⟨h0,h0⟩,⟨h0,h0,h0,h0⟩,by show A.size<=_;omega,by show y.size<=_;omega,0,0,pa3.symm,pa3.symm,by omega,by omega⟩
theorem pkp (l L K P E S C J w) (hC:CaseRd l w L K P E S C J) (t D f p g) (ad:pab D) (ac:pab f) (ab:pab p) (af:pab g) (hk:1<=t/\t<=7) :
 Calls prog 6 #[.agg (csV L K P E S C J),.int .i64 t,.int .i64 D,.agg #[.int .i64 f,.int .i64 p,.int .i64 g]] w (MkBt 50000 w):=by
 have h0:pab 0:=by unfold pab;omega
 by_cases an:t<=5
 · have a0:=pko f 50 (by omega) (by omega);have a1:=pko p 9 (by omega) (by omega);have a2:=pko g 3 (by omega) (by omega);refine (pkg t (by omega) l L K P E S C J w hC D f p g ad ac ab af).mono ?_;rintro e w' ⟨X,Y,rfl,Z⟩;refine ⟨X,?_,rfl,Z⟩;have v:pab (f % 50):=i64_small (by omega);have u:pab (1+p % 9):=i64_small (by omega);have b2:pab (f % 50+g % 3):=i64_small (by omega);rcases Y.out with ⟨_,h⟩ | ⟨_,h⟩ | ⟨_,h⟩ | ⟨_,h⟩ | ⟨_,h⟩
   · exact pgO h (pbL _ v u) (pbL _ v u) (by show 3<=_;omega) (by show 3<=_;omega) (i64_small (by omega))
   · obtain ⟨TX,k,y,_,_,_,_,hz,hp⟩:=h;have h5:=pbL TX v u;exact pgO hp ⟨h5.1,i64_small (by show -1000000<=(5:Int)/\(5:Int)<=1000000;omega),h5.2.2⟩ (pbL _ v u) (by show TX.size<=_;omega) (by show 3<=_;omega) (i64_small (by omega))
   · obtain ⟨k,fx,ax,R,r,s,F,A,T,aj,_,aq,ap,ai,hF,O,Q,W,U,rfl⟩:=h;have c0:=yF f (by omega:(100:Int)≠0);have c1:=yj f (by omega:(0:Int)<100);have c2:=yj p (by omega:(0:Int)<1000);have c3:=yj g (by omega:(0:Int)<1000);have al:R<=1000:=by rw [ai];split <;> omega
     have i1:pab (f % 100):=i64_small (by omega);have H:pab (f % 100+1):=i64_small (by omega);have z:=pcv (x:=fx) (y:=R) i1 H (by omega) (by omega);rw [<-Q,pac] at z;have o:pab ((k+1:Nat):Int):=by have:=pdi l;unfold pab;omega
     have N:=pdL (secN k) (nonceN (secN k) (bs T)) (bs T);have M:pab (s:Int):=by rw [U];unfold pab;unfold Qn at N;omega
     exact ⟨⟨i64_small (by show -1000000<=(3:Int)/\(3:Int)<=1000000;omega),o⟩,⟨o,by show pab (r:Int);rw [W];exact plf _,M⟩,⟨h0,h0,h0⟩,⟨i1,H⟩,⟨h0,h0,h0,h0⟩,by show T.size<=_;omega,by show 0<=_;omega,fx,R,hF,O,by omega,by omega⟩
   · exact pgO h (pbL _ v u) (pbL _ b2 u) (by show 3<=_;omega) (by show 3<=_;omega) (i64_small (by omega))
   · obtain ⟨k,aj,_,d,T,n,m,r,s,ck,c1,c2,hd,_,_,_,Q,W,U,hn,ao,ak,am,rfl⟩:=h;have e2:=pko g 8 (by omega) (by omega);have H:pab (g % 8 / 7):=i64_small (by omega);have z:=phI hd H;rw [<-Q,pac] at z;have o:pab ((k+1:Nat):Int):=by have:=pdi l;unfold pab;omega
     have N:=pdL (secN k) (nonceN (secN k) (bs T)) (bs T);have M:pab (s:Int):=by rw [U];unfold pab;unfold Qn at N;omega
     refine ⟨⟨i64_small (by show -1000000<=(5:Int)/\(5:Int)<=1000000;omega),o⟩,⟨o,by show pab (r:Int);rw [W];exact plf _,M⟩,⟨h0,h0,h0⟩,⟨h0,h0⟩,⟨?_,?_,?_,?_⟩,by show T.size<=_;omega,by show 0<=_;omega,0,0,pa3.symm,pa3.symm,by omega,by omega⟩
     · show pab (n:Int);unfold pab;omega
     · show pab (ck:Int);unfold pab;omega
     · show pab (c1:Int);unfold pab;omega
     · show pab (c2:Int);unfold pab;omega
 · refine (pkn l L K P E S C J w hC t D f p g (by omega) ad ac ab af).mono ?_;rintro e w' ⟨X,a,b,c,d,Y,rfl,Z⟩;refine ⟨X,?_,rfl,Z⟩;obtain ⟨⟨ha,ag⟩,q,A,B,hq,_,O,hB,rfl⟩:=Y.out;have e0:=pko f 100 (by omega) (by omega);have e1:=pko p 9 (by omega) (by omega);have e2:=pko g 9 (by omega) (by omega);have e3:=pko p 5 (by omega) (by omega);have G:pab a/\pab b/\pab c/\pab d:=by
    rcases ag with ⟨_,h1,h2,h3⟩ | ⟨_,h1,h2,h3⟩ <;> exact ⟨i64_small (by omega),i64_small (by omega),i64_small (by omega),i64_small (by omega)⟩
   have aa:∀ (T:ByteArray) j,j<2->bs T=pcg (prR q (two2 a b) (two2 c d) j)->T.size<=50000:=fun T j hj h=>by
    have z:=pi2 (pkl q (two2 a b) (two2 c d) j hq (pcL G.1 G.2.1 j hj) (pcL G.2.2.1 G.2.2.2 j hj));rw [<-h,pac] at z;have:(prR q (two2 a b) (two2 c d) j).draw.size=5:=rfl;omega
   have o:pab (70+(q:Int)):=i64_small (by omega);exact ⟨⟨i64_small (by show -1000000<=t/\t<=1000000;omega),o⟩,⟨o,h0,h0⟩,⟨o,h0,h0⟩,⟨h0,h0⟩,⟨h0,h0,h0,h0⟩,aa A 0 (by omega) O,aa B 1 (by omega) hB,0,0,pa3.symm,pa3.symm,by omega,by omega⟩
theorem prr {a b} (d:memN a) (c:memN b):memN (a * b % Pn):=by
 have e:(a * b % Pn) ^ Qn % Pn=1:=by
  rw [<-vu,Nat.mul_pow,uH,d.2.2,c.2.2];unfold Pn;decide
 have h:=pkw e 1
 rwa [Nat.pow_one,Nat.mod_mod] at h
theorem ps3:memN 1:=⟨by omega,by unfold Pn;decide,by rw [Nat.one_pow];unfold Pn;decide⟩
theorem pmo (j):∀ (ds:List Dl) (c:Nat),memN c->(∀ d∈ds,memN (d.coms.getD j 0))->memN (ds.foldl (fun c d=>c * pP (d.coms.getD j 0) 1 % Pn) c)
 | [],c,hc,_=>hc
 | d :: r,c,hc,h=>by
  have h1:memN (pP (d.coms.getD j 0) 1):=by
   have:=pkw (h d (by simp)).2.2 1;exact this
  exact pmo j r _ (prr hc h1) (fun x a=>h x (by simp [a]))
theorem prs {ds j} (h:∀ d∈ds,memN (d.coms.getD j 0)):memN (mixN ds j):=pmo j ds 1 ps3 h
theorem prt {ds k} (h:∀ j,j<k->∀ d∈ds,memN (d.coms.getD j 0)):∀ c∈mixL ds k,memN c:=by
 intro c e;obtain ⟨j,a,rfl⟩:=zh.1 e;exact prs (h j (uv.1 a))
end Go.Proofs.YtkhjolbbpdaplaaGreatDoor
