/- court.partial and what follows. -/
import Derived.Test.YtkhjolbbpdaplaaGreatDoorHBC
namespace Go.Proofs.YtkhjolbbpdaplaaGreatDoor
set_option maxHeartbeats 8000000
open Go.RowKit Go.Proofs.Tryz
set_option maxRecDepth 100000
theorem pb9 {P D p F v E d c} (h:D.results=#[.cell p d,.tmp F,.cell v c,.tmp E]) (a w k f q r g j m o t u)
 (Q:a.getD p undef=.pointer (some ⟨k,0,none⟩)) (B:w.heap[k]? =some (.cells g q m)) (y:P.underlying d=some t) (J:t.isRow=true) (A:(P.info? d).map (·.size)=some g.size)
 (K:a.getD v undef=.pointer (some ⟨f,0,none⟩)) (z:w.heap[f]? =some (.cells j r o)) (x:P.underlying c=some u) (M:u.isRow=true) (C:(P.info? c).map (·.size)=some j.size) :
 (results D a).run P w=.ok (.tuple #[.agg g,a.getD F undef,.agg j,a.getD E undef]) w:=by
 have O:(loadVar d ⟨k,0,none⟩).run P w=.ok (.agg g) w:=by
  cases t with
  | struct fs=>exact zu w k q d g m _ B y rfl A
  | array n e=>exact zu w k q d g m _ B y rfl A
  | _=>cases J
 have N:(loadVar c ⟨f,0,none⟩).run P w=.ok (.agg j) w:=by
  cases u with
  | struct fs=>exact zu w f r c j o _ z x rfl C
  | array n e=>exact zu w f r c j o _ z x rfl C
  | _=>cases M
 simp only [results,h];have H:a[p]?.getD undef=.pointer (some ⟨k,0,none⟩):=by rw [<-Q];simp
 have G:a[v]?.getD undef=.pointer (some ⟨f,0,none⟩):=by rw [<-K];simp
 simp [Sem.run_bind,Result.andThen,H,G,asAddr,O,N]
def pft (l:List UInt8) (ev:EvG) (ep x v c z:Int):Prop:=pat (preE ++ l) ev/\ev.k=5/\pab ep/\∃ r,bs ev.x=Lib.itoa ep ++ 32 :: r/\pgW r x v c z
def puz (l:List UInt8) (w:World) (e:Ending) (w':World):Prop :=
 ∃ (EV:Array Value) (ep x v c z:Int) (ok:Bool),Hid ((Tryz.prog.info? 71).map (·.size)=some EV.size/\EV.all (·.oneCell')=true/\evZ.toArray.size=EV.size)/\Hid ((ok=true/\∃ ev,EV=ev.V.toArray/\pft l ev ep x v c z)\/(ok=false/\∀ ev ep x v c z,¬ pft l ev ep x v c z))/\e=.returned (.tuple #[.agg EV,ep,.agg #[x,v,c,z],.bool ok])/\Upd [] [] w w'
theorem peF (x v c z):(#[.int .i64 x,.int .i64 v,.int .i64 c,.int .i64 z]:Array Value).all (·.oneCell')=true:=by simp [Value.oneCell']
theorem pbu {x v c z W g a} (d:a=#[.int .i64 x,.int .i64 v,.int .i64 c,.int .i64 z]) (h:W.heap[g]? =some (.cells a 86 (0,0))):(Instr.loadAt 86 (.pointer (some ⟨g,0,none⟩))).run prog W=.ok (.agg a) W:=by
 subst d;exact xL W g 0 86 [.int .i64 x,.int .i64 v,.int .i64 c,.int .i64 z] _ (pb5 (R:=#[.int .i64 x,.int .i64 v,.int .i64 c,.int .i64 z]) rfl h) underlying86 rfl (pdo x v c z)
theorem pa5 {W g a} (c:(prog.info? 71).map (·.size)=some a.size) (h:W.heap[g]? =some (.cells a 71 (0,0))):(Instr.loadAt 71 (.pointer (some ⟨g,0,none⟩))).run prog W=.ok (.agg a) W :=
 xL W g 0 71 a.toList _ (pb5 (by simp) h) underlying71 rfl (by rw [uQ];exact c)
theorem pgD (T) (hT:T.size<=900000) (w) (ao:Tabs w):Calls prog 163 #[.string T] w (puz (bs T) w):=by
 obtain ⟨gE,ax⟩:=ae (w.heap.size);obtain ⟨w0,aw⟩:=ae (w.alloc (.cells zZ0 71));have r0:w0.heap[gE]? =some (.cells evZ.toArray 71 (0,0)):=by rw [<-ax,<-aw,paH];exact xi _ _
 have u0:=aU aw;obtain ⟨j,aP⟩:=ae (w0.heap.size);obtain ⟨w1,aE⟩:=ae (w0.alloc (.cells #[.int .i64 0,.int .i64 0,.int .i64 0,.int .i64 0] 86));have r1:w1.heap[j]? =some (.cells ptZ 86 (0,0)):=aW aP aE;have u1:=aU aE;have Q:Hid (gE≠j):=by have:=paf r0;show _≠_;omega
 have aj:Hid (w.heap.size<=gE):=xJ ax;have ad:Hid (w.heap.size<=j):=by have:=u0.size;show _<=_;omega
 have aL:=ah (paa r0 u1);have aR:=ah r1;have U1:=ah (u0.trans u1);have a1:=ah (pja T (by omega) w1 (ao.upd U1.out));have HL:Hid ((preE ++ bs T).length<=1000000000):=by show _<=_;rw [xr,pac];have:preE.length=4:=rfl;omega
 have ay:Hid ((preE ++ bs T).length<=1000000):=by show _<=_;rw [xr,pac];have:preE.length=4:=rfl;omega
 clear r0 u0 r1 u1 hT;go_in;go_wp2_with fail;refine a1.out.mono ?_;rintro e w2 ⟨g,b,HE,rfl,hq⟩;have o:=ah HE.out.info.1;have U:=ah HE.out.info.2.1;have ai:=ah HE.out.info.2.2;have aq:=ah (paa aL.out hq);have a2:=ah (paa aR.out hq);have U2:=ah (U1.out.trans hq);obtain ⟨E,an⟩:=ae (w2.setRow gE g);have af:=bX an aq;have aF:Fr E j ptZ 86:=by show _=_;rw [<-an];exact pal a2.out Q.out.symm _
 have U3:Hid (Uq w E):=by show Upd _ _ _ _;rw [<-an];exact U2.out.setRowNew aj.out _
 have aH:=ah an;clear hq a1 aL aR an a2 U2 U1 ax aP aw aE;go_upto_region 2 with (first | (refine bS aq o ai U aH ?_))
 cases b with
 | false =>
  have ac:Hid (∀ D ep x v c z,¬ pft (bs T) D ep x v c z):=fun D ep x v c z h=>by
   rcases HE.out with ⟨h1,_⟩ | ⟨_,hn,_⟩
   · cases h1
   · exact hn D h.1
  obtain ⟨d,R⟩:∃ d:Array Value,d=#[.int .i64 0,.int .i64 0,.int .i64 0,.int .i64 0]:=⟨_,rfl⟩
  have B:=ah R;have P:Fi 86 d:=by rw [R];exact pdo _ _ _ _
  have ab:Fo d:=by rw [R];exact peF _ _ _ _
  have am:Fr E j d 86:=by show _=_;rw [R];exact aF.out
  clear R HE aq aH;have t:=ah (paa af.out (show Uq E E.drew from uR.drew));have F:=ah (paa am.out (show Uq E E.drew from uR.drew));have O:=ah (U3.out.trans (show Uq E E.drew from uR.drew));go_upto_region 3 with (fail)
  refine @_root_.id ((∀ W:World,Fr W gE g 71->Fr W j d 86->Hid (Uq w W)->(?pj1:World->Prop) W)->_) (fun hJ=>?mj1) ?jj1
  case mj1 =>
   refine bG (S:=fun C=>(Instr.loadAt 71 (.pointer (some ⟨gE,0,none⟩))).run prog C=.ok (.agg g) C/\(Instr.loadAt 86 (.pointer (some ⟨j,0,none⟩))).run prog C=.ok (.agg d) C) (⟨pa5 o.out t.out,pbu B.out F.out⟩) fun m=>?_;refine tkL 0 m g (fun w H=>H.1) ?_;refine tkL 1 m d (fun w H=>H.2) ?_;refine tk1 2 fun K p=>?_;rw [xH (by rfl)];refine bR t o rfl U ?_;obtain ⟨A,a⟩:=az (E.drew.setRow gE g);have M:Fr A gE g 71:=(by show _=_;rw [a];exact xz _ _ _ _ _ _ t.out);have G:Fr A j d 86:=(by show _=_;rw [a];exact pal F.out Q.out.symm g);have X:Hid (Uq w A):=(by show Upd _ _ _ _;rw [a];exact O.out.setRowNew aj.out g);rw [<-a];clear a;refine tkK p (⟨pa5 o.out M.out,pbu B.out G.out⟩) fun m=>?_;clear p K;refine tkY 3 m ?_;refine tk1 4 fun K p=>?_;rw [xH (by rfl)];refine bR G P rfl ab ?_;obtain ⟨u,a⟩:=az (A.setRow j d);have J:Fr u j d 86:=(by show _=_;rw [a];exact xz _ _ _ _ _ _ G.out);have N:Fr u gE g 71:=(by show _=_;rw [a];exact pal M.out Q.out d);have Y:Hid (Uq w u):=(by show Upd _ _ _ _;rw [a];exact X.out.setRowNew ad.out d);rw [<-a];clear a;refine tkK p (⟨pa5 o.out N.out,pbu B.out J.out⟩) fun m=>?_;clear p K;refine tkY 5 m ?_;refine tkD ?_;exact hJ u N J Y
  intro wZ Z aa UZ;clear t F O;go_wp2_with fail;refine xI (pb9 rfl _ _ gE j _ _ g d _ _ _ _ rfl Z.out underlying71 rfl o.out rfl aa.out underlying86 rfl P.out) rfl ?_;rw [B.out];exact ⟨g,0,_,_,_,_,false,ah (xf o.out (xf U.out ai.out)),.inr ⟨rfl,ac.out⟩,rfl,UZ.out⟩
 | true =>
  obtain ⟨D,hc,ar⟩:∃ D,pat (preE ++ bs T) D/\g=D.V.toArray:=by
   rcases HE.out with ⟨_,h⟩ | ⟨h,_⟩
   · exact h
   · cases h
  have HC:=ah hc;have HV:=ah ar;obtain ⟨k,hk⟩:=az (D.k);obtain ⟨tx,ap⟩:=az (D.x);have cK:E.cell? ⟨gE,1,none⟩=some (.int .i64 k):=(xa _ gE 1 _ _ _ af.out).trans (by rw [ar,hk];rfl);have cX:E.cell? ⟨gE,5,none⟩=some (.string tx):=(xa _ gE 5 _ _ _ af.out).trans (by rw [ar,ap];rfl);have ag:=ah (xf hk ap);have au:Hid (∀ f,pat (preE ++ bs T) f->f=D):=fun f hf=>pdQ hf HC.out (by have:=hf.size;have:=ay.out;omega) (by have:=HC.out.size;have:=ay.out;omega);have a9:tx.size<=1000000:=by rw [ap];have:=hc.size;have:=ay.out;omega
  obtain ⟨d,R⟩:∃ d:Array Value,d=#[.int .i64 0,.int .i64 0,.int .i64 0,.int .i64 0]:=⟨_,rfl⟩
  have B:=ah R;have P:Fi 86 d:=by rw [R];exact pdo _ _ _ _
  have ab:Fo d:=by rw [R];exact peF _ _ _ _
  have am:Fr E j d 86:=by show _=_;rw [R];exact aF.out
  clear R HE aq aH hc ar hk ap;by_cases h5:k=5
  case neg =>
   have ac:Hid (∀ D ep x v c z,¬ pft (bs T) D ep x v c z):=fun f ep x v c z h=>by
    rw [au.out f h.1] at h;exact h5 (ag.out.1.trans h.2.1)
   have t:=ah (paa af.out (show Uq E E.drew from uR.drew));have F:=ah (paa am.out (show Uq E E.drew from uR.drew));have O:=ah (U3.out.trans (show Uq E E.drew from uR.drew));go_upto_region 3 with (fail)
   refine @_root_.id ((∀ W:World,Fr W gE g 71->Fr W j d 86->Hid (Uq w W)->(?pj4:World->Prop) W)->_) (fun hJ=>?mj4) ?jj4
   case mj4 =>
    refine bG (S:=fun C=>(Instr.loadAt 71 (.pointer (some ⟨gE,0,none⟩))).run prog C=.ok (.agg g) C/\(Instr.loadAt 86 (.pointer (some ⟨j,0,none⟩))).run prog C=.ok (.agg d) C) (⟨pa5 o.out t.out,pbu B.out F.out⟩) fun m=>?_;refine tkL 0 m g (fun w H=>H.1) ?_;refine tkL 1 m d (fun w H=>H.2) ?_;refine tk1 2 fun K p=>?_;rw [xH (by rfl)];refine bR t o rfl U ?_;obtain ⟨A,a⟩:=az (E.drew.setRow gE g);have M:Fr A gE g 71:=(by show _=_;rw [a];exact xz _ _ _ _ _ _ t.out);have G:Fr A j d 86:=(by show _=_;rw [a];exact pal F.out Q.out.symm g);have X:Hid (Uq w A):=(by show Upd _ _ _ _;rw [a];exact O.out.setRowNew aj.out g);rw [<-a];clear a;refine tkK p (⟨pa5 o.out M.out,pbu B.out G.out⟩) fun m=>?_;clear p K;refine tkY 3 m ?_;refine tk1 4 fun K p=>?_;rw [xH (by rfl)];refine bR G P rfl ab ?_;obtain ⟨u,a⟩:=az (A.setRow j d);have J:Fr u j d 86:=(by show _=_;rw [a];exact xz _ _ _ _ _ _ G.out);have N:Fr u gE g 71:=(by show _=_;rw [a];exact pal M.out Q.out d);have Y:Hid (Uq w u):=(by show Upd _ _ _ _;rw [a];exact X.out.setRowNew ad.out d);rw [<-a];clear a;refine tkK p (⟨pa5 o.out N.out,pbu B.out J.out⟩) fun m=>?_;clear p K;refine tkY 5 m ?_;refine tkD ?_;exact hJ u N J Y
   intro wZ Z aa UZ;clear t F O;go_wp2_with fail;refine xI (pb9 rfl _ _ gE j _ _ g d _ _ _ _ rfl Z.out underlying71 rfl o.out rfl aa.out underlying86 rfl P.out) rfl ?_;rw [B.out];exact ⟨g,0,_,_,_,_,false,ah (xf o.out (xf U.out ai.out)),.inr ⟨rfl,ac.out⟩,rfl,UZ.out⟩
  have bg:=ah h5;have aN:=ah (pc7 tx 32 E (by omega) (ao.upd U3.out));go_wp2_with fail;refine aN.out.mono ?_;rintro e w4 ⟨l,r,q,a0,HR,HQ,hl,hr,rfl,hq⟩;have aI:=ah (paa af.out hq);have aA:=ah (paa am.out hq);have U4:=ah (U3.out.trans hq);have aV:Hid (l.size<=1000000/\r.size<=1000000):=⟨by omega,by omega⟩
  clear hq aN cK cX h5 hl hr a9 af aF am U3
  cases q with
  | false =>
   have ac:Hid (∀ D ep x v c z,¬ pft (bs T) D ep x v c z):=fun f ep x v c z h=>by
    rw [au.out f h.1] at h;obtain ⟨_,_,_,y,hy,_⟩:=h;have e:=HQ.out;rw [ag.out.2,hy,pbH 32 _ _ (itoa_no32 _)] at e
    cases e
   have t:=ah (paa aI.out (show Uq w4 w4.drew from uR.drew));have F:=ah (paa aA.out (show Uq w4 w4.drew from uR.drew));have O:=ah (U4.out.trans (show Uq w4 w4.drew from uR.drew));go_upto_region 6 with (fail)
   refine @_root_.id ((∀ W:World,Fr W gE g 71->Fr W j d 86->Hid (Uq w W)->(?pj7:World->Prop) W)->_) (fun hJ=>?mj7) ?jj7
   case mj7 =>
    refine bG (S:=fun C=>(Instr.loadAt 71 (.pointer (some ⟨gE,0,none⟩))).run prog C=.ok (.agg g) C/\(Instr.loadAt 86 (.pointer (some ⟨j,0,none⟩))).run prog C=.ok (.agg d) C) (⟨pa5 o.out t.out,pbu B.out F.out⟩) fun m=>?_;refine tkL 0 m g (fun w H=>H.1) ?_;refine tkL 1 m d (fun w H=>H.2) ?_;refine tk1 2 fun K p=>?_;rw [xH (by rfl)];refine bR t o rfl U ?_;obtain ⟨A,a⟩:=az (w4.drew.setRow gE g);have M:Fr A gE g 71:=(by show _=_;rw [a];exact xz _ _ _ _ _ _ t.out);have G:Fr A j d 86:=(by show _=_;rw [a];exact pal F.out Q.out.symm g);have X:Hid (Uq w A):=(by show Upd _ _ _ _;rw [a];exact O.out.setRowNew aj.out g);rw [<-a];clear a;refine tkK p (⟨pa5 o.out M.out,pbu B.out G.out⟩) fun m=>?_;clear p K;refine tkY 3 m ?_;refine tk1 4 fun K p=>?_;rw [xH (by rfl)];refine bR G P rfl ab ?_;obtain ⟨u,a⟩:=az (A.setRow j d);have J:Fr u j d 86:=(by show _=_;rw [a];exact xz _ _ _ _ _ _ G.out);have N:Fr u gE g 71:=(by show _=_;rw [a];exact pal M.out Q.out d);have Y:Hid (Uq w u):=(by show Upd _ _ _ _;rw [a];exact X.out.setRowNew ad.out d);rw [<-a];clear a;refine tkK p (⟨pa5 o.out N.out,pbu B.out J.out⟩) fun m=>?_;clear p K;refine tkY 5 m ?_;refine tkD ?_;exact hJ u N J Y
   intro wZ Z aa UZ;clear t F O;go_wp2_with fail;refine xI (pb9 rfl _ _ gE j _ _ g d _ _ _ _ rfl Z.out underlying71 rfl o.out rfl aa.out underlying86 rfl P.out) rfl ?_;rw [B.out];exact ⟨g,0,_,_,_,_,false,ah (xf o.out (xf U.out ai.out)),.inr ⟨rfl,ac.out⟩,rfl,UZ.out⟩
  | true =>
   have av:Hid (Lib.cut (bs tx) [32]=(bs l,bs r,true)):=Prod.ext a0.out.symm (Prod.ext HR.out.symm HQ.out.symm);have bd:Hid (bs tx=bs l ++ 32 :: bs r):=ph1 av.out;have aQ:=ah (pfG l w4 (by have:=aV.out;omega) (ao.upd U4.out));clear a0 HR HQ;go_wp2_with fail;refine aQ.out.mono ?_;rintro e w5 ⟨ep,ok,aJ,aM,rfl,hq⟩;have aG:=ah (paa aI.out hq);have aB:=ah (paa aA.out hq);have U5:=ah (U4.out.trans hq);have ba:=ah aM;clear hq aQ aI aA U4 aM
   cases ok with
   | false =>
    have ac:Hid (∀ D ep x v c z,¬ pft (bs T) D ep x v c z):=fun f n x v c z h=>by
     rw [au.out f h.1] at h;obtain ⟨_,_,hn,y,hy,_⟩:=h;have e:=av.out;rw [ag.out.2,hy,pbH 32 _ _ (itoa_no32 _)] at e;injection e with e _;exact aJ.out.2.2 rfl ⟨n,hn,e.symm⟩
    have t:=ah (paa aG.out (show Uq w5 w5.drew from uR.drew));have F:=ah (paa aB.out (show Uq w5 w5.drew from uR.drew));have O:=ah (U5.out.trans (show Uq w5 w5.drew from uR.drew));go_upto_region 9 with (fail)
    refine @_root_.id ((∀ W:World,Fr W gE g 71->Fr W j d 86->Hid (Uq w W)->(?pj10:World->Prop) W)->_) (fun hJ=>?mj10) ?jj10
    case mj10 =>
     refine bG (S:=fun C=>(Instr.loadAt 71 (.pointer (some ⟨gE,0,none⟩))).run prog C=.ok (.agg g) C/\(Instr.loadAt 86 (.pointer (some ⟨j,0,none⟩))).run prog C=.ok (.agg d) C) (⟨pa5 o.out t.out,pbu B.out F.out⟩) fun m=>?_;refine tkL 0 m g (fun w H=>H.1) ?_;refine tkL 1 m d (fun w H=>H.2) ?_;refine tk1 2 fun K p=>?_;rw [xH (by rfl)];refine bR t o rfl U ?_;obtain ⟨A,a⟩:=az (w5.drew.setRow gE g);have M:Fr A gE g 71:=(by show _=_;rw [a];exact xz _ _ _ _ _ _ t.out);have G:Fr A j d 86:=(by show _=_;rw [a];exact pal F.out Q.out.symm g);have X:Hid (Uq w A):=(by show Upd _ _ _ _;rw [a];exact O.out.setRowNew aj.out g);rw [<-a];clear a;refine tkK p (⟨pa5 o.out M.out,pbu B.out G.out⟩) fun m=>?_;clear p K;refine tkY 3 m ?_;refine tk1 4 fun K p=>?_;rw [xH (by rfl)];refine bR G P rfl ab ?_;obtain ⟨u,a⟩:=az (A.setRow j d);have J:Fr u j d 86:=(by show _=_;rw [a];exact xz _ _ _ _ _ _ G.out);have N:Fr u gE g 71:=(by show _=_;rw [a];exact pal M.out Q.out d);have Y:Hid (Uq w u):=(by show Upd _ _ _ _;rw [a];exact X.out.setRowNew ad.out d);rw [<-a];clear a;refine tkK p (⟨pa5 o.out N.out,pbu B.out J.out⟩) fun m=>?_;clear p K;refine tkY 5 m ?_;refine tkD ?_;exact hJ u N J Y
    intro wZ Z aa UZ;clear t F O;go_wp2_with fail;refine xI (pb9 rfl _ _ gE j _ _ g d _ _ _ _ rfl Z.out underlying71 rfl o.out rfl aa.out underlying86 rfl P.out) rfl ?_;rw [B.out];exact ⟨g,0,_,_,_,_,false,ah (xf o.out (xf U.out ai.out)),.inr ⟨rfl,ac.out⟩,rfl,UZ.out⟩
   | true =>
    have bc:Hid (bs l=Lib.itoa ep):=aJ.out.2.1 rfl;have aT:=ah (pnx r aV.out.2 w5 (ao.upd U5.out));clear aJ;go_wp2_with fail;refine aT.out.mono ?_;rintro e w6 ⟨x,v,c,z,aD,a8,rfl,hq⟩;have aS:=ah (paa aG.out hq);have aC:=ah (paa aB.out hq);have U6:=ah (U5.out.trans hq);have a3:Hid (d.size=4):=by show _=_;rw [B.out];rfl
    obtain ⟨QV,ak⟩:∃ QV:Array Value,QV=#[.int .i64 x,.int .i64 v,.int .i64 c,.int .i64 z]:=⟨_,rfl⟩
    rw [<-ak];obtain ⟨w7,al⟩:=ae (w6.setRow j QV);have a5:=bX al aC;have bb:Fr w7 gE g 71:=by show _=_;rw [<-al];exact pal aS.out Q.out _
    have U7:Hid (Uq w w7):=by show Upd _ _ _ _;rw [<-al];exact U6.out.setRowNew ad.out _
    have aZ:=ah al;have aY:Hid (d.size=QV.size):=by show _=_;rw [a3.out,ak];rfl
    have a7:=ah ak;have aO:Fi 86 QV:=by rw [ak];exact pdo _ _ _ _
    have aK:Fo QV:=by rw [ak];exact peF _ _ _ _
    clear hq aT aG aB U5 ak al;go_wp2_with (refine bS aC aO aY aK aZ ?_)
    clear aC aZ aY B P ab a3 aS U6;have a4:Hid ((aD=true/\∃ D,g=D.V.toArray/\pft (bs T) D ep x v c z)\/(aD=false/\∀ D ep x v c z,¬ pft (bs T) D ep x v c z)):=by
     rcases a8.out with ⟨h,hp⟩ | ⟨h,hp,_⟩
     · refine .inl ⟨h,D,HV.out,HC.out,ag.out.1.symm.trans bg.out,ba.out,bs r,?_,hp⟩;rw [<-ag.out.2,bd.out,bc.out]
     · refine .inr ⟨h,fun f n x v c z hf=>?_⟩;rw [au.out f hf.1] at hf;obtain ⟨_,_,hn,y,hy,a6⟩:=hf;have e:=av.out;rw [ag.out.2,hy,pbH 32 _ _ (itoa_no32 _)] at e;injection e with _ e;injection e with e _;exact hp x v c z (e ▸ a6)
    obtain ⟨d,bf⟩:=az (QV);subst bf;have B:=a7;have P:=aO;have ab:=aK;have t:=ah (paa bb.out (show Uq w7 w7.drew from uR.drew));have F:=ah (paa a5.out (show Uq w7 w7.drew from uR.drew));have O:=ah (U7.out.trans (show Uq w7 w7.drew from uR.drew));go_upto_region 11 with (fail)
    refine @_root_.id ((∀ W:World,Fr W gE g 71->Fr W j d 86->Hid (Uq w W)->(?pj13:World->Prop) W)->_) (fun hJ=>?mj13) ?jj13
    case mj13 =>
     refine bG (S:=fun C=>(Instr.loadAt 71 (.pointer (some ⟨gE,0,none⟩))).run prog C=.ok (.agg g) C/\(Instr.loadAt 86 (.pointer (some ⟨j,0,none⟩))).run prog C=.ok (.agg d) C) (⟨pa5 o.out t.out,pbu B.out F.out⟩) fun m=>?_;refine tkL 0 m g (fun w H=>H.1) ?_;refine tkY 1 m ?_;refine tkL 2 m d (fun w H=>H.2) ?_;refine tkY 3 m ?_;refine tk1 4 fun K p=>?_;rw [xH (by rfl)];refine bR t o rfl U ?_;obtain ⟨A,a⟩:=az (w7.drew.setRow gE g);have M:Fr A gE g 71:=(by show _=_;rw [a];exact xz _ _ _ _ _ _ t.out);have G:Fr A j d 86:=(by show _=_;rw [a];exact pal F.out Q.out.symm g);have X:Hid (Uq w A):=(by show Upd _ _ _ _;rw [a];exact O.out.setRowNew aj.out g);rw [<-a];clear a;refine tkK p (⟨pa5 o.out M.out,pbu B.out G.out⟩) fun m=>?_;clear p K;refine tkY 5 m ?_;refine tk1 6 fun K p=>?_;rw [xH (by rfl)];refine bR G P rfl ab ?_;obtain ⟨u,a⟩:=az (A.setRow j d);have J:Fr u j d 86:=(by show _=_;rw [a];exact xz _ _ _ _ _ _ G.out);have N:Fr u gE g 71:=(by show _=_;rw [a];exact pal M.out Q.out d);have Y:Hid (Uq w u):=(by show Upd _ _ _ _;rw [a];exact X.out.setRowNew ad.out d);rw [<-a];clear a;refine tkK p (⟨pa5 o.out N.out,pbu B.out J.out⟩) fun m=>?_;clear p K;refine tkY 7 m ?_;refine tkD ?_;exact hJ u N J Y
    intro wZ Z aa UZ;clear t F O;go_wp2_with fail;refine xI (pb9 rfl _ _ gE j _ _ g d _ _ _ _ rfl Z.out underlying71 rfl o.out rfl aa.out underlying86 rfl P.out) rfl ?_;rw [B.out];exact ⟨g,ep,_,_,_,_,aD,ah (xf o.out (xf U.out ai.out)),a4,rfl,UZ.out⟩
def pdH (P:Bool->Prop) (w:World) (e:Ending) (w':World):Prop:=∃ b:Bool,Hid (P b)/\e=.returned (.bool b)/\Upd [] [] w w'
section
variable {M : Array Value} {aw ar as' bw br bs' low high id pub : Int} {aT bT F A B : ByteArray}
theorem pin (h:MtIs M aw aT ar as' bw bT br bs' low high F A B id pub) (ht:aT.size<=900000) (w) (Q:Tabs w) :
 Calls prog 92 #[.agg M] w (pdH (fun b=>b=true ↔ ∃ f ep x v c z,pft (bs aT) f ep x v c z) w):=by
 obtain ⟨g,hg⟩:=ae (w.heap.size);obtain ⟨w0,C⟩:=ae (w.alloc (.cells M 105));have r0:=ah (aW hg C);have G:=ah (aU C);have c1:=(xa _ g 9 _ _ _ r0.out).trans h.a1;have K:=ah (pgD aT ht w0 (Q.upd G.out));clear h;go_in;go_wp2_with fail;refine K.out.mono ?_;rintro e E ⟨O,ep,x,v,c,z,ok,p,HR,rfl,hq⟩;obtain ⟨a,d⟩:∃ a:Array Value,a=#[.int .i64 x,.int .i64 v,.int .i64 c,.int .i64 z]:=⟨_,rfl⟩
 rw [<-d];have P:=ah (G.out.trans hq);obtain ⟨gE,aa⟩:=ae (E.heap.size);obtain ⟨J,D⟩:=ae (E.alloc (.cells zZ0 71));have U:Hid ((zZ0:Array Value).size=O.size):=by show _=_;rw [paH];exact p.out.2.2
 have k:=aW aa D;obtain ⟨q,Z⟩:=ae (J.heap.size);obtain ⟨w3,y⟩:=ae (J.alloc (.cells #[.int .i64 0,.int .i64 0,.int .i64 0,.int .i64 0] 86));have r:=aU D;have o:=aU y;have Y:=ah (paa k o);have t:=aW Z y;have u:q≠gE:=by have:=paf k;omega
 obtain ⟨N,j⟩:=ae (w3.setRow gE O);have T:Hid (N.heap[q]? =some (.cells #[.int .i64 0,.int .i64 0,.int .i64 0,.int .i64 0] 86 (0,0))):=by show _=_;rw [<-j];exact pal t u _
 obtain ⟨w5,m⟩:=ae (N.setRow q a);have R:=ah j;have ab:=ah m;have U5:Hid (Uq w w5):=by
  show Upd _ _ _ _;rw [<-m,<-j];have:=P.out.size;have:=r.size;exact (((P.out.trans r).trans o).setRowNew (by omega) _).setRowNew (by omega) _
 have W:Fi 86 a:=by rw [d];exact pdo _ _ _ _
 have S:Fo a:=by rw [d];exact peF _ _ _ _
 have X:Hid ((#[.int .i64 0,.int .i64 0,.int .i64 0,.int .i64 0]:Array Value).size=a.size):=by rw [d];rfl
 clear hq K c1 d k t r o j m u;go_wp2_with (first | (refine bS Y p.out.1 U p.out.2.1 R ?_) | (refine bS T W X S ab ?_))
 go_ret;refine ⟨ok,?_,rfl,U5.out⟩;show ok=true ↔ _;rcases HR.out with ⟨h,f,_,n⟩ | ⟨h,hn⟩
 · exact ⟨fun _=>⟨f,ep,x,v,c,z,n⟩,fun _=>h⟩
 · exact ⟨(fun H=>by rw [h] at H;cases H),fun ⟨f,ep,x,v,c,z,n⟩=>absurd n (hn f ep x v c z)⟩
end
def pcK (l:List UInt8) (ev:EvG):Prop:=pat (preE ++ l) ev/\ev.k=4
def puA (l:List UInt8) (w:World) (e:Ending) (w':World):Prop :=
 ∃ (EV:Array Value) (b:Bool),Hid ((Tryz.prog.info? 71).map (·.size)=some EV.size/\EV.all (·.oneCell')=true/\evZ.toArray.size=EV.size)/\Hid ((b=true/\∃ ev,pcK l ev/\EV=ev.V.toArray)\/(b=false/\∀ ev,¬ pcK l ev))/\e=.returned (.tuple #[.agg EV,.bool b])/\Upd [] [] w w'
theorem pd1 (T) (hT:T.size<=900000) (w) (aa:Tabs w):Calls prog 168 #[.string T] w (puA (bs T) w):=by
 obtain ⟨gR,D⟩:=ae (w.heap.size);obtain ⟨Z,E⟩:=ae (w.alloc (.cells zZ0 71));have P:=ah (show Z.heap[gR]? =some (.cells evZ.toArray 71 (0,0)) by rw [<-D,<-E,paH];exact xi _ _);have u0:=ah (aU E);have af:Hid (w.heap.size<=gR):=xJ D;have W:=ah (pja T (by omega) Z (aa.upd u0.out));have U:Hid ((preE ++ bs T).length<=1000000):=by show _<=_;rw [xr,pac];have:preE.length=4:=rfl;omega
 clear hT;go_in;go_wp2_with fail;refine W.out.mono ?_;rintro e X ⟨d,b,p,rfl,hq⟩;have c:=ah p.out.info.1;have m:=ah p.out.info.2.1;have o:=ah p.out.info.2.2;obtain ⟨O,x,y,R2,H⟩:=paz X 71 evZ.toArray d;rw [<-paH] at x y;obtain ⟨gE,ad⟩:=ae (X.heap.size);rw [ad] at x y R2;have r2:=ah (paa (paa P.out hq) H);have U2:=ah ((u0.out.trans hq).trans H);have F:Uq O O.drew:=uR.drew;have r:=ah (paa R2.out F);have B:=ah (paa r2.out F);have ac:=ah (U2.out.trans F);obtain ⟨wF,u⟩:=ae (O.drew.setRow gR d);have Q:=bX u B;have v:Fr wF gE d 71:=by
  show _=_;rw [<-u];exact pal r.out (by have:=paf (paa P.out hq);omega) _
 have R:Hid (Uq w wF):=by show Upd _ _ _ _;rw [<-u];exact ac.out.setRowNew af.out _
 have J:=ah u;have M:Hid ((zZ0:Array Value).size=d.size):=by show _=_;rw [paH];exact o.out
 clear hq H W P E D u
 cases b with
 | false =>
  have C:Hid (∀ g,¬ pcK (bs T) g):=fun g h=>by
   rcases p.out with ⟨h1,_⟩ | ⟨_,hn,_⟩
   · cases h1
   · exact hn g h.1
  clear p;go_upto_region 2 with (first | (refine bS x c M m y ?_))
  refine bG (S:=fun j=>(Instr.loadAt 71 (.pointer (some ⟨gE,0,none⟩))).run prog j=.ok (.agg d) j) (pa5 c.out r.out) fun a=>?_;refine tkL 0 a d (fun w t=>t) ?_;refine tkS [1,2] a ?_;refine tkN 3 a ?_;refine tkN 4 a ?_;refine tkN 5 a ?_;refine tkY 6 a ?_;refine tk1 7 fun K n=>?_;rw [xH (by rfl)];refine bR B c o m ?_;rw [J.out];refine tkK n (pa5 c.out v.out) fun a=>?_;clear n K;refine tkY 8 a ?_;refine tkD ?_;go_wp2_with fail;refine bF Q underlying71 c ?_;exact ⟨d,false,ah (xf c.out (xf m.out o.out)),.inr ⟨rfl,C.out⟩,rfl,R.out⟩
 | true =>
  obtain ⟨g,hc,G⟩:∃ g,pat (preE ++ bs T) g/\d=g.V.toArray:=by
   rcases p.out with ⟨_,h⟩ | ⟨h,_⟩
   · exact h
   · cases h
  obtain ⟨k,N⟩:=az (g.k);have z:Hid (d[1]? =some (.int .i64 k)):=by show _=_;rw [G,N];rfl
  have q:=ah (xf hc (xf G N));have ag:Hid (∀ f,pat (preE ++ bs T) f->f=g):=fun f Y=>pdQ Y q.out.1 (by have:=Y.size;have:=U.out;omega) (by have:=q.out.1.size;have:=U.out;omega);clear p hc G N;by_cases A:k=4
  · have ab:Hid (∃ g,pcK (bs T) g/\d=g.V.toArray):=⟨g,⟨q.out.1,q.out.2.2.symm.trans A⟩,q.out.2.1⟩
    have g4:(k == 4)=true:=by rw [yW];exact A
    go_upto_region 2 with (first | (refine bS x c M m y ?_))
    refine bG (S:=fun j=>(Instr.loadAt 71 (.pointer (some ⟨gE,0,none⟩))).run prog j=.ok (.agg d) j/\j.cell? ⟨gE,1,none⟩=some (.int .i64 k)) (⟨pa5 c.out r.out,(xa _ gE 1 _ _ _ r.out).trans z.out⟩) fun a=>?_;refine tkL 0 a d (fun w t=>t.1) ?_;refine tkS [1,2,3,4,5,6] a ?_;refine tk1 7 fun K n=>?_;rw [xH (by rfl)];refine bR B c o m ?_;rw [J.out];refine tkK n (⟨pa5 c.out v.out,(xa _ gE 1 _ _ _ v.out).trans z.out⟩) fun a=>?_;clear n K;refine tkY 8 a ?_;refine tkD ?_;go_wp2_with fail;refine bF Q underlying71 c ?_;exact ⟨d,true,ah (xf c.out (xf m.out o.out)),.inl ⟨rfl,ab.out⟩,rfl,R.out⟩
  · have C:Hid (∀ g,¬ pcK (bs T) g):=fun f h=>by
     have e:=ag.out f h.1;rw [e] at h;exact A (q.out.2.2.trans h.2)
    have g4:(k == 4)=false:=by rw [xm];exact A
    go_upto_region 2 with (first | (refine bS x c M m y ?_))
    refine bG (S:=fun j=>(Instr.loadAt 71 (.pointer (some ⟨gE,0,none⟩))).run prog j=.ok (.agg d) j/\j.cell? ⟨gE,1,none⟩=some (.int .i64 k)) (⟨pa5 c.out r.out,(xa _ gE 1 _ _ _ r.out).trans z.out⟩) fun a=>?_;refine tkL 0 a d (fun w t=>t.1) ?_;refine tkS [1,2,3,4,5,6] a ?_;refine tk1 7 fun K n=>?_;rw [xH (by rfl)];refine bR B c o m ?_;rw [J.out];refine tkK n (⟨pa5 c.out v.out,(xa _ gE 1 _ _ _ v.out).trans z.out⟩) fun a=>?_;clear n K;refine tkY 8 a ?_;refine tkD ?_;go_wp2_with fail;refine bF Q underlying71 c ?_;exact ⟨d,false,ah (xf c.out (xf m.out o.out)),.inr ⟨rfl,C.out⟩,rfl,R.out⟩
structure DlI where
 coms:List Int
 point:Int
 boxes:List (List UInt8)
def pe8:List UInt8:=[100,101,97,108]
def DlI.ok (d:DlI):Prop:=(∀ c∈d.coms,pab c)/\pab d.point/\d.coms.length<=1000000000
def DlI.words (d:DlI):List (List UInt8):=pe8 :: Lib.itoa (d.coms.length:Int) :: (d.coms.map Lib.itoa ++ Lib.itoa d.point :: d.boxes.map hexL)
def DlI.text (d:DlI):List UInt8:=Lib.join d.words [32]
def IsDl (l:List UInt8) (d:DlI):Prop:=d.ok/\l=d.text
theorem DlI.no32 (d:DlI):∀ x∈d.words,(32:UInt8) ∉ x:=by
 intro x a;simp only [DlI.words,yo,yq,zh] at a;rcases a with rfl | rfl | ⟨c,_,rfl⟩ | rfl | ⟨b,_,rfl⟩
 · decide
 · exact itoa_no32 _
 · exact itoa_no32 _
 · exact itoa_no32 _
 · exact pbx b
theorem IsDl.words {l d} (h:IsDl l d) {W} (a:pcb l W):W=d.words :=
 pcj _ _ l a ⟨d.no32,by simp [DlI.words],h.2.symm⟩
def paN (xs:List (List UInt8)):List UInt8:=xs.flatMap fun x=>32 :: x
theorem pjM:∀ x a,Lib.join (x :: a) [32]=x ++ paN a
 | x,[]=>by rw [uU];simp [paN]
 | x,y :: r=>by
  rw [pcG,pjM y r]
  simp [paN]
theorem DlI.text_eq (d:DlI):d.text=pe8 ++ paN (Lib.itoa (d.coms.length:Int) :: (d.coms.map Lib.itoa ++ Lib.itoa d.point :: d.boxes.map hexL)):=pjM _ _
end Go.Proofs.YtkhjolbbpdaplaaGreatDoor
