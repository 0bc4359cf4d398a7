/- court.proofCheated and what follows. -/
import Derived.Test.YtkhjolbbpdaplaaGreatDoorHBJ
namespace Go.Proofs.YtkhjolbbpdaplaaGreatDoor
set_option maxHeartbeats 8000000
open Go.RowKit Go.Proofs.Tryz
set_option maxRecDepth 100000
abbrev vA:=@Int.tmod_lt_of_pos
theorem pnM {ws}:∀ k∈pa4 ws,pab (k:Int):=by
 intro k a;simp only [pa4,List.mem_flatMap,uT] at a;obtain ⟨i,_,_,rfl⟩:=a;have:=pqE (secN i);unfold pab;unfold Pn at this;omega
theorem prE {M f e d c} (h:M[21]? =some (.int .i64 f)/\M[22]? =some (.int .i64 e)/\M[23]? =some (.int .i64 d)/\M[24]? =some (.int .i64 c)) {g W} (q:W.heap[g]? =some (.cells M 105 (0,0))):(Instr.loadAt 48 (.pointer (some ⟨g,21,none⟩))).run prog W=.ok (.agg #[.int .i64 f,.int .i64 e,.int .i64 d,.int .i64 c]) W:=by
 refine xL W g 21 48 [.int .i64 f,.int .i64 e,.int .i64 d,.int .i64 c] _ (fun j v a=>?_) underlying48 rfl (by kernel_rfl)
 match j,a with
 | 0,a=>simp at a;subst a;exact (xa _ g 21 _ _ _ q).trans h.1
 | 1,a=>simp at a;subst a;exact (xa _ g 22 _ _ _ q).trans h.2.1
 | 2,a=>simp at a;subst a;exact (xa _ g 23 _ _ _ q).trans h.2.2.1
 | 3,a=>simp at a;subst a;exact (xa _ g 24 _ _ _ q).trans h.2.2.2
section
variable {M : Array Value} {aw ar as' bw br bs' low high id pub ci ck c1 c2 i : Int} {aT bT F A B : ByteArray} {L K P : Value}
theorem pfv (h:MtIs M aw aT ar as' bw bT br bs' low high F A B id pub) (X:MtMore M L K P i ci ck c1 c2) (ht:aT.size<=900000) (q:∃ ep d,pfu (bs aT) ep d) (ws w) (G:WsOk ws) (Y:pbN w L ws) (ay:pab ci) (aG:pab ck) (aC:pab c1) (aL:pab c2) (aa:Tabs w) :
 Calls prog 99 #[.agg M] w (pdH (fun b=>∃ ep d,pfu (bs aT) ep d/\b=(decide (ep=0) && decide (jdgI (pa4 ws) d ci ck c1 c2=1))) w):=by
 obtain ⟨g,hg⟩:=ae (w.heap.size);obtain ⟨w0,ax⟩:=ae (w.alloc (.cells M 105));have r0:=ah (aW hg ax);have u0:=ah (aU ax);have aA:=ah (pgG aT ht w0 (aa.upd u0.out));have c9:=(xa _ g 9 _ _ _ r0.out).trans h.a1;obtain ⟨ao,R,rfl,aq,av,hM⟩:=Y;have Y:pbN w (.slice ao ws.length R) ws:=⟨ao,R,rfl,aq,av,hM⟩
 have af:=ah (fun W (u:Uq w W)=>plo (.slice ao ws.length R) ws W G (Y.upd u));have aY:=ah hM;have HW:=ah G;have HT:=ah (pbo ws);have aD:=ah (pdZ ws);have HS:=ah G.sum.2;obtain ⟨n,hn⟩:=az (ws.length);have a7:n<=4:=by rw [hn];exact G.2.1
 rw [<-hn] at X af aq;have C:=ah hn;have aH:Hid (∀ W,Uq w0 W->W.cell? ⟨g,0,none⟩=some (.slice ao n R)):=fun W u=>(xa _ g 0 _ _ _ (paa r0.out u)).trans X.l;have a6:=ah (fun W (u:Uq w0 W)=>prE X.c (paa r0.out u));have Q:=ah (xf ay (xf aG (xf aC aL)));have a0:=ah (fun W (u:Uq w W)=>aa.upd u);have aE:=ah q;clear h X q G Y hM hn ay aG aC aL aa av;go_in;go_wp2_with fail;refine aA.out.mono ?_;rintro e w1 ⟨ep,cv,bv,d,ok,m,E,rfl,hq⟩;have S:Hid (pfu (bs aT) ep d):=by
  rcases m.out with ⟨_,N,_⟩ | ⟨_,ac⟩
  · exact N
  · obtain ⟨e',d',N⟩:=aE.out;exact absurd N (ac e' d')
 have bb:Hid (ok=true):=by
  rcases m.out with ⟨h,_⟩ | ⟨_,ac⟩
  · exact h
  · exact absurd S.out (ac _ _)
 obtain ⟨y,o⟩:∃ y:Array Value,y=#[cv,.int .i64 d.point,bv]:=⟨_,rfl⟩
 rw [<-o];have an:Fi 142 y:=by rw [o];exact pbB _ _ _
 obtain ⟨a1,n1,k1,e1⟩:∃ a n k,cv=.slice a n k:=by obtain ⟨a,k,e,_⟩:=E.out.1;exact ⟨a,_,k,e⟩
 obtain ⟨a2,n2,k2,e2⟩:∃ a n k,bv=.slice a n k:=by obtain ⟨a,k,e,_⟩:=E.out.2;exact ⟨a,_,k,e⟩
 have aR:Fo y:=by rw [o,e1,e2];show _=_;simp [Value.oneCell']
 have a4:Hid ((#[.slice none 0 0,.int .i64 0,.slice none 0 0]:Array Value).size=y.size):=by rw [o];rfl
 obtain ⟨w2,Z2,W2,R2,D⟩:=paz w1 142 #[.slice none 0 0,.int .i64 0,.slice none 0 0] y;obtain ⟨gX,aQ⟩:=ae (w1.heap.size);rw [aQ] at Z2 W2 R2;have U2:=ah ((u0.out.trans hq).trans D);have aF:=ah (hq.trans D);have k0:=aH.out w2 aF.out;have aK:=ah (af.out w2 U2.out);have ab:=ah (xf (E.out.1.upd D) (E.out.2.upd D));have a5:=ah o;clear hq D aA c9 af m aE o e1 e2 E;go_wp2_with (refine bS Z2 an a4 aR W2 ?_)
 refine aK.out.mono ?_;rintro e J ⟨v,HV,rfl,hq⟩;obtain ⟨gO,rfl,aI,hO⟩:=HV.out;have HO:=ah (xf aI hO);have U3:=ah (U2.out.trans hq);have aN:=ah (aF.out.trans hq);have RX:=ah (paa R2.out hq);have ai:=ah (xf (ab.out.1.upd hq) (ab.out.2.upd hq));rw [<-C.out];clear hq aK k0 Z2 W2 R2 HV aI hO ab;go_wp2;go_loopw [6,9,10,30] (fun u _ _ i wr=>∃ k:Nat,i=.int .i64 (k:Int)/\k<=n/\Hid (wr.ownsRow 0 3 1 u (ws.take k).sum (pah (pbp ws k 0)))/\Hid (Upd [] (foot u) J wr)) (fun _ _ _ i _=>n - (intOf i).toNat)
 case atStart=>exact ⟨0,rfl,xu _,(by show World.ownsRow _ _ _ _ _ _ _;exact x9 _ _ _ _),Upd.refl _ _⟩
 case round =>
  obtain ⟨k,rfl,hk,m,H⟩:=hrel;by_cases au:k<n
  · obtain ⟨x,U⟩:∃ x,ws[k]? =some x:=⟨_,xd (by rw [<-C.out];exact au)⟩
    have a8:=HW.out.2.2 x (xt U);obtain ⟨pa,pc,ap⟩:=HO.out.2 k x U;have cO:wr.cell? ⟨gO,k,none⟩=some (.slice pa x pc):=((H.out.mono (fun _ h=>h) (fun _ h=>absurd h (by simp)):Uq J wr).cell (p:=⟨gO,k,none⟩) HO.out.1 (by simp)).trans ap;have HX:=ah U;have i0:(0:Int)<=(k:Int):=by omega
    have i1:(k:Int)<(n:Int):=by omega
    clear U ap;go_wp2_with fail;clear cO;go_loopw [6,37] (fun u i wr=>∃ j:Nat,i=.int .i64 (j:Int)/\j<=x/\Hid (wr.ownsRow 0 3 1 u ((ws.take k).sum+j) (pah (pbp ws k j)))/\Hid (Upd [] (foot u) J wr)) (fun _ i _=>x - (intOf i).toNat)
    case atStart=>exact ⟨0,rfl,xu _,m.out,H.out⟩
    case round =>
     obtain ⟨j,rfl,hj,O,T⟩:=hrel;have f:Uq J wr:=T.out.mono (fun _ h=>h) (fun _ h=>absurd h (by simp));by_cases ba:j<x
     · obtain ⟨gM,rfl,hg,_,_,c2⟩:=(aY.out.upd (U3.out.trans f)) k _ (paW HX.out);have cL:=aH.out wr (aN.out.trans f);dsimp only [memC] at c2;obtain ⟨p,q⟩:=az (gP (secN k));rw [<-q] at c2;have ak:=aD.out k j (by rw [<-C.out];omega);have a3:=HT.out k;obtain ⟨u',w',aj,ag,al⟩:=paZ wr u6 (pbp ws k j) ((ws.take k).sum+j) p ak O.out (by have:=HS.out;omega);have aS:=ah aj;have ad:Hid (w'.ownsRow 0 3 1 u' ((ws.take k).sum+(j+1)) (pah (pbp ws k (j+1)))):=by
        show World.ownsRow _ _ _ _ _ _ _;rw [pgz,<-q];exact ag
       have aP:=ah (T.out.trans al);have x1:(j:Int)<(x:Int):=by omega
       clear ak a3 aj ag al q O T f hg;go_wp2_with (refine bN aS ?_)
       exact ⟨⟨j+1,by go_num,by omega,ad.out,aP.out⟩,by simp [intOf];omega⟩
     · obtain rfl:j=x:=by omega
       have ad:Hid (wr.ownsRow 0 3 1 u6 (ws.take (k+1)).sum (pah (pbp ws (k+1) 0))):=by
        show World.ownsRow _ _ _ _ _ _ _;rw [paS HX.out,pej HX.out];exact O.out
       clear O m H;go_wp2_with fail;exact ⟨⟨k+1,by go_num,by omega,ad.out,T.out⟩,by simp [intOf];omega⟩
  · obtain rfl:k=n:=by omega
    have hl:=aD.out k 0 (by rw [C.out];exact xj _);have f:Uq J wr:=H.out.mono (fun _ h=>h) (fun _ h=>absurd h (by simp));have am:Sl wr u6 (pa4 ws):=Sl.of_row (t:=3) (by
     rw [<-pd0,<-C.out,hl];exact m.out)
    have aB:(pa4 ws).length<=1000:=by
     rw [<-pd0,<-C.out,hl];have:=HT.out k;have:=HS.out;omega
    have UW:=ah (U3.out.trans f);have aJ:Hid d.ok:=by obtain ⟨_,t,_,N⟩:=S.out;exact N.1
    have Z:=ah (pnJ u6 cv bv (pa4 ws) d ci ck c1 c2 wr am aB pnM (ai.out.1.upd f) (ai.out.2.upd f) aJ.out.1 aJ.out.2.1 Q.out.1 Q.out.2.1 Q.out.2.2.1 Q.out.2.2.2 (a0.out wr UW.out));rw [<-a5.out] at Z;have aM:=ah (a6.out wr (aN.out.trans f));have aO:=ah (pc0 underlying142 an.out (paa RX.out f));obtain ⟨r,hr⟩:=az (jdgI (pa4 ws) d ci ck c1 c2);rw [<-hr] at Z;have aZ:=ah hr;clear hl f am aB hr m H au;by_cases g1:ep=0
    case neg =>
     have aV:=ah g1;have a9:(ep == 0)=false:=by rw [xm];exact g1
     go_wp2;go_ret;exact ⟨false,⟨ep,d,S.out,by rw [yw aV.out,zt]⟩,rfl,UW.out⟩
    subst g1;go_wp2_with (first | (refine bA aO ?_) | (refine wpList_load_atW (by rfl) 48 _ rfl g 21 rfl #[ci,ck,c1,c2] aM.out ?_))
    refine Z.out.mono ?_;rintro e w5 ⟨z,HZ,rfl,hq⟩;have U5:=ah (UW.out.trans hq);clear hq Z aM aO;go_wp2;go_ret;refine ⟨_,⟨0,d,S.out,?_⟩,rfl,U5.out⟩;rw [yG rfl,uq,<-aZ.out,<-HZ.out];rfl
end
theorem pnN:(Array.range (2 * 102)).map ((rcV Rc.zero).toArray[· % (rcV Rc.zero).toArray.size]!)=(rcV Rc.zero ++ rcV Rc.zero).toArray:=by kernel_rfl
theorem pnO (x y) (c:x.ok) (g:y.ok) (w):(Instr.buildSlice 211 2 #[(0,.agg (rcV x).toArray),(1,.agg (rcV y).toArray)]).run prog w=.ok (.slice (some ⟨w.heap.size,0,none⟩) 2 2) (w.alloc (.cells (rcV x ++ rcV y).toArray 62)):=by
 obtain ⟨f,d,e,a,_⟩:=rcI;refine run_buildSlice w 211 62 2 _ (rcV x ++ rcV y).toArray f _ underlying211 d e (by rw [a];omega) (by rw [a];omega) ?_;rw [a];show Instr.fill _ ((Array.range (2 * 102)).map ((rcV Rc.zero).toArray[· % (rcV Rc.zero).toArray.size]!)) [(0,Value.agg (rcV x).toArray),(1,Value.agg (rcV y).toArray)]=_;rw [pnN];have h:=pbZ (pl:=fun i=>some (i * 102,102)) (i:=0) (off:=0) (n:=102) (v:=.agg (rcV x).toArray) (V:=rcV x) (A:=[]) (B:=rcV Rc.zero) (C:=rcV Rc.zero) (r:=[(1,Value.agg (rcV y).toArray)]) rfl rfl (paM c) rfl (paM Rc.zero_ok);rw [zk,zk] at h;rw [h];have h:=pbZ (pl:=fun i=>some (i * 102,102)) (i:=1) (off:=102) (n:=102) (v:=.agg (rcV y).toArray) (V:=rcV y) (A:=rcV x) (B:=rcV Rc.zero) (C:=[]) (r:=[]) rfl rfl (paM g) (paM c) (paM Rc.zero_ok);rw [yl,yl] at h;rw [h];rfl
section
variable {M : Array Value} {aw ar as' bw br bs' low high id pub : Int} {aT bT F A B : ByteArray}
theorem pnP (h:MtIs M aw aT ar as' bw bT br bs' low high F A B id pub) (k n m j) (N:aT.size<=1000000) (G:bT.size<=1000000) (o:rcOk (bs aT) k m) (q:rcOk (bs bT) n j) (f d) (c:f=(rcV k).toArray) (a:d=(rcV n).toArray) (w) (x:Tabs w):Calls prog 100 #[.agg M] w (Mk (.bool (m && j)) w):=by
 have z:=o.1;have y:=q.1;obtain ⟨P,E,T⟩:=pdA z f c;obtain ⟨J,D,X⟩:=pdA y d a;obtain ⟨g,W⟩:=ae (w.heap.size);obtain ⟨Q,r⟩:=ae (w.alloc (.cells M 105));have v:=ah (aW W r);have t:=ah (aU r);have u:=ah (pch h k n m j N G o q f d c a Q (x.upd t.out));have K:=ah (pes h.sz);have ac:=ah c;have af:=ah a;clear h c a o q;go_in;go_wp2_with (refine bL v underlying105 K ?_)
 refine u.out.mono ?_;rintro e C ⟨rfl,hq⟩;obtain ⟨wA,wB,wC,wD,gA,gB,Z,ab,ad,aa,S,R,O,H,FA,FB,p⟩:=pgK C 62 62 Tryz.zeroCells62 Tryz.zeroCells62 f d;have U:=ah ((t.out.trans hq).trans p);have Y:=ah (paa (paa v.out hq) p);clear hq p u;go_wp2_with (first | (refine bS S P T E R ?_) | (refine bS O J X D H ?_))
 go_ret;exact ⟨rfl,U.out⟩
theorem pix (h:MtIs M aw aT ar as' bw bT br bs' low high F A B id pub) (c a oa E) (za:aT.size<=1000000) (zb:bT.size<=1000000) (v:rcOk (bs aT) c oa) (z:rcOk (bs bT) a E) (f d) (j:f=(rcV c).toArray) (k:d=(rcV a).toArray) (w) (aa:Tabs w):Calls prog 102 #[.agg M] w (Mk (.bool (decide (c.serial<a.serial) && decide (a.seen<c.seen))) w):=by
 have ad:=v.1;have ac:=z.1;obtain ⟨K,X,AZ⟩:=pdA ad f j;obtain ⟨Z,T,S⟩:=pdA ac d k;obtain ⟨g,hg⟩:=ae (w.heap.size);obtain ⟨w0,C⟩:=ae (w.alloc (.cells M 105));have J:=ah (aW hg C);have W:=ah (aU C);have G:=ah (pch h c a oa E za zb v z f d j k w0 (aa.upd W.out));have HI:=ah (pes h.sz);obtain ⟨x,r⟩:=ae (c.serial);obtain ⟨u,o⟩:=ae (a.serial);obtain ⟨O,p⟩:=ae (c.seen);obtain ⟨H,n⟩:=ae (a.seen);have m:Hid (f[1]? =some (.int .i64 x)/\f[3]? =some (.int .i64 O)/\d[1]? =some (.int .i64 u)/\d[3]? =some (.int .i64 H)):=by rw [j,k,<-r,<-o,<-p,<-n];exact ⟨rfl,rfl,rfl,rfl⟩
 rw [r,o,p,n];obtain ⟨q,hq⟩:=az (decide (H<O));have HQ:=ah hq;rw [<-hq];obtain ⟨q2,t⟩:=az (decide (x<u));have D:=ah t;rw [<-t];clear r o p n hq t;have ag:=ah j;have ai:=ah k;clear h j k v z;go_in;go_wp2_with (refine bL J underlying105 HI ?_)
 refine G.out.mono ?_;rintro e w1 ⟨rfl,hq⟩;obtain ⟨wA,wB,wC,wD,N,R,aj,af,ak,al,Q,P,ZB,Y,FA,FB,y⟩:=pgK w1 62 62 Tryz.zeroCells62 Tryz.zeroCells62 f d;have U:=ah ((W.out.trans hq).trans y);have MD:=ah (paa (paa J.out hq) y);have c1:=(xa _ N 1 _ _ _ FA.out).trans m.out.1;have c2:=(xa _ N 3 _ _ _ FA.out).trans m.out.2.1;have c3:=(xa _ R 1 _ _ _ FB.out).trans m.out.2.2.1;have c4:=(xa _ R 3 _ _ _ FB.out).trans m.out.2.2.2;clear hq y G m;by_cases ab:x<u
 · go_wp2_with (first | (refine bS Q K AZ X P ?_) | (refine bS ZB Z S T Y ?_))
   go_ret;exact ⟨by rw [D.out,yG ab,HQ.out];rfl,U.out⟩
 · go_wp2_with (first | (refine bS Q K AZ X P ?_) | (refine bS ZB Z S T Y ?_))
   go_ret;exact ⟨by rw [D.out,yw (by omega)];rfl,U.out⟩
theorem plp (h:MtIs M aw aT ar as' bw bT br bs' low high F A B id pub) (k j oa Q) (za:aT.size<=1000000) (zb:bT.size<=1000000) (K:rcOk (bs aT) k oa) (N:rcOk (bs bT) j Q) (c a) (d:c=(rcV k).toArray) (f:a=(rcV j).toArray) (w) (aa:Tabs w):Calls prog 103 #[.agg M] w (Mk (.bool (decide (k.serial=j.serial) && !eqRc k j)) w):=by
 have z:=K.1;have y:=N.1;obtain ⟨S,AO,AZ⟩:=pdA z c d;obtain ⟨BI,BO,Z⟩:=pdA y a f;obtain ⟨g,hg⟩:=ae (w.heap.size);obtain ⟨w0,O⟩:=ae (w.alloc (.cells M 105));have R:=ah (aW hg O);have u0:=ah (aU O);have G:=ah (pch h k j oa Q za zb K N c a d f w0 (aa.upd u0.out));have HI:=ah (pes h.sz);obtain ⟨n,C⟩:=ae (k.serial);obtain ⟨m,u⟩:=ae (j.serial);have r:Hid (c[1]? =some (.int .i64 n)/\a[1]? =some (.int .i64 m)):=by rw [d,f,<-C,<-u];exact ⟨rfl,rfl⟩
 rw [C,u];obtain ⟨q2,D⟩:=az (decide (n=m));have P:=ah D;rw [<-D];clear C u D;have v:Hid (∀ (g:Nat) (W:World),W.heap[g]? =some (.cells c 62 (0,0))->(Instr.loadAt 62 (.pointer (some ⟨g,0,none⟩))).run prog W=.ok (.agg c) W):=fun g W q=>pfa z d q;have x:Hid (∀ (g:Nat) (W:World),W.heap[g]? =some (.cells a 62 (0,0))->(Instr.loadAt 62 (.pointer (some ⟨g,0,none⟩))).run prog W=.ok (.agg a) W):=fun g W q=>pfa y f q;obtain ⟨be,p⟩:=az (eqRc k j);rw [<-p];have E:Hid (∀ W:World,(Op.equalIn 10000 62 (.agg c) (.agg a)).run prog W=.ok be W):=by
  intro W;rw [d,f,show (10000:Nat)=9997+3 from rfl,pq0 9997 _ _ z y W,p]
 have ac:=ah d;have ad:=ah f;clear h d f K N;go_in;go_wp2_with (refine bL R underlying105 HI ?_)
 refine G.out.mono ?_;rintro e w1 ⟨rfl,hq⟩;obtain ⟨wA,wB,wC,T,H,J,af,ab,ai,aj,Y,X,ZB,WD,FA,FB,t⟩:=pgK w1 62 62 Tryz.zeroCells62 Tryz.zeroCells62 c a;have U:=ah ((u0.out.trans hq).trans t);have MD:=ah (paa (paa R.out hq) t);have c1:=(xa _ H 1 _ _ _ FA.out).trans r.out.1;have c3:=(xa _ J 1 _ _ _ FB.out).trans r.out.2;by_cases o:n=m
 · have L1:=ah (v.out H T FA.out);have L2:=ah (x.out J T FB.out);have ag:=E.out;clear hq t G r v x E p;have hb:(n == m)=true:=by rw [yW];exact o
   go_wp2_with (first | (refine bS Y S AZ AO X ?_) | (refine bS ZB BI Z BO WD ?_) | (refine wpList_load_want (by rfl) 62 _ rfl H rfl c L1.out ?_) | (refine wpList_load_want (by rfl) 62 _ rfl J rfl a L2.out ?_))
   go_ret;exact ⟨by rw [P.out,yG o];rfl,U.out⟩
 · have hb:(n == m)=false:=by rw [xm];exact o
   clear hq t G r v x E p;go_wp2_with (first | (refine bS Y S AZ AO X ?_) | (refine bS ZB BI Z BO WD ?_))
   go_ret;exact ⟨by rw [P.out,yw o];rfl,U.out⟩
end
theorem pql {c e} (d:c.ok) (p:e.ok) {C k f} (o:C=(rcV c ++ rcV e).toArray) (n:k=(rcV c).toArray) (m:f=(rcV e).toArray) {g W} (h:W.heap[g]? =some (.cells C 62 (0,0))) :
 (Instr.loadAt 62 (.pointer (some ⟨g,0,none⟩))).run prog W=.ok (.agg k) W/\(Instr.loadAt 62 (.pointer (some ⟨g,102,none⟩))).run prog W=.ok (.agg f) W:=by
 subst o n m;refine ⟨xL W g 0 62 _ _ (fun j v a=>?_) underlying62 rfl (pdy d),xL W g 102 62 _ _ (fun j v a=>?_) underlying62 rfl (pdy p)⟩
 · refine (xa _ g _ _ _ _ h).trans ?_;rw [xD,yB,yu (xe.1 a).1];exact a
 · refine (xa _ g _ _ _ _ h).trans ?_;rw [xD,xC (by rw [paM d];omega),paM d,show 102+j - 102=j by omega];exact a
section
variable {M : Array Value} {aw ar as' bw br bs' low high id pub : Int} {aT bT F A B : ByteArray}
theorem pqm (h:MtIs M aw aT ar as' bw bT br bs' low high F A B id pub) (a c oa ob) (za:aT.size<=1000000) (zb:bT.size<=1000000) (G:rcOk (bs aT) a oa) (N:rcOk (bs bT) c ob) (f d) (k:f=(rcV a).toArray) (j:d=(rcV c).toArray)
 (hp:pab pub) (w) (O:Tabs w):Calls prog 101 #[.agg M] w (Mk (.bool ((verB pub (pa1 a) a.r a.s && decide (a.kiosk=id)) && (verB pub (pa1 c) c.r c.s && decide (c.kiosk=id)))) w):=by
 have v:=G.1;have t:=N.1;have da:=peG G;have db:=peG N;rw [pac] at da db;obtain ⟨y,AO,AZ⟩:=pdA v f k;obtain ⟨J,BO,BZ⟩:=pdA t d j;obtain ⟨g,hg⟩:=ae (w.heap.size);obtain ⟨w0,an⟩:=ae (w.alloc (.cells M 105));have r0:=ah (aW hg an);have u0:=ah (aU an);have HR:=ah (pch h a c oa ob za zb G N f d k j w0 (O.upd u0.out));have HI:=ah (pes h.sz);have o:=ah (xf h.i h.p);obtain ⟨C,hC⟩:=az ((rcV a ++ rcV c).toArray);have ao:Hid (∀ W:World,(Instr.buildSlice 211 2 #[(0,.agg f),(1,.agg d)]).run prog W=.ok (.slice (some ⟨W.heap.size,0,none⟩) 2 2) (W.alloc (.cells C 62))):=by
  intro W;rw [k,j,hC];exact pnO a c v t W
 have ap:Hid (∀ (g:Nat) (W:World),W.heap[g]? =some (.cells C 62 (0,0))->(Instr.loadAt 62 (.pointer (some ⟨g,0,none⟩))).run prog W=.ok (.agg f) W/\(Instr.loadAt 62 (.pointer (some ⟨g,102,none⟩))).run prog W=.ok (.agg d) W):=fun g W q=>pql v t hC k j q;obtain ⟨D,Y⟩:=ae (verB pub (pa1 a) a.r a.s);obtain ⟨K,aa⟩:=ae (verB pub (pa1 c) c.r c.s);obtain ⟨ka,ac⟩:=ae (a.kiosk);obtain ⟨kb,ai⟩:=ae (c.kiosk);rw [Y,aa,ac,ai];obtain ⟨r,hr⟩:=az (((D && decide (ka=id)) && (K && decide (kb=id))));have m:=ah hr;rw [<-hr];clear hr;have aE:Hid (∀ W,Uq w W->Calls prog 10 #[pub,.agg f] W (Mk (.bool D) W)):=by
  intro W u;rw [k];exact pc9 pub a D hp v (by omega) Y W (O.upd u)
 have aL:Hid (∀ W,Uq w W->Calls prog 10 #[pub,.agg d] W (Mk (.bool K) W)):=by
  intro W u;rw [j];exact pc9 pub c K hp t (by omega) aa W (O.upd u)
 have aP:Hid (f[0]? =some (.int .i64 ka)):=by rw [k,<-ac];rfl
 have aC:Hid (d[0]? =some (.int .i64 kb)):=by rw [j,<-ai];rfl
 clear h k j G N hC ac ai Y aa hp da db za zb;go_in;go_wp2_with (refine bL r0 underlying105 HI ?_)
 refine HR.out.mono ?_;rintro e w1 ⟨rfl,hq⟩;obtain ⟨wA,wB,wC,E,gA,gB,aR,aB,aH,aJ,ZA,WC,ZB,WD,FA,FB,hu⟩:=pgK w1 62 62 Tryz.zeroCells62 Tryz.zeroCells62 f d;have U:=ah ((u0.out.trans hq).trans hu);have MD:=ah (paa (paa r0.out hq) hu);obtain ⟨gL,am⟩:=ae (E.heap.size);obtain ⟨wE,Z⟩:=ae (E.alloc (.cells C 62));have LE:=ah (aW am Z);have uE:=aU Z;have ME:=ah (paa MD.out uE);have UE:=ah (U.out.trans uE);have ab:=ao.out E;rw [am,Z] at ab;have al:=ah ab;clear ab hq hu HR r0 u0 uE U MD ao;go_wp2_with (first | (refine bS ZA y AZ AO WC ?_) | (refine bS ZB J BZ BO WD ?_) | (refine bL FA underlying62 y ?_) | (refine bL FB underlying62 J ?_) | (refine wpList_buildRun rfl 211 2 _ rfl _ _ (zP (xU (fun z=>(Instr.buildSlice 211 2 z).run prog E) (by kernel_rfl)) al.out) ?_))
 clear ZA WC ZB WD FA FB al aB aJ aR aH;refine yt 3 ?_;rw [xK];have aq:=ah ((ap.out gL wE LE.out).1);obtain ⟨v0,Z0,X0,x,hq⟩:=paz wE 62 Tryz.zeroCells62 f;obtain ⟨h0,ay⟩:=ae (wE.heap.size);rw [ay] at Z0 X0 x;have X:=ah (paa ME.out hq);have av:=ah (paa LE.out hq);have P:=ah (UE.out.trans hq);have aD:=(xa _ g 28 _ _ _ X.out).trans o.out.2;clear hq ME LE UE;go_wp2_with (first | (refine bA aq ?_) | (refine bS Z0 y AZ AO X0 ?_) | (refine bL x underlying62 y ?_))
 refine (aE.out v0 P.out).mono ?_;rintro e x0 ⟨rfl,hq⟩;have ak:=ah (paa X.out hq);have S:=ah (paa av.out hq);have n:=ah (P.out.trans hq);have aO:=(xa _ g 26 _ _ _ ak.out).trans o.out.1;have aI:=(xa _ h0 0 _ _ _ (paa x.out hq)).trans aP.out;clear hq X av P Z0 X0 x aq aD;by_cases T:D=true
 case neg =>
  rw [yK] at T;subst T;go_wp2;go_ret;exact ⟨by rw [m.out];simp,n.out⟩
 subst T;by_cases R:ka=id
 case neg =>
  have HN:=ah R;go_wp2;go_ret;exact ⟨by rw [m.out,yw HN.out];simp,n.out⟩
 have aK:=ah R;go_wp2_with fail;clear aO aI R;rw [xK];have ax:=ah ((ap.out gL x0 S.out).2);obtain ⟨v1,Z1,X1,H,hq⟩:=paz x0 62 Tryz.zeroCells62 d;obtain ⟨h1,aA⟩:=ae (x0.heap.size);rw [aA] at Z1 X1 H;have aj:=ah (paa ak.out hq);have au:=ah (paa S.out hq);have ad:=ah (n.out.trans hq);have aQ:=(xa _ g 28 _ _ _ aj.out).trans o.out.2;clear hq ak S n;go_wp2_with (first | (refine bA ax ?_) | (refine bS Z1 J BZ BO X1 ?_) | (refine bL H underlying62 J ?_))
 refine (aL.out v1 ad.out).mono ?_;rintro e x1 ⟨rfl,hq⟩;have aN:=ah (paa aj.out hq);have aS:=ah (paa au.out hq);have af:=ah (ad.out.trans hq);have aG:=(xa _ g 26 _ _ _ aN.out).trans o.out.1;have aF:=(xa _ h1 0 _ _ _ (paa H.out hq)).trans aC.out;clear hq aj au ad Z1 X1 H ax aQ;by_cases ag:K=true
 case neg =>
  rw [yK] at ag;subst ag;go_wp2;go_ret;exact ⟨by rw [m.out];simp,af.out⟩
 subst ag;by_cases Q:kb=id
 case neg =>
  have HN:=ah Q;go_wp2;go_ret;exact ⟨by rw [m.out,yw HN.out];simp,af.out⟩
 have aM:=ah Q;go_wp2_with fail;clear aG aF Q;rw [xK];go_wp2;go_ret;exact ⟨by rw [m.out,yG aK.out,yG aM.out];rfl,af.out⟩
end
theorem pbC (a m w) (_ha:-9223372036854775808<=a/\a<=9223372036854775807) (n:1<=m/\m<=4611686018427387903) :
 Calls prog 21 #[.int .i64 a,.int .i64 m] w (RetZ .i64 m (a % m) w):=by
 obtain ⟨r,c⟩:=az (a.tmod m);have h1:r<m:=by rw [c];exact vA a (by omega)
 have q:-m<r:=by rw [c];exact Int.lt_tmod_of_pos a (by omega)
 obtain ⟨s,o⟩:=az (r+m);have k:0<=s/\s<=9223372036854775807:=by omega
 have e:(r+m).tmod m=a % m:=by
  rw [xO (by omega),Int.add_emod_right];have:=ug (a:=a) (b:=m);have j:=yF a (show m≠0 by omega);have p:=yj a (show 0<m by omega);rw [<-c] at this;split at this
  · have d:r=a % m:=by omega
    rw [d,ue]
  · have d:r=a % m - m:=by omega
    rw [d,vB,ue]
 have g:(r+m) % m=a % m:=by rw [<-e,xO (by omega)]
 have h:=ah e;have f:=ah g;clear e g;go_in;go_wp2;go_ret;refine paX (by omega) ?_
 first | exact h.out | exact f.out | (rw [<-c];first | exact h.out | exact f.out)
theorem pka {x} (h:x<16777216):(be x).length<=3:=paJ 3 x (xA h (by decide))
theorem pkb (s x a w) (c:bs s=be x) (k:a<=7) (d:(be x).length<=a) :
 Calls prog 78 #[.string s,.int .i64 (a:Int)] w (fun e w'=>e=.returned (.tuple #[.int .i64 (x:Int),.bool true])/\w=w'):=by
 have j:x<9223372036854775808:=by
  have:=pda (xB d k);have e:(256:Nat) ^ 7=72057594037927936:=by decide
  omega
 have g:=ah (pdY s x w c (by omega));go_in;go_wp2_with fail;refine g.out.mono ?_;rintro e w' ⟨r,h,rfl,rfl⟩;have n:r.size<=a:=by rw [par h.out];exact d
 have p:r.size<=1000000000000:=by omega
 have f:x=natB (bs r):=by rw [h.out,paK]
 have o:=ah f;have m:=ah (ph8 s x w (by rw [par c];omega) (by rw [c,paK]) j);clear d c f g;go_wp2_with fail;refine m.out.mono ?_;rintro e w' ⟨rfl,rfl⟩;go_wp2;go_ret2;exact ⟨rfl,rfl⟩
theorem pqn (a b x y w) (d:bs a=be x) (f:bs b=be y) (g:x<1000000) (m:y<1000000):Calls prog 77 #[.string a,.string b] w (pde (x * y) w):=by
 have h1:=ah (pkb a x 3 w d (by omega) (pka (by omega)));have j:=ah (pkb b y 4 w f (by omega) (xB (pka (by omega)) (by omega)));obtain ⟨z,c⟩:=az (x * y);have p:(x:Int) * (y:Int)=(z:Int):=by rw [c];simp
 have n:z<=1000000000000:=by
  rw [c];have:=zC (zv g) (zv m);omega
 rw [<-c];clear d f c;go_in;go_wp2_with fail;refine h1.out.mono ?_;rintro e w' ⟨rfl,rfl⟩;go_wp2_with fail;refine j.out.mono ?_;rintro e w' ⟨rfl,rfl⟩;go_wp2_with fail;refine (pbs z w (by omega)).mono ?_;rintro e o ⟨r,h,rfl,k⟩;go_wp2;go_ret;exact ⟨r,h,rfl,k⟩
def modL:List UInt8:=[138,0,176,218,162,135,68,214,164,195,198,36,84,110,75,89]
theorem pqo:be (natB modL)=modL:=by rw [<-peu];rfl
theorem pmw:1000000<natB modL:=by decide
theorem pnQ (a x w) (j:bs a=be x) (k:x<=1000000):Calls prog 76 #[.string a] w (pde x w):=by
 have c:=ah (pkU a ⟨#[138,0,176,218,162,135,68,214,164,195,198,36,84,110,75,89]⟩ x (natB modL) w j (by rw [pqo];rfl) (by have:=pmw;omega) (by have:=pka (x:=x) (by omega);omega) (by rw [pqo];decide));have g:x % natB modL=x:=xV (by have:=pmw;omega);rw [g] at c;go_in;go_wp2_with fail;refine c.out.mono ?_;rintro e n ⟨o,f,m,d,rfl,h⟩;go_wp2;go_ret;exact ⟨f,d,rfl,h⟩
theorem pd4 (a x w) (f:bs a=be x) (d:x<1000):Calls prog 28 #[.string a] w (pde (x * x) w):=by
 have h:x * x<=1000000:=by
  have:=zC (zv d) (zv d);omega
 go_in;go_wp2_with fail;refine (pqn a a x x w f f (by omega) (by omega)).mono ?_;rintro e j ⟨b,m,rfl,n⟩;go_wp2_with fail;refine (pnQ b (x * x) j m.out h).mono ?_;rintro e o ⟨c,k,rfl,g⟩;go_wp2;go_ret;exact ⟨c,k,rfl,n.trans g⟩
theorem peI:∀ l,Op.bytesLess l l=false
 | []=>rfl
 | a :: l=>by simp [Op.bytesLess,peI l]
def CmpE (x y:Nat) (r:Int):Prop:=r=0 ↔ x=y
theorem ptb (a b x y w) (o:bs a=be x) (t:bs b=be y) (u:(be x).length<=1000000) (n:(be y).length<=1000000) :
 Calls prog 27 #[.string a,.string b] w (fun e w'=>∃ r,Hid (CmpE x y r)/\(-1<=r/\r<=1)/\e=.returned (.int .i64 r)/\w=w'):=by
 have v:=ah (pdY a x w o u);have z:=ah (pdY b y w t n);clear o t u n;go_in;go_wp2_with fail;refine v.out.mono ?_;rintro e w' ⟨p,j,rfl,rfl⟩;go_wp2_with fail;refine z.out.mono ?_;rintro e w' ⟨q,g,rfl,rfl⟩;clear v z;have d:Hid (p=q ↔ x=y):=⟨fun h=>ptH (by rw [<-j.out,<-g.out,h]),fun h=>pcI (by rw [j.out,g.out,h])⟩
 clear j g;by_cases c:p=q
 · have C:Hid (CmpE x y 0):=⟨fun _=>d.out.1 c,fun _=>rfl⟩
   have k:(p.size:Int)=(q.size:Int):=by rw [c]
   have B:Op.bytesLess p.toList q.toList=false:=by rw [c];exact peI _
   have A:(p.toList == q.toList)=true:=by rw [c];exact beq_self_eq_true _
   clear c d;go_wp2;go_ret;exact ⟨0,C,by omega,rfl,rfl⟩
 · have f:x≠y:=fun h=>c (d.out.2 h);have H1:Hid (CmpE x y 1):=⟨fun h=>by omega,fun h=>absurd h f⟩
   have m:Hid (CmpE x y (-1)):=⟨fun h=>by omega,fun h=>absurd h f⟩
   have A:(p.toList == q.toList)=false:=by
    rw [xm];intro h;rw [yi,yi] at h;exact c (pcI h)
   clear c f d;by_cases D:p.size=q.size
   · have k:(p.size:Int)=(q.size:Int):=by omega
     cases B:Op.bytesLess p.toList q.toList
     · go_wp2;go_ret;exact ⟨1,H1,by omega,rfl,rfl⟩
     · go_wp2;go_ret;exact ⟨-1,m,by omega,rfl,rfl⟩
   · have k:¬ (p.size:Int)=(q.size:Int):=by omega
     by_cases E:p.size<q.size
     · go_wp2;go_ret;exact ⟨-1,m,by omega,rfl,rfl⟩
     · go_wp2;go_ret;exact ⟨1,H1,by omega,rfl,rfl⟩
theorem piy (wr v k l a b) (e:wr.ownsRow 0 5 1 v k (byteVals l)) (y:k<=1000000) :
 ∃ c w',(Builtin.append_ #[95,95] 95 #[v,.slice (some ⟨wr.heap.size,0,none⟩) 2 2]).run prog (wr.alloc (.cells #[.int .u8 (a.toNat:Int),.int .u8 (b.toNat:Int)] 5))=.ok c w'/\w'.ownsRow 0 5 1 c (k+2) (byteVals (l ++ [a,b]))/\Upd (foot v) (foot c) wr w':=by
 obtain ⟨p,t,r,x,w⟩:=pdP;have m:(wr.alloc (.cells #[.int .u8 (a.toNat:Int),.int .u8 (b.toNat:Int)] 5)).ownsRow 0 5 1 v k (byteVals l):=paj e (fun j d=>xY _ _ _ (pag e j d));have o:(wr.alloc (.cells #[.int .u8 (a.toNat:Int),.int .u8 (b.toNat:Int)] 5)).heap[wr.heap.size]? =some (.cells #[.int .u8 (a.toNat:Int),.int .u8 (b.toNat:Int)] 5 (0,0)):=xi _ _;obtain ⟨c,w',n,f,g⟩:=pa0 (P:=prog) (wr.alloc (.cells #[.int .u8 (a.toNat:Int),.int .u8 (b.toNat:Int)] 5)) 95 95 5 p (.int .u8 0) 1 1 underlying95 t r x w rfl (by omega) v k (byteVals l) m ⟨wr.heap.size,0,none⟩ 2 2 (byteVals [a,b]) rfl (by
  intro j u d;have q:(⟨wr.heap.size,0,none⟩:Addr).add j=⟨wr.heap.size,j,none⟩:=by simp [Addr.add];exact fun h=>h.symm
  rw [q,xa _ _ _ _ _ _ o,xD];exact d) (paL _) (by omega) (by simp only [maxLen];omega)
 rw [pa6];exact ⟨c,w',n,f,(uR.alloc _).trans g⟩
theorem pmx (n) (h:n<16):(((⟨#[48,49,50,51,52,53,54,55,56,57,97,98,99,100,101,102]⟩:ByteArray)[n]'h).toNat:Int)=((hexD n).toNat:Int):=by
 have a:n=0\/n=1\/n=2\/n=3\/n=4\/n=5\/n=6\/n=7\/n=8\/n=9\/n=10\/n=11\/n=12\/n=13\/n=14\/n=15:=by omega
 rcases a with rfl | rfl | rfl | rfl | rfl | rfl | rfl | rfl | rfl | rfl | rfl | rfl | rfl | rfl | rfl | rfl
 all_goals rfl
theorem pqp (s w) (g:s.size<=100000):Calls prog 203 #[.string s] w (MkS (hexL (bs s)) w):=by
 go_in;go_wp2;go_loopw [4,5] (fun t i wr=>∃ k:Nat,i=.int .i64 (k:Int)/\k<=s.size/\Hid (wr.ownsRow 0 5 1 t (2 * k) (byteVals (hexL ((bs s).take k))))/\Hid (Upd [] (foot t) w wr)) (fun _ i _=>s.size - (intOf i).toNat)
 case atStart=>exact ⟨0,rfl,xu _,(by show World.ownsRow _ _ _ _ _ _ _;exact x9 _ _ _ _),Upd.refl _ _⟩
 case round =>
  obtain ⟨k,rfl,G,n,p⟩:=hrel;by_cases v:k<s.size
  · have o:=pc6 s k v;obtain ⟨b,m⟩:=az (s[k]);have Z:(s[k].toNat:Int)=(b.toNat:Int):=by rw [m]
    rw [<-m] at o;have N:b.toNat<256:=b.toNat_lt;obtain ⟨c,y⟩:=az (b.toNat / 16);obtain ⟨a,x⟩:=az (b.toNat % 16);have M:(b.toNat:Int).tdiv 16=(c:Int):=by rw [xP (by omega)];omega
    have X:(b.toNat:Int).tmod 16=(a:Int):=by rw [xO (by omega)];omega
    have Q:IntKind.u8.wrap (c:Int)=(c:Int):=by unfold IntKind.wrap;simp [IntKind.bits,IntKind.signed];omega
    have T:IntKind.u8.wrap (a:Int)=(a:Int):=by unfold IntKind.wrap;simp [IntKind.bits,IntKind.signed];omega
    have R:(0:Int)<=(k:Int):=by omega
    have O:(k:Int)<(s.size:Int):=by omega
    have z:c<16:=by omega
    have A:a<16:=by omega
    have Y:(c:Int)<16:=by omega
    have J:(a:Int)<16:=by omega
    have U:=pmx c z;have W:=pmx a A;obtain ⟨H,w',q,j,r⟩:=piy wr.drew u4 (2 * k) (hexL ((bs s).take k)) (hexD c) (hexD a) (paj n.out (fun _ _=>rfl)) (by omega);have f:hexL ((bs s).take k) ++ [hexD c,hexD a]=hexL ((bs s).take (k+1)):=by
     have f:(bs s).take (k+1)=(bs s).take k ++ [b]:=by rw [xN,o];rfl
     rw [f,pf7,<-y,<-x]
     try simp
    rw [f] at j;have F:=ah q;have B:=ah j;have D:=ah (p.out.drew.trans r);clear y x o m q j r f;go_upto_region 6 with (fail)
    refine wp_region_noPanic ?_;refine vr (S:=fun _=>True) (by kernel_rfl) ?_ (fun e=>?_)
    · trivial
    refine tkS [0,1,2,3,4,5,6,7,8,9,10,11,12] e ?_;refine tk1 13 fun K d=>?_;go_simp;refine tkK d (trivial) fun e=>?_;clear d K;refine tk1 14 fun K d=>?_;refine paD _ rfl _ _ _ _ rfl u4 (.slice (some ⟨wr.drew.heap.size,0,none⟩) 2 2) H w' rfl rfl F.out ?_;refine tkK d (trivial) fun e=>?_;clear d K;refine tkY 15 e ?_;refine tkD ?_;go_wp2_with fail;exact ⟨⟨k+1,by go_num,by omega,B.out,D.out⟩,(by first | (simp [intOf];done) | (simp [intOf];omega))⟩
  · obtain rfl:k=s.size:=by omega
    have g:=n.out;rw [xy (by rw [pac];omega)] at g;have u:=pdK (P:=prog) wr 95 9 5 underlying95 underlying5 underlying9 u4 (hexL (bs s)) (by rw [paO,pac];exact g);have E:=ah u;have C:=ah (p.out.mono (fun _ h=>h) (fun _ h=>absurd h (by simp)):Uq w wr);clear g v G u n p;go_wp2_with fail;rw [E.out];go_wp2;go_ret;exact ⟨⟨(hexL (bs s)).toArray⟩,rfl,xj _,rfl,C.out⟩
def Dl.I (d:Dl):DlI:=⟨d.coms.map (fun (x:Nat)=>(x:Int)),(d.point:Int),d.boxes⟩
def pkc (d:Dl):Prop:=(∀ x∈d.coms,x<9223372036854775808)/\d.point<9223372036854775808/\d.coms.length<=100/\d.boxes.length<=100/\∀ b∈d.boxes,b.length<=100
def dtA (d:Dl) (k:Nat):List UInt8:=pe8 ++ paN (Lib.itoa (d.coms.length:Int) :: (d.coms.take k).map fun (x:Nat)=>Lib.itoa (x:Int))
def dtB (d:Dl) (k:Nat):List UInt8:=dtA d d.coms.length ++ paN (Lib.itoa (d.point:Int) :: (d.boxes.take k).map hexL)
theorem prF {d k} {x:Nat} (h:d.coms[k]? =some x):dtA d (k+1)=dtA d k ++ 32 :: Lib.itoa (x:Int):=by
 unfold dtA;rw [xN,h];simp [paN]
theorem prG {d k x} (h:d.boxes[k]? =some x):dtB d (k+1)=dtB d k ++ 32 :: hexL x:=by
 unfold dtB;rw [xN,h];simp [paN]
theorem pqq (d):dtB d d.boxes.length=d.I.text:=by
 rw [DlI.text_eq];unfold dtB dtA;rw [yb,yb];simp [Dl.I,paN,Function.comp_def]
theorem piz {α:Type} (f:α->List UInt8) (m):∀ l:List α,(∀ x∈l,(f x).length<=m)->(paN (l.map f)).length<=(m+1) * l.length
 | [],_=>by simp [paN]
 | x :: r,h=>by
  have h1:=piz f m r (fun y a=>h y (by simp [a]))
  have c:=h x (by simp)
  have e:paN ((x :: r).map f)=32 :: (f x ++ paN (r.map f)):=by simp [paN]
  rw [e,xF,xr,xF,yQ]
  omega
theorem plq {d} (h:pkc d) {k} (j:k<=d.coms.length):(dtA d k).length<=3000:=by
 have h1:=piz (fun (x:Nat)=>Lib.itoa (x:Int)) 20 (d.coms.take k) (fun x a=>itoa_len _ (by have:=h.1 x (zA a);unfold pab;omega));have f:=itoa_len (d.coms.length:Int) (by have:=h.2.2.1;unfold pab;omega);have g:(d.coms.take k).length<=100:=by have:=h.2.2.1;simp;omega
 have e:dtA d k=pe8 ++ (32 :: (Lib.itoa (d.coms.length:Int) ++ paN ((d.coms.take k).map fun (x:Nat)=>Lib.itoa (x:Int)))):=by simp [dtA,paN]
 have c:pe8.length=4:=rfl;rw [e,xr,xF,xr,c];omega
theorem pqr {d} (h:pkc d) {k} (g:k<=d.boxes.length):(dtB d k).length<=40000:=by
 have h0:=plq h (xj d.coms.length);have h1:=piz hexL 200 (d.boxes.take k) (fun x a=>by have:=h.2.2.2.2 x (zA a);rw [paO];omega);have c:=itoa_len (d.point:Int) (by have:=h.2.1;unfold pab;omega);have f:(d.boxes.take k).length<=100:=by have:=h.2.2.2.1;simp;omega
 have e:dtB d k=dtA d d.coms.length ++ (32 :: (Lib.itoa (d.point:Int) ++ paN ((d.boxes.take k).map hexL))):=by simp [dtB,paN]
 rw [e,xr,xF,xr];omega
theorem pnR (c b d w) (hd:pkc d) (hc:Sl w c d.coms) (hb:RdS w b d.boxes):Calls prog 158 #[.agg (dlC c (d.point:Int) b)] w (MkS d.I.text w):=by
 obtain ⟨g,hg⟩:=ae (w.heap.size);obtain ⟨z,T⟩:=ae (w.alloc (.cells (dlC c (d.point:Int) b) 142));have r0:=aW hg T;have H:=aU T;have p:=ah hd;have HC:=ah (hc.upd H);have HB:=ah (hb.upd H);obtain ⟨ca,cc,C,aA,_⟩:=hc.form;obtain ⟨ba,bc,D,aq,_,_⟩:=hb.form;obtain ⟨m,hm⟩:=az (d.coms.length);obtain ⟨n,hn⟩:=az (d.boxes.length);rw [<-hm] at C aA;rw [<-hn] at D aq;have B:=ah hm;have HN:=ah hn;have aD:m<=100/\n<=100:=by have:=hd.2.2;omega
 obtain ⟨P,E⟩:=az ((d.point:Int));have HP:=ah E;have HK:Hid (∀ W,Uq z W->W.cell? ⟨g,0,none⟩=some (.slice ca m cc)/\W.cell? ⟨g,1,none⟩=some (.int .i64 P)/\W.cell? ⟨g,2,none⟩=some (.slice ba n bc)):=fun W u=>by
  have h:=paa r0 u;refine ⟨?_,?_,?_⟩
  · rw [xa _ g 0 _ _ _ h,<-C];rfl
  · rw [xa _ g 1 _ _ _ h,E];rfl
  · rw [xa _ g 2 _ _ _ h,<-D];rfl
 have U0:=ah H;have ao:=ah C;have ap:=ah D;obtain ⟨N,F,J⟩:=HK.out z uR;rw [<-E] at T ⊢;clear hd hc hb r0 H hm hn E C D;go_in;go_wp2_with fail;refine (pb6 m z (by omega)).mono ?_;rintro e w1 ⟨y,HY,hy,rfl,hu⟩;have au:=itoa_len (m:Int) (by unfold pab;omega);have K:¬ 9223372036854775807<5+y.size:=by omega
 have am:=ah hu;obtain ⟨A0,S⟩:=az (ByteArray.mk #[100,101,97,108,32] ++ y);have aw:Hid (bs A0=dtA d 0):=by
  show _=_;rw [S,pae,HY.out,B.out];simp [dtA,paN,pe8,bs]
 have al:=S.symm;clear hu hy au S;go_wp2_with fail;clear N F J K al;go_loopw [3,4] (fun t i wr=>∃ (k:Nat) (A:ByteArray),t=.string A/\i=.int .i64 (k:Int)/\k<=m/\Hid (bs A=dtA d k)/\Hid (Uq z wr)) (fun _ i _=>m - (intOf i).toNat)
 case atStart=>exact ⟨0,A0,rfl,rfl,xu _,aw,am.out⟩
 case round =>
  obtain ⟨k,A,rfl,rfl,hk,a,f⟩:=hrel;obtain ⟨N,F,J⟩:=HK.out wr f.out;by_cases Q:k<m
  · obtain ⟨x,o⟩:∃ x,d.coms[k]? =some x:=⟨_,xd (by rw [<-B.out];exact Q)⟩
    have Z:=p.out.1 x (xt o);have ai:=ah (HC.out.upd f.out);rw [ao.out] at ai;obtain ⟨cb,av,O⟩:=ai.out.get o;have v:=plq p.out (show k<=d.coms.length by rw [<-B.out];omega);have q:=paF a.out;have Y:=ah (prF o);have i0:(0:Int)<=(k:Int):=by omega
    have i1:(k:Int)<(m:Int):=by omega
    have K:¬ 9223372036854775807<A.size+1:=by omega
    subst av;have r:Hid (A.size<=3000):=by show _<=_;omega
    clear o v q;go_wp2_with fail;refine (pb6 x wr Z).mono ?_;rintro e w2 ⟨G,R,X,rfl,hq⟩;have U:=itoa_len (x:Int) (by unfold pab;omega);have t2:¬ 9223372036854775807<A.size+1+G.size:=by have:=r.out;omega
    have ac:=ah (f.out.trans hq);clear hq X U;go_wp2_with fail;refine ⟨⟨k+1,_,rfl,by go_num,by omega,?_,ac.out⟩,by first | (simp [intOf];done) | (simp [intOf];omega)⟩;show _=_;rw [Y.out,pae,pae,a.out,R.out];simp [bs]
  · obtain rfl:k=m:=by omega
    have q:=paF a.out;have v:=plq p.out (show k<=d.coms.length by rw [<-B.out];omega);have K:¬ 9223372036854775807<A.size+1:=by omega
    have r:Hid (A.size<=3000):=by show _<=_;omega
    have ak:=p.out.2.1;clear q v;go_wp2_with fail;rw [HP.out];refine (pb6 d.point wr ak).mono ?_;rintro e w2 ⟨G,R,X,rfl,hq⟩;have U:=itoa_len (d.point:Int) (by unfold pab;omega);have t2:¬ 9223372036854775807<A.size+1+G.size:=by have:=r.out;omega
    have ay:=ah (f.out.trans hq);obtain ⟨B0,an⟩:=ae (A ++ ByteArray.mk #[32] ++ G);have aB:Hid (bs B0=dtB d 0):=by
     show _=_;rw [<-an,pae,pae,a.out,R.out,B.out];simp [dtB,paN,bs]
    clear hq X U ak N F J a f;go_wp2;go_loopw [3,5] (fun t i wr=>∃ (k:Nat) (A:ByteArray),t=.string A/\i=.int .i64 (k:Int)/\k<=n/\Hid (bs A=dtB d k)/\Hid (Uq z wr)) (fun _ i _=>n - (intOf i).toNat)
    case atStart=>exact ⟨0,B0,rfl,rfl,xu _,aB,ay.out⟩
    case round =>
     obtain ⟨j,A,rfl,rfl,hk,a,f⟩:=hrel;obtain ⟨N,F,J⟩:=HK.out wr f.out;by_cases Q:j<n
     · obtain ⟨x,o⟩:∃ x,d.boxes[j]? =some x:=⟨_,xd (by rw [<-HN.out];exact Q)⟩
       have Z:=p.out.2.2.2.2 x (xt o);obtain ⟨aE,aH,e2,_,_,ad⟩:=(HB.out.upd f.out).form;obtain ⟨bb,aj,_,O⟩:=ad j x o;have aC:ba=some ⟨bb,0,none⟩:=by
        have h:=ap.out.symm.trans e2;simp only [zD] at h;rw [h.1,aj]
       obtain ⟨M,aa⟩:∃ s:ByteArray,s=⟨x.toArray⟩:=⟨_,rfl⟩
       have ab:bs M=x:=by rw [aa,pcM]
       have aG:wr.cell? ⟨bb,j,none⟩=some (.string M):=by rw [O,aa];rfl
       have v:=pqr p.out (show j<=d.boxes.length by rw [<-HN.out];omega);have q:=paF a.out;have Y:=ah (prG o);have i0:(0:Int)<=(j:Int):=by omega
       have i1:(j:Int)<(n:Int):=by omega
       have K:¬ 9223372036854775807<A.size+1:=by omega
       subst aC;have r:Hid (A.size<=40000):=by show _<=_;omega
       have aF:M.size<=100:=by rw [paF ab];exact Z
       have ax:=ah ab;clear o v q aj e2 ad O aa ab;go_wp2_with fail;refine (pqp M wr (by omega)).mono ?_;rintro e w3 ⟨y3,af,ag,rfl,hq⟩;rw [ax.out] at af ag;have ar:=paO x;have t2:¬ 9223372036854775807<A.size+1+y3.size:=by have:=r.out;omega
       have ac:=ah (f.out.trans hq);clear hq ag ar;go_wp2_with fail;refine ⟨⟨j+1,_,rfl,by go_num,by omega,?_,ac.out⟩,by first | (simp [intOf];done) | (simp [intOf];omega)⟩;show _=_;rw [Y.out,pae,pae,a.out,af.out];simp [bs]
     · obtain rfl:j=n:=by omega
       have HF:Hid (bs A=d.I.text):=by show _=_;rw [a.out,HN.out,pqq]
       clear a;go_wp2;go_ret;exact ⟨A,HF,by rw [paF HF.out];exact xj _,rfl,U0.out.trans f.out⟩
end Go.Proofs.YtkhjolbbpdaplaaGreatDoor
