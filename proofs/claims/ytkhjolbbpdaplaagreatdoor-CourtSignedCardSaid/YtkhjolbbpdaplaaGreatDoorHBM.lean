/- sortesref33.Case.cheat and what follows. -/
import Derived.Test.YtkhjolbbpdaplaaGreatDoorHBL
namespace Go.Proofs.YtkhjolbbpdaplaaGreatDoor
set_option maxHeartbeats 8000000
open Go.RowKit Go.Proofs.Tryz
set_option maxRecDepth 100000
abbrev uW:=@Act.put_comm
abbrev vf:=@wp_store_mid
def courtL (q0:Int):List UInt8:=[99,111,117,114,116,32] ++ Lib.itoa (q0 % 1000)
def flipL (x:List UInt8) (m:Nat):List UInt8:=x.set m (x.getD m 0 ^^^ 1)
def pke (l:List Int) (k n m:Nat) (q0:Int):Dl:={ dlAt (wsN l (manyN l)) (courtL q0) k with boxes:=(dlAt (wsN l (manyN l)) (courtL q0) k).boxes.set n (flipL ((dlAt (wsN l (manyN l)) (courtL q0) k).boxes.getD n []) m) }
def pls (l:List Int) (k:Nat) (q0 q1 q2:Int) (X:EvdG):Prop:=∃ (d:Dl) (T:ByteArray) (n m r s ck c1 c2:Nat),pkc d/\(n:Int)=q1 % (((wsN l (manyN l)).sum:Nat):Int)/\(m:Int)=q2 % 16/\d=pke l k n m q0/\bs T=pfq (q2 % 8 / 7) d/\r=gP (nonceN (secN k) (bs T))/\s=sWith (secN k) (nonceN (secN k) (bs T)) (bs T)/\n<100/\ck<2305843009213691579/\c1<1152921504606845789/\c2<1152921504606845789 /\
 X={ evd0 with kind:=5,who:=((k+1:Nat):Int),aw:=((k+1:Nat):Int),aT:=T,ar:=(r:Int),as':=(s:Int),ci:=(n:Int),ck:=(ck:Int),c1:=(c1:Int),c2:=(c2:Int) }
theorem pqt (l:List Int) (L K P KM S C KS:Value) (w:World) (hC:CaseRd l w L K P KM S C KS) (k:Nat) (hk:k<manyN l) (X0:EvdG) (dq:X0={ evd0 with kind:=5,who:=((k+1:Nat):Int) }) (D q1 q2:Int) (dL:pab D) (dc:pab q1) (dA:pab q2) :
 Calls prog 32 #[.agg (csV L K P KM S C KS),.agg X0.V,k,.agg #[D,q1,q2]] w (fun e w'=>∃ X:EvdG,Hid (pls l k D q1 q2 X)/\e=.returned (.agg X.V)/\Uq w w'):=by
 have dG:=ah hC;have dW:=pdi l;obtain ⟨n,hn⟩:=az (manyN l);obtain ⟨a5,mc,hL,_,_,_⟩:=hC.memb hk;obtain ⟨gs,sc,hS,ds,cw⟩:=hC.sec hk;rw [<-hn] at hL hS dW;have HN:=ah hn;have bj:=ah hk;obtain ⟨CA,bu⟩:=az (csV L K P KM S C KS);have bq:=ah bu;obtain ⟨EV,cn⟩:=az (X0.V);have bO:=ah cn;have bi:=ah dq;obtain ⟨id,du⟩:=az (((k+1:Nat):Int));have cG:=ah du;have bm:Hid (L=.slice (some ⟨a5,0,none⟩) n mc/\S=.slice (some ⟨gs,0,none⟩) n sc):=⟨hL,hS⟩
 obtain ⟨sx,bI⟩:=az (secN k);have cj:Hid (sx=secN k/\sx<1152921504606845789):=⟨bI,by rw [bI];exact pgC k⟩
 rw [<-bI] at cw;obtain ⟨R,dy⟩:=ae (w.heap.size);obtain ⟨w0,di⟩:=ae (w.alloc (.cells CA 36));have r0:=aW dy di;have u0:=aU di;obtain ⟨gV,dn⟩:=ae (w0.heap.size);obtain ⟨w1,dK⟩:=ae (w0.alloc (.cells EV 50));have r1:=aW dn dK;have u1:=aU dK;obtain ⟨gQ,dl⟩:=ae (w1.heap.size);obtain ⟨w2,dI⟩:=ae (w1.alloc (.cells #[D,q1,q2] 52));have r2:=aW dl dI;have u2:=aU dI;obtain ⟨gR,dh⟩:=ae (w2.heap.size);obtain ⟨G,dH⟩:=ae (w2.alloc (.cells zZ1 50));have r3:G.heap[gR]? =some (.cells evd0.V 50 (0,0)):=aW dh dH;have u3:=aU dH;have l1:R<gV:=by rw [<-dn];exact paf r0
 have l2:gV<gQ:=by rw [<-dl];exact paf r1
 have l3:gQ<gR:=by rw [<-dh];exact paf r2
 have F:Hid (ChSt w G R gV gQ gR CA EV D q1 q2):=⟨paa r0 ((u1.trans u2).trans u3),paa r1 (u2.trans u3),paa r2 u3,r3,((u0.trans u1).trans u2).trans u3,⟨xJ dy,l1,l2,l3⟩⟩
 have aY:=ah (xf dL (xf dc dA));obtain ⟨ws,aS⟩:=az (wsN l (manyN l));have al:Hid (WsOk ws):=by rw [aS];exact pjB l
 have aB:Hid (ws.length=n):=by show _=_;rw [aS,hn];simp [wsN]
 have a2:=ah aS;have bT:Hid (∀ W,Uq w W->pbN W (.slice (some ⟨a5,0,none⟩) n mc) ws):=fun W u=>by rw [<-hL,aS];exact (hC.upd u).made.crew
 have H:Hid (∀ W,ChSt w W R gV gQ gR CA EV D q1 q2->W.cell? ⟨R,0,none⟩=some (.slice (some ⟨a5,0,none⟩) n mc)/\W.cell? ⟨gQ,0,none⟩=some (.int .i64 D)):=fun W h=>by
  refine ⟨?_,xa _ gQ 0 _ _ _ h.q⟩;rw [xa _ R 0 _ _ _ h.c,bu,<-hL];rfl
 have bn:Uq G G.drew:=uR.drew;have i0:(0:Int)<=(k:Int):=by omega
 have i1:(k:Int)<(n:Int):=by omega
 have dB:Hid (gs<w.heap.size/\w.cell? ⟨gs,k,none⟩=some (.int .i64 (sx:Int))):=⟨ds,cw⟩
 have b4:Hid (gR<G.heap.size):=paf r3;rw [<-bu,<-cn];clear hC hn bu cn dq du hL hS bI cw ds r0 r1 r2 r3 u0 u1 u2 u3 l1 l2 l3 dL dc dA aS hk;go_in;go_upto_region 1 with (fail)
 refine @_root_.id ((∀ (m0:Int) (y1 M:ByteArray) (g aq:Nat) (c:Value) (d t f p:Nat) (ac:Array Value) (A:Nat) (W:World),Hid (f=(dlAt ws (courtL D) k).boxes.length/\p=(dlAt ws (courtL D) k).point)->Hid (DlB G.heap.size W c d t ac (dlAt ws (courtL D) k))->Fr W A (dlC c (p:Int) (.slice (some ⟨d,0,none⟩) f t)) 142->Hid (Uq G W)->Hid (G.heap.size<=A)->(?pj1:Int->ByteArray->ByteArray->Nat->Nat->Value->Nat->Nat->Nat->Nat->Array Value->Nat->World->Prop) m0 y1 M g aq c d t f p ac A W)->_) (fun hJ=>?mj1) ?jj1
 case mj1 =>
  refine bG (S:=fun wp=>wp.cell? ⟨R,0,none⟩=some (.slice (some ⟨a5,0,none⟩) n mc)/\wp.cell? ⟨gQ,0,none⟩=some (.int .i64 D)) (H.out _ (F.out.quiet bn)) fun z=>?_;refine tkS [0,1,2,3,4,9] z ?_;refine tkA [5,12] ?_;refine tkC (fun K a=>?_) ?_
  · go_simp;refine (pbC D 1000 _ aY.out.1 (by omega)).mono ?_;rintro e wq ⟨m0,bw,dT,d8,rfl,rfl⟩;go_wp2_with fail;refine tkK a (H.out _ (F.out.quiet bn)) fun z=>?_;clear a K;refine tkA [6,12] ?_;refine tkC (fun K a=>?_) ?_
    · go_simp;refine (paB m0 _ (by unfold pab;omega)).mono ?_;rintro e aL ⟨y1,aQ,a4,rfl,hq⟩;have ak:=bn.trans hq;clear hq;have aV:=itoa_len m0 (by unfold pab;omega);have t1:¬ 9223372036854775807<6+y1.size:=(by omega);obtain ⟨M,aj⟩:=az (ByteArray.mk #[99,111,117,114,116,32] ++ y1);have aI:Hid (bs M=courtL D):=(by show _=_;rw [aj,pae,aQ.out,bw.out];rfl);have aO:M.size<=100000:=(by rw [aj,xT,show (ByteArray.mk #[99,111,117,114,116,32]).size=6 from rfl];omega);have c4:=aj.symm;clear aj aV a4;go_wp2_with fail;refine tkK a (H.out _ (F.out.quiet ak)) fun z=>?_;clear a K;refine tkY 7 z ?_;refine tkA [8,12] ?_;refine tkC (fun K a=>?_) ?_
      · go_simp;refine (pbJ _ ws M _ al.out (bT.out _ (F.out.up.trans ak)) aO).mono ?_;rintro e ay ⟨u,an,rfl,hq⟩;obtain ⟨g,aq,c,d,t,ac,rfl,ap,N,e0,e1,e2,ao⟩:=(an.out _ (paC.refl _ _)).elem (pmy aB.out bj.out HN.out aI.out) (pd2 al.out _ _);obtain ⟨f,ab⟩:=az ((dlAt ws (courtL D) k).boxes.length);obtain ⟨p,ag⟩:=az ((dlAt ws (courtL D) k).point);rw [<-ab] at e2;rw [<-ag] at e1;have am:(dsN ws (bs M) ws.length).length=n:=(by rw [pe7];exact aB.out);rw [am] at ap ⊢;have cF:=ah (dl_load e0 e1 e2);have cg:=ah N;have aD:Hid (∀ W,Uq ay W->(Instr.loadAt 142 (.pointer (some ⟨g,k * 3,none⟩))).run prog W=.ok (.agg (dlC c (p:Int) (.slice (some ⟨d,0,none⟩) f t))) W):=(by intro W u;exact dl_load ((u.cell (p:=⟨g,_,none⟩) N (by simp)).trans e0) ((u.cell (p:=⟨g,_,none⟩) N (by simp)).trans e1) ((u.cell (p:=⟨g,_,none⟩) N (by simp)).trans e2));have J:=ah (ao.mono (B':=G.heap.size) (by have:=ak.size;omega));have ad:=ah (xf ab ag);have b9:=Upd.refl [] ay;have O:=ak.trans hq;clear hq ao e0 e1 e2 ap N an ab ag am;go_wp2_with fail;refine tkK a (H.out _ (F.out.quiet O)) fun z=>?_;clear a K;refine tkY 10 z ?_;refine tkA [11,12] ?_;refine tkC (fun K a=>?_) ?_
        · refine pck 142 _ rfl g (k * 3) rfl (dlC c (p:Int) (.slice (some ⟨d,0,none⟩) f t)) (aD.out _ b9) ?_;refine tkK a (H.out _ (F.out.quiet O)) fun z=>?_;clear a K;refine tk1 12 fun K a=>?_;go_simp;obtain ⟨A,af,ai,B,U,hq⟩:=paw ay (.cells #[.slice none 0 0,.int .i64 0,.slice none 0 0] 142);rw [<-ai,<-B];have bD:G.heap.size<=A:=(by have:=O.size;omega);have aC:=b9.trans hq;have J:=ah (J.out.upd hq);have aa:=O.trans hq;clear ai B hq;refine tkK a (H.out _ (F.out.quiet aa)) fun z=>?_;clear a K;refine tk1 13 fun K a=>?_;rw [xH (by rfl)];refine xM 142 _ _ rfl A (dlC c (p:Int) (.slice (some ⟨d,0,none⟩) f t)) rfl rfl _ _ U.out (pbB _ _ _) rfl (pgL J.out.one rfl) ?_;obtain ⟨Y,B⟩:=az (af.setRow A (dlC c (p:Int) (.slice (some ⟨d,0,none⟩) f t)));have av:Fr Y A (dlC c (p:Int) (.slice (some ⟨d,0,none⟩) f t)) 142:=(by show _=_;rw [B];exact xz _ _ _ _ _ _ U.out);have ax:Hid (DlB G.heap.size Y c d t ac (dlAt ws (courtL D) k)):=(by rw [B];exact J.out.keep U.out (fun x Q=>yD _ _ _ _ Q));have Z:=aa.setRowNew bD (dlC c (p:Int) (.slice (some ⟨d,0,none⟩) f t));rw [<-B] at Z ⊢;clear B;refine tkK a (H.out _ (F.out.quiet Z)) fun z=>?_;clear a K;refine tkD ?_;exact hJ m0 y1 M g aq c d t f p ac A Y ad ax av (ah Z) (ah bD)
        refine tkZ fun K a=>?_;go_simp;obtain ⟨A,af,ai,B,U,hq⟩:=paw ay (.cells #[.slice none 0 0,.int .i64 0,.slice none 0 0] 142);rw [<-ai,<-B];have bD:G.heap.size<=A:=(by have:=O.size;omega);have aC:=b9.trans hq;have J:=ah (J.out.upd hq);have aa:=O.trans hq;clear ai B hq;refine tkK a (H.out _ (F.out.quiet aa)) fun z=>?_;clear a K;refine tk1 11 fun K a=>?_;refine pck 142 _ rfl g (k * 3) rfl (dlC c (p:Int) (.slice (some ⟨d,0,none⟩) f t)) (aD.out _ aC) ?_;refine tkK a (H.out _ (F.out.quiet aa)) fun z=>?_;clear a K;refine tk1 13 fun K a=>?_;rw [xH (by rfl)];refine xM 142 _ _ rfl A (dlC c (p:Int) (.slice (some ⟨d,0,none⟩) f t)) rfl rfl _ _ U.out (pbB _ _ _) rfl (pgL J.out.one rfl) ?_;obtain ⟨Y,B⟩:=az (af.setRow A (dlC c (p:Int) (.slice (some ⟨d,0,none⟩) f t)));have av:Fr Y A (dlC c (p:Int) (.slice (some ⟨d,0,none⟩) f t)) 142:=(by show _=_;rw [B];exact xz _ _ _ _ _ _ U.out);have ax:Hid (DlB G.heap.size Y c d t ac (dlAt ws (courtL D) k)):=(by rw [B];exact J.out.keep U.out (fun x Q=>yD _ _ _ _ Q));have Z:=aa.setRowNew bD (dlC c (p:Int) (.slice (some ⟨d,0,none⟩) f t));rw [<-B] at Z ⊢;clear B;refine tkK a (H.out _ (F.out.quiet Z)) fun z=>?_;clear a K;refine tkD ?_;exact hJ m0 y1 M g aq c d t f p ac A Y ad ax av (ah Z) (ah bD)
      refine tkZ fun K a=>?_;go_simp;obtain ⟨A,ay,ai,B,aP,hq⟩:=paw aL (.cells #[.slice none 0 0,.int .i64 0,.slice none 0 0] 142);rw [<-ai,<-B];have bD:G.heap.size<=A:=(by have:=ak.size;omega);have O:=ak.trans hq;clear ai B hq;refine tkK a (H.out _ (F.out.quiet O)) fun z=>?_;clear a K;refine tk1 8 fun K a=>?_;go_simp;refine (pbJ _ ws M _ al.out (bT.out _ (F.out.up.trans O)) aO).mono ?_;rintro e af ⟨u,an,rfl,hq⟩;obtain ⟨g,aq,c,d,t,ac,rfl,ap,N,e0,e1,e2,ao⟩:=(an.out _ (paC.refl _ _)).elem (pmy aB.out bj.out HN.out aI.out) (pd2 al.out _ _);obtain ⟨f,ab⟩:=az ((dlAt ws (courtL D) k).boxes.length);obtain ⟨p,ag⟩:=az ((dlAt ws (courtL D) k).point);rw [<-ab] at e2;rw [<-ag] at e1;have am:(dsN ws (bs M) ws.length).length=n:=(by rw [pe7];exact aB.out);rw [am] at ap ⊢;have cF:=ah (dl_load e0 e1 e2);have cg:=ah N;have aD:Hid (∀ W,Uq af W->(Instr.loadAt 142 (.pointer (some ⟨g,k * 3,none⟩))).run prog W=.ok (.agg (dlC c (p:Int) (.slice (some ⟨d,0,none⟩) f t))) W):=(by intro W u;exact dl_load ((u.cell (p:=⟨g,_,none⟩) N (by simp)).trans e0) ((u.cell (p:=⟨g,_,none⟩) N (by simp)).trans e1) ((u.cell (p:=⟨g,_,none⟩) N (by simp)).trans e2));have J:=ah (ao.mono (B':=G.heap.size) (by have:=O.size;omega));have ad:=ah (xf ab ag);have aC:=Upd.refl [] af;have aa:=O.trans hq;have U:=ah (paa aP.out hq);clear hq ao e0 e1 e2 ap N an ab ag am;go_wp2_with fail;refine tkK a (H.out _ (F.out.quiet aa)) fun z=>?_;clear a K;refine tkY 10 z ?_;refine tk1 11 fun K a=>?_;refine pck 142 _ rfl g (k * 3) rfl (dlC c (p:Int) (.slice (some ⟨d,0,none⟩) f t)) (aD.out _ aC) ?_;refine tkK a (H.out _ (F.out.quiet aa)) fun z=>?_;clear a K;refine tk1 13 fun K a=>?_;rw [xH (by rfl)];refine xM 142 _ _ rfl A (dlC c (p:Int) (.slice (some ⟨d,0,none⟩) f t)) rfl rfl _ _ U.out (pbB _ _ _) rfl (pgL J.out.one rfl) ?_;obtain ⟨Y,B⟩:=az (af.setRow A (dlC c (p:Int) (.slice (some ⟨d,0,none⟩) f t)));have av:Fr Y A (dlC c (p:Int) (.slice (some ⟨d,0,none⟩) f t)) 142:=(by show _=_;rw [B];exact xz _ _ _ _ _ _ U.out);have ax:Hid (DlB G.heap.size Y c d t ac (dlAt ws (courtL D) k)):=(by rw [B];exact J.out.keep U.out (fun x Q=>yD _ _ _ _ Q));have Z:=aa.setRowNew bD (dlC c (p:Int) (.slice (some ⟨d,0,none⟩) f t));rw [<-B] at Z ⊢;clear B;refine tkK a (H.out _ (F.out.quiet Z)) fun z=>?_;clear a K;refine tkD ?_;exact hJ m0 y1 M g aq c d t f p ac A Y ad ax av (ah Z) (ah bD)
    refine tkZ fun K a=>?_;go_simp;obtain ⟨A,aL,ai,B,ca,hq⟩:=paG G (.cells #[.slice none 0 0,.int .i64 0,.slice none 0 0] 142);rw [<-ai,<-B];have bD:G.heap.size<=A:=(by omega);have ak:=hq;clear ai B hq;refine tkK a (H.out _ (F.out.quiet ak)) fun z=>?_;clear a K;refine tk1 6 fun K a=>?_;go_simp;refine (paB m0 _ (by unfold pab;omega)).mono ?_;rintro e ay ⟨y1,aQ,a4,rfl,hq⟩;have O:=ak.trans hq;have aP:=ah (paa ca.out hq);clear hq;have aV:=itoa_len m0 (by unfold pab;omega);have t1:¬ 9223372036854775807<6+y1.size:=(by omega);obtain ⟨M,aj⟩:=az (ByteArray.mk #[99,111,117,114,116,32] ++ y1);have aI:Hid (bs M=courtL D):=(by show _=_;rw [aj,pae,aQ.out,bw.out];rfl);have aO:M.size<=100000:=(by rw [aj,xT,show (ByteArray.mk #[99,111,117,114,116,32]).size=6 from rfl];omega);have c4:=aj.symm;clear aj aV a4;go_wp2_with fail;refine tkK a (H.out _ (F.out.quiet O)) fun z=>?_;clear a K;refine tkY 7 z ?_;refine tk1 8 fun K a=>?_;go_simp;refine (pbJ _ ws M _ al.out (bT.out _ (F.out.up.trans O)) aO).mono ?_;rintro e af ⟨u,an,rfl,hq⟩;obtain ⟨g,aq,c,d,t,ac,rfl,ap,N,e0,e1,e2,ao⟩:=(an.out _ (paC.refl _ _)).elem (pmy aB.out bj.out HN.out aI.out) (pd2 al.out _ _);obtain ⟨f,ab⟩:=az ((dlAt ws (courtL D) k).boxes.length);obtain ⟨p,ag⟩:=az ((dlAt ws (courtL D) k).point);rw [<-ab] at e2;rw [<-ag] at e1;have am:(dsN ws (bs M) ws.length).length=n:=(by rw [pe7];exact aB.out);rw [am] at ap ⊢;have cF:=ah (dl_load e0 e1 e2);have cg:=ah N;have aD:Hid (∀ W,Uq af W->(Instr.loadAt 142 (.pointer (some ⟨g,k * 3,none⟩))).run prog W=.ok (.agg (dlC c (p:Int) (.slice (some ⟨d,0,none⟩) f t))) W):=(by intro W u;exact dl_load ((u.cell (p:=⟨g,_,none⟩) N (by simp)).trans e0) ((u.cell (p:=⟨g,_,none⟩) N (by simp)).trans e1) ((u.cell (p:=⟨g,_,none⟩) N (by simp)).trans e2));have J:=ah (ao.mono (B':=G.heap.size) (by have:=O.size;omega));have ad:=ah (xf ab ag);have aC:=Upd.refl [] af;have aa:=O.trans hq;have U:=ah (paa aP.out hq);clear hq ao e0 e1 e2 ap N an ab ag am;go_wp2_with fail;refine tkK a (H.out _ (F.out.quiet aa)) fun z=>?_;clear a K;refine tkY 10 z ?_;refine tk1 11 fun K a=>?_;refine pck 142 _ rfl g (k * 3) rfl (dlC c (p:Int) (.slice (some ⟨d,0,none⟩) f t)) (aD.out _ aC) ?_;refine tkK a (H.out _ (F.out.quiet aa)) fun z=>?_;clear a K;refine tk1 13 fun K a=>?_;rw [xH (by rfl)];refine xM 142 _ _ rfl A (dlC c (p:Int) (.slice (some ⟨d,0,none⟩) f t)) rfl rfl _ _ U.out (pbB _ _ _) rfl (pgL J.out.one rfl) ?_;obtain ⟨Y,B⟩:=az (af.setRow A (dlC c (p:Int) (.slice (some ⟨d,0,none⟩) f t)));have av:Fr Y A (dlC c (p:Int) (.slice (some ⟨d,0,none⟩) f t)) 142:=(by show _=_;rw [B];exact xz _ _ _ _ _ _ U.out);have ax:Hid (DlB G.heap.size Y c d t ac (dlAt ws (courtL D) k)):=(by rw [B];exact J.out.keep U.out (fun x Q=>yD _ _ _ _ Q));have Z:=aa.setRowNew bD (dlC c (p:Int) (.slice (some ⟨d,0,none⟩) f t));rw [<-B] at Z ⊢;clear B;refine tkK a (H.out _ (F.out.quiet Z)) fun z=>?_;clear a K;refine tkD ?_;exact hJ m0 y1 M g aq c d t f p ac A Y ad ax av (ah Z) (ah bD)
  refine tkZ fun K a=>?_;go_simp;obtain ⟨A,aL,ai,B,ca,hq⟩:=paG G (.cells #[.slice none 0 0,.int .i64 0,.slice none 0 0] 142);rw [<-ai,<-B];have bD:G.heap.size<=A:=(by omega);have ak:=hq;clear ai B hq;refine tkK a (H.out _ (F.out.quiet ak)) fun z=>?_;clear a K;refine tk1 5 fun K a=>?_;go_simp;refine (pbC D 1000 _ aY.out.1 (by omega)).mono ?_;rintro e wq ⟨m0,bw,dT,d8,rfl,rfl⟩;go_wp2_with fail;refine tkK a (H.out _ (F.out.quiet ak)) fun z=>?_;clear a K;refine tk1 6 fun K a=>?_;go_simp;refine (paB m0 _ (by unfold pab;omega)).mono ?_;rintro e ay ⟨y1,aQ,a4,rfl,hq⟩;have O:=ak.trans hq;have aP:=ah (paa ca.out hq);clear hq;have aV:=itoa_len m0 (by unfold pab;omega);have t1:¬ 9223372036854775807<6+y1.size:=(by omega);obtain ⟨M,aj⟩:=az (ByteArray.mk #[99,111,117,114,116,32] ++ y1);have aI:Hid (bs M=courtL D):=(by show _=_;rw [aj,pae,aQ.out,bw.out];rfl);have aO:M.size<=100000:=(by rw [aj,xT,show (ByteArray.mk #[99,111,117,114,116,32]).size=6 from rfl];omega);have c4:=aj.symm;clear aj aV a4;go_wp2_with fail;refine tkK a (H.out _ (F.out.quiet O)) fun z=>?_;clear a K;refine tkY 7 z ?_;refine tk1 8 fun K a=>?_;go_simp;refine (pbJ _ ws M _ al.out (bT.out _ (F.out.up.trans O)) aO).mono ?_;rintro e af ⟨u,an,rfl,hq⟩;obtain ⟨g,aq,c,d,t,ac,rfl,ap,N,e0,e1,e2,ao⟩:=(an.out _ (paC.refl _ _)).elem (pmy aB.out bj.out HN.out aI.out) (pd2 al.out _ _);obtain ⟨f,ab⟩:=az ((dlAt ws (courtL D) k).boxes.length);obtain ⟨p,ag⟩:=az ((dlAt ws (courtL D) k).point);rw [<-ab] at e2;rw [<-ag] at e1;have am:(dsN ws (bs M) ws.length).length=n:=(by rw [pe7];exact aB.out);rw [am] at ap ⊢;have cF:=ah (dl_load e0 e1 e2);have cg:=ah N;have aD:Hid (∀ W,Uq af W->(Instr.loadAt 142 (.pointer (some ⟨g,k * 3,none⟩))).run prog W=.ok (.agg (dlC c (p:Int) (.slice (some ⟨d,0,none⟩) f t))) W):=(by intro W u;exact dl_load ((u.cell (p:=⟨g,_,none⟩) N (by simp)).trans e0) ((u.cell (p:=⟨g,_,none⟩) N (by simp)).trans e1) ((u.cell (p:=⟨g,_,none⟩) N (by simp)).trans e2));have J:=ah (ao.mono (B':=G.heap.size) (by have:=O.size;omega));have ad:=ah (xf ab ag);have aC:=Upd.refl [] af;have aa:=O.trans hq;have U:=ah (paa aP.out hq);clear hq ao e0 e1 e2 ap N an ab ag am;go_wp2_with fail;refine tkK a (H.out _ (F.out.quiet aa)) fun z=>?_;clear a K;refine tkY 10 z ?_;refine tk1 11 fun K a=>?_;refine pck 142 _ rfl g (k * 3) rfl (dlC c (p:Int) (.slice (some ⟨d,0,none⟩) f t)) (aD.out _ aC) ?_;refine tkK a (H.out _ (F.out.quiet aa)) fun z=>?_;clear a K;refine tk1 13 fun K a=>?_;rw [xH (by rfl)];refine xM 142 _ _ rfl A (dlC c (p:Int) (.slice (some ⟨d,0,none⟩) f t)) rfl rfl _ _ U.out (pbB _ _ _) rfl (pgL J.out.one rfl) ?_;obtain ⟨Y,B⟩:=az (af.setRow A (dlC c (p:Int) (.slice (some ⟨d,0,none⟩) f t)));have av:Fr Y A (dlC c (p:Int) (.slice (some ⟨d,0,none⟩) f t)) 142:=(by show _=_;rw [B];exact xz _ _ _ _ _ _ U.out);have ax:Hid (DlB G.heap.size Y c d t ac (dlAt ws (courtL D) k)):=(by rw [B];exact J.out.keep U.out (fun x Q=>yD _ _ _ _ Q));have Z:=aa.setRowNew bD (dlC c (p:Int) (.slice (some ⟨d,0,none⟩) f t));rw [<-B] at Z ⊢;clear B;refine tkK a (H.out _ (F.out.quiet Z)) fun z=>?_;clear a K;refine tkD ?_;exact hJ m0 y1 M g aq c d t f p ac A Y ad ax av (ah Z) (ah bD)
 intro m0 y1 M g aq c d t f p ac A w4 ad J cX U4 eb
 skip
 obtain ⟨D0,bg⟩:=az (dlAt ws (courtL D) k);have bk:Hid (phD D0 ws.sum/\D0.coms.length=needN ws.sum):=by rw [bg];exact peJ al.out _ _
 rw [<-bg] at ad J;have bP:=ah bg;have dN:=al.out.sum;have ab:f=ws.sum:=ad.out.1.trans bk.out.1.2.2.2.2.1;have d6:=ah ab;have S4:=ah (F.out.quiet U4.out);have bZ:Hid (gR<A):=by have:=b4.out;have:=eb.out;show _<_;omega
 have ez:G.heap.size<=d:=J.out.base;have dO:Hid (gR<d):=by have:=b4.out;show _<_;omega
 have d1:w4.cell? ⟨gQ,1,none⟩=some (.int .i64 q1):=xa _ gQ 1 _ _ _ S4.out.q;have de:w4.cell? ⟨A,2,none⟩=some (.slice (some ⟨d,0,none⟩) f t):=(xa _ A 2 _ _ _ cX.out).trans rfl;have dk:=ah (pbC q1 (f:Int) w4 aY.out.2.1 (by omega));have eL:1<=f/\f<=12:=by omega
 clear bg dN ez ab;go_wp2_with fail;refine dk.out.mono ?_;rintro e w5 ⟨E,eH,eR,eT,rfl,rfl⟩;obtain ⟨E,rfl⟩:∃ y:Nat,E=(y:Int):=⟨E.toNat,by omega⟩
 have aM:E<D0.boxes.length:=by rw [<-ad.out.1];omega
 obtain ⟨aA,a9⟩:∃ b,D0.boxes[E]? =some b:=⟨_,xd aM⟩
 have c9:=bk.out.1.2.2.2.2.2 aA (xt a9);obtain ⟨ee,dP,e8,_,_,a7⟩:=J.out.rds.form;obtain ⟨cV,bb,_,bd⟩:=a7 E aA a9;obtain rfl:d=cV:=by
  simp only [zD] at e8;have:=e8.1.trans bb;simpa using this
 obtain ⟨bx,cN⟩:∃ s:ByteArray,s=⟨aA.toArray⟩:=⟨_,rfl⟩
 have c0:bs bx=aA:=by rw [cN,pcM]
 have dz:w4.cell? ⟨d,E,none⟩=some (.string bx):=by rw [bd,cN];rfl
 have bo:bx.size=16:=by rw [paF c0];exact c9
 have au:=ah (xf c0 (xf a9 aM));obtain ⟨kc,w5,c7,dS,eO,c3,dM⟩:=BB.make w4 9 bx underlying9 (by rw [bo];simp [maxLen]);have bW:=ah c7;have bh:=ah c3;have bC:=ah dM;obtain ⟨gY,cl⟩:=az (w4.heap.size);rw [<-cl] at bh bW;have d3:Hid (w4.heap.size=gY):=cl.symm;have j0:(0:Int)<=(E:Int):=by omega
 have j1:(E:Int)<(f:Int):=by omega
 clear dk a9 aM c9 e8 a7 bb bd cN c0 c7 c3 dM cl;rw [bo] at bW dS;go_wp2_with fail;rw [bW.out];have S5:=ah (S4.out.quiet bC.out);have dY:=ah (J.out.upd bC.out);have dX:=ah (paa cX.out bC.out);have d5:w5.cell? ⟨gQ,2,none⟩=some (.int .i64 q2):=xa _ gQ 2 _ _ _ S5.out.q;have dr:=ah (pbC q2 16 w5 aY.out.2.2 (by omega));clear d1 de dz j0 j1 bW;go_wp2_with fail;refine dr.out.mono ?_;rintro e w6 ⟨m',HM,eV,eK,rfl,rfl⟩;obtain ⟨m,rfl⟩:∃ y:Nat,m'=(y:Int):=⟨m'.toNat,by omega⟩
 have a8:m<(bs bx).length:=by rw [pac,bo];omega
 obtain ⟨b0,ch⟩:∃ b,(bs bx)[m]? =some b:=⟨_,xd a8⟩
 have fc:=bh.out.cell ch;have fz:w5.frozen? ⟨gY,m,none⟩=false:=bh.out.frozen a8;have ex:bits .xor .u8 (b0.toNat:Int) 1=((b0 ^^^ 1).toNat:Int):=pmm b0 1;obtain ⟨b1,hb1⟩:=az (b0 ^^^ 1);rw [<-hb1] at ex;obtain ⟨W6,cu⟩:=ae (w5.setCell ⟨gY,m,none⟩ (.int .u8 (b1.toNat:Int)));have d4:A<w4.heap.size:=paf cX.out;have eu:=d3.out;have eU:d<w4.heap.size:=paf J.out.box;have ce:=S5.out.other (g:=gY) (by have:=bZ.out;omega) m (.int .u8 (b1.toNat:Int));have cz:=bh.out.set a8 b1;have cO:=pai (g:=gY) (i:=m) (v:=.int .u8 (b1.toNat:Int)) dX.out (by omega);have b5:=dY.out.setOther (g:=gY) (by have:=bC.out.size;intro x Q;have:=J.out.foot_lt x Q;omega) (by omega) m (.int .u8 (b1.toNat:Int));rw [cu] at ce cz cO b5;have S6:=ah ce;have B6:=ah cz;have cA:=ah cO;have bz:=ah b5;have et:=ah cu;have eh:Hid ((bs bx).set m b1=flipL aA m):=by
  show _=_;rw [flipL,<-au.out.1,hb1];simp [List.getD_eq_getElem?_getD,ch]
 have p0:(0:Int)<=(m:Int):=by omega
 have p1:(m:Int)<16:=by omega
 clear ch hb1 cu ce cz cO b5 d4 eu a8 dr d5;go_upto_region 6 with (fail)
 rw [et.out];obtain ⟨nx,cC⟩:∃ s:ByteArray,s=⟨(flipL aA m).toArray⟩:=⟨_,rfl⟩
 have cR:=B6.out.text 9 underlying9 kc;rw [zS,pac,bo,eh.out] at cR;have eg:Hid ((convert 95 9 (.slice (some ⟨gY,0,none⟩) 16 kc)).run prog W6=.ok (.string nx) W6):=by rw [cC];exact cR
 have bK:Hid (bs nx=flipL aA m):=by show _=_;rw [cC,pcM]
 have de:W6.cell? ⟨A,2,none⟩=some (.slice (some ⟨d,0,none⟩) f t):=(xa _ A 2 _ _ _ cA.out).trans rfl;clear cR cC;go_wp2_with fail;rw [eg.out];have aM:=au.out.2.2;have dz:W6.cell? ⟨d,E,none⟩=some (.string bx):=by
  obtain ⟨ee,dP,e8,_,_,a7⟩:=bz.out.rds.form;obtain ⟨cV,bb,_,bd⟩:=a7 E aA au.out.2.1;obtain rfl:d=cV:=by
   simp only [zD] at e8;have:=e8.1.trans bb;simpa using this
  rw [bd,<-au.out.1,pnW]
 have eN:W6.frozen? ⟨d,E,none⟩=false:=xp _ _ _ _ _ bz.out.box;obtain ⟨W7,cT⟩:=ae (W6.setCell ⟨d,E,none⟩ (.string nx));have cp:=S6.out.other dO.out E (.string nx);have a6:=bz.out.setBox aM nx;have cy:=pai (g:=d) (i:=E) (v:=.string nx) cA.out (by
  intro e;have h1:=bz.out.box;rw [<-e,cA.out] at h1;simp at h1)
 rw [cT] at cp a6 cy;obtain ⟨D7,cb⟩:=az (pke l k E m D);have dx:({ D0 with boxes:=D0.boxes.set E (bs nx) }:Dl)=D7:=by
  rw [cb,pke,<-a2.out,<-bP.out,bK.out,xx,au.out.2.1];rfl
 rw [dx] at a6;have S7:=ah cp;have cI:=ah a6;have ef:=ah cy;have eE:=ah cT;have cW:=ah cb;have j0:(0:Int)<=(E:Int):=by omega
 have j1:(E:Int)<(f:Int):=by rw [ad.out.1];omega
 clear cp a6 cy dx cT cb aM;go_upto_region 7 with (fail)
 rw [eE.out];have eI:=ah ((dG.out.upd S7.out.up).made.pts);obtain ⟨po,pc,hP,dt,_,da⟩:=eI.out;have aJ:(pdg (wsN l (manyN l))).length=n:=by rw [pbA,<-a2.out,aB.out]
 rw [aJ] at hP dt;have em:=ah da;have cP:W7.cell? ⟨R,2,none⟩=some (.slice po n pc):=by rw [xa _ R 2 _ _ _ S7.out.c,bq.out,<-hP];rfl
 have cL:W7.cell? ⟨R,0,none⟩=some (.slice (some ⟨a5,0,none⟩) n mc):=by rw [xa _ R 0 _ _ _ S7.out.c,bq.out,<-bm.out.1];rfl
 have eF:=ah aJ;have eJ:IntKind.i64.wrap ((E:Int)+1)=(E:Int)+1:=pam (by omega) (by omega);clear hP da aJ dt;go_wp2;go_loopw [12,13,14] (fun o i _j wr=>∃ (ov iv:Nat),o=.int .i64 (ov:Int)/\i=.int .i64 (iv:Int)/\ov<n/\iv<=n/\W7=wr) (fun _ i _ _=>n - (intOf i).toNat)
 case atStart=>exact ⟨0,0,rfl,rfl,by omega,xu _,by first | trivial | rfl⟩
 case round =>
  obtain ⟨ov,iv,rfl,rfl,dF,eQ,rfl⟩:=hrel;by_cases df:iv<n
  · obtain ⟨pl,aJ⟩:∃ pl,(pdg (wsN l (manyN l)))[iv]? =some pl:=⟨_,xd (by rw [eF.out];exact df)⟩
    obtain ⟨gp,u,eB,_,ek,db⟩:=em.out iv pl aJ;have b2:=db;obtain ⟨xo,xc,rfl,dj,dJ,_⟩:=db;have dR:xc<=9223372036854775807:=xB dJ (by unfold maxLen;omega);obtain ⟨xn,cs⟩:=az (pl.length);rw [<-cs] at ek b2 dj;have ev:=ah b2;have d0:=ah cs;have eP:xn<=9223372036854775807:=by omega
    subst eB;have k0:(0:Int)<=(iv:Int):=by omega
    have k1:(iv:Int)<(n:Int):=by omega
    clear aJ cs b2 dj dJ dR;go_wp2;go_loopw [12,14] (fun o j wr=>∃ (o2 jv:Nat),o=.int .i64 (o2:Int)/\j=.int .i64 (jv:Int)/\o2<n/\jv<=xn/\W7=wr) (fun _ j _=>xn - (intOf j).toNat)
    case atStart=>exact ⟨ov,0,rfl,rfl,dF,xu _,by first | trivial | rfl⟩
    case round =>
     obtain ⟨o2,jv,rfl,rfl,dE,eW,rfl⟩:=hrel;by_cases hj:jv<xn
     · obtain ⟨x,Q⟩:∃ x,pl[jv]? =some x:=⟨_,xd (by rw [<-d0.out];exact hj)⟩
       obtain ⟨xb,d9,eo⟩:=ev.out.get Q;subst d9;have m0:(0:Int)<=(jv:Int):=by omega
       have m1:(jv:Int)<(xn:Int):=by omega
       clear Q;by_cases cS:(x:Int)=(E:Int)+1
       · have dZ:((x:Int) == (E:Int)+1)=true:=by simpa using cS
         rw [cS] at eo;go_wp2_with fail;exact ⟨⟨iv,jv+1,by go_num,by go_num,df,by omega,by first | trivial | rfl⟩,by first | (simp [intOf];done) | (simp [intOf];omega)⟩
       · have dZ:((x:Int) == (E:Int)+1)=false:=by simpa using cS
         go_wp2_with fail;exact ⟨⟨o2,jv+1,by go_num,by go_num,dE,by omega,by first | trivial | rfl⟩,by first | (simp [intOf];done) | (simp [intOf];omega)⟩
     · obtain rfl:jv=xn:=by omega
       go_wp2_with fail;exact ⟨⟨o2,iv+1,by go_num,by go_num,dE,by omega,by first | trivial | rfl⟩,by first | (simp [intOf];done) | (simp [intOf];omega)⟩
  · obtain rfl:n=iv:=by omega
    have bt:Hid (pkc D7):=by
     have hg:=bk.out.1;have hb:=prH al.out (courtL D) k;have hs:=al.out.sum;rw [<-bP.out] at hb;have e7:D7={ D0 with boxes:=D0.boxes.set E (bs nx) }:=by
      rw [cW.out,pke,<-a2.out,<-bP.out,bK.out,xx,au.out.2.1];rfl
     rw [e7];refine ⟨fun x Q=>?_,?_,?_,?_,fun b eG=>?_⟩
     · have:=(hg.1 x Q).2.1;unfold Pn at this;omega
     · have:=hg.2.1.2.1;unfold Pn at this;show D0.point<_;omega
     · have:=hg.2.2.2.1;show D0.coms.length<=100;omega
     · show (D0.boxes.set E (bs nx)).length<=100;rw [zS];omega
     · rcases uX eG with h | h
       · have:=hb.2 b h;omega
       · rw [h,pac,paF bK.out];simp only [flipL,zS];have:=hb.2 aA (xt au.out.2.1);omega
    have aG:Hid (D7.point=p/\D7.boxes.length=f):=by
     have e7:D7={ D0 with boxes:=D0.boxes.set E (bs nx) }:=by
      rw [cW.out,pke,<-a2.out,<-bP.out,bK.out,xx,au.out.2.1];rfl
     rw [e7,ad.out.1,ad.out.2];exact ⟨rfl,by simp⟩
    obtain ⟨DW,bJ⟩:=az (dlC c (p:Int) (.slice (some ⟨d,0,none⟩) f t));have cr:=ah bJ;have a0:Fr W7 A DW 142:=by rw [bJ];exact ef
    have ej:Hid (∀ (ep:Int) W,pab ep->Uq W7 W->Calls prog 82 #[ep,.agg DW] W (MkS (pfq ep D7) W)):=fun ep W he u=>by
     have hd:=cI.out.upd u;have h2:=hd.rds;rw [aG.out.2] at h2;rw [bJ,<-aG.out.1];exact pqs ep c (.slice (some ⟨d,0,none⟩) f t) D7 W he bt.out (Sl.of_digs rfl hd.com) h2
    have a3:Hid (∀ W VX,ChSt w W R gV gQ gR CA VX D q1 q2->VX[1]? =some (.int .i64 id)->W.heap[A]? =some (.cells DW 142 (0,0))->W.cell? ⟨gV,1,none⟩=some (.int .i64 id)/\W.cell? ⟨R,6,none⟩=some (.slice (some ⟨gs,0,none⟩) n sc)/\W.cell? ⟨gs,k,none⟩=some (.int .i64 (sx:Int))/\W.cell? ⟨gQ,2,none⟩=some (.int .i64 q2)/\(Instr.loadAt 142 (.pointer (some ⟨A,0,none⟩))).run prog W=.ok (.agg DW) W):=fun W VX h hv hd=>by
     refine ⟨?_,?_,(h.up.cell (p:=⟨gs,k,none⟩) dB.out.1 (by simp)).trans dB.out.2,xa _ gQ 2 _ _ _ h.q,pcw cr.out hd⟩
     · rw [xa _ gV 1 _ _ _ h.v];exact hv
     · rw [xa _ R 6 _ _ _ h.c,bq.out,<-bm.out.2];rfl
    have bp:Hid (EV[1]? =some (.int .i64 id)):=by rw [bO.out,bi.out,cG.out];rfl
    have aF:Uq W7 W7.drew:=uR.drew;clear bJ bn;go_upto_region 16 with (fail)
    refine @_root_.id ((∀ (m8 dd:Int) (T:ByteArray) (r s:Nat) (V3:Array Value) (W:World),Hid (m8=q2 % 8/\m8 / 7=dd)->Hid (bs T=pfq dd D7/\r=gP (nonceN (expN (sx:Int)) (bs T))/\s=sWith (expN (sx:Int)) (nonceN (expN (sx:Int)) (bs T)) (bs T))->Hid (V3=#[.int .i64 id,.string T,.int .i64 (r:Int),.int .i64 (s:Int)])->Hid (ChSt w W R gV gQ gR CA (paY EV 2 V3.toList) D q1 q2)->Fr W A DW 142->Hid (DlB G.heap.size W c d t (ac.setIfInBounds E (.string nx)) D7)->(?pj15:Int->Int->ByteArray->Nat->Nat->Array Value->World->Prop) m8 dd T r s V3 W)->_) (fun hJ=>?mj15) ?jj15
    case mj15 =>
     refine bG (S:=fun wp=>wp.cell? ⟨gV,1,none⟩=some (.int .i64 id)/\wp.cell? ⟨R,6,none⟩=some (.slice (some ⟨gs,0,none⟩) n sc)/\wp.cell? ⟨gs,k,none⟩=some (.int .i64 (sx:Int))/\wp.cell? ⟨gQ,2,none⟩=some (.int .i64 q2)/\(Instr.loadAt 142 (.pointer (some ⟨A,0,none⟩))).run prog wp=.ok (.agg DW) wp) (a3.out _ _ (S7.out.quiet aF) bp.out (paa a0.out aF)) fun z=>?_;refine tkS [0,1,2,3,4,5,6,7,8] z ?_;refine tkL 11 z DW (fun w cK=>cK.2.2.2.2) ?_;refine tk1 9 fun K a=>?_;go_simp;refine (pbC q2 8 _ aY.out.2.2 (by omega)).mono ?_;rintro e wq ⟨m8,bU,eA,eY,rfl,rfl⟩;obtain ⟨dd,ei⟩:=ae (m8.tdiv 7);have dm:m8 / 7=dd:=(by rw [<-ei,xP eA]);have eX:0<=dd/\dd<=1:=(by omega);have eM:IntKind.i64.wrap dd=dd:=pam (by omega) (by omega);have ec:=ah dm;clear dm;go_wp2_with fail;refine tkK a (a3.out _ _ (S7.out.quiet aF) bp.out (paa a0.out aF)) fun z=>?_;clear a K;refine tkY 10 z ?_;refine tk1 12 fun K a=>?_;go_simp;refine (ej.out dd _ (by unfold pab;omega) aF).mono ?_;rintro e aL ⟨T,HT,hT,rfl,hq⟩;have cd:=aF.trans hq;clear hq;have ew:T.size<=140737488355000:=(by have:=phI bt.out (ep:=dd) (by unfold pab;omega);omega);go_wp2_with fail;refine tkK a (a3.out _ _ (S7.out.quiet cd) bp.out (paa a0.out cd)) fun z=>?_;clear a K;refine tk1 13 fun K a=>?_;go_simp;refine (pe2 id (sx:Int) T _ (by have:=cj.out.2;omega) ew).mono ?_;rintro e ay ⟨r,s,dp,hr,hs,rfl,hq⟩;have aZ:=cd.trans hq;clear hq;obtain ⟨V3,cM⟩:∃ V:Array Value,V=#[.int .i64 id,.string T,.int .i64 (r:Int),.int .i64 (s:Int)]:=⟨_,rfl⟩;rw [<-cM];have T2:=ah (S7.out.quiet aZ);have aE:=ah cM;clear cM;go_wp2_with fail;refine tkK a (a3.out _ _ (S7.out.quiet aZ) bp.out (paa a0.out aZ)) fun z=>?_;clear a K;refine tkY 14 z ?_;refine tk1 15 fun K a=>?_;rw [xH (by rfl)];refine vf 41 _ _ rfl gV 2 V3 rfl rfl (pay T2.out.v (by rw [bO.out,aE.out];exact (by decide:2+4<=19))) (by rw [aE.out];exact pb3 _ _ _ _) (by rw [aE.out];exact pcJ _ _ _ _) ?_;have aH:=T2.out.setV 2 V3.toList;have co:=T2.out.base;have b3:=bZ.out;have cH:=pax (g:=gV) (i:=2) (l:=V3.toList) (paa a0.out aZ) (by omega);have cE:=(cI.out.upd aZ).setOthers (g:=gV) (by have:=cI.out.base;have:=b4.out;omega) (fun e x Q=>(by have h1:=T2.out.v;rw [<-e,Q] at h1;simp at h1)) 2 V3.toList;obtain ⟨W8,dC⟩:=az (ay.setCells gV 2 V3.toList);rw [<-dC] at aH cH cE ⊢;clear dC co b3;have S8:=ah aH;have aK:=ah cH;have cv:=ah cE;clear aH cH cE;refine tkK a (a3.out _ _ S8.out (by rw [bO.out,aE.out,bi.out,cG.out];rfl) aK.out) fun z=>?_;clear a K;refine tkD ?_;exact hJ m8 dd T r s V3 W8 (ah ⟨bU.out,ec.out⟩) (ah ⟨HT.out,dp.out.1,dp.out.2⟩) aE S8 aK cv
    intro m8 dd T r s V3 w8 bU b6 aE S8 aK cv;obtain ⟨X1,cm⟩:∃ X:EvdG,X={ X0 with aw:=id,aT:=T,ar:=(r:Int),as':=(s:Int) }:=⟨_,rfl⟩
    obtain ⟨cf,cc⟩:=az (X1.V);have aH:=S8.out;rw [show paY EV 2 V3.toList=cf by rw [bO.out,cc,cm,aE.out,bi.out];rfl] at aH;have S9:=ah aH;have es:=ah cm;have c6:=ah cc;obtain ⟨eC,eS,br,c8,cQ⟩:=dG.out.sec (k:=ov) (by rw [<-HN.out];exact dF);rw [bm.out.2] at br;obtain rfl:gs=eC:=by
     simp only [zD,yz,Addr.mk.injEq] at br;exact br.1.1
    obtain ⟨so,cx⟩:=az (secN ov);rw [<-cx] at cQ;have c5:so<1152921504606845789:=by rw [cx];exact pgC ov
    have d7:Hid (∀ W,Uq w8 W->Calls prog 83 #[so,.agg DW,E] W (pt5 E W)):=fun W u=>by
     have hd:=cv.out.upd u;have h2:=hd.rds;rw [aG.out.2] at h2;rw [cr.out,<-aG.out.1];exact pkd so E c (.slice (some ⟨d,0,none⟩) f t) D7 W c5 (by rw [aG.out.1,ad.out.2];exact bk.out.1.2.1) h2 (by rw [aG.out.2,ad.out.1];exact au.out.2.2)
    have cJ:Hid (∀ W VX,ChSt w W R gV gQ gR CA VX D q1 q2->W.heap[A]? =some (.cells DW 142 (0,0))->W.cell? ⟨R,6,none⟩=some (.slice (some ⟨gs,0,none⟩) n sc)/\W.cell? ⟨gs,ov,none⟩=some (.int .i64 (so:Int))/\(Instr.loadAt 142 (.pointer (some ⟨A,0,none⟩))).run prog W=.ok (.agg DW) W):=fun W VX h hd=>by
     refine ⟨?_,(h.up.cell (p:=⟨gs,ov,none⟩) c8 (by simp)).trans cQ,pcw cr.out hd⟩;rw [xa _ R 6 _ _ _ h.c,bq.out,<-bm.out.2];rfl
    have bv:Uq w8 w8.drew:=uR.drew;have o0:(0:Int)<=(ov:Int):=by omega
    have o1:(ov:Int)<(n:Int):=by omega
    clear cm cc aH S8 br c8 cQ cx c5 aF;go_upto_region 17 with (fail)
    refine @_root_.id ((∀ (ck c1 c2:Nat) (V4:Array Value) (W:World),Hid (ck<2305843009213691579/\c1<1152921504606845789/\c2<1152921504606845789)->Hid (V4=#[.int .i64 (E:Int),.int .i64 (ck:Int),.int .i64 (c1:Int),.int .i64 (c2:Int)])->Hid (ChSt w W R gV gQ gR CA (paY cf 15 V4.toList) D q1 q2)->(?pj27:Nat->Nat->Nat->Array Value->World->Prop) ck c1 c2 V4 W)->_) (fun hJ=>?mj27) ?jj27
    case mj27 =>
     refine bG (S:=fun wp=>wp.cell? ⟨R,6,none⟩=some (.slice (some ⟨gs,0,none⟩) n sc)/\wp.cell? ⟨gs,ov,none⟩=some (.int .i64 (so:Int))/\(Instr.loadAt 142 (.pointer (some ⟨A,0,none⟩))).run prog wp=.ok (.agg DW) wp) (cJ.out _ _ (S9.out.quiet bv) (paa aK.out bv)) fun z=>?_;refine tkS [0,1,2,3,4] z ?_;refine tkL 5 z DW (fun w cK=>cK.2.2) ?_;refine tkY 6 z ?_;refine tk1 7 fun K a=>?_;go_simp;refine (d7.out _ bv).mono ?_;rintro e aL ⟨ck,c1,c2,eD,dU,dV,rfl,hq⟩;have bl:=bv.trans hq;clear hq;obtain ⟨V4,cY⟩:∃ V:Array Value,V=#[.int .i64 (E:Int),.int .i64 (ck:Int),.int .i64 (c1:Int),.int .i64 (c2:Int)]:=⟨_,rfl⟩;rw [<-cY];have T3:=ah (S9.out.quiet bl);have aN:=ah cY;clear cY;go_wp2_with fail;refine tkK a (cJ.out _ _ (S9.out.quiet bl) (paa aK.out bl)) fun z=>?_;clear a K;refine tkY 8 z ?_;refine tk1 9 fun K a=>?_;rw [xH (by rfl)];refine vf 48 _ _ rfl gV 15 V4 rfl rfl (pay T3.out.v (by rw [c6.out,aN.out];exact (by decide:15+4<=19))) (by rw [aN.out];exact plr _ _ _ _) (by rw [aN.out];simp [Value.oneCell']) ?_;have ct:=T3.out.setV 15 V4.toList;have co:=T3.out.base;have b3:=bZ.out;have cB:=pax (g:=gV) (i:=15) (l:=V4.toList) (paa aK.out bl) (by omega);obtain ⟨W9,dD⟩:=az (aL.setCells gV 15 V4.toList);rw [<-dD] at ct cB ⊢;clear dD co b3;have a1:=ah ct;have dQ:=ah cB;clear ct cB;refine tkK a (cJ.out _ _ a1.out dQ.out) fun z=>?_;clear a K;refine tkD ?_;exact hJ ck c1 c2 V4 W9 (ah ⟨eD,dU,dV⟩) aN a1
    intro ck c1 c2 V4 en cq aN a1;obtain ⟨X2,cD⟩:∃ X:EvdG,X={ X1 with ci:=(E:Int),ck:=(ck:Int),c1:=(c1:Int),c2:=(c2:Int) }:=⟨_,rfl⟩
    obtain ⟨aR,b7⟩:=az (X2.V);have cU:=a1.out;rw [show paY cf 15 V4.toList=aR by rw [c6.out,b7,cD,aN.out];rfl] at cU;have T4:=ah cU;have ey:=ah cD;have ba:=ah b7;obtain ⟨z9,bf⟩:=ae (en.setRow gR aR);have d2:=ah bf;have cZ:Fi 50 aR:=by rw [ba.out];exact X2.info
    have er:Hid (evd0.V.size=aR.size):=by show _=_;rw [ba.out];rfl
    have ed:Fo aR:=by rw [ba.out];exact X2.one
    have ea:=bX bf T4.out.r;have el:Hid (Uq w z9):=by show Upd _ _ _ _;rw [<-bf];exact T4.out.up.setRowNew (by have:=T4.out.base;omega) _
    clear bf cD b7 cU a1;go_wp2_with (first | (refine bL T4.out.v underlying50 cZ ?_) | (refine bS T4.out.r cZ er ed d2 ?_))
    refine bE ea underlying50 cZ ⟨X2,?_,?_,el.out⟩
    · have Q:=cj.out.1;have e9:expN (sx:Int)=sx:=peb cj.out.2;have h1:=b6.out.2.1;have h2:=b6.out.2.2;rw [e9,Q] at h1 h2;refine ⟨D7,T,E,m,r,s,ck,c1,c2,bt.out,?_,HM.out,cW.out,?_,h1,h2,?_,cq.out.1,cq.out.2.1,cq.out.2.2,?_⟩
      · rw [eH.out,d6.out,a2.out]
      · rw [b6.out.1,<-bU.out.2,bU.out.1]
      · have h3:=bt.out.2.2.2.1;rw [aG.out.2] at h3;have h4:=au.out.2.2;rw [<-ad.out.1] at h4;omega
      · rw [ey.out,es.out,bi.out,cG.out]
    · rw [ba.out]
section
variable {P : Program} {ops : Array Oper} {Q : Exit -> Act -> World -> Prop} {md : Region.Mode} {S : World -> Prop}
def pfw (P:Program) (ops:Array Oper) (S:World->Prop) (o:Oper) (v:Value) (a:Act):Prop :=
 Region.wanted o (yielded ops a.tmps)=true/\∃ f args,∀ w,S w->(execOp a.eval o).run P w=.ok (.enter f args) w/\Calls P f args w (Ret v w)
theorem pfw.wpOp {i:Nat} {o:Oper} {v:Value} {a:Act} (d:ops[i]? =some o) (m:pfw P ops S o v a) {K:Act->World->Prop} {w:World} (c:S w) (h:K (a.put o.dst v) w):wpOp P ops Q i K a w:=by
 obtain ⟨j,f,args,g⟩:=m;obtain ⟨h1,k⟩:=g w c;unfold Go.wpOp;simp only [d,j,if_true,Oper.wp,h1,Oper.upon];refine .inl (k.mono ?_);rintro e w' ⟨rfl,rfl⟩;exact h
theorem pfw.of_same {o:Oper} {v:Value} {a c:Act} (f:pfw P ops S o v a) (d:execOp c.eval o=execOp a.eval o) (e:Region.wanted o (yielded ops c.tmps)=Region.wanted o (yielded ops a.tmps)):pfw P ops S o v c:=by
 unfold pfw at *;rw [d,e];exact f
theorem pqu {j g k v} (G:ops[j]? =some k) (D:g.apart ops k=true) (E:∀ cs b,g.op≠.select cs b) (p:∀ cs b,k.op≠.select cs b)
 (A:∀ c a w,Q (.panic c) (a.put g.dst v) w->Q (.panic c) a w) {K a w} (n:pfw P ops S g v a) (h:wpOp P ops Q j K (a.put g.dst v) w) :
 wpOp P ops Q j (fun y w'=>pfw P ops S g v y/\K (y.put g.dst v) w') a w:=by
 obtain ⟨h1,o,z⟩:=Oper.apart_spec D;have keep:∀ (a:Act),pfw P ops S g v a->∀ u,pfw P ops S g v (a.put k.dst u):=fun a n u=>n.of_same (execOp_put g E a k.dst u z) (wanted_put g a k.dst u z);have B:∀ d,pfw P ops S g v { a with defers:=d :: a.defers }:=fun d=>n.of_same rfl rfl;unfold wpOp at *;simp only [G] at *;rw [wanted_put k a g.dst v h1] at h;by_cases q:Region.wanted k (yielded ops a.tmps)=true
 · simp only [q,if_true] at h ⊢;rcases h with h | ⟨t,F⟩
   · left;unfold Oper.wp at *;rw [execOp_put k p a g.dst v h1] at h;generalize (execOp a.eval k).run P w=r at *
     match r,h with
     | .ok (.value u) w',h=>exact ⟨keep a n u,by rw [<-uW a v u o];exact h⟩
     | .ok .skip w',h=>exact ⟨keep a n _,by rw [<-uW a v undef o];exact h⟩
     | .ok (.defer d) w',h =>
      refine ⟨keep _ (B d) _,?_⟩;rw [<-uW _ v undef o,<-Act.put_defers];exact h
     | .ok (.enter f args) w',h =>
      refine Calls.mono h fun e C m=>?_
      match e,m with
      | .returned u,m=>exact ⟨keep a n u,by rw [<-uW a v u o];exact m⟩
      | .panicked c,m=>exact A _ _ _ m
      | .outgrown,m=>exact m
     | .ok (.row row args) w',h=>exact Rows.mono h fun u C m=>⟨keep a n u,by rw [<-uW a v u o];exact m⟩
     | .halt x w',h =>
      cases x <;> simp only [Oper.upon] at h ⊢
      exact A _ _ _ h
   · exact .inr ⟨by unfold Oper.asks at *;rw [execOp_put k p a g.dst v h1] at t;exact t,F⟩
 · rw [yy q] at h ⊢;exact ⟨keep a n _,by rw [<-uW a v undef o];exact h⟩
theorem piA {i n v} (y:ops[i]? =some n) (A:∀ (j:Nat) (o) cs b,ops[j]? =some o->o.op≠.select cs b) (R:∀ c a w,Q (.panic c) (a.put n.dst v) w->Q (.panic c) a w) :
 ∀ (p:Nat) (d a) (w),(∀ j g,ops[j]? =some g->j≠i->d.getD j true=false->(∀ e∈g.after,Region.binds md e=true->e.on≠i)->n.apart ops g=true) ->
  i∈Region.ready md ops d->pfw P ops S n v a->S w->wpAnyH P md ops Q S p (d.setIfInBounds i true) (a.put n.dst v) w->wpAnyH P md ops Q S (p+1) d a w:=by
 intro p
 induction p with
 | zero =>
  intro d a w _ m r q H;refine ⟨fun h=>(by rw [h] at m;cases m),fun j u=>?_⟩;by_cases f:j=i
  · rw [f];exact r.wpOp y q ⟨q,H⟩
  · have:=ready_mono u f;rw [H.1] at this
    cases this
 | succ p ih =>
  intro d a w z m r q H;refine ⟨fun h=>(by rw [h] at m;cases m),fun j u=>?_⟩;by_cases f:j=i
  · rw [f];exact r.wpOp y q ⟨q,H⟩
  obtain ⟨B,g,x,E⟩:=mem_ready.1 u;have F:∀ e∈g.after,Region.binds md e=true->e.on≠i:=fun e U O J=>by
   have h1:=E e U O;have h0:=(mem_ready.1 m).1;rw [J] at h1;rcases uw i d.size with h' | h'
   · simp [h'] at h0 h1;rw [h0] at h1;cases h1
   · simp [Array.getElem?_eq_none h'] at h1
  have T:=pqu x (z j g x f B F) (fun cs b=>A i n cs b y) (fun cs b=>A j g cs b x) R r (H.2 j (ready_mono u f));refine wpOp_mono (fun N w' t=>⟨t.2.1,ih (d.setIfInBounds j true) N w' (fun k ok M G D K=>z k ok M G ?_ K) (ready_mono m (Ne.symm f)) t.1 t.2.1 ?_⟩) T
  · by_cases C:j=k
    · rw [<-C];exact B
    · rw [getD_set_ne true C] at D;exact D
  · rw [Array.setIfInBounds_comm _ _ f];exact t.2.2
theorem tkQ {e:Oper} {v:Value} {g:Nat} {d k:Array Bool} {a m:Act} {w:World} {f:FuncId} {args:Array Value} (i:Nat) (o:S w) (z:∀ w,Calls P f args w (Ret v w)) (h:wpAnyH P md ops Q S g k m w) (j:ops[i]? =some e:=by (first | simp only [xD,yc,yh] <;> rfl | rfl)) (u:Region.noSelect ops=true:=by kernel_rfl) (x:Region.free md ops d i=true:=by kernel_rfl) (p:(Region.ready md ops d).contains i=true:=by kernel_rfl)
 (r:Region.wanted e (yielded ops a.tmps)=true:=by rfl) (A:∀ w,S w->(execOp a.eval e).run P w=.ok (.enter f args) w:=by (intro w n;(try dsimp only at n);go_simp;first | done | with_reducible rfl | rfl))
 (t:∀ c a w,Q (.panic c) (a.put e.dst v) w->Q (.panic c) a w:=by exact fun _ _ _ h=>h)
 (q:d.setIfInBounds i true=k:=by (try simp only [xS,xX,yE]) <;> rfl) (y:a.put e.dst v=m:=by (try simp only [Act.put,xS,xX,yE]) <;> rfl):wpAnyH P md ops Q S (g+1) d a w :=
 piA j (Region.noSelect_spec u) t g d a w (Region.free_spec j x) (by simpa using p) ⟨r,f,args,fun w h=>⟨A w h,z w⟩⟩ o (by rw [q,y];exact h)
end
theorem pav {P d S c a} (g:Region.wanted c (yielded d a.tmps)=true) (t parts) (f:c.op=.build t parts) (cells) (e:P.built t (parts.map fun (i,x)=>(i,a.eval x)).toList=some cells):YieldsIf P d S c (.agg cells) a :=
 .inl ⟨g,fun w _=>by
  unfold execOp
  simp only [f,yT,run_build w t _ cells e,yr]
  rfl⟩
end Go.Proofs.YtkhjolbbpdaplaaGreatDoor
