/- nat at numbers of one digit: Of, Mul, Quo by the modulus, Cmp and what follows. -/
import Derived.Test.YtkhjolbbpdaplaaGreatDoorHAN
namespace Go.Proofs.YtkhjolbbpdaplaaGreatDoor
set_option maxHeartbeats 4000000
open Go.RowKit Go.Proofs.Tryz
set_option maxRecDepth 100000
abbrev uQ:=@Array.length_toList
abbrev vy:=@List.findIdx?_eq_some_iff_getElem
theorem pgq (d:Nat) (h0:0<d) (k:d<4294967296) (w):Calls prog 15 #[d] w (pde d w):=by
 have f:=ah (po9 d (by omega) w);have o:(d:Int) % 18446744073709551616=(d:Int):=by omega
 have q:¬ (d:Int)<0:=by omega
 go_in;go_wp2_with fail;refine f.out.mono ?_;rintro e j ⟨v,n,rfl,a⟩;have c:=ah (pbb v (dw d) j n.out (psx d) (by rw [pcV h0 k];simp));rw [pkH] at c;have h:=ah a;clear a f;go_wp2_with fail;refine c.out.mono ?_;rintro e p ⟨r,m,rfl,a⟩;have g:=ah (h.out.trans a);clear a c;go_wp2;go_ret;exact ⟨r,m,rfl,g.out⟩
theorem pq7 (s t) (n:bs s=be 3) (q:bs t=be 3) (w):Calls prog 215 #[.string s,.string t] w (pde 9 w):=by
 have y:=ah (pbF s 3 n (by omega) (by omega) w);have A:=ah (fun w'=>pbF t 3 q (by omega) (by omega) w');clear n q;go_in;go_wp2_with fail;refine y.out.mono ?_;rintro e D ⟨v,B,rfl,h⟩;have f:=ah h;clear h y;go_wp2_with fail;refine (A.out D).mono ?_;rintro e F ⟨u,x,rfl,a⟩;have p:=ah (pun v u F (B.out.upd a) x.out);have j:=ah (f.out.trans a);clear a A f B x;go_wp2_with fail;refine p.out.mono ?_;rintro e G ⟨z,o,rfl,m⟩;have c:=ah (pbb z [9] G o.out (fun d H=>by simp at H;omega) (by simp));rw [show valW [9]=9 from rfl] at c;have k:=ah (j.out.trans m);clear m p j o;go_wp2_with fail;refine c.out.mono ?_;rintro e J ⟨r,E,rfl,g⟩;have C:=ah (k.out.trans g);clear g c k;go_wp2;go_ret;exact ⟨r,E,rfl,C.out⟩
def modB:ByteArray:=⟨#[138,0,176,218,162,135,68,214,164,195,198,36,84,110,75,89]⟩
theorem pcE:4294967296<=natB (bs modB):=by decide
theorem pfh {n} (h:4294967296<=n):2<=(dw n).length:=by
 rw [pet (by omega),xF,pet (by omega),xF];omega
theorem pq8 (s d) (G:bs s=be d) (h0:0<d) (m:d<4294967296) (w) :
 Calls prog 260 #[.string s,.string ⟨#[138,0,176,218,162,135,68,214,164,195,198,36,84,110,75,89]⟩] w (fun e w'=>∃ q r,Hid (bs r=be d)/\e=.returned (.tuple #[.string q,.string r,.bool true])/\Uq w w'):=by
 have H:=ah (pbr modB w (by decide));have J:=ah (fun w'=>pbF s d G h0 m w');have x:Hid (∀ (u v:Value) (w:World),Wd w u [d]->Wd w v (dw (natB (bs modB)))->Calls prog 294 #[u,v] w (fun e w'=>e=.returned (.tuple #[.slice none 0 0,u])/\Uq w w')):=by
  intro u v w a M;have Q:=ah (peg u v _ _ w a M (by have:=pfh pcE;show 1<_;omega));clear a M;go_in;go_wp2_with fail;refine Q.out.mono ?_;rintro e F ⟨rfl,a⟩;have T:=ah a;clear a;go_wp2;go_ret2;exact ⟨rfl,T.out⟩
 clear G;go_in;go_wp2_with fail;refine H.out.mono ?_;rintro e F ⟨v,f,rfl,z⟩;obtain ⟨X,W,rfl,_,_⟩:=f.out.form;have y:((((dw (natB (bs modB))).length:Nat):Int) == 0)=false:=by rw [xm];have:=pfh pcE;omega
 obtain ⟨L,c⟩:=az ((dw (natB (bs modB))).length);rw [<-c] at y f ⊢;have N:(L == 0)=false:=by rw [xm,c];have:=pfh pcE;omega
 have O:¬ L=0:=by rw [c];have:=pfh pcE;omega
 have t:=ah z;clear z H c;go_wp2_with fail;refine (J.out F).mono ?_;rintro e S ⟨u,j,rfl,g⟩;have K:=ah (x.out u _ S j.out (f.out.upd g));have B:=ah (t.out.trans g);clear g J t x f y N O;go_wp2_with fail;refine K.out.mono ?_;rintro e o ⟨rfl,k⟩;have C:=ah (pbb (.slice none 0 0) [] o (Wd.nil o) pkI (by simp));have E:=ah (fun w' (q:Uq o w')=>pbb u [d] w' ((j.out.upd k).upd q) (fun d m=>by simp at m;omega) (by simp));have D:=ah (B.out.trans k);clear k K B j;go_wp2_with fail;refine C.out.mono ?_;rintro e U ⟨q,_,rfl,h⟩;have n:=ah (E.out U h);rw [show valW [d]=d by simp [valW]] at n;have A:=ah (D.out.trans h);clear h C E D;go_wp2_with fail;refine n.out.mono ?_;rintro e Y ⟨r,R,rfl,p⟩;have P:=ah (A.out.trans p);clear p n A;go_wp2_with fail;go_ret3;exact ⟨q,r,R,rfl,P.out⟩
theorem pl6 (s d) (f:bs s=be d) (h0:0<d) (j:d<4294967296) (w):Calls prog 214 #[.string s] w (pde d w):=by
 have a:=ah (pq8 s d f h0 j w);clear f;go_in;go_wp2_with fail;refine a.out.mono ?_;rintro e k ⟨q,r,g,rfl,c⟩;have h:=ah c;clear c a;go_wp2;go_ret;exact ⟨r,g,rfl,h.out⟩
theorem psA (s) (j:bs s=be 3) (w):Calls prog 167 #[.string s] w (pde 9 w):=by
 have f:=ah (pl6 s 3 j (by omega) (by omega) w);clear j;go_in;go_wp2_with fail;refine f.out.mono ?_;rintro e o ⟨r,h,rfl,a⟩;have k:=ah (pq7 r r h.out h.out o);have d:=ah a;clear a f;go_wp2_with fail;refine k.out.mono ?_;rintro e p ⟨z,q,rfl,a⟩;have g:=ah (pl6 z 9 q.out (by omega) (by omega) p);have c:=ah (d.out.trans a);clear a k d;go_wp2_with fail;refine g.out.mono ?_;rintro e t ⟨y,n,rfl,a⟩;have m:=ah (c.out.trans a);clear a g c;go_wp2;go_ret;exact ⟨y,n,rfl,m.out⟩
theorem pkN (s t d) (o:bs s=be d) (r:bs t=be d) (h0:0<d) (n:d<4294967296) (w):Calls prog 166 #[.string s,.string t] w (pgo 0 w):=by
 have k:=ah (pbF s d o h0 n w);have m:=ah (fun w'=>pbF t d r h0 n w');clear o r;go_in;go_wp2_with fail;refine k.out.mono ?_;rintro e y ⟨v,p,rfl,h⟩;have c:=ah h;clear h k;go_wp2_with fail;refine (m.out y).mono ?_;rintro e z ⟨u,j,rfl,a⟩;have q:=ah (pff v u d z (p.out.upd a) j.out);have f:=ah (c.out.trans a);clear a m c p j;go_wp2_with fail;refine q.out.mono ?_;rintro e A ⟨rfl,g⟩;have x:=ah (f.out.trans g);clear g q f;go_wp2;go_ret;exact ⟨rfl,x.out⟩
theorem pkO (s t d c) (o:bs s=be d) (r:bs t=be c) (h0:0<d) (x:d<c) (B:c<4294967296) (w):Calls prog 166 #[.string s,.string t] w (pgo (-1) w):=by
 have m:=ah (pbF s d o h0 (by omega) w);have n:=ah (fun w'=>pbF t c r (by omega) B w');clear o r;go_in;go_wp2_with fail;refine m.out.mono ?_;rintro e z ⟨v,p,rfl,j⟩;have f:=ah j;clear j m;go_wp2_with fail;refine (n.out z).mono ?_;rintro e A ⟨u,k,rfl,a⟩;have q:=ah (pfg v u d c A (p.out.upd a) k.out x);have g:=ah (f.out.trans a);clear a n f p k;go_wp2_with fail;refine q.out.mono ?_;rintro e C ⟨rfl,h⟩;have y:=ah (g.out.trans h);clear h q g;go_wp2;go_ret;exact ⟨rfl,y.out⟩
section
variable {M : Array Value} {aw ar as' bw br bs' low high id pub : Int} {aT bT F A B : ByteArray}
theorem pq9 {M g W} (c:M.size=29) (h:W.heap[g]? =some (.cells M 105 (0,0))):(Instr.loadAt 105 (.pointer (some ⟨g,0,none⟩))).run prog W=.ok (.agg M) W:=by
 have a:(prog.info? 105).map (·.size)=some M.toList.length:=by rw [uQ];exact pes c
 exact xL W g 0 105 M.toList _ (pb5 (by simp) h) underlying105 rfl a
theorem pfK (h:MtIs M aw aT ar as' bw bT br bs' low high F A B id pub) (k:pab pub) (K:pab ar) (D:pab as') (J:aT.size<=140737488355000) (t:pab br) (y:pab bs') (x:bT.size<=140737488355000) (w) (d:Tabs w) :
 Calls prog 89 #[.agg M] w (MkB ((decide (aw=id) && verB pub (bs aT) ar as') && (decide (bw=id) && verB pub (bs bT) br bs')) w):=by
 obtain ⟨g,Q⟩:=ae (w.heap.size);obtain ⟨o,f⟩:=ae (w.alloc (.cells M 105));have a:=ah (aW Q f);have n:=ah (aU f);have p:=ah (peT h aw ar as' aT k K D J o (d.upd n.out));have j:=ah (fun W (u:Uq w W)=>peT h bw br bs' bT k t y x W (d.upd u));have E:=ah (pes h.sz);have N:=ah h.sz;have C:Hid (∀ W,Uq o W->W.cell? ⟨g,12,none⟩=some (.int .i64 bw)/\W.cell? ⟨g,13,none⟩=some (.string bT)/\W.cell? ⟨g,14,none⟩=some (.int .i64 br)/\W.cell? ⟨g,15,none⟩=some (.int .i64 bs')):=by
  intro W u;have q:=paa a.out u;exact ⟨(xa _ g 12 _ _ _ q).trans h.b0,(xa _ g 13 _ _ _ q).trans h.b1,(xa _ g 14 _ _ _ q).trans h.b2,(xa _ g 15 _ _ _ q).trans h.b3⟩
 have H:=(xa _ g 8 _ _ _ a.out).trans h.a0;have O:=(xa _ g 9 _ _ _ a.out).trans h.a1;have P:=(xa _ g 10 _ _ _ a.out).trans h.a2;have G:=(xa _ g 11 _ _ _ a.out).trans h.a3;clear h;go_in;go_wp2_with (refine bL a underlying105 E ?_)
 refine p.out.mono ?_;rintro e m ⟨b,r,rfl,hq⟩;have c:=ah (n.out.trans hq);have z:=ah (paa a.out hq);have R:=ah (pq9 N.out z.out);obtain ⟨X,Y,Z,T⟩:=C.out m hq;clear hq p H O P G a
 cases b with
 | false =>
  go_wp2;go_ret;exact ⟨false,by show _=_;rw [<-r.out,zt],rfl,c.out⟩
 | true =>
  go_wp2_with (refine wpList_load_want (by rfl) 105 _ rfl g rfl M R.out ?_)
  refine (j.out m c.out).mono ?_;rintro e U ⟨b,v,rfl,hq⟩;have S:=ah (c.out.trans hq);clear hq j;go_wp2;go_ret;exact ⟨b,by show _=_;rw [<-r.out,uq,v.out],rfl,S.out⟩
theorem peW (h:MtIs M aw aT ar as' bw bT br bs' low high F A B id pub) (q w) (j:∀ W,Uq w W->Calls prog 91 #[.string aT,.string bT] W (Mk (.bool q) W)) :
 Calls prog 90 #[.agg M] w (Mk (.bool q) w):=by
 obtain ⟨g,n⟩:=ae (w.heap.size);obtain ⟨k,c⟩:=ae (w.alloc (.cells M 105));have a:=aW n c;have d:=ah (aU c);have r:=(xa _ g 9 _ _ _ a).trans h.a1;have p:=(xa _ g 13 _ _ _ a).trans h.b1;have f:=ah (j k d.out);clear h a j;go_in;go_wp2_with fail;refine f.out.mono ?_;rintro e o ⟨rfl,hq⟩;have m:=ah (d.out.trans hq);clear hq f;go_wp2;go_ret;exact ⟨rfl,m.out⟩
end
def pl7:List UInt8:=[99,108,97,105,109]
def pcW (d:Nat):List UInt8:=pl7 ++ [32,55,32,56,32,51,32] ++ Lib.itoa (d:Int)
theorem ptJ:Lib.itoa 7=[55]:=pgf 7 (by omega)
theorem ptK:Lib.itoa 8=[56]:=pgf 8 (by omega)
theorem pm9 (d:Nat):Lib.join [pl7,[55],[56],[51],Lib.itoa (d:Int)] [32]=pcW d:=by
 simp [Lib.join,List.intercalate_cons_cons,pcW,pl7]
theorem pdS (d) (h:d<1000000000):(pcW d).length<=40:=by
 have:=itoa_len (d:Int) (by unfold pab;omega);simp [pcW,pl7];omega
def dspV (F A B:ByteArray):Array Value:=#[.int .i64 7,.int .i64 8,.string F,.string A,.string B]
theorem pgr (F A B d) (hF:bs F=be 3) (M:bs A=be d) (h0:0<d) (P:d<1000000000) (w) (k:Tabs w):Calls prog 16 #[.agg (dspV F A B)] w (MkS (pcW d) w):=by
 obtain ⟨g,X⟩:=ae (w.heap.size);obtain ⟨y,D⟩:=ae (w.alloc (.cells (dspV F A B) 44));have H:=aW X D;have h:=ah (aU D);have f:Hid (∀ W,Uq y W->W.cell? ⟨g,0,none⟩=some (.int .i64 7)/\W.cell? ⟨g,1,none⟩=some (.int .i64 8)/\W.cell? ⟨g,2,none⟩=some (.string F)/\W.cell? ⟨g,3,none⟩=some (.string A)):=by
  intro W u;have q:=paa H u;exact ⟨xa _ g 0 _ _ _ q,xa _ g 1 _ _ _ q,xa _ g 2 _ _ _ q,xa _ g 3 _ _ _ q⟩
 have x:Uq y y.drew:=uR.drew;have S:=ah (pdS d P);have E:=ah (xf hF M);clear H hF M;go_in;go_upto_region 1 with (fail)
 refine bH f x fun c=>?_;refine tkS [0,1,3,4,6,7,9,10] c ?_;refine tk1 2 fun K a=>?_;go_simp;refine (poO 7 ⟨#[55]⟩ ptJ (by unfold pab;omega) _ (k.upd (h.out.trans x))).mono ?_;rintro e aa ⟨rfl,hq⟩;have o:=x.trans hq;clear hq;go_wp2_with fail;refine tkK a (f.out _ o) fun c=>?_;clear a K;refine tk1 5 fun K a=>?_;go_simp;refine (poO 8 ⟨#[56]⟩ ptK (by unfold pab;omega) _ (k.upd (h.out.trans o))).mono ?_;rintro e Y ⟨rfl,hq⟩;have t:=o.trans hq;clear hq;go_wp2_with fail;refine tkK a (f.out _ t) fun c=>?_;clear a K;refine tk1 8 fun K a=>?_;go_simp;refine (pgp F 3 E.out.1 (by omega) (by omega) _ (k.upd (h.out.trans t))).mono ?_;rintro e ab ⟨j,Q,_,rfl,hq⟩;have p:=t.trans hq;clear hq;go_wp2_with fail;refine tkK a (f.out _ p) fun c=>?_;clear a K;refine tk1 11 fun K a=>?_;go_simp;refine (pgp A d E.out.2 h0 P _ (k.upd (h.out.trans p))).mono ?_;rintro e C ⟨m,R,_,rfl,hq⟩;have v:=p.trans hq;clear hq;go_wp2_with fail;refine tkK a (f.out _ v) fun c=>?_;clear a K;refine tk1 12 fun K a=>?_;go_simp;refine tkK a (f.out _ (v.alloc _)) fun c=>?_;clear a K;refine tkY 13 c ?_;refine tkD ?_;go_wp2_with fail;have r:=pcQ C [⟨#[99,108,97,105,109]⟩,⟨#[55]⟩,⟨#[56]⟩,j,m] 9;have n:Lib.join (([⟨#[99,108,97,105,109]⟩,⟨#[55]⟩,⟨#[56]⟩,j,m]:List ByteArray).map bs) [32]=pcW d:=by
  rw [<-pm9 d,<-R.out,show ([51]:List UInt8)=bs j from (Q.out.trans ptx).symm];rfl
 have O:=Tryz.strings_Join C.heap.size 0 5 [⟨#[99,108,97,105,109]⟩,⟨#[55]⟩,⟨#[56]⟩,j,m] ⟨#[32]⟩ _ r.2 r.1 (by simp) (by simp) (by
  show (Lib.join (_) [32]).length<=_;have e:=xU List.length n;exact xB (xJ e) (by have:=S.out;omega))
 refine O.mono ?_;rintro e Z ⟨rfl,G⟩;have N:=paE G;obtain ⟨T,z⟩:∃ T:ByteArray,T=⟨(Lib.join (([⟨#[99,108,97,105,109]⟩,⟨#[55]⟩,⟨#[56]⟩,j,m]:List ByteArray).map (·.data.toList)) (⟨#[32]⟩:ByteArray).data.toList).toArray⟩:=⟨_,rfl⟩
 rw [<-z];have J:Hid (bs T=pcW d):=by
  show _=_;rw [z,pcM];exact n
 have U:=ah ((h.out.trans (v.alloc _)).trans N);clear O r n G N z;go_wp2;go_ret;exact ⟨T,J,by rw [<-J.out,pac];exact xj _,rfl,U.out⟩
section
variable {M : Array Value} {aw ar as' bw br bs' low high id pub : Int} {aT bT F A B : ByteArray}
theorem pl8 (h:MtIs M aw aT ar as' bw bT br bs' 7 8 F A B id pub) (d) (hF:bs F=be 3) (z:bs A=be d) (h0:0<d) (N:d<1000000000) (C:bs aT=pcW d) (w) (D:Tabs w) :
 Calls prog 94 #[.agg M] w (Mk (.bool true) w):=by
 obtain ⟨g,J⟩:=ae (w.heap.size);obtain ⟨k,o⟩:=ae (w.alloc (.cells M 105));have t:=aW J o;have m:=ah (aU o);have x:Hid (∀ W,Uq k W->W.cell? ⟨g,9,none⟩=some (.string aT)/\(Instr.loadAt 44 (.pointer (some ⟨g,16,none⟩))).run prog W=.ok (.agg (dspV F A B)) W):=by
  intro W u;have q:=paa t u;refine ⟨(xa _ g 9 _ _ _ q).trans h.a1,xL W g 16 44 [.int .i64 7,.int .i64 8,.string F,.string A,.string B] _ (fun j v a=>?_) underlying44 rfl (by kernel_rfl)⟩
  match j,a with
  | 0,a=>simp at a;subst a;exact (xa _ g 16 _ _ _ q).trans h.d0
  | 1,a=>simp at a;subst a;exact (xa _ g 17 _ _ _ q).trans h.d1
  | 2,a=>simp at a;subst a;exact (xa _ g 18 _ _ _ q).trans h.d2
  | 3,a=>simp at a;subst a;exact (xa _ g 19 _ _ _ q).trans h.d3
  | 4,a=>simp at a;subst a;exact (xa _ g 20 _ _ _ q).trans h.d4
 have f:Uq k k.drew:=uR.drew;have p:=ah (xf hF z);have H:=ah C;clear h t hF z C;go_in;go_upto_region 1 with (fail)
 refine bH x f fun c=>?_;refine tkS [0,1,2,3,4,5] c ?_;refine tkT 6 c ?_ (y:=(pap (by rfl) _ _ rfl _ rfl (dspV F A B) (fun w E=>E.2)));refine tk1 7 fun K r=>?_;go_simp;refine (pgr F A B d p.out.1 p.out.2 h0 N _ (D.upd (m.out.trans f))).mono ?_;rintro e O ⟨y,G,_,rfl,hq⟩;obtain rfl:y=aT:=(paT (G.out.trans H.out.symm));have n:=f.trans hq;clear hq;go_wp2_with fail;refine tkK r (x.out _ n) fun c=>?_;clear r K;refine tkS [8,9] c ?_;refine tkD ?_;go_wp2;go_ret;exact ⟨rfl,m.out.trans n⟩
end
theorem dspSInfo (F A B):(prog.info? 44).map (·.size)=some (dspV F A B).size:=by
 show _=some 5;kernel_rfl
theorem dspSOne (F A B):(dspV F A B).all (·.oneCell')=true:=by simp [dspV,Value.oneCell']
section
variable {M : Array Value} {aw ar as' bw br bs' low high id pub : Int} {aT bT F A B : ByteArray}
theorem pfi (h:MtIs M aw aT ar as' bw bT br bs' 7 8 F A B id pub) (q z) (hq:(z != 0)=q) (w)
 (hF:bs F=be 3) (S:∀ y W,bs y=be 9->Calls prog 166 #[.string y,.string A] W (pgo z W)) :
 Calls prog 95 #[.agg M] w (Mk (.bool q) w):=by
 obtain ⟨g,hg⟩:=ae (w.heap.size);obtain ⟨d,P⟩:=ae (w.alloc (.cells M 105));have p:=aW hg P;have U:=ah (aU P);have t:Hid (∀ W,W.heap[g]? =some (.cells M 105 (0,0))->(Instr.loadAt 44 (.pointer (some ⟨g,16,none⟩))).run prog W=.ok (.agg (dspV F A B)) W):=by
  intro W q;refine xL W g 16 44 [.int .i64 7,.int .i64 8,.string F,.string A,.string B] _ (fun j v a=>?_) underlying44 rfl (by kernel_rfl)
  match j,a with
  | 0,a=>simp at a;subst a;exact (xa _ g 16 _ _ _ q).trans h.d0
  | 1,a=>simp at a;subst a;exact (xa _ g 17 _ _ _ q).trans h.d1
  | 2,a=>simp at a;subst a;exact (xa _ g 18 _ _ _ q).trans h.d2
  | 3,a=>simp at a;subst a;exact (xa _ g 19 _ _ _ q).trans h.d3
  | 4,a=>simp at a;subst a;exact (xa _ g 20 _ _ _ q).trans h.d4
 obtain ⟨o,T,r,m,J⟩:=paz d 44 zZ5 (dspV F A B);obtain ⟨c,Y⟩:=ae (d.heap.size);rw [Y] at T r m;have E:Hid ((Instr.loadAt 44 (.pointer (some ⟨g,16,none⟩))).run prog (d.alloc (.cells zZ5 44))=.ok (.agg (dspV F A B)) _):=t.out _ (paa p (uR.alloc _));have G:Hid ((Instr.loadAt 44 (.pointer (some ⟨g,16,none⟩))).run prog d=.ok (.agg (dspV F A B)) d):=t.out _ p;have R:=ah (U.out.trans J);have O:=ah (dspSInfo F A B);have N:=ah (dspSOne F A B);have k0:=(xa _ c 0 _ _ _ m.out).trans (show _=some (Value.int .i64 7) from rfl);have k1:=(xa _ c 1 _ _ _ m.out).trans (show _=some (Value.int .i64 8) from rfl);have C:Hid (∀ W,Uq o W->W.cell? ⟨c,2,none⟩=some (.string F)/\W.cell? ⟨c,3,none⟩=some (.string A)):=by
  intro W u;have q:=paa m.out u;exact ⟨xa _ c 2 _ _ _ q,xa _ c 3 _ _ _ q⟩
 have Q:Uq o o.drew:=uR.drew;have HF:=ah hF;have Z:=ah S;have HQ:=ah hq;obtain ⟨D,x⟩:=az (dspV F A B);have X:Hid ((zZ5:Array Value).size=D.size):=by rw [x];rfl
 rw [<-x] at r O N E G;clear h p hF S t J hq x;go_in;go_upto_region 4 with (first | (refine bA E ?_) | (refine bA G ?_) | (refine bS T O X N r ?_))
 refine bH C Q fun k=>?_;refine tkS [0,1,3,4] k ?_;refine tk1 2 fun K f=>?_;go_simp;refine (psA F HF.out _).mono ?_;rintro e ab ⟨y,HY,rfl,hq⟩;have H:=Q.trans hq;clear hq;go_wp2_with fail;refine tkK f (C.out _ H) fun k=>?_;clear f K;refine tk1 5 fun K f=>?_;go_simp;refine (Z.out y _ HY.out).mono ?_;rintro e aa ⟨rfl,hq⟩;have n:=H.trans hq;clear hq;go_wp2_with fail;refine tkK f (C.out _ n) fun k=>?_;clear f K;refine tkS [6,7] k ?_;refine tkD ?_;go_wp2;go_ret
 first | exact ⟨rfl,R.out.trans n⟩ | exact ⟨by show Ending.returned (.bool (z != 0))=_;rw [HQ.out],R.out.trans n⟩
end
def psB (who:Int) (x:Nat) (T:ByteArray) (w:World) (e:Ending) (w':World):Prop :=
 ∃ a b:Nat,Hid (a=gP (nonceN x (bs T)))/\Hid (b=sWith x (nonceN x (bs T)) (bs T))/\a<2305843009213691579/\b<1152921504606845789/\e=.returned (.agg #[who,.string T,a,b])/\Upd [] [] w w'
theorem pfj (x:Nat) (v:x<1152921504606845789) (T) (G:T.size<=140737488355000) (w) (r:Tabs w):Calls prog 17 #[.int .i64 3,x,.string T] w (psB 3 x T w):=by
 obtain ⟨gR,g⟩:=ae (w.heap.size);obtain ⟨y,h⟩:=ae (w.alloc (.cells #[.int .i64 0,.string ⟨#[]⟩,.int .i64 0,.int .i64 0] 41));have k:=ah (aW g h);have o:=ah (aU h);have z:Hid (w.heap.size<=gR):=xJ g;go_in;go_wp2_with fail;refine (plE (x:Int) T y ⟨by omega,by omega⟩ G (r.upd o.out)).mono ?_;rintro e m ⟨a,b,p,q,A,B,rfl,hq⟩;rw [show expN (x:Int)=x from peb v] at p q;have n:=ah (paa k.out hq);have E:=ah (o.out.trans hq);have j:=ah (pfI T (a:Int) (b:Int));obtain ⟨V,C⟩:=az (voteV T (a:Int) (b:Int));obtain ⟨D,c⟩:=ae (m.setRow gR (voteV T (a:Int) (b:Int)));have f:(m.setRow gR (voteV T (a:Int) (b:Int))).heap[gR]? =some (.cells (voteV T (a:Int) (b:Int)) 41 (0,0)):=xz _ _ _ _ _ _ n.out;have d:=E.out.setRowNew z.out (voteV T (a:Int) (b:Int));rw [c] at f d;have t:=ah c;have F:=ah f;have u:=ah d;clear hq k c f d C;go_wp2_with (refine wpList_store_rowAs rfl 41 _ _ rfl gR (voteV T (a:Int) (b:Int)) rfl rfl _ _ n.out j.out rfl (pkD _ _ _) D t.out ?_)
 refine xI (yX rfl _ _ gR _ (voteV T (a:Int) (b:Int)) _ _ rfl F.out underlying41 rfl j.out) rfl ⟨a,b,p,q,A,B,rfl,u.out⟩
def mbrV (id wt pub:Int):Array Value:=#[.int .i64 id,.int .i64 wt,.int .i64 pub]
end Go.Proofs.YtkhjolbbpdaplaaGreatDoor

namespace Go.Proofs.YtkhjolbbpdaplaaGreatDoor
set_option maxHeartbeats 4000000
structure Mem where
 id:Int
 weight:Int
 pub:Int
def look (l:List Mem) (i:Int):Option Mem:=l.find? (·.id == i)
end Go.Proofs.YtkhjolbbpdaplaaGreatDoor

namespace Go.Proofs.YtkhjolbbpdaplaaGreatDoor
set_option maxHeartbeats 4000000
open Go.RowKit Go.Proofs.Tryz
set_option maxRecDepth 100000
def peX (w:World) (ao:Option Addr) (l:List Mem):Prop:=∀ (k:Nat) m,l[k]? =some m->∃ g,ao=some ⟨g,0,none⟩/\g<w.heap.size/\w.cell? ⟨g,k * 3,none⟩=some (.int .i64 m.id)/\w.cell? ⟨g,k * 3+1,none⟩=some (.int .i64 m.weight)/\w.cell? ⟨g,k * 3+2,none⟩=some (.int .i64 m.pub)
theorem peX.upd {w w':World} {d:Option Addr} {l:List Mem} (h:peX w d l) (u:Uq w w'):peX w' d l:=by
 intro k m j;obtain ⟨g,e,f,h0,h1,n⟩:=h k m j;have c:=u.block g f (by simp);exact ⟨g,e,xA f u.size,(yd (a:=⟨g,_,none⟩) c).trans h0,(yd (a:=⟨g,_,none⟩) c).trans h1,(yd (a:=⟨g,_,none⟩) c).trans n⟩
theorem psC {id d c g o W} (h0:W.cell? ⟨g,o,none⟩=some (.int .i64 id)) (h1:W.cell? ⟨g,o+1,none⟩=some (.int .i64 d)) (e:W.cell? ⟨g,o+2,none⟩=some (.int .i64 c)):(Instr.loadAt 58 (.pointer (some ⟨g,o,none⟩))).run prog W=.ok (.agg #[.int .i64 id,.int .i64 d,.int .i64 c]) W :=
 xL W g o 58 [.int .i64 id,.int .i64 d,.int .i64 c] _ (fun j v a=>by
  match j,a with
  | 0,a=>simp at a;subst a;exact h0
  | 1,a=>simp at a;subst a;exact h1
  | 2,a=>simp at a;subst a;exact e) underlying58 rfl (by show _=some 3;kernel_rfl)
theorem peX.row {w:World} {f:Option Addr} {l:List Mem} (h:peX w f l) {i:Nat} {id j d:Int} (m:l[i]? =some ⟨id,j,d⟩):∃ g,f=some ⟨g,0,none⟩/\g<w.heap.size/\∀ W,Uq w W->(Instr.loadAt 58 (.pointer (some ⟨g,i * 3,none⟩))).run prog W=.ok (.agg #[id,j,d]) W:=by
 obtain ⟨g,e,k,h0,h1,n⟩:=h i _ m;refine ⟨g,e,k,fun W u=>?_⟩;have c:=u.block g k (by simp);exact psC ((yd (a:=⟨g,_,none⟩) c).trans h0) ((yd (a:=⟨g,_,none⟩) c).trans h1) ((yd (a:=⟨g,_,none⟩) c).trans n)
def pcs (who:Int) (l:List Mem):Option Nat:=l.findIdx? (·.id == who)
def idxV (o:Option Nat):Int:=match o with
 | some i=>(i:Int)
 | none=>-1
theorem pna (id h f a gE w) (d:w.cell? ⟨gE,1,none⟩=some (.int .i64 a)):Calls prog 37 #[.agg (mbrV id h f),.pointer (some ⟨gE,0,none⟩)] w (MkB (id == a) w):=by
 obtain ⟨g,m⟩:=ae (w.heap.size);obtain ⟨k,e⟩:=ae (w.alloc (.cells (mbrV id h f) 58));have j:=aW m e;have c:=aU e;have n:=ah c;have p:=(xa _ g 0 _ _ _ j).trans (show _=some (Value.int .i64 id) from rfl);have o:k.cell? ⟨gE,1,none⟩=some (.int .i64 a):=(c.cell (x6 _ _ d) (by simp)).trans d;clear j c d;go_in;go_wp2;go_ret;exact ⟨_,rfl,rfl,n.out⟩
theorem pkP {a l k m} (h:l[k]? =some m) (f:m.id=a) (c:∀ j,j<k->∀ x,l[j]? =some x->x.id≠a):pcs a l=some k:=by
 obtain ⟨e,d⟩:=xe.1 h;unfold pcs;rw [vy];refine ⟨e,by rw [d];simpa using f,fun j g=>?_⟩;simpa using c j g l[j] (xd (by omega))
theorem pkQ {a l} (d:∀ j,j<l.length->∀ x,l[j]? =some x->x.id≠a):pcs a l=none:=by
 unfold pcs;rw [List.findIdx?_eq_none_iff];intro x e;obtain ⟨j,c,rfl⟩:=List.getElem_of_mem e;simpa using d j c _ (xd c)
theorem pl9 (a l x n c gE w) (G:n=l.length) (T:n<=c) (d:n<=1000000) (z:peX w x l) (o:w.cell? ⟨gE,1,none⟩=some (.int .i64 a)) :
 Calls prog 36 #[.slice x n c,.func (.func 37) #[] #[.pointer (some ⟨gE,0,none⟩)]] w (Mk (.int .i64 (idxV (pcs a l))) w):=by
 have A:=ah G;have N:=ah z;have y:Hid (gE<w.heap.size/\w.cell? ⟨gE,1,none⟩=some (.int .i64 a)):=⟨x6 _ _ o,o⟩
 clear G z o;go_in;go_wp2;go_loopw [5,8] (fun _ i wr=>∃ k:Nat,i=.int .i64 (k:Int)/\k<=n/\Hid (∀ j,j<k->∀ m,l[j]? =some m->m.id≠a)/\Hid (Uq w wr)) (fun _ i _=>n - (intOf i).toNat)
 case atStart=>exact ⟨0,rfl,xu _,fun j F=>absurd F (by omega),Upd.refl _ _⟩
 case round =>
  obtain ⟨k,rfl,Q,p,f⟩:=hrel;by_cases J:k<n
  · obtain ⟨⟨id,C,u⟩,h⟩:∃ m,l[k]? =some m:=⟨_,xd (by rw [<-A.out];exact J)⟩
    obtain ⟨g,O,M,B⟩:=(N.out.upd f.out).row h;have v:=ah (B wr uR);have D:=ah (pna id C u a gE wr ((f.out.cell y.out.1 (by simp)).trans y.out.2));have t:=ah h;have S:(0:Int)<=(k:Int):=by omega
    have R:(k:Int)<(n:Int):=by omega
    subst O;clear B h M;go_wp2_with (first | (refine wpList_load_atW (by rfl) 58 _ rfl g (k * 3) rfl (mbrV id C u) v.out ?_) | (go_at_fn 37))
    refine D.out.mono ?_;rintro e P ⟨b,E,rfl,hq⟩;have r:=ah (f.out.trans hq);clear hq D v f
    cases b with
    | false =>
     have H:Hid (∀ j,j<k+1->∀ m,l[j]? =some m->m.id≠a):=by
      intro j F m d;by_cases K:j<k
      · exact p.out j K m d
      · obtain rfl:j=k:=by omega
        rw [t.out] at d;injection d with d;rw [<-d];have:=E.out;intro e;rw [show id=a from e] at this;simp at this
     go_wp2_with fail;exact ⟨⟨k+1,by go_num,by omega,H.out,r.out⟩,by first | (simp [intOf];done) | (simp [intOf];omega)⟩
    | true =>
     have q:Hid (pcs a l=some k):=pkP t.out (by have:=E.out;exact (yW.1 this.symm)) p.out;go_wp2;go_ret;exact ⟨by rw [q.out];rfl,r.out⟩
  · obtain rfl:k=n:=by omega
    have q:Hid (pcs a l=none):=pkQ (by rw [<-A.out];exact p.out);go_wp2;go_ret;exact ⟨by rw [q.out];rfl,f.out⟩
def mtG (ma:Option Addr) (mn mc:Nat) (ca:Option Addr) (cn cc:Nat) (pa:Option Addr) (pn pc:Nat) (ka:Option Addr) (kn kc:Nat) (sq dep:Int) (kind who aw:Int) (aT:ByteArray) (ar as' bw:Int) (bT:ByteArray) (br bs' low high:Int) (F A B:ByteArray) (ci ck c1 c2 i:Int) (id wt pub:Int):Array Value :=
 #[.slice ma mn mc,.slice ca cn cc,.slice pa pn pc,.slice ka kn kc,.int .i64 sq,.int .i64 dep,.int .i64 kind,.int .i64 who,.int .i64 aw,.string aT,.int .i64 ar,.int .i64 as',.int .i64 bw,.string bT,.int .i64 br,.int .i64 bs',.int .i64 low,.int .i64 high,.string F,.string A,.string B,.int .i64 ci,.int .i64 ck,.int .i64 c1,.int .i64 c2,.int .i64 i,.int .i64 id,.int .i64 wt,.int .i64 pub]
theorem MtIs.ofG (J u mc G x H E M w v t kc r p o q g k m f j n h d c a F A B z K y C i id D e) :
 MtIs (mtG J u mc G x H E M w v t kc r p o q g k m f j n h d c a F A B z K y C i id D e) g k m f j n h d c a F A B id e :=
 ⟨rfl,rfl,rfl,rfl,rfl,rfl,rfl,rfl,rfl,rfl,rfl,rfl,rfl,rfl,rfl,rfl⟩
def MkPB (P:Bool->Prop) (w:World) (e:Ending) (w':World):Prop:=∃ b:Bool,Hid (P b)/\e=.returned (.bool b)/\Upd [] [] w w'
def ppa (PF PG PP:Bool->Prop) (who:Int) (w:World) (e:Ending) (w':World):Prop :=
 ∃ x y:Int,((PF false/\x=0/\y=11)\/(PF true/\PG false/\x=0/\y=21)\/(PF true/\PG true/\PP false/\x=0/\y=25)\/(PF true/\PG true/\PP true/\x=who/\y=0))/\e=.returned (.tuple #[x,y])/\Upd [] [] w w'
theorem pma {c j m n o e k t v d f a F A B q u p r g W} (h:W.heap[g]? =some (.cells #[.int .i64 c,.int .i64 j,.int .i64 m,.string n,.int .i64 o,.int .i64 e,.int .i64 k,.string t,.int .i64 v,.int .i64 d,.int .i64 f,.int .i64 a,.string F,.string A,.string B,.int .i64 q,.int .i64 u,.int .i64 p,.int .i64 r] 50 (0,0))) :
 (Instr.loadAt 50 (.pointer (some ⟨g,0,none⟩))).run prog W=.ok (.agg #[.int .i64 c,.int .i64 j,.int .i64 m,.string n,.int .i64 o,.int .i64 e,.int .i64 k,.string t,.int .i64 v,.int .i64 d,.int .i64 f,.int .i64 a,.string F,.string A,.string B,.int .i64 q,.int .i64 u,.int .i64 p,.int .i64 r]) W :=
 xL W g 0 50 [.int .i64 c,.int .i64 j,.int .i64 m,.string n,.int .i64 o,.int .i64 e,.int .i64 k,.string t,.int .i64 v,.int .i64 d,.int .i64 f,.int .i64 a,.string F,.string A,.string B,.int .i64 q,.int .i64 u,.int .i64 p,.int .i64 r] _ (pb5 rfl h) underlying50 rfl (by show _=some 19;kernel_rfl)
theorem pmb {l:List Value} {g W} (a:l.length=6) (h:W.heap[g]? =some (.cells l.toArray 32 (0,0))) :
 (Instr.loadAt 32 (.pointer (some ⟨g,0,none⟩))).run prog W=.ok (.agg l.toArray) W :=
 xL W g 0 32 _ _ (pb5 rfl h) underlying32 rfl (by rw [a];kernel_rfl)
end Go.Proofs.YtkhjolbbpdaplaaGreatDoor
