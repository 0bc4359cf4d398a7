/- sortesref01.Parse at any text and what follows. -/
import Derived.Test.YtkhjolbbpdaplaaGreatDoorHAU
namespace Go.Proofs.YtkhjolbbpdaplaaGreatDoor
set_option maxHeartbeats 8000000
open Go.RowKit Go.Proofs.Tryz
set_option maxRecDepth 100000
theorem pgv {u} (h:u<=9223372036854775808):(be u).length<=8:=paJ 8 u (ui h (by decide))
theorem ppB {n} (h:n<0):Lib.itoa n=[45] ++ Lib.decDigits n.natAbs:=by
 unfold Lib.itoa;rw [xH h];rfl
theorem ppC (u:Nat):Lib.itoa (u:Int)=Lib.decDigits u:=by
 unfold Lib.itoa;rw [yy (by omega),xW]
theorem pfL (u w a) (c:bs a=be u) (h:u<=9223372036854775808):Calls prog 67 #[.string a] w (MkS (Lib.decDigits u) w) :=
 pib a u w (by rw [c,paK]) (by rw [par c];exact xB (pgv h) (by omega)) (xB (pbY h) (by omega))
theorem paB (n w) (t:pab n):Calls prog 20 #[.int .i64 n] w (MkS (Lib.itoa n) w):=by
 have K:=t.1;have N:=t.2;by_cases h0:0<=n
 · obtain ⟨u,rfl⟩:=uo h0;go_in;go_wp2_with fail;refine (pbs u w (by omega)).mono ?_;rintro e p ⟨a,j,rfl,h⟩;go_wp2_with fail;refine (pfL u p a j.out (by omega)).mono ?_;rintro e B ⟨y,f,d,rfl,g⟩;go_wp2;go_ret;rw [ppC];exact ⟨y,f.out,d,rfl,h.trans g⟩
 · obtain ⟨m,C⟩:∃ m:Nat,(m:Int)=-(n+1):=⟨(-(n+1)).toNat,by omega⟩
   have x:m<9223372036854775808:=by omega
   have o:n.natAbs=m+1:=by omega
   have r:=ah o;have k:n<0:=by omega
   have p:IntKind.i64.wrap (n+1)=n+1:=pam (by omega) (by omega);have B:IntKind.i64.wrap (-(n+1))=(m:Int):=by rw [pam (by omega) (by omega)];omega
   have J:n+1<=9223372036854775807:=by omega
   clear o;go_in;go_wp2_with fail
   first | rw [<-C] | skip
   refine (pbs m w x).mono ?_;rintro e E ⟨a,j,rfl,h⟩;go_wp2_with fail;refine (pbs 1 E (by omega)).mono ?_;rintro e D ⟨b,F,rfl,g⟩;go_wp2_with fail;refine (pe1 a b m 1 D j.out F.out (xB (pgv (by omega)) (by omega)) (xB (pgv (by omega)) (by omega))).mono ?_;rintro e G ⟨c,A,rfl,z⟩;go_wp2_with fail;refine (pfL (m+1) G c A.out (by omega)).mono ?_;rintro e M ⟨y,f,d,rfl,v⟩;have q:(Lib.decDigits (m+1)).length<=19:=pbY (by omega);have H:y.size<=19:=xB d q;clear q d;go_wp2;go_ret;refine ⟨_,?_,?_,rfl,(h.trans g).trans (z.trans v)⟩
   · show _=_;rw [ppB k,r.out,pae,f.out];rfl
   · rw [ppB k,r.out,<-f.out,xr,pac,xT];exact xj _
theorem pnj (t w) (k:t.size<=10000000):Calls prog 160 #[.string t] w (MkS (pbe (bs t)) w):=by
 have a:pab (t.size:Int):=by unfold pab;omega
 go_in;go_wp2_with fail;refine (paB (t.size:Int) w a).mono ?_;rintro e h ⟨y,d,g,rfl,hq⟩;have f:=itoa_len (t.size:Int) a;have j:y.size<=20:=by omega
 have H:bs (y ++ ByteArray.mk #[58] ++ t)=pbe (bs t):=by
  rw [pae,pae,d.out,pbe,pac,show bs (ByteArray.mk #[58])=[58] from rfl];simp only [xG,yA,zk]
 have c:=ah H;clear H g f;go_wp2;go_ret;exact ⟨_,c.out,xJ (paF c.out),rfl,hq⟩
theorem ppD {t} (h:t.length<=10000000):(pbe t).length<=t.length+21:=by
 have:=itoa_len (t.length:Int) (by unfold pab;omega);rw [pbe,xr,xF];omega
theorem psS {q k h t n p x a c g e f m d j} (z:Lib.join [wEv,Lib.itoa q,Lib.itoa k,Lib.itoa h,Lib.itoa t,Lib.itoa n,hexL p,pbe (bs x)] [32]=j)
 (h1:bs a=Lib.itoa q) (y:bs c=Lib.itoa k) (u:bs g=Lib.itoa h) (r:bs e=Lib.itoa t) (o:bs f=Lib.itoa n) (w:bs m=hexL p) (v:bs d=pbe (bs x)) :
 bs (ByteArray.mk #[101,118,101,110,116] ++ ByteArray.mk #[32] ++ a ++ ByteArray.mk #[32] ++ c ++ ByteArray.mk #[32] ++ g ++ ByteArray.mk #[32] ++ e ++ ByteArray.mk #[32] ++ f ++ ByteArray.mk #[32] ++ m ++ ByteArray.mk #[32] ++ d)=j:=by
 rw [<-z];simp only [pae,h1,y,u,r,o,w,v,show bs (ByteArray.mk #[32])=[32] from rfl,show bs (ByteArray.mk #[101,118,101,110,116])=wEv from rfl];simp [Lib.join,List.intercalate_cons_cons]
theorem phy (e:EvG) (f:e.ok) (hx:e.x.size<=10000000) (w):Calls prog 84 #[.agg e.V.toArray] w (MkS e.text w):=by
 obtain ⟨EV,Z⟩:=az (e.V.toArray);obtain ⟨ZH,Y⟩:=az ((byteVals e.p).toArray);have af:=ah Y;obtain ⟨m,U⟩:=ae (w.alloc (.cells EV 71));obtain ⟨g,hg⟩:=az (w.heap.size);have r0:EgA m g e:=by rw [hg,<-U,Z];exact xi _ _
 have u0:=aU U;have HJ:=ah e.text_join;have HL:=ah (EvG.text_len f (by omega));have aG:=ah f;obtain ⟨q,M⟩:=ae (e.q);obtain ⟨k,J⟩:=ae (e.k);obtain ⟨h,F⟩:=ae (e.h);obtain ⟨t,G⟩:=ae (e.t);obtain ⟨n,O⟩:=ae (e.n);obtain ⟨x,P⟩:=ae (e.x);obtain ⟨p,H⟩:=ae (e.p);have T:Hid (∀ W,Uq m W->W.cell? ⟨g,0,none⟩=some (.int .i64 q)/\W.cell? ⟨g,1,none⟩=some (.int .i64 k)/\W.cell? ⟨g,2,none⟩=some (.int .i64 h)/\W.cell? ⟨g,3,none⟩=some (.int .i64 t)/\W.cell? ⟨g,4,none⟩=some (.int .i64 n)/\W.cell? ⟨g,5,none⟩=some (.string x)/\(Instr.loadAt 60 (.pointer (some ⟨g,6,none⟩))).run prog W=.ok (.agg ZH) W):=by
  intro W u;have c:=(r0.upd u)
  refine ⟨(c.cell 0).trans ?_,(c.cell 1).trans ?_,(c.cell 2).trans ?_,(c.cell 3).trans ?_,(c.cell 4).trans ?_,(c.cell 5).trans ?_,?_⟩
  · rw [<-M];rfl
  · rw [<-J];rfl
  · rw [<-F];rfl
  · rw [<-G];rfl
  · rw [<-O];rfl
  · rw [<-P];rfl
  · rw [Y];exact xL W g 6 60 _ _ c.hash underlying60 rfl (pi7 f.2.2.2.2.2.1)
 have d:Hid (pab q/\pab k/\pab h/\pab t/\pab n):=by rw [<-M,<-J,<-F,<-G,<-O];exact ⟨f.1,f.2.1,f.2.2.1,f.2.2.2.1,f.2.2.2.2.1⟩
 have D:Hid (p.length=32/\x.size<=10000000):=by rw [<-H,<-P];exact ⟨f.2.2.2.2.2.1,hx⟩
 rw [H] at af;have ad:Hid (Lib.join [wEv,Lib.itoa q,Lib.itoa k,Lib.itoa h,Lib.itoa t,Lib.itoa n,hexL p,pbe (bs x)] [32]=e.text):=by
  rw [<-M,<-J,<-F,<-G,<-O,<-P,<-H];exact HJ.out
 have av:Hid (e.text.length<=1000000250):=xB HL.out (by omega);have ak:=ah u0;have N:Uq m m.drew:=uR.drew;have HG:=ah hg;rw [<-Z];clear Z Y r0 u0 hg f hx HJ HL aG M J F G O P H;obtain ⟨TX,aa⟩:=ae (e.text);rw [aa] at ad av ⊢;clear aa;go_in;go_upto_region 1 with (fail)
 rw [<-HG.out];clear U;obtain ⟨c0,c1,c2,c3,c4,c5,c6⟩:=T.out m uR;obtain ⟨a,ac⟩:=ae (m.heap.size);obtain ⟨Q,X⟩:=ae (m.alloc (.cells #[q,k,h,t,n] 3));have RL:=ah (aW ac X);have v:Hid (∀ W,Uq Q W->W.cell? ⟨a,0,none⟩=some (.int .i64 q)/\W.cell? ⟨a,1,none⟩=some (.int .i64 k)/\W.cell? ⟨a,2,none⟩=some (.int .i64 h)/\W.cell? ⟨a,3,none⟩=some (.int .i64 t)/\W.cell? ⟨a,4,none⟩=some (.int .i64 n)):=by
  intro W u;have r:=pdU RL.out u;exact ⟨xa _ a 0 _ _ _ r,xa _ a 1 _ _ _ r,xa _ a 2 _ _ _ r,xa _ a 3 _ _ _ r,xa _ a 4 _ _ _ r⟩
 have U1:=ah (aU X);have v0:Hid (Uq Q Q):=Upd.refl _ _;clear N;go_wp2_with fail;clear X ac c0 c1 c2 c3 c4 c5 c6 RL;refine yt 6 ?_;have z0:(0:Int)=0:=rfl;rw [xK];have d1:=(v.out Q v0.out).1;go_wp2_with fail;refine (paB q _ d.out.1).mono ?_;rintro e aE ⟨y,ar,j,rfl,hq⟩;have aK:y.size<=20:=by
  have:=itoa_len q d.out.1;omega
 have v1:=ah (v0.out.trans hq);clear j hq d1;go_wp2_with fail;rw [xK];have d2:=(v.out aE v1.out).2.1;go_wp2_with fail;refine (paB k _ d.out.2.1).mono ?_;rintro e aB ⟨C,am,j,rfl,hq⟩;have aR:C.size<=20:=by
  have:=itoa_len k d.out.2.1;omega
 have v2:=ah (v1.out.trans hq);clear j hq d2;go_wp2_with fail;rw [xK];have d3:=(v.out aB v2.out).2.2.1;go_wp2_with fail;refine (paB h _ d.out.2.2.1).mono ?_;rintro e ap ⟨A,al,j,rfl,hq⟩;have aS:A.size<=20:=by
  have:=itoa_len h d.out.2.2.1;omega
 have v3:=ah (v2.out.trans hq);clear j hq d3;go_wp2_with fail;rw [xK];have d4:=(v.out ap v3.out).2.2.2.1;go_wp2_with fail;refine (paB t _ d.out.2.2.2.1).mono ?_;rintro e an ⟨z,ao,j,rfl,hq⟩;have aI:z.size<=20:=by
  have:=itoa_len t d.out.2.2.2.1;omega
 have v4:=ah (v3.out.trans hq);clear j hq d4;go_wp2_with fail;rw [xK];have d5:=(v.out an v4.out).2.2.2.2;go_wp2_with fail;refine (paB n _ d.out.2.2.2.2).mono ?_;rintro e aq ⟨E,aF,j,rfl,hq⟩;have aM:E.size<=20:=by
  have:=itoa_len n d.out.2.2.2.2;omega
 have v5:=ah (v4.out.trans hq);clear j hq d5;go_wp2_with fail;have aj:(hexL p).length=64:=by rw [paO,D.out.1]
 have ag:(pbe (bs x)).length<=10000021:=xB (ppD (by rw [pac];exact D.out.2)) (by rw [pac];have:=D.out.2;omega);have aw:=ah aj;have aD:=ah ag;have u5:=U1.out.trans v5.out;clear aj ag;rw [xK];go_upto_region 7 with (fail)
 have N:Uq m aq.drew:=u5.drew;have aT:¬ 9223372036854775807<6+y.size+1+C.size+1+A.size+1+z.size+1+E.size+1:=by omega
 refine bG (S:=fun wp=>wp.cell? ⟨g,5,none⟩=some (.string x)/\(Instr.loadAt 60 (.pointer (some ⟨g,6,none⟩))).run prog wp=.ok (.agg ZH) wp) ((T.out _ N).2.2.2.2.2) fun o=>?_;refine tkS [0,1,2] o ?_;refine tkL 3 o ZH (fun w aA=>aA.2) ?_;refine tkS [7,8] o ?_;refine tk1 4 fun K B=>?_;go_simp;rw [af.out];refine (pcB p D.out.1 _).mono ?_;rintro e6 aO ⟨R,aC,au,rfl,hq⟩;have ai:=N.trans hq;clear hq;have aJ:R.size<=64:=(by have:=aw.out;omega);clear au;have aQ:¬ 9223372036854775807<6+y.size+1+C.size+1+A.size+1+z.size+1+E.size+1+R.size:=(by omega);have aH:¬ 9223372036854775807<6+y.size+1+C.size+1+A.size+1+z.size+1+E.size+1+R.size+1:=(by omega);go_wp2_with fail;refine tkK B ((T.out _ ai).2.2.2.2.2) fun o=>?_;clear B K;refine tkS [5,6] o ?_;refine tk1 9 fun K B=>?_;go_simp;refine (pnj x _ D.out.2).mono ?_;rintro e7 aL ⟨y7,ax,ay,rfl,hq⟩;have ab:=ai.trans hq;clear hq;have aN:y7.size<=10000021:=(by have:=aD.out;omega);clear ay;have aP:¬ 9223372036854775807<6+y.size+1+C.size+1+A.size+1+z.size+1+E.size+1+R.size+1+y7.size:=(by omega);go_wp2_with fail;refine tkK B ((T.out _ ab).2.2.2.2.2) fun o=>?_;clear B K;refine tkS [10,11] o ?_;refine tkD ?_;go_wp2;go_ret;have hb:=psS ad.out ar.out am.out al.out ao.out aF.out aC.out ax.out;exact ⟨_,hb,xJ (paF hb),rfl,ak.out.trans ab⟩
def EvG.signed (e:EvG) (x:Nat):EvG:={ e with r:=(gP (nonceN x e.text):Int),s:=(sWith x (nonceN x e.text) e.text:Int) }
def pie (E:EvG) (w:World) (e:Ending) (w':World):Prop:=∃ EW:Array Value,Hid (EW=E.V.toArray)/\e=.returned (.agg EW)/\Upd [] [] w w'
theorem pnk (c:EvG) (D:c.ok) (ap:c.x.size<=1000000) (x:Nat) (hx:x<1152921504606845789) (w):Calls prog 85 #[x,.agg c.V.toArray] w (pie (c.signed x) w):=by
 obtain ⟨C,u⟩:=az (c.V.toArray);have z:c.p.length=32:=D.2.2.2.2.2.1;have aq:=ah u;have ab:Fi 71 C:=by rw [u];exact EvG.info z
 have an:Hid (C.size=40):=by rw [u];exact EvG.V_len z
 have X:=ah (fun W=>phy c D (by omega) W);have U:c.text.length<=1000250:=xB (EvG.text_len D (by omega)) (by omega);obtain ⟨g,hg⟩:=ae (w.heap.size);obtain ⟨w0,Z⟩:=ae (w.alloc (.cells C 71));have F:=aW hg Z;have u0:=aU Z;obtain ⟨gR,Y⟩:=ae (w0.heap.size);obtain ⟨w1,aa⟩:=ae (w0.alloc (.cells zZ0 71));have r1:w1.heap[gR]? =some (.cells evZ.toArray 71 (0,0)):=by rw [<-Y,<-aa,paH];exact xi _ _
 have J:=aU aa;have av:g<gR:=by rw [<-Y];exact paf F
 have P:=ah (paa F J);have R1:=ah r1;have U1:=ah (u0.trans J);have HG:=ah hg;have O:=ah z;have ao:=ah U;rw [<-u] at X ⊢;clear u F u0 r1 J D ap z U;go_in;go_wp2_with (refine bL P underlying71 ab ?_)
 refine (X.out w1).mono ?_;rintro e w2 ⟨T,HT,hT,rfl,hq⟩;have R2:=ah (paa P.out hq);have Q2:=ah (paa R1.out hq);have U2:=ah (U1.out.trans hq);have R:T.size<=140737488355000:=by have:=ao.out;omega
 clear hq P R1 U1 hT;go_wp2_with fail;refine (pgb (x:Int) T w2 ⟨by omega,by omega⟩ R).mono ?_;rintro e v ⟨a,b,HA,HB,ha,hb,rfl,hq⟩;rw [HT.out,show expN (x:Int)=x from peb hx] at HA HB;have H:=ah (paa R2.out hq);have K:=ah (paa Q2.out hq);have U3:=ah (U2.out.trans hq);obtain ⟨f,j⟩:∃ f:Array Value,f=#[.int .i64 (a:Int),.int .i64 (b:Int)]:=⟨_,rfl⟩
 rw [<-j];have au:Fi 39 f:=by rw [j];exact peS _ _
 have am:Fo f:=by rw [j];exact poR _ _
 have TH:Hid (v.there g 38 f.size):=pay H.out (by rw [an.out,j];exact (by decide:38+2<=40));obtain ⟨B,o⟩:=ae (v.setCells g 38 f.toList);have A:=paP g _ f.toList 38 v _ H.out;rw [o] at A;obtain ⟨d,m⟩:=az ((c.signed x).V.toArray);have Q:paY C 38 f.toList=d:=by
  have hA:([.int .i64 c.q,.int .i64 c.k,.int .i64 c.h,.int .i64 c.t,.int .i64 c.n,.string c.x] ++ byteVals c.p:List Value).length=38:=by simp [byteVals,O.out]
  have h:=pcR [.int .i64 (a:Int),.int .i64 (b:Int)] ([.int .i64 c.q,.int .i64 c.k,.int .i64 c.h,.int .i64 c.t,.int .i64 c.n,.string c.x] ++ byteVals c.p) [.int .i64 c.r,.int .i64 c.s] [] rfl;rw [hA] at h;rw [aq.out,j,m];have e1:c.V=([.int .i64 c.q,.int .i64 c.k,.int .i64 c.h,.int .i64 c.t,.int .i64 c.n,.string c.x] ++ byteVals c.p) ++ ([.int .i64 c.r,.int .i64 c.s] ++ []):=by simp [EvG.V]
  have e2:(c.signed x).V=([.int .i64 c.q,.int .i64 c.k,.int .i64 c.h,.int .i64 c.t,.int .i64 c.n,.string c.x] ++ byteVals c.p) ++ ([.int .i64 (a:Int),.int .i64 (b:Int)] ++ []):=by
   rw [HA.out,HB.out];simp [EvG.V,EvG.signed]
  rw [e1,e2];exact h
 rw [Q] at A;have E:Fi 71 d:=by rw [m];exact EvG.info O.out
 have ac:Fo d:=by rw [m];exact EvG.one _
 have ad:Hid (evZ.toArray.size=d.size):=by show _=_;rw [m,pcr];exact (EvG.V_len (e:=c.signed x) O.out).symm
 have ar:w.heap.size<=g:=xJ HG.out;have M:=Upd.setCellsNew ar f.toList 38 _ U3.out;rw [o] at M;have uS:Upd [g] [g] v B:=by
  have h:=(Upd.setCellsIn (g:=g) (S:=[g]) (S':=[g]) (by simp) f.toList 38 _ (Upd.refl [g] v))
  rw [o] at h;exact h
 have Q4:Fr B gR evZ.toArray 71:=(uS.block gR (paf K.out) (by simp;omega)).trans K.out;obtain ⟨w5,y⟩:=ae (B.setRow gR d);have G:(B.setRow gR d).heap[gR]? =some (.cells d 71 (0,0)):=xz _ _ _ _ _ _ Q4.out;rw [y] at G;have N:=M.setRowNew (show w.heap.size<=gR by omega) d;rw [y] at N;have ak:=ah o;have ai:=ah y;have ag:=ah A;have al:=ah G;have aj:=ah N;have af:=ah m;clear hq R2 Q2 U2 H K j o A m Q M uS y G N R;go_wp2_with (first | (refine bM TH au am ak ?_) | (refine bL ag underlying71 E ?_) | (refine bS Q4 E ad ac ai ?_))
 exact xI (yX rfl _ _ gR _ d _ _ rfl al.out underlying71 rfl E.out) rfl ⟨d,af,rfl,aj.out⟩
def psT (who x:Int) (t:ByteArray) (w:World) (e:Ending) (w':World):Prop :=
 ∃ r s:Nat,Hid (r=gP (nonceN (expN x) (bs t))/\s=sWith (expN x) (nonceN (expN x) (bs t)) (bs t))/\r<2305843009213691579/\s<1152921504606845789/\e=.returned (.agg #[who,.string t,r,s])/\Upd [] [] w w'
theorem pe2 (d x t w) (h:-9223372036854775808<=x/\x<=9223372036854775807) (A:t.size<=140737488355000) :
 Calls prog 30 #[.int .i64 d,.int .i64 x,.string t] w (psT d x t w):=by
 have f:=xi w (.cells #[.int .i64 0,.string ByteArray.empty,.int .i64 0,.int .i64 0] 41);have q:=(Upd.refl [] w).alloc (.cells #[.int .i64 0,.string ByteArray.empty,.int .i64 0,.int .i64 0] 41);go_in;go_wp2_with fail;refine (pgb x t _ h A).mono ?_;rintro e c ⟨r,s,n,m,k,o,rfl,g⟩;have a:=paa f g;have D:c.frozen? ⟨w.heap.size,0,none⟩=false:=xp _ _ _ _ _ a;have E:c.frozen? ⟨w.heap.size,1,none⟩=false:=xp _ _ _ _ _ a;have B:c.frozen? ⟨w.heap.size,2,none⟩=false:=xp _ _ _ _ _ a;have C:c.frozen? ⟨w.heap.size,3,none⟩=false:=xp _ _ _ _ _ a;have y:c.cell? ⟨w.heap.size,0,none⟩=some (.int .i64 0):=by rw [xa _ _ _ _ _ _ a];rfl
 have j:c.cell? ⟨w.heap.size,1,none⟩=some (.string ByteArray.empty):=by rw [xa _ _ _ _ _ _ a];rfl
 have u:c.cell? ⟨w.heap.size,2,none⟩=some (.int .i64 0):=by rw [xa _ _ _ _ _ _ a];rfl
 have z:c.cell? ⟨w.heap.size,3,none⟩=some (.int .i64 0):=by rw [xa _ _ _ _ _ _ a];rfl
 clear f a;go_wp2_with fail;refine xI (v:=.agg #[d,.string t,r,s]) (by simp [results,Tryz.results30,go_sem,y,j,u,z]) rfl ⟨r,s,⟨n.out,m.out⟩,k,o,rfl,?_⟩;exact (((((q.trans g).setNew (p:=⟨_,_,none⟩) (xj _) _).setNew (p:=⟨_,_,none⟩) (xj _) _).setNew (p:=⟨_,_,none⟩) (xj _) _).setNew (p:=⟨_,_,none⟩) (xj _) _)
def MkVt (E:EvG) (w:World) (e:Ending) (w':World):Prop:=∃ T:ByteArray,Hid (bs T=E.text)/\e=.returned (.agg #[E.h,.string T,E.r,E.s])/\Upd [] [] w w'
def vt4 (h:Int) (T:ByteArray) (r s:Int):Array Value:=#[.int .i64 h,.string T,.int .i64 r,.int .i64 s]
theorem pb3 (h T r s):(prog.info? 41).map (·.size)=some (vt4 h T r s).size:=by
 show _=some 4;kernel_rfl
theorem pcJ (h T r s):(vt4 h T r s).all (·.oneCell')=true:=by simp [vt4,Value.oneCell']
theorem pbU (a) (F:a.ok) (ad:a.x.size<=1000000) (w):Calls prog 33 #[.agg a.V.toArray] w (MkVt a w):=by
 obtain ⟨t,n⟩:=az (a.V.toArray);have o:a.p.length=32:=F.2.2.2.2.2.1;have N:=ah (fun W=>phy a F (by omega) W);obtain ⟨h,G⟩:=az (a.h);obtain ⟨r,C⟩:=az (a.r);obtain ⟨s,A⟩:=az (a.s);obtain ⟨g,hg⟩:=ae (w.heap.size);obtain ⟨D,O⟩:=ae (w.alloc (.cells t 71));have q:EgA D g a:=by rw [<-hg,<-O,n];exact xi _ _
 have Z:=aU O;obtain ⟨gR,ab⟩:=ae (D.heap.size);obtain ⟨U,P⟩:=ae (D.alloc (.cells #[.int .i64 0,.string ⟨#[]⟩,.int .i64 0,.int .i64 0] 41));have Y:=aW ab P;have E:=aU P;have HU:=ah (Z.trans E);have e0:=q.upd E;have H:Hid (∀ W,EgA W g a->W.cell? ⟨g,2,none⟩=some (.int .i64 h)/\(Instr.loadAt 71 (.pointer (some ⟨g,0,none⟩))).run prog W=.ok (.agg t) W/\(Instr.loadAt 39 (.pointer (some ⟨g,38,none⟩))).run prog W=.ok (.agg #[r,s]) W):=by
  intro W e;refine ⟨by rw [G];exact e.cell 2,EvG.load o n e,?_⟩;rw [C,A];refine xL W g 38 39 [.int .i64 a.r,.int .i64 a.s] _ (fun j v d=>?_) underlying39 rfl (peS a.r a.s)
  match j,d with
  | 0,d=>simp at d;subst d;exact (e.cell 38).trans (EvG.at38 o)
  | 1,d=>simp at d;subst d;exact (e.cell 39).trans (EvG.at39 o)
 have X:=ah Y;have B:=ah e0;have aa:g≠gR:=by have:=paf q;omega
 have HG:Hid (w.heap.size<=gR):=by have:=paf q;show _<=_;omega
 have R:Uq U U.drew:=uR.drew;have HF:Hid (∀ T,#[.int .i64 a.h,.string T,.int .i64 a.r,.int .i64 a.s]=vt4 h T r s):=fun T=>by rw [G,C,A];rfl
 rw [<-n] at N ⊢;clear n q Z Y E e0 o F ad G C A;go_in;go_upto_region 1 with (fail)
 refine bG (S:=fun k=>k.cell? ⟨g,2,none⟩=some (.int .i64 h)/\(Instr.loadAt 71 (.pointer (some ⟨g,0,none⟩))).run prog k=.ok (.agg t) k/\(Instr.loadAt 39 (.pointer (some ⟨g,38,none⟩))).run prog k=.ok (.agg #[r,s]) k) (H.out _ (B.out.upd R)) fun c=>?_;refine tkS [0,1] c ?_;refine tkL 2 c t (fun w u=>u.2.1) ?_;refine tkY 4 c ?_;refine tkT 5 c ?_ (y:=(pap (by rfl) _ _ rfl _ rfl (#[r,s]:Array Value) (fun w u=>u.2.2)));refine tk1 3 fun K m=>?_;go_simp;refine (N.out _).mono ?_;rintro e ac ⟨T,HT,_,rfl,hq⟩;have f:=R.trans hq;clear hq;have Q:=ah (pb3 h T r s);go_wp2_with fail;refine tkK m (H.out _ (B.out.upd f)) fun c=>?_;clear m K;refine tkY 6 c ?_;refine tk1 7 fun K m=>?_;rw [xH (by rfl)];refine xM 41 _ _ rfl gR (vt4 h T r s) rfl rfl _ _ (paa X.out f) Q.out rfl (pcJ h T r s) ?_;obtain ⟨M,z⟩:=az (ac.setRow gR (vt4 h T r s));have z2:Fr M gR (vt4 h T r s) 41:=(by show _=_;rw [z];exact xz _ _ _ _ _ _ (paa X.out f));have J:=(HU.out.trans f).setRowNew HG.out (vt4 h T r s);have e2:EgA M g a:=(by rw [z];exact pal (B.out.upd f) aa _);rw [<-z] at J ⊢;refine tkK m (H.out _ e2) fun c=>?_;clear m K;refine tkD ?_;go_wp2_with fail;refine xI (yX rfl _ _ gR _ (vt4 h T r s) _ _ rfl z2.out underlying41 rfl Q.out) rfl ⟨T,HT,?_,J⟩;rw [HF.out]
def needN (t:Nat):Nat:=if t=0 then 0 else (t - 1) / 3+1
theorem pdC {t} (h:0<t):1<=needN t/\needN t<=t:=by
 unfold needN;split <;> omega
def valN (l:List Nat) (x:Nat):Nat:=l.foldr (fun c s=>(s * x % Qn+c) % Qn) 0
def padB (key idx:Nat):List UInt8:=sha ([98,111,120,47] ++ Lib.itoa (key:Int) ++ [47] ++ Lib.itoa (idx:Int))
theorem pfM (key idx):(padB key idx).length=32:=pbP _
def boxL (y key idx:Nat):List UInt8:=List.zipWith (· ^^^ ·) (len8 y) ((padB key idx).take 8) ++ ((padB key idx).drop 8).take 8
theorem pif (y key idx):(boxL y key idx).length=16:=by simp [boxL,pau,pfM]
structure Dl where
 coms:List Nat
 point:Nat
 boxes:List (List UInt8)
def pei (coefs keys:List Nat) (seed:List UInt8):Dl :=
 ⟨coefs.map gP,gP (pd3 ([112,111,105,110,116,47] ++ seed)),(List.range keys.length).map fun i=>boxL (valN coefs (i+1)) (pP (keys.getD i 0) (pd3 ([112,111,105,110,116,47] ++ seed))) i⟩
def psU (i:Nat) (seed:List UInt8):List UInt8:=[99,111,101,102,102,105,99,105,101,110,116,32] ++ Lib.itoa (i:Int) ++ [32,111,102,32] ++ seed
def pds (seed:List UInt8) (need:Nat):List Nat:=(List.range need).map fun i=>pd3 (psU i seed)
theorem pcZ (c a):(pds c a).length=a:=by simp [pds]
theorem peA {a d}:∀ c∈pds a d,c<Qn:=by
 intro c h;simp only [pds,zh] at h;obtain ⟨i,_,rfl⟩:=h;exact phR _
theorem pnl (a d c):(pei a d c).coms.length=a.length:=by simp [pei]
theorem pk1 (c a d):(pei c a d).boxes.length=a.length:=by simp [pei]
theorem ppE {a d c}:∀ b∈(pei a d c).boxes,b.length=16:=by
 intro b h;simp only [pei,zh] at h;obtain ⟨i,_,rfl⟩:=h;exact pif _ _ _
theorem ppF {a d c}:∀ b∈(pei a d c).coms,memN b:=by
 intro b h;simp only [pei,zh] at h;obtain ⟨i,_,rfl⟩:=h;exact pg8 _
theorem pk2 {a d c}:memN (pei a d c).point:=pg8 _
end Go.Proofs.YtkhjolbbpdaplaaGreatDoor
