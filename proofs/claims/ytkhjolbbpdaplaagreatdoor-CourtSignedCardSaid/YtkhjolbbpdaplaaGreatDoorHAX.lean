/- sortesref07.Seal and what follows. -/
import Derived.Test.YtkhjolbbpdaplaaGreatDoorHAW
namespace Go.Proofs.YtkhjolbbpdaplaaGreatDoor
set_option maxHeartbeats 2000000
open Go.RowKit Go.Proofs.Tryz
set_option maxRecDepth 100000
abbrev zc:=@Nat.lt_irrefl
theorem pmm (a b:UInt8):bits .xor .u8 (a.toNat:Int) (b.toNat:Int)=((a ^^^ b).toNat:Int):=by
 have h:∀ c:UInt8,BitVec.ofInt 8 (c.toNat:Int)=c.toBitVec:=by
  intro c;apply vn;rw [yO];have:=c.toNat_lt;show ((c.toNat:Int) % 256).toNat=c.toNat;omega
 show IntKind.u8.wrap ((BitVec.ofInt 8 (a.toNat:Int) ^^^ BitVec.ofInt 8 (b.toNat:Int)).toNat:Int)=_;rw [h,h];have e:(a.toBitVec ^^^ b.toBitVec).toNat=(a ^^^ b).toNat:=rfl;rw [e,uL];have:=(a ^^^ b).toNat_lt;omega
theorem pk6 (wr v k l b) (c:wr.ownsRow 0 5 1 v k (byteVals l)) (j:k<=1000000) :
 ∃ a w',(Builtin.append_ #[95,95] 95 #[v,.slice (some ⟨wr.heap.size,0,none⟩) 1 1]).run prog (wr.alloc (.cells #[.int .u8 (b.toNat:Int)] 5))=.ok a w'/\w'.ownsRow 0 5 1 a (k+1) (byteVals (l ++ [b]))/\Upd (foot v) (foot a) wr w':=by
 obtain ⟨e,d,m,g,f⟩:=pdP;have h:=pdW (P:=prog) 95 5 e (.int .u8 0) 1 1 underlying95 d m g f rfl (by omega) (by omega) wr v k (byteVals l) (byteVals [b]) rfl (paL [b]) c j;rw [pa6];exact h
theorem ppL {y key idx k} (c:k<8) (a h) (j:a=UInt8.ofNat (y / 2 ^ (8 * (7 - k)))) (f:(padB key idx)[k]? =some h):(boxL y key idx).take (k+1)=(boxL y key idx).take k ++ [a ^^^ h]:=by
 have m:=pif y key idx;have d:=pfM key idx;rw [zn (by omega)];congr 1;have h1:(boxL y key idx)[k]? =some (a ^^^ h):=by
  unfold boxL;rw [yu (by simp [pau,d];omega),List.getElem?_zipWith];have e:(len8 y)[k]? =some a:=by
   rw [j];simp [len8,c]
  have g:((padB key idx).take 8)[k]? =some h:=by rw [xR c];exact f
  rw [e,g]
 rw [(xe.1 h1).2]
theorem Upd.past2 {a b c S S'} (u:Uq a b) (v:Upd S S' b c) (d:∀ k,k∈S->a.heap.size<=k):Uq a c:=u.past v d
theorem ppM (y key idx):(boxL y key idx).take 8 ++ ((padB key idx).drop 8).take 8=boxL y key idx:=by
 have a:=pfM key idx;unfold boxL;rw [List.take_left' (by simp [pau,a])]
theorem peC (y key idx:Nat) (w) (_hy:y<9223372036854775808) (R:key<9223372036854775808) (hi:idx<9223372036854775808) :
 Calls prog 187 #[y,key,idx] w (MkS (boxL y key idx) w):=by
 have X:=ah (prl key idx w R hi);obtain ⟨H,v⟩:=az (padB key idx);rw [<-v] at X;have E:Hid (H.length=32):=by show _=_;rw [v,pfM]
 have HH:=ah v;clear v R hi;go_in;go_wp2_with fail;refine X.out.mono ?_;rintro e w1 ⟨rfl,M⟩;obtain ⟨c,ai⟩:=ae (w1.heap.size);obtain ⟨S,U,W2,R2,an⟩:=paz w1 60 (byteVals zero32).toArray (byteVals H).toArray;rw [ai] at U W2 R2;have am:=ah (hashInfo E.out);have aj:Hid ((byteVals zero32).toArray.size=(byteVals H).toArray.size):=by show _=_;simp [byteVals,E.out,zero32]
 have al:=ah (hashOne H);have U2:=ah (M.trans an);have HG:Hid (w.heap.size<=c/\c<S.heap.size):=⟨by rw [<-ai];exact M.size,(xq.1 R2.out).1⟩
 clear M an;go_wp2_with (refine wpList_store_rowAs rfl 60 _ _ rfl c (byteVals H).toArray rfl rfl _ _ U.out am.out aj.out al.out S W2.out ?_)
 clear U W2 am aj al X;go_loopw [8,9] (fun t i wr=>∃ k:Nat,i=.int .i64 (k:Int)/\k<=8/\Hid (wr.ownsRow 0 5 1 t k (byteVals ((boxL y key idx).take k)))/\Hid (wr.heap[c]? =some (.cells (byteVals H).toArray 60 (0,0)))/\Hid (∀ x,x∈foot t->c<x)/\Hid (Upd [] (foot t) S wr)) (fun _ i _=>8 - (intOf i).toNat)
 case atStart=>exact ⟨0,rfl,by omega,(by show World.ownsRow _ _ _ _ _ _ _;exact x9 _ _ _ _),R2.out,fun x h=>(by cases h),Upd.refl _ _⟩
 case round =>
  obtain ⟨k,rfl,R,Q,B,Y,HU⟩:=hrel;by_cases ar:k<8
  · obtain ⟨h,A⟩:∃ h,H[k]? =some h:=⟨_,xd (by have:=E.out;omega)⟩
    obtain ⟨a,T⟩:=az (UInt8.ofNat (y / 2 ^ (8 * (7 - k))));have ab:=ppL (y:=y) (key:=key) (idx:=idx) ar a h T (by rw [<-HH.out];exact A);have Z:wr.cell? ⟨c,k,none⟩=some (.int .u8 (h.toNat:Int)):=(xa _ c k _ _ _ B.out).trans (by simp [byteVals,A,pbj]);have af:=ah Z;have r:c<wr.heap.size:=x6 _ _ Z;have HK:Hid (∀ W,Uq wr W->W.cell? ⟨c,k,none⟩=some (.int .u8 (h.toNat:Int))):=fun W u=>(u.cell (p:=⟨c,k,none⟩) r (by simp)).trans af.out;obtain ⟨C,ax⟩:∃ C,C=8 * k:=⟨_,rfl⟩
    obtain ⟨g,ay⟩:∃ g,g=56 - 8 * k:=⟨_,rfl⟩
    have e1:IntKind.i64.wrap (8 * (k:Int))=(C:Int):=by rw [pam (by omega) (by omega)];omega
    have e2:IntKind.i64.wrap (56 - (C:Int))=(g:Int):=by rw [pam (by omega) (by omega)];omega
    have e3:IntKind.u8.wrap ((y:Int) / 2 ^ g)=(a.toNat:Int):=by
     have:(UInt8.ofNat (y / 2 ^ (8 * (7 - k)))).toNat=y / 2 ^ (8 * (7 - k)) % 256:=by simp
     rw [uL,T,this,show g=8 * (7 - k) by omega];simp
    have e4:=pmm a h;have m0:g<64:=by omega
    obtain ⟨D,w',m,d,f⟩:=pk6 wr.drew u8 k ((boxL y key idx).take k) (a ^^^ h) (paj Q.out (fun _ _=>rfl)) (by omega);rw [<-ab] at d;have N:=ah m;have aw:=ah d;have J:=ah (HU.out.drew.trans f);have ac:∀ x,x∈foot D->c<x:=fun x O=>by
     rcases f.new x O with q | q
     · exact Y.out x q
     · exact xA r q
    have G:w'.heap[c]? =some (.cells (byteVals H).toArray 60 (0,0)):=(f.block c r (fun q=>zc _ (Y.out c q))).trans B.out;have ao:w'.cell? ⟨c,k,none⟩=some (.int .u8 (h.toNat:Int)):=(xa _ c k _ _ _ G).trans (by simp [byteVals,A,pbj]);have av:=ah ao;have aq:=ah ac;have ap:=ah G;have ak:Uq wr wr.drew:=uR.drew;have i0:(0:Int)<=(k:Int):=by omega
    have i1:(k:Int)<32:=by omega
    clear ao ab Z m d f ac G A T ax ay r af;go_upto_region 6 with (fail)
    refine bH HK ak fun o=>?_;refine tkS [0,1,2,3,4,5,6,7,8,9,10] o ?_;refine tk1 11 fun K n=>?_;go_simp;refine tkK n (HK.out _ (ak.alloc _)) fun o=>?_;clear n K;refine tk1 12 fun K n=>?_;refine paD _ rfl _ _ _ _ rfl u8 (.slice (some ⟨wr.drew.heap.size,0,none⟩) 1 1) D w' rfl rfl N.out ?_;refine tkK n (av.out) fun o=>?_;clear n K;refine tkY 13 o ?_;refine tkD ?_;go_wp2_with fail;exact ⟨⟨k+1,by go_num,by omega,aw.out,ap.out,aq.out,J.out⟩,(by first | (simp [intOf];done) | (simp [intOf];omega))⟩
  · obtain rfl:k=8:=by omega
    obtain ⟨iu,q1,q2,q3,q4⟩:=pdP;have aa:∀ (j:Nat) (z:Value),(byteVals ((H.drop 8).take 8))[j]? =some z->wr.cell? ((⟨c,8,none⟩:Addr).add j)=some z:=by
     intro j z F;have hj:j<8:=by
      have:=(xe.1 F).1;simp [byteVals] at this;omega
     have e':(⟨c,8,none⟩:Addr).add j=⟨c,8+j,none⟩:=by simp [Addr.add]
     rw [e',xa _ c (8+j) _ _ _ B.out];simp only [byteVals,List.map_take,List.map_drop] at F;rw [xR hj,zL] at F;simp only [byteVals,xD];exact F
    obtain ⟨D,w',m,d,f⟩:=pa0 (P:=prog) wr 95 95 5 iu (.int .u8 0) 1 1 underlying95 q1 q2 q3 q4 rfl (by omega) u8 8 _ Q.out ⟨c,8,none⟩ 8 24 (byteVals ((H.drop 8).take 8)) (by simp [byteVals,E.out]) aa (paL _) (by omega) (by simp only [maxLen];omega);have ad:byteVals ((boxL y key idx).take 8) ++ byteVals ((H.drop 8).take 8)=byteVals (boxL y key idx):=by
     rw [<-pa6,HH.out,ppM]
    rw [ad] at d;have ag:=pdK (P:=prog) w' 95 9 5 underlying95 underlying5 underlying9 D (boxL y key idx) (by rw [pif];exact d);have au:=ah ag;have N:=ah m;have J:=ah ((U2.out.trans (HU.out.mono (fun _ h=>h) (fun _ h=>absurd h (by simp)))).past2 f (fun x O=>xB HG.out.1 (zv (Y.out x O))));clear aa m d f ad ag q1 q2 q3 q4 Q B;go_wp2_with (refine bN N ?_)
    rw [au.out];go_wp2;go_ret;exact ⟨⟨(boxL y key idx).toArray⟩,rfl,xj _,rfl,J.out⟩
theorem ppN (a m w) (_ha:-9223372036854775808<=a/\a<=9223372036854775807) (f:1<=m/\m<=9223372036854775807) :
 Calls prog 185 #[.int .i64 a,.int .i64 m] w (RetZ .i64 m (a % m) w):=by
 have c:=ug (a:=a) (b:=m);have d:=yF a (show m≠0 by omega);have e:=yj a (show 0<m by omega);have H1:=ah c;clear c;go_in;go_wp2_with fail
 · go_ret;refine paX (by omega) ?_;have h:=H1.out;simp only [wrap64];split at h <;> omega
 · go_ret;refine paX (by omega) ?_;have h:=H1.out;split at h <;> omega
def pk7 (w:World) (g:Nat) (v:Value) (k:Nat):Prop:=w.heap[g]? =some (.cells #[v,k] 176 (0,0))
def puu (l:List Int) (g:Nat) (v:Value) (k n:Nat) (w:World) (e:Ending) (w':World):Prop:=∃ r k':Nat,Hid (r=nxtN l k n)/\r<n/\Hid (k'=min (k+1) l.length)/\e=.returned (.int .i64 (r:Int))/\Hid (pk7 w' g v k')/\Hid (Upd [g] [g] w w')
theorem ppO (l v) (g k n:Nat) (A w) (hn:1<=n/\n<=1000) (S:RdO A v l) (J:Uq A w) (U:A.heap.size<=g) (hl:l.length<=9223372036854775807) (y:∀ x∈l,pab x) (N:k<=l.length) (h:pk7 w g v k) :
 Calls prog 130 #[.pointer (some ⟨g,0,none⟩),n] w (puu l g v k n w):=by
 obtain ⟨z,c,rfl,h1,h2,O⟩:=S.form;have C:∀ (k:Nat) x,l[k]? =some x->∃ b o,z=some ⟨b,o,none⟩/\b<A.heap.size/\w.cell? ⟨b,o+k,none⟩=some (.int .i64 x):=fun k x N=>by
  obtain ⟨b,o,e,hb,hc⟩:=O k x N;exact ⟨b,o,e,hb,(J.cell (p:=⟨b,o+k,none⟩) hb (by simp)).trans hc⟩
 have Y:=J.size;clear O J S;have HI:=ah y;have H:=ah h;have aa:g<w.heap.size:=paf h;obtain ⟨m,f⟩:=az (l.length);have HM:=ah f;rw [<-f] at hl N h1;have F:Value.slice z l.length c=.slice z m c:=by rw [f]
 rw [F] at H ⊢;have q0:w.cell? ⟨g,0,none⟩=some (.slice z m c):=xa _ g 0 _ _ _ H.out;have q1:w.cell? ⟨g,1,none⟩=some (.int .i64 (k:Int)):=xa _ g 1 _ _ _ H.out;by_cases ai:k<m
 · obtain ⟨x,t⟩:∃ x,l[k]? =some x:=⟨_,xd (by omega)⟩
   obtain ⟨b,o,rfl,D,P⟩:=C k x t;have R:=y x (xt t);have X:b≠g:=by omega
   have D:b<w.heap.size:=by omega
   have M:Hid (((nxtN l k n:Nat):Int)=x % (n:Int)):=ppG t (by omega);have ac:Hid (nxtN l k n<n):=pig l k n (by omega);have d1:¬ (m:Int)<=(k:Int):=by omega
   have Q:=ah P;obtain ⟨a,ab⟩:=az (k+1);have e1:IntKind.i64.wrap ((k:Int)+1)=(a:Int):=by rw [pam (by omega) (by omega)];omega
   have e2:IntKind.i64.wrap ((a:Int) - 1)=(k:Int):=by rw [pam (by omega) (by omega)];omega
   have E:Hid (a=min (k+1) l.length):=by show _=_;rw [<-HM.out];omega
   have ad:=ah (xf D (xf X aa));have af:=ah R;have i0:(0:Int)<=(k:Int):=by omega
   have i1:(k:Int)<(m:Int):=by omega
   clear C y h f F t P ab D X aa R U Y;go_in;go_upto_region 1 with (fail)
   go_quiet (fail);have j:=ah (show (w.drewN nq).heap[g]? =some (.cells #[.slice (some ⟨b,o,none⟩) m c,k] 176 (0,0)) from H.out);have C0:=ah (show (w.drewN nq).cell? ⟨b,o+k,none⟩=some (.int .i64 x) from Q.out);have U0:=ah (((Upd.refl [g] w).drewN nq));clear q0 q1 H Q;generalize w.drewN nq=w1 at *;have q0:w1.cell? ⟨g,0,none⟩=some (.slice (some ⟨b,o,none⟩) m c):=xa _ g 0 _ _ _ j.out;have q1:w1.cell? ⟨g,1,none⟩=some (.int .i64 (k:Int)):=xa _ g 1 _ _ _ j.out;have f1:w1.frozen? ⟨g,1,none⟩=false:=xp _ g 1 _ _ j.out;obtain ⟨d,G⟩:=ae (w1.setCell ⟨g,1,none⟩ (.int .i64 (a:Int)));have R2:=ah ((xU (fun W:World=>W.heap[g]?) G.symm).trans (xg w1 g 1 _ _ (.int .i64 (a:Int)) j.out));have Z:Hid (pk7 d g (.slice (some ⟨b,o,none⟩) m c) a):=R2.out;have U2:=ah (show Upd [g] [g] w d by rw [<-G];exact U0.out.setCell (p:=⟨g,1,none⟩) (by simp) _);have C2:Hid (d.cell? ⟨b,o+k,none⟩=some (.int .i64 x)):=by
    show _=_;rw [<-G];exact (ym _ _ _ _ (fun e=>ad.out.2.1 (zO e).1.symm)).trans C0.out
   have HK:Hid (∀ W,Uq d W->W.cell? ⟨g,0,none⟩=some (.slice (some ⟨b,o,none⟩) m c)/\W.cell? ⟨g,1,none⟩=some (.int .i64 (a:Int))/\W.cell? ⟨b,o+k,none⟩=some (.int .i64 x)):=by
    intro W u;have q:=paa Z.out u;exact ⟨xa _ g 0 _ _ _ q,xa _ g 1 _ _ _ q,(u.cell (p:=⟨b,o+k,none⟩) (x6 _ _ C2.out) (by simp)).trans C2.out⟩
   have T:Uq d d.drew:=uR.drew;clear R2 j C0 U0;go_upto_region 4 with (fail)
   refine bH HK T fun B=>?_;refine tkS [0,1,2,3,4,5,6,7,8,9,10,11] B ?_;refine tk1 12 fun K hK=>?_;go_simp;refine (ppN x (n:Int) _ af.out (by omega)).mono ?_;rintro e al ⟨r,HR,ak,aj,rfl,rfl⟩;go_wp2_with fail;refine tkK hK (HK.out _ T) fun B=>?_;clear hK K;refine tkY 13 B ?_;refine tkD ?_;go_wp2;go_ret;refine ⟨nxtN l k n,a,rfl,ac.out,E,?_,Z.out,U2.out.drew⟩;rw [M.out,<-HR.out];rfl
 · obtain rfl:k=m:=by omega
   have d1:(k:Int)<=(k:Int):=by omega
   have M:Hid (nxtN l k n=0):=pgw (by omega);have E:Hid (k=min (k+1) l.length):=by show _=_;rw [<-HM.out];omega
   have ag:0<n:=by omega
   clear C y h f F HI U Y;go_in;go_upto_region 1 with (fail)
   go_quiet (fail);go_wp2;go_ret;exact ⟨0,k,M.out.symm,ag,E,rfl,H.out,(Upd.refl [g] w).drewN nq⟩
theorem mbI:∃ i,prog.info? 58=some i/\i.zero=some (.agg #[.int .i64 0,.int .i64 0,.int .i64 0])/\i.size=3/\i.bytes=24:=by
 have h:(prog.info? 58).map (fun i=>(i.zero,i.size,i.bytes))=some (some (.agg #[.int .i64 0,.int .i64 0,.int .i64 0]),3,24):=by kernel_rfl
 obtain ⟨i,c,a⟩:=yp.1 h;simp only [yY] at a;exact ⟨i,c,a.1,a.2.1,a.2.2⟩
def pb7 (l:List Mem):List Value:=l.flatMap fun m=>[.int .i64 m.id,.int .i64 m.weight,.int .i64 m.pub]
theorem pk8 (l m):pb7 (l ++ [m])=pb7 l ++ [.int .i64 m.id,.int .i64 m.weight,.int .i64 m.pub]:=by simp [pb7]
theorem phB:∀ {l:List Mem} {k:Nat} {m:Mem},l[k]? =some m->(pb7 l)[k * 3]? =some (.int .i64 m.id)/\(pb7 l)[k * 3+1]? =some (.int .i64 m.weight)/\(pb7 l)[k * 3+2]? =some (.int .i64 m.pub)
 | a :: l,0,m,h=>by
  simp at h
  subst h
  exact ⟨rfl,rfl,rfl⟩
 | a :: l,k+1,m,h=>by
  have:=phB (l:=l) (k:=k) (m:=m) (by simpa using h)
  have e:(k+1) * 3=k * 3+3:=by omega
  rw [e]
  simpa [pb7] using this
theorem pjF (wr v l k id c a) (_hk:l.length=k) (f:wr.ownsRow 0 58 3 v k (pb7 l)) (o:k<=1000000) :
 ∃ d w',(Builtin.append_ #[27,27] 27 #[v,.slice (some ⟨wr.heap.size,0,none⟩) 1 1]).run prog (wr.alloc (.cells #[.int .i64 id,.int .i64 c,.int .i64 a] 58))=.ok d w'/\w'.ownsRow 0 58 3 d (k+1) (pb7 (l ++ [⟨id,c,a⟩]))/\Upd (foot v) (foot d) wr w':=by
 obtain ⟨g,m,j,p,n⟩:=mbI;have h:=pdW (P:=prog) 27 58 g _ 3 24 underlying27 m j p n rfl (by omega) (by omega) wr v k (pb7 l) [.int .i64 id,.int .i64 c,.int .i64 a] rfl (by intro u e;simp at e;rcases e with rfl | rfl | rfl <;> rfl) f o;rw [pk8];exact h
theorem pe5 {w v l n} (r:l.length=n) (h:w.ownsRow 0 58 3 v n (pb7 l)):∃ c a,v=.slice c n a/\n<=a/\a<=maxLen/\peX w c l:=by
 subst r;by_cases h0:l.length=0
 · obtain ⟨c,a,rfl,h1,f⟩:=pan h;exact ⟨c,a,rfl,h1,f,fun k m d=>by have:=(xe.1 d).1;omega⟩
 · obtain ⟨g,a,u,rfl,e,h1,f,t,q⟩:=pca h (by omega);refine ⟨_,a,rfl,h1,f,fun k m d=>⟨g,rfl,paf e,?_⟩⟩;have x:=(xe.1 d).1;obtain ⟨o,p,j⟩:=phB d;rw [<-q] at o p j;rw [xR (by omega)] at o p j;exact ⟨(xa w g (k * 3) _ _ _ e).trans (by simpa using o),(xa w g (k * 3+1) _ _ _ e).trans (by simpa using p),(xa w g (k * 3+2) _ _ _ e).trans (by simpa using j)⟩
def pcu (l:List Int) (k:Nat):List Mem:=(List.range k).map fun i=>memC i (1+nxtN l (i+1) 3)
theorem pjG (l k):pcu l (k+1)=pcu l k ++ [memC k (1+nxtN l (k+1) 3)]:=by simp [pcu,List.range_succ]
theorem pek (l k):(pcu l k).length=k:=by simp [pcu]
theorem pgA (l k):pcu l k=pdp (wsN l k):=by
 unfold pcu pdp;have e:(wsN l k).length=k:=by simp [wsN]
 rw [e];apply uJ;intro i a;have:(wsN l k).getD i 0=1+nxtN l (i+1) 3:=by
  rw [xx];simp [wsN,List.mem_range.1 a]
 rw [this]
theorem pk9 (k):pce (k+1)=pce k ++ [secN k]:=by simp [pce,List.range_succ]
theorem pe6 (k):(pce k).length=k:=by simp [pce]
theorem psX (l k n):nxtN l (min k l.length) n=nxtN l k n:=by
 by_cases h:k<=l.length
 · rw [vj h]
 · rw [pgw (by omega),pgw (by omega)]
structure CrSt (w wr:World) (gm:Nat) (v:Value) (l:List Int) (k k':Nat) (u s:Value):Prop where
 mem:wr.ownsRow 0 58 3 u k (pb7 (pcu l k))
 sec:wr.ownsRow 0 3 1 s k (pah (pce k))
 num:pk7 wr gm v k'
 up:Upd [] [] w wr
 base:w.heap.size<=gm
 offu:∀ x,x∈foot u->gm<x
 offs:∀ x,x∈foot s->gm<x
 apart:∀ x,x∈foot u->x ∉ foot s
section
variable {w wr w1 w2 : World} {gm k k' k2 : Nat} {v u s u' s' : Value} {l : List Int}
theorem CrSt.quiet (h:CrSt w wr gm v l k k' u s) (q:Uq wr w1):CrSt w w1 gm v l k k' u s :=
 ⟨paj h.mem (fun j a=>q.block j (pag h.mem j a) (by simp)),paj h.sec (fun j a=>q.block j (pag h.sec j a) (by simp)),paa h.num q,h.up.trans q,h.base,h.offu,h.offs,h.apart⟩
theorem CrSt.next (h:CrSt w wr gm v l k k' u s) (q:Upd [gm] [gm] wr w1) (c:pk7 w1 gm v k2):CrSt w w1 gm v l k k2 u s :=
 ⟨paj h.mem (fun j a=>q.block j (pag h.mem j a) (by have:=h.offu j a;simp;omega)),paj h.sec (fun j a=>q.block j (pag h.sec j a) (by have:=h.offs j a;simp;omega)),c,h.up.past2 q (by simpa using h.base),h.base,h.offu,h.offs,h.apart⟩
theorem CrSt.step (h:CrSt w wr gm v l k k' u s) (c:Upd (foot u) (foot u') wr w1) (j:w1.ownsRow 0 58 3 u' (k+1) (pb7 (pcu l (k+1)))) (d:Upd (foot s) (foot s') w1 w2) (r:w2.ownsRow 0 3 1 s' (k+1) (pah (pce (k+1)))):CrSt w w2 gm v l (k+1) k' u' s':=by
 have n:gm<wr.heap.size:=paf h.num;have o:∀ x,x∈foot u'->gm<x:=fun x a=>by
  rcases c.new x a with e | e
  · exact h.offu x e
  · omega
 have p:∀ x,x∈foot s'->gm<x:=fun x a=>by
  rcases d.new x a with e | e
  · exact h.offs x e
  · have:=c.size;omega
 have m:∀ x,x∈foot u'->x ∉ foot s:=fun x a f=>by
  rcases c.new x a with e | e
  · exact h.apart x e f
  · have:=pag h.sec x f;omega
 refine ⟨paj j (fun x a=>d.block x (pag j x a) (m x a)),r,?_,?_,h.base,o,p,fun x a f=>?_⟩
 · have q:=c.block gm n (fun g=>zc _ (h.offu gm g));have t:=d.block gm (xA n c.size) (fun g=>zc _ (h.offs gm g));exact (t.trans q).trans h.num
 · exact (h.up.past2 c (fun x a=>by have:=h.offu x a;have:=h.base;omega)).past2 d (fun x a=>by have:=h.offs x a;have:=h.base;omega)
 · rcases d.new x f with e | e
   · exact m x a e
   · have:=pag j x a;omega
end
def ptR (l:List Int) (w:World) (e:Ending) (w':World):Prop:=∃ u s:Value,Hid (w'.ownsRow 0 58 3 u (manyN l) (pb7 (pcu l (manyN l))))/\Hid (w'.ownsRow 0 3 1 s (manyN l) (pah (pce (manyN l))))/\Hid (∀ x,x∈foot u->x ∉ foot s)/\Hid (∀ x,x∈foot u\/x∈foot s->w.heap.size<=x)/\e=.returned (.tuple #[u,s])/\Hid (Upd [] [] w w')
theorem ppP (l v w) (P:RdO w v l) (hi:∀ x∈l,pab x) (hl:l.length<=9223372036854775807) :
 Calls prog 57 #[v,.int .i64 1] w (ptR l w):=by
 obtain ⟨F,B,aj,h1,h2,al⟩:=P.form;obtain ⟨m,N⟩:=az (l.length);rw [<-N] at aj h1;obtain ⟨c,C⟩:=ae (w.heap.size);obtain ⟨J,D⟩:=ae (w.alloc (.cells #[v,.int .i64 0] 176));have N0:Hid (pk7 J c v 0):=by show J.heap[c]? =_;rw [<-C,<-D];exact xi _ _
 have M:=ah (aU D);have K:Hid (w.heap.size<=c):=xJ C;have ak:=ah (fun (k n:Nat) (W:World) (hn:1<=n/\n<=1000) (hk:k<=l.length) (u:Uq w W) (h:pk7 W c v k)=>ppO l v c k n w W hn P u K.out hl hi hk h);have aC:=ah (show m<=9223372036854775807 by omega);have HM:=ah N;have au:=ah (fun k n=>psX l k n);subst aj;have h7:(ByteArray.mk #[109,101,109,98,101,114,32]).size=7:=rfl;clear P hi hl al N h1 h2;go_in;go_wp2_with fail;refine (ak.out 0 4 J (by omega) (xu _) M.out N0.out).mono ?_;rintro e w1 ⟨r,k0,HR,hr,an,rfl,ac,Z⟩;have ay:Hid (CrSt w w1 c (.slice F m B) l 0 k0 (.slice none 0 0) (.slice none 0 0)) :=
  ⟨x9 _ _ _ _,x9 _ _ _ _,ac.out,M.out.past2 Z.out (by simpa using K.out),K.out,(fun x h=>by cases h),(fun x h=>by cases h),(fun x h=>by cases h)⟩
 have ap:Hid (manyN l=1+r):=by show _=_;unfold manyN;rw [HR.out]
 clear C D N0 M Z ac HR;go_wp2;go_loopw [8,9,10,11,12] (fun u s i _ _ wr=>∃ k j:Nat,i=.int .i64 (k:Int)/\k<=1+r/\Hid (j=min (k+1) l.length)/\Hid (CrSt w wr c (.slice F m B) l k j u s)) (fun _ _ i _ _ _=>1+r - (intOf i).toNat)
 case atStart=>exact ⟨0,k0,rfl,xu _,an.out,ay.out⟩
 case round =>
  obtain ⟨k,j,rfl,hk,p,q⟩:=hrel;by_cases aA:k<1+r
  · have d1:(k:Int)<1+(r:Int):=by omega
    obtain ⟨I,hI⟩:=az (k+1);have g:=ah hI;have aE:I<=4:=by omega
    have am:(Lib.itoa (I:Int)).length<=20:=itoa_len (I:Int) (by unfold pab;omega);have aD:(1+(k:Int))=(I:Int):=by omega
    clear hI;go_wp2_with fail;refine (pct I wr (by omega)).mono ?_;rintro e w2 ⟨y,H,hy,rfl,Y⟩;have ag:=ah (q.out.quiet Y);clear Y q;go_wp2_with fail;refine (plP _ w2 (by simp [ByteArray.size_append];omega)).mono ?_;rintro e w3 ⟨a,b,HA,HB,ha,hb,rfl,ab⟩;have o:=ah (ag.out.quiet ab);clear ab ag;go_wp2_with fail;refine (ak.out j 3 w3 (by omega) (by rw [p.out];omega) o.out.up o.out.num).mono ?_;rintro e w4 ⟨O,k2,aa,aB,af,rfl,ad,ai⟩;have f:=ah (o.out.next ai.out ad.out);obtain ⟨u',w5,R,z,A⟩:=pjF w4 u8 (pcu l k) k (I:Int) (1+(O:Int)) (b:Int) (pek l k) f.out.mem (by omega);have S:secN k=a:=by
     rw [HA.out,pae,H.out,g.out];rfl
    have T:memC k (1+nxtN l (k+1) 3)=⟨(I:Int),1+(O:Int),(b:Int)⟩:=by
     have E:nxtN l (k+1) 3=O:=by rw [aa.out,p.out,au.out]
     have G:gP (secN k)=b:=by rw [HB.out,pae,H.out,g.out];rfl
     unfold memC;rw [E,G,<-g.out];simp
    rw [<-T,<-pjG] at z;have X:=paj f.out.sec (fun x hx=>A.block x (pag f.out.sec x hx) (fun h=>f.out.apart x h hx));obtain ⟨s',w6,Q,t,U⟩:=paZ w5 u9 (pce k) k a (pe6 k) X (by omega);rw [<-S,<-pk9] at t;have aq:=ah (f.out.step A z U t);have av:=ah R;have ar:=ah Q;have ax:Hid (k2=min (I+1) l.length):=by
     show _=_;have E:=af.out;have G:=p.out;rw [g.out,E,G];omega
    clear R z A X Q t U S T f o ad ai HA HB H aa af p am hy;go_wp2_with (first | (refine bN av ?_) | (refine bN ar ?_))
    have aw:=g.out;exact ⟨⟨k+1,k2,by go_num,by omega,(by show _=_;rw [<-aw];exact ax.out),aq.out⟩,(by first | (simp [intOf];done) | (simp [intOf];omega))⟩
  · obtain rfl:k=1+r:=by omega
    have d:Hid (CrSt w wr c (.slice F m B) l (manyN l) j u8 u9):=by
     show CrSt _ _ _ _ _ _ _ _ _;rw [ap.out];exact q.out
    have d1:¬ ((1+r:Nat):Int)<1+(r:Int):=by omega
    clear q;go_wp2;go_ret2;exact ⟨_,_,d.out.mem,d.out.sec,d.out.apart,(fun x h=>by
     have hb:=d.out.base;rcases h with h | h
     · have:=d.out.offu x h;omega
     · have:=d.out.offs x h;omega),rfl,d.out.up⟩
def pel (w:World) (v:Value) (pts:List (List Nat)):Prop:=∃ ao cap,v=.slice ao pts.length cap/\pts.length<=cap/\cap<=9223372036854775807/\∀ (i:Nat) l,pts[i]? =some l->∃ g u,ao=some ⟨g,0,none⟩/\g<w.heap.size/\w.cell? ⟨g,i,none⟩=some u/\Sl w u l
theorem pel.upd {w w':World} {v:Value} {a:List (List Nat)} (h:pel w v a) (u:Uq w w'):pel w' v a:=by
 obtain ⟨j,d,e,h1,n,k⟩:=h;refine ⟨j,d,e,h1,n,fun i l f=>?_⟩;obtain ⟨g,v,e,c,o,m⟩:=k i l f;exact ⟨g,v,e,xA c u.size,(u.cell (p:=⟨g,i,none⟩) c (by simp)).trans o,m.upd u⟩
theorem slI:∃ i,prog.info? 22=some i/\i.zero=some (.slice none 0 0)/\i.size=1/\i.bytes=24:=by
 have h:(prog.info? 22).map (fun i=>(i.zero,i.size,i.bytes))=some (some (.slice none 0 0),1,24):=by kernel_rfl
 obtain ⟨i,c,a⟩:=yp.1 h;simp only [yY] at a;exact ⟨i,c,a.1,a.2.1,a.2.2⟩
theorem pnp (wr v d k a n c) (g:wr.ownsRow 0 22 1 v k d) (p:k<=1000000) :
 ∃ e w',(Builtin.append_ #[28,28] 28 #[v,.slice (some ⟨wr.heap.size,0,none⟩) 1 1]).run prog (wr.alloc (.cells #[.slice a n c] 22))=.ok e w'/\w'.ownsRow 0 22 1 e (k+1) (d ++ [.slice a n c])/\Upd (foot v) (foot e) wr w':=by
 obtain ⟨h,m,j,q,o⟩:=slI;exact pdW (P:=prog) 28 22 h (.slice none 0 0) 1 24 underlying28 m j q o rfl (by omega) (by omega) wr v k d [.slice a n c] rfl (by intro u f;simp at f;subst f;rfl) g p
def pcc (ws:List Nat) (k j:Nat):List Nat:=(List.range j).map fun i=>startN ws k+i+1
theorem phC (ws k j):pcc ws k (j+1)=pcc ws k j ++ [startN ws k+j+1]:=by simp [pcc,List.range_succ]
theorem pb8 (ws k j):(pcc ws k j).length=j:=by simp [pcc]
theorem pdD {ws k x} (h:ws[k]? =some x):(pdg ws)[k]? =some (pcc ws k x):=by
 have a:=(xe.1 h).1;have e:ws.getD k 0=x:=by rw [xx,h];rfl
 simp [pdg,a,pcc,<-e]
theorem pbA (ws):(pdg ws).length=ws.length:=by simp [pdg]
structure PtSt (w wr:World) (ws:List Nat) (k j:Nat) (u:Value) (vs:List Value) (t:Value):Prop where
 out:wr.ownsRow 0 22 1 u k vs
 len:vs.length=k
 inn:∀ (i:Nat) v,vs[i]? =some v->∃ l,(pdg ws)[i]? =some l/\wr.ownsRow 0 3 1 v l.length (pah l)/\(∀ x,x∈foot v->x ∉ foot u)/\(∀ x,x∈foot v->x ∉ foot t)/\∀ x,x∈foot v->w.heap.size<=x
 cur:wr.ownsRow 0 3 1 t j (pah (pcc ws k j))
 off:∀ x,x∈foot t->x ∉ foot u
 up:Upd [] [] w wr
 newu:∀ x,x∈foot u->w.heap.size<=x
 newt:∀ x,x∈foot t->w.heap.size<=x
section
variable {w wr w1 : World} {ws : List Nat} {k j : Nat} {u t u' t' : Value} {vs : List Value}
theorem PtSt.add (h:PtSt w wr ws k j u vs t) (c:Upd (foot t) (foot t') wr w1) (d:w1.ownsRow 0 3 1 t' (j+1) (pah (pcc ws k (j+1)))):PtSt w w1 ws k (j+1) u vs t':=by
 refine ⟨paj h.out (fun x a=>c.block x (pag h.out x a) (fun f=>h.off x f a)),h.len,fun i v o=>?_,d,fun x a m=>?_,h.up.past2 c h.newt,h.newu,fun x a=>?_⟩
 · obtain ⟨l,e,d,h1,g,n⟩:=h.inn i v o;refine ⟨l,e,paj d (fun x a=>c.block x (pag d x a) (g x a)),h1,fun x a f=>?_,n⟩;rcases c.new x f with q | q
   · exact g x a q
   · have:=pag d x a;omega
 · rcases c.new x a with q | q
   · exact h.off x q m
   · have:=pag h.out x m;omega
 · rcases c.new x a with q | q
   · exact h.newt x q
   · have:=h.up.size;omega
theorem PtSt.close (h:PtSt w wr ws k j u vs t) (y:ws[k]? =some j) (f:Upd (foot u) (foot u') wr w1) (d:w1.ownsRow 0 22 1 u' (k+1) (vs ++ [t])):PtSt w w1 ws (k+1) 0 u' (vs ++ [t]) (.slice none 0 0):=by
 have g:∀ (v:Value),(∀ x,x∈foot v->x<wr.heap.size)->(∀ x,x∈foot v->x ∉ foot u)->∀ x,x∈foot v->x ∉ foot u':=fun v o c x a r=>by
  rcases f.new x r with q | q
  · exact c x a q
  · have:=o x a;omega
 refine ⟨d,by simp [h.len],fun i v c=>?_,x9 _ _ _ _,(fun x a=>by cases a),h.up.past2 f h.newu,fun x a=>?_,(fun x a=>by cases a)⟩
 · rcases uw i k with hi | hi
   · rw [yu (by rw [h.len];exact hi)] at c;obtain ⟨l,e,d,h1,z,p⟩:=h.inn i v c;exact ⟨l,e,paj d (fun x a=>f.block x (pag d x a) (h1 x a)),g v (pag d) h1,(fun x _ a=>by cases a),p⟩
   · rw [xC (by rw [h.len];exact hi),h.len] at c;have m:i - k=0:=by
      have:=(xe.1 c).1;simp at this;omega
     rw [m] at c;simp at c;subst c;have n:i=k:=by omega
     refine ⟨pcc ws k j,by rw [n];exact pdD y,?_,g t (pag h.cur) h.off,(fun x _ a=>by cases a),h.newt⟩;rw [pb8];exact paj h.cur (fun x a=>f.block x (pag h.cur x a) (h.off x a))
 · rcases f.new x a with q | q
   · exact h.newu x q
   · have:=h.up.size;omega
end
def paC (w w' W:World):Prop:=∀ x,w.heap.size<=x->x<w'.heap.size->W.heap[x]? =w'.heap[x]?
theorem paC.refl (w w':World):paC w w' w':=fun _ _ _=>rfl
theorem PtSt.rd {w wr W ws u t j} (h:PtSt w wr ws ws.length 0 u j t) (n:paC w wr W):pel W u (pdg ws):=by
 have d:=pbA ws;have k:W.ownsRow 0 22 1 u ws.length j:=paj h.out (fun x c=>n x (h.newu x c) (pag h.out x c));by_cases h0:ws.length=0
 · obtain ⟨r,f,rfl,h1,A⟩:=pan k;have z:maxLen<=9223372036854775807:=by unfold maxLen;omega
   exact ⟨r,f,by rw [d],by rw [d];exact h1,by omega,fun i l a=>by have:=(xe.1 a).1;omega⟩
 · obtain ⟨g,f,E,rfl,q,h1,A,D,y⟩:=pca k (by omega);have z:maxLen<=9223372036854775807:=by unfold maxLen;omega
   refine ⟨_,f,by rw [d],by rw [d];exact h1,by omega,fun i l a=>?_⟩;have C:=(xe.1 a).1;obtain ⟨v,p⟩:∃ v,j[i]? =some v:=⟨_,xd (by rw [h.len];omega)⟩
   obtain ⟨F,e,o,_,_,B⟩:=h.inn i v p;rw [e] at a;injection a with a;subst a;refine ⟨g,v,rfl,paf q,?_,Sl.of_row (paj o (fun x c=>n x (B x c) (pag o x c)))⟩;have m:=p;rw [<-y,xR (by omega)] at m;rw [xa W g i _ _ _ q];simpa using m
theorem pla (v ws w) (o:WsOk ws) (h:pbN w v ws) :
 Calls prog 140 #[v] w (fun e w'=>∃ p,Hid (∀ W,paC w w' W->pel W p (pdg ws))/\e=.returned (.tuple #[p,.bool true])/\Uq w w'):=by
 have r:=ah (pdX v ws w o h);have G:=o.sum;obtain ⟨ao,ap,rfl,h1,h2,P⟩:=h;have Q:=ah P;have HW:=ah o;have T:=ah (pbo ws);obtain ⟨n,D⟩:=az (ws.length);have O:=ah D;have au:n<=4:=by rw [D];exact o.2.1
 obtain ⟨S,K⟩:=az (ws.sum);rw [<-K] at G T r;rw [<-D] at h1 r ⊢;have af:¬ (S:Int)=0:=by omega
 have aw:((S:Int) == 0)=false:=by rw [xm];exact af
 have HS:=ah G;clear D P o K G;go_in;go_wp2_with fail;refine r.out.mono ?_;rintro e w1 ⟨rfl,hq⟩;have ar:=ah (Q.out.upd hq);have al:Hid (PtSt w w1 ws 0 0 (.slice none 0 0) [] (.slice none 0 0)) :=
  ⟨x9 _ _ _ _,rfl,fun i v hv=>by simp at hv,x9 _ _ _ _,(fun x m=>by cases m),hq,(fun x m=>by cases m),(fun x m=>by cases m)⟩
 have an:=ah hq;clear hq r;go_wp2;go_loopw [4,5,6,7,8] (fun u x i _ _ wr=>∃ (k:Nat) (A:List Value) (t:Value),i=.int .i64 (k:Int)/\k<=n/\x=.int .i64 (startN ws k:Int)/\Hid (PtSt w wr ws k 0 u A (.slice none 0 0))) (fun _ _ i _ _ _=>n - (intOf i).toNat)
 case atStart=>exact ⟨0,[],.slice none 0 0,rfl,xu _,rfl,al.out⟩
 case round =>
  obtain ⟨k,A,t0,rfl,hk,rfl,H⟩:=hrel;by_cases aa:k<n
  · obtain ⟨z,B⟩:∃ z,ws[k]? =some z:=⟨_,xd (by rw [<-O.out];exact aa)⟩
    have aq:=HW.out.2.2 z (xt B);have ai:=paS B;have ag:=T.out (k+1);obtain ⟨X,C⟩:=az (startN ws k);have ab:(ws.take k).sum=X:=C.symm;have av:X+z<=12:=by have:=HS.out;omega
    have Y:Hid (startN ws (k+1)=X+z):=by show (ws.take (k+1)).sum=_;omega
    have aj:=ah C;rw [<-C];have M:=ah B;have i0:(0:Int)<=(k:Int):=by omega
    have i1:(k:Int)<(n:Int):=by omega
    clear B ai ag C ab;go_wp2;go_loopw [5,7,8] (fun y t i wr=>∃ j:Nat,i=.int .i64 (j:Int)/\j<=z/\y=.int .i64 ((X+j:Nat):Int)/\Hid (PtSt w wr ws k j u4 A t)) (fun _ _ i _=>z - (intOf i).toNat)
    case atStart=>exact ⟨0,rfl,xu _,rfl,H.out⟩
    case round =>
     obtain ⟨j,rfl,hj,rfl,a⟩:=hrel;obtain ⟨g,rfl,hg,N,c1,U⟩:=(Q.out.upd a.out.up) k _ (paW M.out);dsimp only [memC] at N c1 U;clear N U;by_cases ax:j<z
     · obtain ⟨q,hq⟩:=az (X+j+1);obtain ⟨t',w',d,c,f⟩:=paZ wr u7 (pcc ws k j) j q (pb8 ws k j) a.out.cur (by omega);have J:pcc ws k (j+1)=pcc ws k j ++ [q]:=by rw [phC,<-aj.out,hq]
       rw [<-J] at c;have E:=ah (a.out.add f c);have F:=ah d;have ay:((X+j:Nat):Int)+1=(q:Int):=by omega
       have aA:(X:Int)+(j:Int)+1=(q:Int):=by omega
       have ak:=ah hq;have x1:(j:Int)<(z:Int):=by omega
       clear d c f J hq;go_wp2_with (refine bN F ?_)
       have am:=ak.out;exact ⟨⟨j+1,by go_num,by omega,(by rw [am];rfl),E.out⟩,(by first | (simp [intOf];done) | (simp [intOf];omega))⟩
     · obtain rfl:j=z:=by omega
       obtain ⟨ac,ct,R,_,_⟩:=pan a.out.cur;obtain ⟨u',w',d,c,f⟩:=pnp wr u4 A k ac j ct a.out.out (by omega);have E:=ah (a.out.close M.out f (by rw [R];exact c));have F:=ah d;have x1:¬ (j:Int)<(j:Int):=by omega
       clear d c f a;subst R;go_wp2_with (refine bN F ?_)
       have Z:=Y.out;exact ⟨⟨k+1,_,.slice none 0 0,by go_num,by omega,(by rw [Z];rfl),E.out⟩,(by first | (simp [intOf];done) | (simp [intOf];omega))⟩
  · obtain rfl:k=n:=by omega
    have ad:Hid (∀ W,paC w wr W->pel W u4 (pdg ws)):=by
     have h:=H.out;rw [O.out] at h;exact fun W hW=>h.rd hW
    go_wp2;go_ret2;exact ⟨_,ad,rfl,H.out.up⟩
end Go.Proofs.YtkhjolbbpdaplaaGreatDoor
