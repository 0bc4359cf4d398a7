/- sortesref01: slices of digits and what follows. -/
import Derived.Test.YtkhjolbbpdaplaaGreatDoorHAN
namespace Go.Proofs.YtkhjolbbpdaplaaGreatDoor
set_option maxHeartbeats 4000000
open Go.RowKit Go.Proofs.Tryz
set_option maxRecDepth 100000
abbrev uL:=@IntKind.wrap_u8
def digV (d:Nat):Value:=.int .i64 (d:Int)
def pah (l:List Nat):List Value:=l.map digV
def Sl (w:World) (v:Value) (l:List Nat):Prop:=∃ ao cap,v=.slice ao l.length cap/\l.length<=cap/\cap<=maxLen/\(l.length=0\/∃ b,ao=some ⟨b,0,none⟩/\b<w.heap.size/\∀ (j d:Nat),l[j]? =some d->w.cell? ⟨b,j,none⟩=some (.int .i64 (d:Int)))
theorem Sl.nil (w):Sl w (.slice none 0 0) []:=⟨none,0,rfl,xj _,by simp,.inl rfl⟩
theorem Sl.upd {w w' v l} (h:Sl w v l) (u:Uq w w'):Sl w' v l:=by
 obtain ⟨f,e,rfl,h1,g,a⟩:=h;refine ⟨f,e,rfl,h1,g,?_⟩;rcases a with a | ⟨b,rfl,c,m⟩
 · exact .inl a
 · exact .inr ⟨b,rfl,xA c u.size,fun j d k=>(u.cell c (by simp)).trans (m j d k)⟩
theorem Sl.of_row {w v l t} (h:w.ownsRow 0 t 1 v l.length (pah l)):Sl w v l:=by
 by_cases h0:l.length=0
 · obtain ⟨n,a,rfl,h1,c⟩:=pan h;exact ⟨n,a,rfl,h1,c,.inl h0⟩
 · obtain ⟨g,a,q,rfl,f,h1,c,p,o⟩:=pca h (by omega);refine ⟨_,a,rfl,h1,c,.inr ⟨g,rfl,(xq.1 f).1,fun j d k=>?_⟩⟩;have m:=(xe.1 k).1;rw [xa w g j _ _ _ f];have e:(pah l)[j]? =some (digV d):=by simp [pah,k]
   rw [<-o,zf,xR m] at e;simpa [digV] using e
def ppb:Value->Nat
 | .slice _ n _=>n
 | _=>0
theorem ppc (v l w) (h:Sl w v l) (P:okL l):Calls prog 193 #[v] w (fun e w'=>∃ z,Hid (Sl w z (dg (valL l))/\foot z=foot v)/\e=.returned z/\w=w'):=by
 obtain ⟨f,t,rfl,h1,Q,p⟩:=h;obtain ⟨n,o⟩:=az (l.length);rw [<-o] at h1 p;rw [<-o];unfold maxLen at Q;have H:=ah p;have A:=ah o;clear p o;go_in;go_wp2;go_loop [0] (fun v=>∃ m:Nat,v=.slice f m t/\m<=n/\Hid (valL (l.take m)=valL l)) (fun v=>ppb v)
 case atStart=>exact ⟨n,rfl,xj _,by show _=_;rw [A.out,yb]⟩
 case round =>
  obtain ⟨m,rfl,K,y⟩:=hrel;have C:∀ k,k<=n->valL (l.take k)=valL l->(∀ d,(l.take k).getLast? =some d->d≠0)->Sl w (.slice f k t) (dg (valL l)):=by
   intro k T R M;have a:=phm (plZ P k) M;rw [R] at a;have N:(dg (valL l)).length=k:=by rw [<-a,xQ,<-A.out];omega
   refine ⟨f,t,by rw [N],by omega,by simp only [maxLen];omega,?_⟩;rcases H.out with p | ⟨b,rfl,J,r⟩
   · exact .inl (by omega)
   · refine .inr ⟨b,rfl,J,fun j d q=>r j d ?_⟩;rw [<-a,ul] at q;split at q
     · exact q
     · cases q
  have G:=ah C;clear C;by_cases h0:0<m
  · obtain ⟨k,rfl⟩:∃ k,m=k+1:=⟨m - 1,by omega⟩
    obtain ⟨b,rfl,J,r⟩:∃ b,f=some ⟨b,0,none⟩/\b<w.heap.size/\∀ (j d:Nat),l[j]? =some d->w.cell? ⟨b,j,none⟩=some (.int .i64 (d:Int)):=by
     rcases H.out with h | h
     · omega
     · exact h
    have u:k<l.length:=by have:=A.out;omega
    have O:=r k l[k] (xd u);obtain ⟨d,a⟩:=az (l[k]);rw [<-a] at O;have D:l[k]? =some d:=by rw [a];exact xd u
    have F:=ah D;clear r u a D;have S:((k+1:Nat):Int) - 1=(k:Int):=by omega
    by_cases E:d=0
    · subst E;go_wp2_with fail;refine ⟨⟨k,rfl,by omega,?_⟩,by simp [ppb]⟩;show _=_;rw [<-y.out,pew F.out,pcS,vi,zY]
    · have U:((d:Int) == 0)=false:=by rw [xm];omega
      have c:=G.out (k+1) K y.out (fun x g=>by
       rw [pew F.out,List.getLast?_concat] at g;simp only [yz] at g;omega)
      have B:=ah c;clear c E;go_wp2;go_ret;exact ⟨_,⟨B.out,rfl⟩,rfl,rfl⟩
  · obtain rfl:m=0:=by omega
    have c:=G.out 0 K y.out (fun x g=>by simp at g);have B:=ah c;clear c;go_wp2;go_ret;exact ⟨_,⟨B.out,by cases f <;> rfl⟩,rfl,rfl⟩
theorem pmc (v l w) (h:Sl w v l) (d:okL l):Calls prog 193 #[v] w (fun e w'=>∃ a,Hid (Sl w a (dg (valL l)))/\e=.returned a/\w=w'):=by
 refine (ppc v l w h d).mono ?_;rintro e w' ⟨a,c,f,g⟩;exact ⟨a,c.out.1,f,g⟩
theorem Sl.get {w a n g l} (h:Sl w (.slice a n g) l) {k d:Nat} (f:l[k]? =some d):∃ b,a=some ⟨b,0,none⟩/\w.cell? ⟨b,k,none⟩=some (.int .i64 (d:Int)):=by
 obtain ⟨m,p,e,h1,o,c⟩:=h;simp only [zD] at e;obtain ⟨rfl,rfl,rfl⟩:=e;have r:=(xe.1 f).1;rcases c with c | ⟨b,rfl,q,j⟩
 · omega
 · exact ⟨b,rfl,j k d f⟩
theorem Sl.form {w v l} (h:Sl w v l):∃ g a,v=.slice g l.length a/\l.length<=a/\a<=9223372036854775807:=by
 obtain ⟨d,c,e,h1,f,j⟩:=h;exact ⟨d,c,e,h1,f⟩
def pra (x y:Nat) (r:Int):Prop:=(r<0 ↔ x<y)/\(0<r ↔ y<x)
theorem ppd (u v x y w) (C:Sl w u (dg x)) (B:Sl w v (dg y)):Calls prog 194 #[u,v] w (fun e w'=>∃ r,Hid (pra x y r)/\(-9223372036854775808<=r/\r<=9223372036854775807)/\e=.returned (.int .i64 r)/\Uq w w'):=by
 obtain ⟨ao,ab,rfl,S,aa⟩:=C.form;obtain ⟨bo,ad,rfl,U,ac⟩:=B.form;obtain ⟨n,D⟩:=az ((dg x).length);obtain ⟨m,A⟩:=az ((dg y).length);rw [<-D] at S C;rw [<-A] at U B;rw [<-D,<-A];have Z:=ah C;have HV:=ah B;have p:=ah D;have t:=ah A;clear C B D A;by_cases N:n=m
 case neg =>
  have g:((n:Int) != (m:Int))=true:=by rw [uh];omega
  have T:((n:Int) == (m:Int))=false:=by rw [xm];omega
  have R:(n == m)=false:=by rw [xm];omega
  have c:pra x y ((n:Int) - (m:Int)):=by
   rcases uw n m with h | h
   · have:=pgn (x:=x) (y:=y) (by rw [<-p.out,<-t.out];exact h);exact ⟨⟨fun _=>this,fun _=>by omega⟩,⟨fun h=>by omega,fun h=>by omega⟩⟩
   · have:=pgn (x:=y) (y:=x) (by rw [<-p.out,<-t.out];omega);exact ⟨⟨fun h=>by omega,fun h=>by omega⟩,⟨fun _=>this,fun _=>by omega⟩⟩
  have f:=ah c;clear c N;go_in;go_wp2;go_ret;exact ⟨_,f.out,⟨by omega,by omega⟩,rfl,Upd.refl _ _⟩
 case pos =>
  subst N;go_in;go_wp2;go_loopw [5] (fun i wr=>∃ (z:Int) (k:Nat),i=.int .i64 z/\z+1=(k:Int)/\k<=n/\Hid ((dg x).drop k=(dg y).drop k)/\Hid (Uq w wr)) (fun i _=>(intOf i+1).toNat)
  case atStart=>exact ⟨(n:Int) - 1,n,rfl,by omega,xj _,by show _=_;rw [yN (by rw [p.out];omega),yN (by rw [t.out];omega)],Upd.refl _ _⟩
  case round =>
   obtain ⟨z,k,rfl,P,hk,q,d⟩:=hrel;by_cases h0:0<k
   · obtain ⟨j,rfl⟩:∃ j,k=j+1:=⟨k - 1,by omega⟩
     obtain rfl:z=(j:Int):=by omega
     have H:j<(dg x).length:=by rw [<-p.out];omega
     have M:j<(dg y).length:=by rw [<-t.out];omega
     obtain ⟨a,o⟩:∃ a,(dg x)[j]? =some a:=⟨_,xd H⟩
     obtain ⟨b,g⟩:∃ b,(dg y)[j]? =some b:=⟨_,xd M⟩
     have af:a<16777216:=peV x a (xt o);have T:b<16777216:=peV y b (xt g);obtain ⟨g1,rfl,c1⟩:=(Z.out.upd d.out).get o;obtain ⟨g2,rfl,c2⟩:=(HV.out.upd d.out).get g;have E:=ah o;have F:=ah g;clear H M o g P;by_cases K:a=b
     · subst K;have G:(dg x).drop j=(dg y).drop j:=by
        obtain ⟨h1,X⟩:=xe.1 E.out;obtain ⟨h2,Y⟩:=xe.1 F.out;rw [xZ h1,xZ h2,X,Y,q.out]
       have W:=ah G;clear G;go_wp2_with fail;go_quiet (fail);go_wp2_with fail;exact ⟨⟨(j:Int) - 1,j,rfl,by omega,by omega,W.out,d.out.drewN _⟩,by simp only [intOf];omega⟩
     · have hb1:((a:Int) != (b:Int))=true:=by rw [uh];omega
       have R:((a:Int) == (b:Int))=false:=by rw [xm];omega
       have c:pra x y ((a:Int) - (b:Int)):=by
        have O:=pbl x;have Q:=pbl y;rcases uw a b with h | h
        · have:=poZ (peV x) q.out E.out F.out h;rw [O,Q] at this;exact ⟨⟨fun _=>this,fun _=>by omega⟩,⟨fun h=>by omega,fun h=>by omega⟩⟩
        · have:=poZ (peV y) q.out.symm F.out E.out (by omega);rw [O,Q] at this;exact ⟨⟨fun h=>by omega,fun h=>by omega⟩,⟨fun _=>this,fun _=>by omega⟩⟩
       have f:=ah c;clear c K;go_wp2_with fail;go_quiet (fail);go_wp2_with fail;go_quiet (fail);go_wp2;go_ret;exact ⟨_,f.out,⟨by omega,by omega⟩,rfl,(d.out.drewN _).drewN _⟩
   · obtain rfl:k=0:=by omega
     obtain rfl:z=-1:=by omega
     have J:x=y:=by
      have:=q.out;rw [zN,zN] at this;rw [<-pbl x,this,pbl]
     have c:pra x y 0:=by
      subst J;exact ⟨⟨fun h=>by omega,fun h=>by omega⟩,⟨fun h=>by omega,fun h=>by omega⟩⟩
     have f:=ah c;clear c J P;go_wp2;go_ret;exact ⟨_,f.out,⟨by omega,by omega⟩,rfl,d.out⟩
theorem pgs:∃ i,prog.info? 3=some i/\i.zero=some (.int .i64 0)/\i.size=1/\i.bytes=8:=by
 have h:(prog.info? 3).map (fun i=>(i.zero,i.size,i.bytes))=some (some (.int .i64 0),1,8):=by kernel_rfl
 obtain ⟨i,c,a⟩:=yp.1 h;simp only [yY] at a;exact ⟨i,c,a.1,a.2.1,a.2.2⟩
theorem pa9 (wr v k d x) (f:wr.ownsRow 0 3 1 v k d) (z:k<1099511627776) :
 ∃ c w',(Builtin.append_ #[22,22] 22 #[v,.slice (some ⟨wr.heap.size,0,none⟩) 1 1]).run prog (wr.alloc (.cells #[.int .i64 x] 3))=.ok c w'/\w'.ownsRow 0 3 1 c (k+1) (d ++ [.int .i64 x])/\Upd (foot v) (foot c) wr w':=by
 have n:(wr.alloc (.cells #[x] 3)).ownsRow 0 3 1 v k d:=paj f (fun j a=>xY _ _ _ (pag f j a));have p:(wr.alloc (.cells #[x] 3)).heap[wr.heap.size]? =some (.cells #[x] 3 (0,0)):=xi _ _;obtain ⟨r,w,t,q,y⟩:=pgs;obtain ⟨c,w',o,h,m⟩:=pa0 (P:=prog) (wr.alloc (.cells #[x] 3)) 22 22 3 r (.int .i64 0) 1 8 underlying22 w t q y rfl (by omega) v k _ n ⟨wr.heap.size,0,none⟩ 1 1 [.int .i64 x] rfl (by
  intro j u a;have:j=0:=by
   cases j with
   | zero=>rfl
   | succ j=>simp at a
  subst this;simp only [yh,yz] at a;subst a;have e:(⟨wr.heap.size,0,none⟩:Addr).add 0=⟨wr.heap.size,0,none⟩:=by simp [Addr.add]
  rw [e,xa _ _ _ _ _ _ p];rfl) (by intro u g;simp at g;subst g;rfl) (by omega) (by simp only [maxLen];omega)
 exact ⟨c,w',o,h,(uR.alloc _).trans m⟩
theorem paV (l d):pah (l ++ [d])=pah l ++ [.int .i64 (d:Int)]:=by simp [pah,digV]
theorem pjp (u) (x d:Nat) (w) (C:Sl w u (dg x)) (hd:d<16777216) (hx:(dg x).length<=1000000000):Calls prog 197 #[u,d] w (fun e w'=>∃ v,Hid (Sl w' v (dg (x * d)))/\e=.returned v/\Uq w w'):=by
 obtain ⟨ao,af,rfl,U,ac⟩:=C.form;obtain ⟨n,D⟩:=az ((dg x).length);rw [<-D] at U C hx;rw [<-D];have HU:=ah C;have O:=ah D;clear C D;go_in;go_wp2;go_loopw [5,6,7] (fun o c i wr=>∃ (k f:Nat) (out:List Nat),i=.int .i64 (k:Int)/\c=.int .i64 (f:Int)/\k<=n/\f<16777216/\Hid (out.length=k/\okL out/\valL out+16777216 ^ k * f=valL ((dg x).take k) * d)/\Hid (wr.ownsRow 0 3 1 o k (pah out))/\Hid (Upd [] (foot o) w wr)) (fun _ _ i _=>n - (intOf i).toNat)
 case atStart=>exact ⟨0,0,[],rfl,rfl,xu _,by omega,⟨rfl,pgm,by simp [valL]⟩,⟨by simp [pah],.inl ⟨rfl,rfl⟩⟩,Upd.refl _ _⟩
 case round =>
  obtain ⟨k,f,out,rfl,rfl,hk,M,j,A,t⟩:=hrel;have S:Uq w wr:=t.out.mono (fun _ h=>h) (fun _ h=>absurd h (by simp));by_cases K:k<n
  · have N:k<(dg x).length:=by rw [<-O.out];exact K
    obtain ⟨a,B⟩:∃ a,(dg x)[k]? =some a:=⟨_,xd N⟩
    have Y:a<16777216:=peV x a (xt B);obtain ⟨g1,rfl,c1⟩:=(HU.out.upd S).get B;obtain ⟨s,H⟩:=az (a * d+f);obtain ⟨G,W⟩:=pkK Y hd M;have z:=pm4 B j.out.1 j.out.2.2;rw [<-H] at G W z;have ai:(a:Int) * (d:Int)+(f:Int)=(s:Int):=by rw [H];simp
    have ak:(a:Int) * (d:Int)<=281474976710656:=by have:=Int.natCast_nonneg f;omega
    have aj:0<=(a:Int) * (d:Int):=Int.mul_nonneg (by omega) (by omega);obtain ⟨r,P⟩:=az (s % 16777216);obtain ⟨q,hq⟩:=az (s / 16777216);have ag:(s:Int) % 16777216=(r:Int):=by omega
    have ad:(s:Int) / 16777216=(q:Int):=by omega
    have T:r<16777216:=by omega
    rw [<-P,<-hq] at z;rw [<-hq] at G;obtain ⟨v,w',m,g,p⟩:=pa9 wr _ k _ (r:Int) A.out (by omega);rw [<-paV] at g;have y:(out ++ [r]).length=k+1:=by rw [xr,j.out.1];rfl
    have E:=ah m;have R:=ah g;have F:=ah (t.out.trans p);have ab:=ah (xf y (xf (okL_snoc j.out.2.1 T) z));clear B N H z m g p t A P hq y;go_wp2_with (refine bN E ?_)
    exact ⟨⟨k+1,q,out ++ [r],by go_num,rfl,by omega,G,ab.out,R.out,F.out⟩,by simp [intOf];omega⟩
  · obtain rfl:k=n:=by omega
    obtain ⟨v,w',m,g,p⟩:=pa9 wr _ k _ (f:Int) A.out (by omega);rw [<-paV] at g;have y:(out ++ [f]).length=k+1:=by rw [xr,j.out.1];rfl
    have Q:valL (out ++ [f])=x * d:=by
     rw [pcS,j.out.1,j.out.2.2,O.out,yb,pbl]
    rw [<-y] at g;have J:=Sl.of_row g;have Z:=ah J;have E:=ah m;have F:=ah (t.out.trans p);have HV:=ah Q;have aa:=ah (okL_snoc j.out.2.1 M);clear m g p t A y Q J K;go_wp2_with (refine bN E ?_)
    refine (pmc v _ w' Z.out aa.out).mono ?_;rintro e w2 ⟨v2,X,rfl,rfl⟩;go_wp2;go_ret;refine ⟨v2,?_,rfl,F.out.mono (fun _ h=>h) (fun _ h=>absurd h (by simp))⟩;show Sl _ _ _;rw [<-HV.out];exact X.out
theorem pkR {l:List Nat} {k d} (h:l[k]? =some d):l.getD k 0=d:=by rw [xx,h];rfl
theorem pbm {l:List Nat} {k} (h:l.length<=k):l.getD k 0=0:=by rw [xx,vk h];rfl
theorem ppe (u v x y w) (O:Sl w u (dg x)) (F:Sl w v (dg y)) (T:y<=x) (hx:(dg x).length<=1000000000):Calls prog 196 #[u,v] w (fun e w'=>∃ G,Hid (Sl w' G (dg (x - y)))/\e=.returned G/\Uq w w'):=by
 obtain ⟨ao,ak,rfl,aa,aj⟩:=O.form;obtain ⟨bo,an,rfl,ag,al⟩:=F.form;have ac:=pdd T;obtain ⟨n,K⟩:=az ((dg x).length);obtain ⟨m,J⟩:=az ((dg y).length);rw [<-K] at aa O hx;rw [<-J] at ag F;rw [<-K,<-J] at ac;rw [<-K,<-J];have HU:=ah O;have ab:=ah F;have U:=ah K;have HM:=ah J;clear O F K J;go_in;go_wp2;go_loopw [5,6,7] (fun o c i wr=>∃ (k b:Nat) (out:List Nat),i=.int .i64 (k:Int)/\c=.int .i64 (b:Int)/\k<=n/\b<=1/\Hid (out.length=k/\okL out/\valL out+valL ((dg y).take k)=valL ((dg x).take k)+16777216 ^ k * b)/\Hid (wr.ownsRow 0 3 1 o k (pah out))/\Hid (Upd [] (foot o) w wr)) (fun _ _ i _=>n - (intOf i).toNat)
 case atStart=>exact ⟨0,0,[],rfl,rfl,xu _,by omega,⟨rfl,pgm,by simp [valL]⟩,⟨by simp [pah],.inl ⟨rfl,rfl⟩⟩,Upd.refl _ _⟩
 case round =>
  obtain ⟨k,b,out,rfl,rfl,hk,hb,d,z,t⟩:=hrel;have S:Uq w wr:=t.out.mono (fun _ h=>h) (fun _ h=>absurd h (by simp));by_cases X:k<n
  · have Y:k<(dg x).length:=by rw [<-U.out];exact X
    obtain ⟨a,M⟩:∃ a,(dg x)[k]? =some a:=⟨_,xd Y⟩
    have ap:a<16777216:=peV x a (xt M);obtain ⟨g1,rfl,c1⟩:=(HU.out.upd S).get M;have N:=ah M;clear M Y;by_cases af:k<m
    · have Z:k<(dg y).length:=by rw [<-HM.out];exact af
      obtain ⟨c,P⟩:∃ c,(dg y)[k]? =some c:=⟨_,xd Z⟩
      have am:c<16777216:=peV y c (xt P);obtain ⟨g2,rfl,c2⟩:=(ab.out.upd S).get P;have H:=ah (pkR P);clear P Z;by_cases Q:(a:Int) - (b:Int) - (c:Int)<0
      · obtain ⟨r,W⟩:∃ r:Nat,(a:Int) - (b:Int) - (c:Int)+16777216=(r:Int):=⟨a+16777216 - b - c,by omega⟩
        have D:r<16777216:=by omega
        have p:=pdR N.out d.out.1 d.out.2.2 (r:=r) (b':=1) (by rw [H.out];omega);obtain ⟨G,w',g,f,j⟩:=pa9 wr _ k _ (r:Int) z.out (by omega);rw [<-paV] at f;have q:(out ++ [r]).length=k+1:=by rw [xr,d.out.1];rfl
        have B:=ah g;have A:=ah f;have C:=ah (t.out.trans j);have E:=ah (xf q (xf (okL_snoc d.out.2.1 D) p));clear p g f j t z q;go_wp2_with (refine bN B ?_)
        exact ⟨⟨k+1,1,out ++ [r],by go_num,rfl,by omega,by omega,E.out,A.out,C.out⟩,by simp [intOf];omega⟩
      · obtain ⟨r,W⟩:∃ r:Nat,(a:Int) - (b:Int) - (c:Int)=(r:Int):=⟨a - b - c,by omega⟩
        have D:r<16777216:=by omega
        have p:=pdR N.out d.out.1 d.out.2.2 (r:=r) (b':=0) (by rw [H.out];omega);obtain ⟨G,w',g,f,j⟩:=pa9 wr _ k _ (r:Int) z.out (by omega);rw [<-paV] at f;have q:(out ++ [r]).length=k+1:=by rw [xr,d.out.1];rfl
        have B:=ah g;have A:=ah f;have C:=ah (t.out.trans j);have E:=ah (xf q (xf (okL_snoc d.out.2.1 D) p));clear p g f j t z q Q;go_wp2_with (refine bN B ?_)
        exact ⟨⟨k+1,0,out ++ [r],by go_num,rfl,by omega,by omega,E.out,A.out,C.out⟩,by simp [intOf];omega⟩
    · have H:=ah (pbm (l:=dg y) (k:=k) (by rw [<-HM.out];omega));by_cases Q:(a:Int) - (b:Int)<0
      · obtain ⟨r,W⟩:∃ r:Nat,(a:Int) - (b:Int)+16777216=(r:Int):=⟨a+16777216 - b,by omega⟩
        have D:r<16777216:=by omega
        have p:=pdR N.out d.out.1 d.out.2.2 (r:=r) (b':=1) (by rw [H.out];omega);obtain ⟨G,w',g,f,j⟩:=pa9 wr _ k _ (r:Int) z.out (by omega);rw [<-paV] at f;have q:(out ++ [r]).length=k+1:=by rw [xr,d.out.1];rfl
        have B:=ah g;have A:=ah f;have C:=ah (t.out.trans j);have E:=ah (xf q (xf (okL_snoc d.out.2.1 D) p));clear p g f j t z q;go_wp2_with (refine bN B ?_)
        exact ⟨⟨k+1,1,out ++ [r],by go_num,rfl,by omega,by omega,E.out,A.out,C.out⟩,by simp [intOf];omega⟩
      · obtain ⟨r,W⟩:∃ r:Nat,(a:Int) - (b:Int)=(r:Int):=⟨a - b,by omega⟩
        have D:r<16777216:=by omega
        have p:=pdR N.out d.out.1 d.out.2.2 (r:=r) (b':=0) (by rw [H.out];omega);obtain ⟨G,w',g,f,j⟩:=pa9 wr _ k _ (r:Int) z.out (by omega);rw [<-paV] at f;have q:(out ++ [r]).length=k+1:=by rw [xr,d.out.1];rfl
        have B:=ah g;have A:=ah f;have C:=ah (t.out.trans j);have E:=ah (xf q (xf (okL_snoc d.out.2.1 D) p));clear p g f j t z q Q;go_wp2_with (refine bN B ?_)
        exact ⟨⟨k+1,0,out ++ [r],by go_num,rfl,by omega,by omega,E.out,A.out,C.out⟩,by simp [intOf];omega⟩
  · obtain rfl:k=n:=by omega
    have F:valL out=x - y:=by
     have h:=d.out.2.2;rw [U.out] at h;have:=po0 (by rw [d.out.1,U.out]) d.out.2.1 (pdd T) (by rw [pbl,pbl];exact T) h
     rwa [pbl,pbl] at this
    have R:=z.out;rw [<-d.out.1] at R;have ai:=ah (Sl.of_row R);have HV:=ah F;clear R F X;go_wp2_with fail;refine (pmc _ _ _ ai.out d.out.2.1).mono ?_;rintro e w2 ⟨v2,ad,rfl,rfl⟩;go_wp2;go_ret;refine ⟨v2,?_,rfl,S⟩;show Sl _ _ _;rw [<-HV.out];exact ad.out
theorem ppf (u v x y w) (E:Sl w u (dg x)) (D:Sl w v (dg y)) (C:0<y) (hq:x / y<16777216) (z:(dg y).length<=1000000000):Calls prog 195 #[u,v] w (fun e w'=>∃ r,Hid (r=x / y)/\r<16777216/\e=.returned (.int .i64 (r:Int))/\Uq w w'):=by
 obtain ⟨q,f⟩:=az (x / y);rw [<-f] at hq;rw [<-f];have J:=ah E;have O:=ah D;have A:=ah f;have K:=ah z;clear E D f z;go_in;go_wp2;go_loopw [5,6] (fun a b wr=>∃ d c:Nat,a=.int .i64 (d:Int)/\b=.int .i64 (c:Int)/\d<=q/\q<=c/\c<=16777215/\Hid (Uq w wr)) (fun a b _=>(intOf b).toNat - (intOf a).toNat)
 case atStart=>exact ⟨0,16777215,rfl,rfl,xu _,by omega,xj _,Upd.refl _ _⟩
 case round =>
  obtain ⟨d,c,rfl,rfl,h1,N,M,g⟩:=hrel;by_cases P:d<c
  · obtain ⟨m,U⟩:∃ m:Nat,((d:Int)+(c:Int)+1) / 2=(m:Int):=⟨(d+c+1) / 2,by omega⟩
    have Q:d<m:=by omega
    have S:m<=c:=by omega
    go_wp2_with fail;refine (pjp v y m wr (O.out.upd g.out) (by omega) K.out).mono ?_;rintro e G ⟨H,F,rfl,k⟩;have h:=ah (g.out.trans k);clear g k;go_wp2_with fail;refine (ppd H u (y * m) x G F.out (J.out.upd h.out)).mono ?_;rintro e W ⟨r,B,T,rfl,o⟩;have j:=ah (h.out.trans o);clear h o;by_cases R:r<=0
    · have p:y * m<=x:=by
       have:=B.out.2;omega
      have n:m<=q:=by rw [A.out];exact po1 C p
      clear p;go_wp2_with fail;exact ⟨⟨m,c,rfl,rfl,n,N,M,j.out⟩,by simp [intOf];omega⟩
    · have t:x<y * m:=B.out.2.1 (by omega);have n:q<m:=by rw [A.out];exact pm6 C t
      clear t;go_wp2_with fail;exact ⟨⟨d,m - 1,rfl,by congr 1;omega,h1,by omega,by omega,j.out⟩,by simp [intOf];omega⟩
  · obtain rfl:d=c:=by omega
    obtain rfl:q=d:=by omega
    go_wp2;go_ret;exact ⟨_,rfl,hq,rfl,g.out⟩
theorem pjq (wr v k g a b c) (h:wr.ownsRow 0 5 1 v k g) (A:k<1099511627776) :
 ∃ f w',(Builtin.append_ #[95,95] 95 #[v,.slice (some ⟨wr.heap.size,0,none⟩) 3 3]).run prog (wr.alloc (.cells #[.int .u8 (a.toNat:Int),.int .u8 (b.toNat:Int),.int .u8 (c.toNat:Int)] 5))=.ok f w'/\w'.ownsRow 0 5 1 f (k+3) (g ++ [pbj a,pbj b,pbj c])/\Upd (foot v) (foot f) wr w':=by
 have o:(wr.alloc (.cells #[.int .u8 (a.toNat:Int),.int .u8 (b.toNat:Int),.int .u8 (c.toNat:Int)] 5)).ownsRow 0 5 1 v k g:=paj h (fun j d=>xY _ _ _ (pag h j d));have r:(wr.alloc (.cells #[.int .u8 (a.toNat:Int),.int .u8 (b.toNat:Int),.int .u8 (c.toNat:Int)] 5)).heap[wr.heap.size]? =some (.cells #[.int .u8 (a.toNat:Int),.int .u8 (b.toNat:Int),.int .u8 (c.toNat:Int)] 5 (0,0)):=xi _ _;obtain ⟨w,y,x,t,z⟩:=pdP;obtain ⟨f,w',p,m,n⟩:=pa0 (P:=prog) (wr.alloc (.cells #[.int .u8 (a.toNat:Int),.int .u8 (b.toNat:Int),.int .u8 (c.toNat:Int)] 5)) 95 95 5 w (.int .u8 0) 1 1 underlying95 y x t z rfl (by omega) v k _ o ⟨wr.heap.size,0,none⟩ 3 3 [pbj a,pbj b,pbj c] rfl (by
  intro j u d;have q:j<3:=by
   have:=(xe.1 d).1;simpa using this
  have e:(⟨wr.heap.size,0,none⟩:Addr).add j=⟨wr.heap.size,j,none⟩:=by unfold Addr.add;split <;> simp_all
  rw [e,xa _ _ _ _ _ _ r]
  match j,q,d with
  | 0,_,d=>exact d
  | 1,_,d=>exact d
  | 2,_,d=>exact d) (paL [a,b,c]) (by omega) (by simp only [maxLen];omega)
 exact ⟨f,w',p,m,(uR.alloc _).trans n⟩
theorem Sl.at {w g n a l} (h:Sl w (.slice (some ⟨g,0,none⟩) n a) l) {k d:Nat} (f:l[k]? =some d):w.cell? ⟨g,k,none⟩=some (.int .i64 (d:Int)):=by
 obtain ⟨b,e,c⟩:=h.get f;simp only [yz,Addr.mk.injEq,uZ] at e;subst e;exact c
theorem phr (d s:Nat):IntKind.u8.wrap ((d:Int) / s)=((UInt8.ofNat (d / s)).toNat:Int):=by
 rw [uL,yn];omega
theorem pdT (u l w) (o:Sl w u l) (hl:okL l) (hn:l.length<=100000000):Calls prog 80 #[u] w (pde (valL l) w):=by
 obtain ⟨ao,ac,rfl,S,aa⟩:=o.form;obtain ⟨n,g⟩:=az (l.length);rw [<-g] at S o hn;rw [<-g];have N:=ah o;have K:=ah g;clear o g;go_in;go_wp2;go_loopw [3,4] (fun t i wr=>∃ (z:Int) (k q:Nat) (a:List UInt8),i=.int .i64 z/\z+1=(k:Int)/\k<=n/\q<=300000000/\Hid (natB a=valL (l.drop k))/\Hid (q=a.length/\q=3 * (n - k))/\Hid (wr.ownsRow 0 5 1 t q (byteVals a))/\Hid (Upd [] (foot t) w wr)) (fun _ i _=>(intOf i+1).toNat)
 case atStart=>exact ⟨(n:Int) - 1,n,0,[],rfl,by omega,xj _,xu _,by show _=_;rw [yN (by rw [K.out];omega)];rfl,⟨rfl,by omega⟩,⟨by simp [byteVals],.inl ⟨rfl,rfl⟩⟩,Upd.refl _ _⟩
 case round =>
  obtain ⟨z,k,q,a,rfl,O,hk,hq,x,m,c,v⟩:=hrel;have D:Uq w wr:=v.out.mono (fun _ h=>h) (fun _ h=>absurd h (by simp));by_cases h0:0<k
  · obtain ⟨j,rfl⟩:∃ j,k=j+1:=⟨k - 1,by omega⟩
    obtain rfl:z=(j:Int):=by omega
    have G:j<l.length:=by rw [<-K.out];omega
    obtain ⟨d,f⟩:∃ d,l[j]? =some d:=⟨_,xd G⟩
    have U:d<16777216:=hl d (xt f);obtain ⟨M,rfl,Z⟩:=(N.out.upd D).get f;have F:natB (a ++ [UInt8.ofNat (d / 65536),UInt8.ofNat (d / 256),UInt8.ofNat d])=valL (l.drop j):=by
     rw [pm5 _ _ U,x.out,pb1 f];omega
    have e2:IntKind.u8.wrap ((d:Int) / 65536)=((UInt8.ofNat (d / 65536)).toNat:Int):=phr d 65536;have e1:IntKind.u8.wrap ((d:Int) / 256)=((UInt8.ofNat (d / 256)).toNat:Int):=phr d 256;have e0:IntKind.u8.wrap (d:Int)=((UInt8.ofNat d).toNat:Int):=by rw [uL,yn];omega
    generalize UInt8.ofNat (d / 65536)=b2 at *;generalize UInt8.ofNat (d / 256)=b1 at *;generalize UInt8.ofNat d=b0 at *;obtain ⟨v',w',A,y,B⟩:=pjq wr.drew _ q _ b2 b1 b0 (paj c.out (fun _ _=>rfl)) (by omega);have R:=ah A;have Q:=ah y;have C:=ah (v.out.drew.trans B);have c3:=(N.out.upd (C.out.mono (fun _ h=>h) (fun _ h=>absurd h (by simp)))).at f;have Y:=ah F;have H:=m.out;have X:q+3<=300000000:=by omega
    have J:q+3=(a ++ [b2,b1,b0]).length/\q+3=3 * (n - j):=⟨by rw [xr,<-H.1];rfl,by omega⟩
    have W:=ah J;clear G f F A y B v c m H J O x;go_wp2_with fail;have p0:(0:Int)<=(j:Int):=by omega
    have p1:(j:Int)<(n:Int):=by omega
    have c2:wr.drew.cell? ⟨M,j,none⟩=some (.int .i64 (d:Int)):=Z;go_region_held3 (fun wp=>wp.cell? ⟨M,j,none⟩=some (.int .i64 (d:Int))) (first | exact c2 | assumption | go_keep)
     (first | (refine paD _ rfl (.tmp 12) (.tmp 30) 95 95 rfl _ _ _ _ rfl rfl R.out ?_))
    go_wp2_with fail;exact ⟨⟨(j:Int) - 1,j,q+3,a ++ [b2,b1,b0],rfl,by omega,by omega,X,Y.out,W.out,by show World.ownsRow _ _ _ _ _ _ _;rw [pa6];exact Q.out,C.out⟩,by first | (simp [intOf];done) | (simp [intOf];omega)⟩
  · obtain rfl:k=0:=by omega
    obtain rfl:z=-1:=by omega
    have p:=c.out;rw [m.out.1] at p;have E:=pdK (P:=prog) wr 95 42 5 underlying95 underlying5 underlying42 u3 a p;have T:=ah E;have ab:a.length<=300000000:=by rw [<-m.out.1];exact hq
    clear p E c O h0;go_wp2_with fail;rw [T.out];go_wp2_with fail;refine (pa8 _ wr (by show a.length<=_;omega)).mono ?_;rintro e w' ⟨r,c,rfl,rfl⟩;go_wp2;go_ret;refine ⟨r,?_,rfl,D⟩;show _=_;rw [c.out,pcM,x.out,zN]
theorem phs (a x w) (U:x=natB (bs a)) (ha:a.size<=1000000000) (hd:(dg x).length<=100000000):Calls prog 79 #[.string a] w (fun e w'=>∃ J,Hid (Sl w' J (dg x))/\e=.returned J/\Uq w w'):=by
 have Z:=ah U;clear U;go_in;go_wp2_with fail;refine (pa8 a w (by omega)).mono ?_;rintro e w' ⟨r,W,rfl,rfl⟩;have K:bs r=be x:=by rw [W.out,Z.out]
 have ay:r.size<=1000000000:=by
  have h1:=paJ a.size x (by rw [Z.out];exact peU (bs a));have M:=par K;omega
 have p:=ah K;clear W K;go_wp2;go_loopw [3,4] (fun o e wr=>∃ (z:Int) (t y q:Nat) (out:List Nat),e=.int .i64 z/\((z<=0/\-3<z/\t=0)\/z=(t:Int))/\t<=r.size/\q<=100000000/\Hid ((be x).take t=be y/\t=(be y).length)/\Hid (okL out/\dg x=out ++ dg y/\out.length=q)/\Hid (wr.ownsRow 0 3 1 o q (pah out))/\Hid (Upd [] (foot o) w wr)) (fun _ e _=>(intOf e).toNat)
 case atStart=>exact ⟨(r.size:Int),r.size,x,0,[],rfl,.inr rfl,xj _,xu _,⟨by rw [<-p.out,xy (by simp [pac])],by rw [<-p.out];rfl⟩,⟨pgm,rfl,rfl⟩,⟨by simp [pah],.inl ⟨rfl,rfl⟩⟩,Upd.refl _ _⟩
 case round =>
  obtain ⟨z,t,y,q,out,rfl,hz,ht,hq,v,c,C,F⟩:=hrel;have ab:Uq w wr:=F.out.mono (fun _ h=>h) (fun _ h=>absurd h (by simp));by_cases h0:0<z
  · obtain rfl:z=(t:Int):=by omega
    have au:0<t:=by omega
    have f:0<y:=by
     rcases uj y with h | h
     · have:=v.out.2;rw [h,pa3] at this;simp at this;omega
     · exact h
    obtain ⟨s,X⟩:=az (t - 3);have aa:max ((t:Int) - 3) 0=(s:Int):=by omega
    have aj:s<=t:=by omega
    have aB:t - s<=3:=by omega
    have aw:t<=(bs r).length:=ht;have u:=ah X;have HY:=ah f;clear hz X f;go_wp2;go_loopw [5,6] (fun d k wq=>∃ m j:Nat,d=.int .i64 (m:Int)/\k=.int .i64 (j:Int)/\s<=j/\j<=t/\Hid (m=natB (((be x).drop s).take (j - s)))/\m<=16777215/\wq=wr) (fun _ k _=>t - (intOf k).toNat)
    case atStart=>exact ⟨0,s,rfl,rfl,xj _,aj,by show _=_;rw [yC,List.take_zero];rfl,by omega,rfl⟩
    case round =>
     obtain ⟨m,j,rfl,rfl,ar,ax,Y,hm,S⟩:=hrel;by_cases av:j<t
     · have ap:j<r.size:=by omega
       have A:natB (((be x).drop s).take (j+1 - s))=m * 256+r[j].toNat:=by
        rw [<-p.out,show j+1 - s=(j - s)+1 by omega,xN,zL,show s+(j - s)=j by omega,pho r j ap,Option.toList_some,pbz,p.out,<-Y.out]
       have ai:m * 256+r[j].toNat<=16777215:=by
        rw [<-A];have h1:=peU (((be x).drop s).take (j+1 - s));have M:(((be x).drop s).take (j+1 - s)).length<=3:=by rw [xQ];omega
        have h3:=zm (n:=256) (by omega) M;have h4:(256:Nat) ^ 3=16777216:=rfl;omega
       have aq:=ah A;have aC:(m:Int) * 256<=16777215:=by omega
       have aA:(m:Int) * 256+(r[j].toNat:Int)<=16777215:=by omega
       subst S;clear A;go_wp2_with fail;exact ⟨⟨m * 256+r[j].toNat,j+1,by go_num,by go_num,by omega,by omega,aq.out.symm,ai,by first | trivial | rfl⟩,by simp [intOf];omega⟩
     · obtain rfl:j=t:=by omega
       subst S;have G:(be x).take j=be y:=v.out.1;have g:j=(be y).length:=v.out.2;have R:m=y % 16777216:=by
        rw [Y.out,<-List.drop_take,G,u.out,g,psy]
       have H:dg x=(out ++ [m]) ++ dg (y / 16777216):=by
        rw [c.out.2.1,phl HY.out,<-R];simp
       have T:(be x).take s=be (y / 16777216):=by
        rw [pkJ,<-g,<-G,List.take_take,<-u.out];congr 1;omega
       have Q:s=(be (y / 16777216)).length:=by
        rw [pkJ,xQ,<-g,u.out];omega
       have ag:q+1<=100000000:=by
        have h1:=xU List.length H;rw [xr,xr,zw,c.out.2.2] at h1;omega
       obtain ⟨J,w',O,B,P⟩:=pa9 wr _ q _ (m:Int) C.out (by omega);rw [<-paV] at B;have ad:=ah O;have ac:=ah B;have af:=ah (F.out.trans P);have HN:=ah (xf T Q);have an:Hid (okL (out ++ [m])/\dg x=(out ++ [m]) ++ dg (y / 16777216)/\(out ++ [m]).length=q+1):=⟨okL_snoc c.out.1 (by omega),H,by rw [xr,c.out.2.2];rfl⟩
       have al:(((j:Int) - 3<=0/\-3<(j:Int) - 3/\s=0)\/(j:Int) - 3=(s:Int)):=by have:=u.out;omega
       have am:s<=r.size:=by omega
       have ak:((j:Int) - 3).toNat<((j:Int)).toNat:=by omega
       clear G g R H T Q O B P F C aa;go_wp2_with (refine bN ad ?_)
       exact ⟨⟨(j:Int) - 3,s,y / 16777216,q+1,out ++ [m],rfl,al,am,ag,HN.out,an,ac.out,af.out⟩,by simp only [intOf];exact ak⟩
  · have f:y=0:=by
     rcases uj y with h | h
     · exact h
     · have h1:=pjg h;have M:=v.out.2;omega
    have N:dg x=out:=by rw [c.out.2.1,f,pdb,yl]
    have D:=C.out;rw [<-c.out.2.2] at D;have E:=Sl.of_row D;rw [<-N] at E;have ao:=ah E;clear f N D E hz;go_wp2;go_ret;exact ⟨_,ao.out,rfl,ab⟩
theorem pgU (a b):pah (a ++ b)=pah a ++ pah b:=by simp [pah]
theorem peZ {P} (w h t k e i size) (d:P.underlying t=some (.slice e)) (a:P.info? e=some i)
 (v n m) (f:w.ownsRow h e size v n m) (c):(Builtin.append_ #[t,t] k #[v,.slice none 0 c]).run P w=.ok v w:=by
 rcases f.2 with ⟨rfl,rfl⟩ | ⟨g,o,p,rfl,_,_,j,_⟩
 · simp [Builtin.append_,run_underlying d,sizeOf,typeInfo,a,Builtin.lenOf,Builtin.firstCells]
 · simp [Builtin.append_,run_underlying d,sizeOf,typeInfo,a,Builtin.lenOf,Builtin.firstCells,j,storeCells]
theorem ppg (X v k o) (f:X.ownsRow 0 3 1 v k (pah o)) (rest l) (h:Sl X rest l) (F:k+l.length<=1099511627776) :
 ∃ a w',(Builtin.append_ #[22,22] 22 #[v,rest]).run prog X=.ok a w'/\w'.ownsRow 0 3 1 a (k+l.length) (pah (o ++ l))/\Upd (foot v) (foot a) X w':=by
 obtain ⟨y,m,rfl,h1,H,c⟩:=h;obtain ⟨p,q,A,D,C⟩:=pgs
 cases y with
 | none =>
  have h0:l.length=0:=by
   rcases c with c | ⟨b,e,_⟩
   · exact c
   · cases e
  have z:l=[]:=ze h0;subst z;refine ⟨v,X,peZ X 0 _ _ 3 p 1 underlying22 q v k _ f m,?_,?_⟩
  · simpa using f
  · exact Upd.refl _ _
 | some ad =>
  obtain ⟨a,w',w,t,x⟩:=pa0 (P:=prog) X 22 22 3 p (.int .i64 0) 1 8 underlying22 q A D C rfl (by omega) v k _ f ad l.length m (pah l) (by simp [pah]) (by
   intro j u g;have n:j<l.length:=by
    have:=(xe.1 g).1;simpa [pah] using this
   rcases c with c | ⟨b,e,G,E⟩
   · omega
   · injection e with e;subst e;have B:(⟨b,0,none⟩:Addr).add j=⟨b,j,none⟩:=by unfold Addr.add;split <;> simp_all
     rw [B,E j l[j] (xd n)];have:(pah l)[j]? =some (digV l[j]):=by simp [pah,n]
     rw [this] at g;exact g) (by
   intro u r;simp only [pah,zh] at r;obtain ⟨d,_,rfl⟩:=r;rfl) (by omega) (by simp only [maxLen];omega)
  exact ⟨a,w',w,by rw [pgU];exact t,x⟩
theorem pph (k):madeCells (Value.int .i64 0).cells k=(pah (List.replicate k 0)).toArray:=by
 apply Array.ext
 · simp [madeCells,pah]
 · intro i h1 a;simp [madeCells,pah,digV,Value.cells,Nat.mod_one]
theorem ppi (w) (n:Nat) (g:n<=1000000000):(Instr.makeSlice 22 (.int .i64 (n:Int)) (.int .i64 (n:Int))).run prog w=.ok (.slice (some ⟨w.heap.size,0,none⟩) n n) (w.alloc (.cells (pah (List.replicate n 0)).toArray 3)):=by
 obtain ⟨f,e,d,c,a⟩:=pgs;have:=run_make (P:=prog) w 22 3 f (.int .i64 0) underlying22 e d .i64 .i64 n n (by omega) (by omega) (by rw [a];omega) (by omega);rw [this,c];simp only [xW,zf,pph]
theorem pkS (l) (k x:Nat):(pah l).toArray.setIfInBounds k (.int .i64 (x:Int))=(pah (l.set k x)).toArray:=by
 simp [pah,List.map_set,digV]
theorem Sl.set {w v l} (h:Sl w v l) {g j x} (o:∀ b∈foot v,b≠g):Sl (w.setCell ⟨g,j,none⟩ x) v l:=by
 obtain ⟨m,c,rfl,h1,n,a⟩:=h;refine ⟨m,c,rfl,h1,n,?_⟩;rcases a with a | ⟨b,rfl,p,q⟩
 · exact .inl a
 · refine .inr ⟨b,rfl,by simpa using p,fun i d k=>?_⟩;have f:b≠g:=o b (by simp [foot,Value.ownBlock]);rw [ym _ _ _ _ (fun e=>f (zO e).1.symm)];exact q i d k
theorem Sl.of_block {w g l t} (h:w.heap[g]? =some (.cells (pah l).toArray t (0,0))) (a:l.length<=maxLen):Sl w (.slice (some ⟨g,0,none⟩) l.length l.length) l:=by
 refine ⟨_,_,rfl,xj _,a,.inr ⟨g,rfl,(xq.1 h).1,fun j d c=>?_⟩⟩;rw [xa w g j _ _ _ h];simp [pah,c,digV]
theorem ppj (k):okL (List.replicate k 0):=fun d a=>by rw [uT] at a;omega
theorem psD {l} (h:okL l) {k x} (c:x<16777216):okL (l.set k x):=by
 intro d a;rcases uX a with h1 | h1
 · exact h d h1
 · omega
end Go.Proofs.YtkhjolbbpdaplaaGreatDoor
