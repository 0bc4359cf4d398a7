/- sortesref01: small at any bound, Int of a large number, Add and what follows. -/
import Derived.Test.YtkhjolbbpdaplaaGreatDoorHAR
namespace Go.Proofs.YtkhjolbbpdaplaaGreatDoor
set_option maxHeartbeats 4000000
open Go.RowKit Go.Proofs.Tryz
set_option maxRecDepth 100000
theorem pow7:(256:Nat) ^ 7=72057594037927936:=by decide
theorem ppA {x n} (a:n<=7) (h:(be x).length<=n):x<72057594037927936:=by
 have:=pda h;have e:(256:Nat) ^ n<=256 ^ 7:=zm (by omega) a;rw [pow7] at e;omega
theorem prZ (s) (x n:Nat) (w) (f:s.size<=1000000000000) (j:x=natB (bs s)) (o:n<=7) :
 Calls prog 78 #[.string s,n] w (fun e w'=>∃ z p,Hid ((p=true ↔ (be x).length<=n)/\(p=true->z=(x:Int)))/\(-9223372036854775808<=z/\z<=9223372036854775807)/\e=.returned (.tuple #[.int .i64 z,.bool p])/\w=w'):=by
 have c:=ah j;clear j;by_cases a:(be x).length<=n
 · have k:x<9223372036854775808:=by have:=ppA o a;omega
   go_in;go_wp2_with fail;refine (pa8 s w f).mono ?_;rintro e w' ⟨r,d,rfl,rfl⟩;have m:r.size<=n:=by
    have:=par d.out;rw [<-c.out] at this;omega
   have g:=ah a;clear a;go_wp2_with fail;refine (ph8 s x w f c.out k).mono ?_;rintro e w' ⟨rfl,rfl⟩;go_wp2;go_ret2;exact ⟨(x:Int),true,⟨⟨fun _=>g.out,fun _=>rfl⟩,fun _=>rfl⟩,by omega,rfl,rfl⟩
 · go_in;go_wp2_with fail;refine (pa8 s w f).mono ?_;rintro e w' ⟨r,d,rfl,rfl⟩;have m:n<r.size:=by
    have:=par d.out;rw [<-c.out] at this;omega
   have g:=ah a;clear a;go_wp2;go_ret2;exact ⟨0,false,⟨⟨(fun h=>by cases h),fun h=>absurd h g.out⟩,fun h=>by cases h⟩,by omega,rfl,rfl⟩
theorem pjA (l:List Nat) (k):valL (l.take (k+1))=valL (l.take k)+16777216 ^ k * l.getD k 0:=by
 by_cases h:k<l.length
 · rw [pb2 (xd h),pkR (xd h)]
 · rw [xy (by omega),xy (by omega),pbm (by omega)];omega
theorem pmj {u v out:List Nat} {k a b r q c s} (f:u.getD k 0=a) (g:v.getD k 0=b) (d:out.length=k) (h:valL out+16777216 ^ k * c=valL (u.take k)+valL (v.take k)) (n:s=c+a+b) (m:r=s % 16777216) (hq:q=s / 16777216) :
 valL (out ++ [r])+16777216 ^ (k+1) * q=valL (u.take (k+1))+valL (v.take (k+1)):=by
 have e:16777216 * q+r=c+a+b:=by omega
 have j:16777216 ^ k * (16777216 * q+r)=16777216 ^ k * (c+a+b):=by rw [e]
 rw [pcS,d,pjA,pjA,f,g,x8,yZ];rw [yQ,yQ,yQ] at j;omega
theorem pmk (x k):(dg x).getD k 0<16777216:=by
 by_cases h:k<(dg x).length
 · rw [pkR (xd h)];exact peV x _ (List.getElem_mem h)
 · rw [pbm (by omega)];omega
theorem pe1 (a b x y w) (ha:bs a=be x) (hb:bs b=be y) (lx:(be x).length<=2000000) (ly:(be y).length<=2000000) :
 Calls prog 29 #[.string a,.string b] w (pde (x+y) w):=by
 have hx:x=natB (bs a):=by rw [ha,paK]
 have hy:y=natB (bs b):=by rw [hb,paK]
 have sa:a.size<=20000000:=by rw [par ha];omega
 have sb:b.size<=20000000:=by rw [par hb];omega
 have dx:(dg x).length<=2000000:=xB (pex x) lx;have dy:(dg y).length<=2000000:=xB (pex y) ly;have HX:=ah hx;have HY:=ah hy;have S:=ah (xf dx dy);clear hx hy ha hb lx ly dx dy;go_in;go_wp2_with fail;refine (prZ a x 7 w (by omega) HX.out (by omega)).mono ?_;rintro e w' ⟨z1,p1,ac,aR,rfl,rfl⟩;go_wp2_with fail;refine (prZ b y 7 w (by omega) HY.out (by omega)).mono ?_;rintro e w' ⟨z2,p2,ad,aQ,rfl,rfl⟩;by_cases ak:p1=true/\p2=true
 · obtain ⟨rfl,rfl⟩:=ak;have e1:z1=(x:Int):=ac.out.2 rfl;have e2:z2=(y:Int):=ad.out.2 rfl;have B:=ppA (by omega) (ac.out.1.1 rfl);have b2:=ppA (by omega) (ad.out.1.1 rfl);subst e1;subst e2;have h1:(x:Int)+(y:Int)<=9223372036854775807:=by omega
   have h2:-9223372036854775808<=(x:Int)+(y:Int):=by omega
   clear ac ad;go_wp2_with fail;rw [show (x:Int)+(y:Int)=((x+y:Nat):Int) by omega];refine (pbs (x+y) w (by omega)).mono ?_;rintro e w1 ⟨r,t,rfl,hu⟩;go_wp2;go_ret;exact ⟨r,t,rfl,hu⟩
 have af:Hid (p1=true->p2=false):=fun h=>by cases p2 with
  | false=>rfl
  | true=>exact absurd ⟨h,rfl⟩ ak
 clear ak ac ad
 cases p1
 · clear af;go_wp2_with fail;refine (phs a x w HX.out (by omega) (by have:=S.out.1;omega)).mono ?_;rintro e w1 ⟨u,SU,rfl,hq⟩;have U1:=ah hq;clear hq;go_wp2_with fail;refine (phs b y w1 HY.out (by omega) (by have:=S.out.2;omega)).mono ?_;rintro e w2 ⟨v,O,rfl,hq⟩;have M:=ah (SU.out.upd hq);have U2:=ah (U1.out.trans hq);clear hq U1 SU;obtain ⟨ao,aD,rfl,an,aC⟩:=M.out.form;obtain ⟨bo,ay,rfl,ap,aE⟩:=O.out.form;obtain ⟨n,P⟩:=az ((dg x).length);obtain ⟨m,R⟩:=az ((dg y).length);obtain ⟨N,hN⟩:=az (max n m);have aJ:n<=2000000:=by have:=S.out.1;omega
   have aG:m<=2000000:=by have:=S.out.2;omega
   rw [<-P] at an M;rw [<-R] at ap O;rw [<-P,<-R];have p:=ah (xf P R);have av:n<=N:=by omega
   have aB:m<=N:=by omega
   have aw:N<=2000000:=by omega
   clear P R hN;go_wp2;go_loopw [11,12,13] (fun o c i wr=>∃ (k d:Nat) (out:List Nat),i=.int .i64 (k:Int)/\c=.int .i64 (d:Int)/\d<=1/\(k<=N\/(k=N+1/\d=0))/\Hid (out.length=k/\okL out/\valL out+16777216 ^ k * d=valL ((dg x).take k)+valL ((dg y).take k))/\Hid (wr.ownsRow 0 3 1 o k (pah out))/\Hid (Upd [] (foot o) w2 wr)) (fun _ _ i _=>N+2 - (intOf i).toNat)
   case atStart=>exact ⟨0,0,[],rfl,rfl,by omega,.inl (xu _),⟨rfl,pgm,by simp [valL]⟩,⟨by simp [pah],.inl ⟨rfl,rfl⟩⟩,Upd.refl _ _⟩
   case round =>
    obtain ⟨k,d,out,rfl,rfl,aF,ax,C,t,D⟩:=hrel;have j:Uq w2 wr:=D.out.mono (fun _ h=>h) (fun _ h=>absurd h (by simp));have aP:k<=2000001:=by omega
    obtain ⟨A,f⟩:=ae ((dg x).getD k 0);obtain ⟨B,g⟩:=ae ((dg y).getD k 0);have aO:A<16777216:=by rw [<-f];exact pmk x k
    have aL:B<16777216:=by rw [<-g];exact pmk y k
    obtain ⟨s,E⟩:=az (d+A+B);obtain ⟨r,hr⟩:=az (s % 16777216);obtain ⟨q,hq⟩:=az (s / 16777216);have aa:=pmj f g C.out.1 C.out.2.2 E hr hq;have aI:(s:Int) % 16777216=(r:Int):=by omega
    have au:(s:Int) / 16777216=(q:Int):=by omega
    have ai:r<16777216:=by omega
    have K:q<=1:=by omega
    obtain ⟨v',w',Y,T,Z⟩:=pa9 wr _ k _ (r:Int) t.out (by omega);rw [<-paV] at T;have Q:(out ++ [r]).length=k+1:=by rw [xr,C.out.1];rfl
    have F:=ah Y;have G:=ah T;have H:=ah (D.out.trans Z);have J:=ah (xf Q (xf (okL_snoc C.out.2.1 ai) aa));clear Y T Z aa hr hq Q;have aK:((k+1:Nat):Int)=(k:Int)+1:=by omega
    by_cases X:k<n
    · by_cases U:k<m
      · skip
        obtain ⟨g1,rfl,c1⟩:=(M.out.upd j).get (show (dg x)[k]? =some A by rw [<-f,xx,xd (by rw [<-p.out.1];exact X)];rfl);obtain ⟨g2,rfl,c2⟩:=(O.out.upd j).get (show (dg y)[k]? =some B by rw [<-g,xx,xd (by rw [<-p.out.2];exact U)];rfl);obtain ⟨W,ag⟩:=az (d+A);have ab:(d:Int)+(A:Int)=(W:Int):=by omega
        have aN:(W:Int)+(B:Int)=(s:Int):=by omega
        have aM:W<33554432:=by omega
        clear ag;clear f g E D t j;go_wp2_with (refine bN F ?_)
        exact ⟨⟨k+1,q,out ++ [r],by go_num,rfl,K,by omega,J.out,G.out,H.out⟩,by simp [intOf];omega⟩
      · skip
        obtain ⟨g1,rfl,c1⟩:=(M.out.upd j).get (show (dg x)[k]? =some A by rw [<-f,xx,xd (by rw [<-p.out.1];exact X)];rfl);have aj:B=0:=by rw [<-g];exact pbm (by rw [<-p.out.2];omega)
        have ab:(d:Int)+(A:Int)=(s:Int):=by omega
        clear f g E D t j;go_wp2_with (refine bN F ?_)
        exact ⟨⟨k+1,q,out ++ [r],by go_num,rfl,K,by omega,J.out,G.out,H.out⟩,by simp [intOf];omega⟩
    by_cases U:k<m
    · skip
      obtain ⟨g2,rfl,c2⟩:=(O.out.upd j).get (show (dg y)[k]? =some B by rw [<-g,xx,xd (by rw [<-p.out.2];exact U)];rfl);have al:A=0:=by rw [<-f];exact pbm (by rw [<-p.out.1];omega)
      have ab:(d:Int)+(B:Int)=(s:Int):=by omega
      clear f g E D t j;go_wp2_with (refine bN F ?_)
      exact ⟨⟨k+1,q,out ++ [r],by go_num,rfl,K,by omega,J.out,G.out,H.out⟩,by simp [intOf];omega⟩
    by_cases aA:0<d
    · skip
      have al:A=0:=by rw [<-f];exact pbm (by rw [<-p.out.1];omega)
      have aj:B=0:=by rw [<-g];exact pbm (by rw [<-p.out.2];omega)
      obtain rfl:s=d:=by omega
      clear f g E D t j;go_wp2_with (refine bN F ?_)
      exact ⟨⟨k+1,q,out ++ [r],by go_num,rfl,K,by omega,J.out,G.out,H.out⟩,by simp [intOf];omega⟩
    obtain rfl:d=0:=by omega
    have hv:valL out=x+y:=by
     have h:=C.out.2.2;rw [xy (by rw [<-p.out.1];omega),xy (by rw [<-p.out.2];omega),pbl,pbl] at h;omega
    have HV:=ah hv;have Q:out.length=k:=C.out.1;rw [<-Q] at t;have am:=ah (Sl.of_row t.out);have ar:=ah C.out.2.1;have aq:=ah j;clear C t D F G H J f g E hv j;go_wp2_with fail;refine (pdT _ out wr am.out ar.out (by omega)).mono ?_;rintro e w3 ⟨z,HZ,rfl,hq⟩;go_wp2;go_ret;exact ⟨z,by show _=_;rw [HZ.out,HV.out],rfl,(U2.out.trans aq.out).trans hq⟩
 have aH:=af.out rfl;subst aH;clear af;go_wp2_with fail;refine (phs a x w HX.out (by omega) (by have:=S.out.1;omega)).mono ?_;rintro e w1 ⟨u,SU,rfl,hq⟩;have U1:=ah hq;clear hq;go_wp2_with fail;refine (phs b y w1 HY.out (by omega) (by have:=S.out.2;omega)).mono ?_;rintro e w2 ⟨v,O,rfl,hq⟩;have M:=ah (SU.out.upd hq);have U2:=ah (U1.out.trans hq);clear hq U1 SU;obtain ⟨ao,aD,rfl,an,aC⟩:=M.out.form;obtain ⟨bo,ay,rfl,ap,aE⟩:=O.out.form;obtain ⟨n,P⟩:=az ((dg x).length);obtain ⟨m,R⟩:=az ((dg y).length);obtain ⟨N,hN⟩:=az (max n m);have aJ:n<=2000000:=by have:=S.out.1;omega
 have aG:m<=2000000:=by have:=S.out.2;omega
 rw [<-P] at an M;rw [<-R] at ap O;rw [<-P,<-R];have p:=ah (xf P R);have av:n<=N:=by omega
 have aB:m<=N:=by omega
 have aw:N<=2000000:=by omega
 clear P R hN;go_wp2;go_loopw [11,12,13] (fun o c i wr=>∃ (k d:Nat) (out:List Nat),i=.int .i64 (k:Int)/\c=.int .i64 (d:Int)/\d<=1/\(k<=N\/(k=N+1/\d=0))/\Hid (out.length=k/\okL out/\valL out+16777216 ^ k * d=valL ((dg x).take k)+valL ((dg y).take k))/\Hid (wr.ownsRow 0 3 1 o k (pah out))/\Hid (Upd [] (foot o) w2 wr)) (fun _ _ i _=>N+2 - (intOf i).toNat)
 case atStart=>exact ⟨0,0,[],rfl,rfl,by omega,.inl (xu _),⟨rfl,pgm,by simp [valL]⟩,⟨by simp [pah],.inl ⟨rfl,rfl⟩⟩,Upd.refl _ _⟩
 case round =>
  obtain ⟨k,d,out,rfl,rfl,aF,ax,C,t,D⟩:=hrel;have j:Uq w2 wr:=D.out.mono (fun _ h=>h) (fun _ h=>absurd h (by simp));have aP:k<=2000001:=by omega
  obtain ⟨A,f⟩:=ae ((dg x).getD k 0);obtain ⟨B,g⟩:=ae ((dg y).getD k 0);have aO:A<16777216:=by rw [<-f];exact pmk x k
  have aL:B<16777216:=by rw [<-g];exact pmk y k
  obtain ⟨s,E⟩:=az (d+A+B);obtain ⟨r,hr⟩:=az (s % 16777216);obtain ⟨q,hq⟩:=az (s / 16777216);have aa:=pmj f g C.out.1 C.out.2.2 E hr hq;have aI:(s:Int) % 16777216=(r:Int):=by omega
  have au:(s:Int) / 16777216=(q:Int):=by omega
  have ai:r<16777216:=by omega
  have K:q<=1:=by omega
  obtain ⟨v',w',Y,T,Z⟩:=pa9 wr _ k _ (r:Int) t.out (by omega);rw [<-paV] at T;have Q:(out ++ [r]).length=k+1:=by rw [xr,C.out.1];rfl
  have F:=ah Y;have G:=ah T;have H:=ah (D.out.trans Z);have J:=ah (xf Q (xf (okL_snoc C.out.2.1 ai) aa));clear Y T Z aa hr hq Q;have aK:((k+1:Nat):Int)=(k:Int)+1:=by omega
  by_cases X:k<n
  · by_cases U:k<m
    · skip
      obtain ⟨g1,rfl,c1⟩:=(M.out.upd j).get (show (dg x)[k]? =some A by rw [<-f,xx,xd (by rw [<-p.out.1];exact X)];rfl);obtain ⟨g2,rfl,c2⟩:=(O.out.upd j).get (show (dg y)[k]? =some B by rw [<-g,xx,xd (by rw [<-p.out.2];exact U)];rfl);obtain ⟨W,ag⟩:=az (d+A);have ab:(d:Int)+(A:Int)=(W:Int):=by omega
      have aN:(W:Int)+(B:Int)=(s:Int):=by omega
      have aM:W<33554432:=by omega
      clear ag;clear f g E D t j;go_wp2_with (refine bN F ?_)
      exact ⟨⟨k+1,q,out ++ [r],by go_num,rfl,K,by omega,J.out,G.out,H.out⟩,by simp [intOf];omega⟩
    · skip
      obtain ⟨g1,rfl,c1⟩:=(M.out.upd j).get (show (dg x)[k]? =some A by rw [<-f,xx,xd (by rw [<-p.out.1];exact X)];rfl);have aj:B=0:=by rw [<-g];exact pbm (by rw [<-p.out.2];omega)
      have ab:(d:Int)+(A:Int)=(s:Int):=by omega
      clear f g E D t j;go_wp2_with (refine bN F ?_)
      exact ⟨⟨k+1,q,out ++ [r],by go_num,rfl,K,by omega,J.out,G.out,H.out⟩,by simp [intOf];omega⟩
  by_cases U:k<m
  · skip
    obtain ⟨g2,rfl,c2⟩:=(O.out.upd j).get (show (dg y)[k]? =some B by rw [<-g,xx,xd (by rw [<-p.out.2];exact U)];rfl);have al:A=0:=by rw [<-f];exact pbm (by rw [<-p.out.1];omega)
    have ab:(d:Int)+(B:Int)=(s:Int):=by omega
    clear f g E D t j;go_wp2_with (refine bN F ?_)
    exact ⟨⟨k+1,q,out ++ [r],by go_num,rfl,K,by omega,J.out,G.out,H.out⟩,by simp [intOf];omega⟩
  by_cases aA:0<d
  · skip
    have al:A=0:=by rw [<-f];exact pbm (by rw [<-p.out.1];omega)
    have aj:B=0:=by rw [<-g];exact pbm (by rw [<-p.out.2];omega)
    obtain rfl:s=d:=by omega
    clear f g E D t j;go_wp2_with (refine bN F ?_)
    exact ⟨⟨k+1,q,out ++ [r],by go_num,rfl,K,by omega,J.out,G.out,H.out⟩,by simp [intOf];omega⟩
  obtain rfl:d=0:=by omega
  have hv:valL out=x+y:=by
   have h:=C.out.2.2;rw [xy (by rw [<-p.out.1];omega),xy (by rw [<-p.out.2];omega),pbl,pbl] at h;omega
  have HV:=ah hv;have Q:out.length=k:=C.out.1;rw [<-Q] at t;have am:=ah (Sl.of_row t.out);have ar:=ah C.out.2.1;have aq:=ah j;clear C t D F G H J f g E hv j;go_wp2_with fail;refine (pdT _ out wr am.out ar.out (by omega)).mono ?_;rintro e w3 ⟨z,HZ,rfl,hq⟩;go_wp2;go_ret;exact ⟨z,by show _=_;rw [HZ.out,HV.out],rfl,(U2.out.trans aq.out).trans hq⟩

def puM (l:List UInt8):Prop:=∀ c∈l,48<=c.toNat/\c.toNat<=57
def ParR (l:List UInt8) (r:ByteArray) (ok:Bool):Prop:=(ok=true/\∃ x,bs r=be x/\l=Lib.decDigits x)\/(ok=false/\∀ x,l≠Lib.decDigits x)
theorem pcY:be 1=[1]:=by
 rw [pgl (by omega),show 1 / 256=0 by rfl,pa3];rfl
end Go.Proofs.YtkhjolbbpdaplaaGreatDoor
