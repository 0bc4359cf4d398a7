/- sortesref04: Residue, plus, Add, Mul, Pow and what follows. -/
import Derived.Test.YtkhjolbbpdaplaaGreatDoorHAF
namespace Go.Proofs.YtkhjolbbpdaplaaGreatDoor
set_option maxHeartbeats 1000000
open Go.RowKit Go.Proofs.Tryz
set_option maxRecDepth 100000
abbrev xZ:=@List.drop_eq_getElem_cons
abbrev yW:=@beq_iff_eq
theorem rResidue_any (a m w) (_ha:-9223372036854775808<=a/\a<=9223372036854775807) (f:1<=m/\m<=9223372036854775807) :
 Calls prog 138 #[.int .i64 a,.int .i64 m] w (RetZ .i64 m (a % m) w):=by
 have c:=ug (a:=a) (b:=m);have d:=yF a (show m≠0 by omega);have e:=yj a (show 0<m by omega);have H1:=ah c;clear c;go_in;go_wp2_with fail
 · go_ret;refine paX (by omega) ?_;have h:=H1.out;simp only [wrap64];split at h <;> omega
 · go_ret;refine paX (by omega) ?_;have h:=H1.out;split at h <;> omega
theorem rplus_any (x y m w) (a:0<=x/\x<m) (d:0<=y/\y<m) (c:m<=9223372036854775807) :
 Calls prog 137 #[.int .i64 x,.int .i64 y,.int .i64 m] w (RetZ .i64 m ((x+y) % m) w):=by
 go_in;go_wp2_with fail
 · go_ret;refine paX (by omega) ?_;rw [<-vB (x+y) m,zF (by omega) (by omega)];omega
 · go_ret;refine paX (by omega) ?_;rw [zF (by omega) (by omega)]
theorem plM (a b m w) (n:-9223372036854775808<=a/\a<=9223372036854775807) (q:-9223372036854775808<=b/\b<=9223372036854775807) (k:1<=m/\m<=9223372036854775807) :
 Calls prog 63 #[.int .i64 a,.int .i64 b,.int .i64 m] w (RetZ .i64 m ((a+b) % m) w):=by
 go_in;go_wp2_with (first | (go_at_call 138;((with_reducible refine (rResidue_any a _ _ (by omega) (by omega)).mono ?_);rintro e w' ⟨x,d,h,p,rfl,rfl⟩)) | (go_at_call 138;((with_reducible refine (rResidue_any b _ _ (by omega) (by omega)).mono ?_);rintro e w' ⟨y,c,o,g,rfl,rfl⟩)) | (go_at_call 137;((with_reducible refine (rplus_any _ _ _ _ (by omega) (by omega) (by omega)).mono ?_);rintro e w' ⟨r,f,t,j,rfl,rfl⟩)))
 go_ret;refine paX (by omega) ?_;rw [f.out,d.out,c.out,<-ux]
theorem poA (x y:Int) (c:0<=x/\x<2147483648) (a:0<=y/\y<2147483648):0<=x * y/\x * y<=4611686018427387904:=by
 refine ⟨Int.mul_nonneg c.1 a.1,?_⟩;have h1:x * y<=2147483648 * y:=Int.mul_le_mul_of_nonneg_right (by omega) a.1;omega
theorem poB (o x m j) (h:j % 2=1):((o+x) % m+(x+x) % m * ((j / 2:Nat):Int)) % m=(o+x * (j:Int)) % m:=by
 have e:(j:Int)=2 * ((j / 2:Nat):Int)+1:=by omega
 rw [Int.emod_add_emod,ux,yV,ue,<-yV,<-ux];congr 1
 conv=>rhs;rw [e]
 rw [Int.mul_add,Int.mul_one,<-Int.two_mul,vC,Int.mul_left_comm];omega
theorem plN (o x m j) (h:j % 2=0):(o+(x+x) % m * ((j / 2:Nat):Int)) % m=(o+x * (j:Int)) % m:=by
 have e:(j:Int)=2 * ((j / 2:Nat):Int):=by omega
 rw [ux,yV,ue,<-yV,<-ux];congr 1
 conv=>rhs;rw [e]
 rw [<-Int.two_mul,vC,Int.mul_left_comm]
theorem rMul_any (a b m w) (X:-9223372036854775808<=a/\a<=9223372036854775807) (Y:-9223372036854775808<=b/\b<=9223372036854775807) (hm:1<=m/\m<=9223372036854775807) :
 Calls prog 150 #[.int .i64 a,.int .i64 b,.int .i64 m] w (RetZ .i64 m (a * b % m) w):=by
 go_in;go_upto_region 5 with (first | (go_at_call 138;((with_reducible refine (rResidue_any a _ _ (by omega) (by omega)).mono ?_);rintro e w' ⟨x,T,A,N,rfl,rfl⟩)) | (go_at_call 138;((with_reducible refine (rResidue_any b _ _ (by omega) (by omega)).mono ?_);rintro e w' ⟨y,S,Q,K,rfl,rfl⟩)))
 have J:a * b % m=x * y % m:=by rw [T.out,S.out,<-yV]
 have H:=ah J;clear J;by_cases M:x<2147483648
 · by_cases O:y<2147483648
   · obtain ⟨Z,W⟩:=poA x y ⟨A,M⟩ ⟨Q,O⟩;go_wp2;go_ret;refine paX (by omega) ?_;rw [H.out]
   · have E:2147483648<=y:=by omega
     clear O;go_wp2_with fail;obtain ⟨y,rfl⟩:∃ n:Nat,y=(n:Int):=⟨y.toNat,by omega⟩
     clear E;go_loop [7,8,9] (fun u v r=>∃ (j:Nat) (c o:Int),u=.int .i64 c/\v=.int .i64 (j:Int)/\r=.int .i64 o/\(j:Int)<m/\(0<=c/\c<m)/\(0<=o/\o<m)/\Hid ((o+c * (j:Int)) % m=x * (y:Int) % m)) (fun _ v _=>(intOf v).toNat)
     case atStart=>exact ⟨y,x,0,rfl,rfl,rfl,K,⟨A,N⟩,by omega,by show _=_;rw [Int.zero_add]⟩
     case round =>
      obtain ⟨j,c,o,rfl,rfl,rfl,U,R,p,q⟩:=hrel;by_cases P:0<j
      · by_cases hb1:j % 2=1
        · have C:((j:Int) % 2 == 1)=true:=by rw [yW];omega
          have d:=ah hb1;clear hb1;go_wp2_with (go_at_call 137;first | ((with_reducible refine (rplus_any o c _ _ (by omega) (by omega) (by omega)).mono ?_);rintro e w' ⟨G,F,B,D,rfl,rfl⟩) | ((with_reducible refine (rplus_any c c _ _ (by omega) (by omega) (by omega)).mono ?_);rintro e w' ⟨t,k,g,f,rfl,rfl⟩))
          refine ⟨⟨j / 2,t,G,rfl,by go_num,rfl,by omega,⟨g,f⟩,⟨B,D⟩,?_⟩,by simp [intOf];omega⟩;show _=_;rw [F.out,k.out,poB o c m j d.out,q.out]
        · have z:j % 2=0:=by omega
          have C:((j:Int) % 2 == 1)=false:=by rw [xm];omega
          have d:=ah z;clear hb1 z;go_wp2_with (go_at_call 137;((with_reducible refine (rplus_any c c _ _ (by omega) (by omega) (by omega)).mono ?_);rintro e w' ⟨t,k,g,f,rfl,rfl⟩))
          refine ⟨⟨j / 2,t,o,rfl,by go_num,rfl,by omega,⟨g,f⟩,p,?_⟩,by simp [intOf];omega⟩;show _=_;rw [k.out,plN o c m j d.out,q.out]
      · obtain rfl:j=0:=by omega
        go_wp2;go_ret;refine paX (by omega) ?_;have h:=q.out;rw [Int.natCast_zero,Int.mul_zero,Int.add_zero,zF p.1 p.2] at h;rw [H.out,h]
 · have E:2147483648<=x:=by omega
   clear M;go_wp2_with fail;obtain ⟨y,rfl⟩:∃ n:Nat,y=(n:Int):=⟨y.toNat,by omega⟩
   clear E;go_loop [7,8,9] (fun u v r=>∃ (j:Nat) (c o:Int),u=.int .i64 c/\v=.int .i64 (j:Int)/\r=.int .i64 o/\(j:Int)<m/\(0<=c/\c<m)/\(0<=o/\o<m)/\Hid ((o+c * (j:Int)) % m=x * (y:Int) % m)) (fun _ v _=>(intOf v).toNat)
   case atStart=>exact ⟨y,x,0,rfl,rfl,rfl,K,⟨A,N⟩,by omega,by show _=_;rw [Int.zero_add]⟩
   case round =>
    obtain ⟨j,c,o,rfl,rfl,rfl,U,R,p,q⟩:=hrel;by_cases P:0<j
    · by_cases hb1:j % 2=1
      · have C:((j:Int) % 2 == 1)=true:=by rw [yW];omega
        have d:=ah hb1;clear hb1;go_wp2_with (go_at_call 137;first | ((with_reducible refine (rplus_any o c _ _ (by omega) (by omega) (by omega)).mono ?_);rintro e w' ⟨G,F,B,D,rfl,rfl⟩) | ((with_reducible refine (rplus_any c c _ _ (by omega) (by omega) (by omega)).mono ?_);rintro e w' ⟨t,k,g,f,rfl,rfl⟩))
        refine ⟨⟨j / 2,t,G,rfl,by go_num,rfl,by omega,⟨g,f⟩,⟨B,D⟩,?_⟩,by simp [intOf];omega⟩;show _=_;rw [F.out,k.out,poB o c m j d.out,q.out]
      · have z:j % 2=0:=by omega
        have C:((j:Int) % 2 == 1)=false:=by rw [xm];omega
        have d:=ah z;clear hb1 z;go_wp2_with (go_at_call 137;((with_reducible refine (rplus_any c c _ _ (by omega) (by omega) (by omega)).mono ?_);rintro e w' ⟨t,k,g,f,rfl,rfl⟩))
        refine ⟨⟨j / 2,t,o,rfl,by go_num,rfl,by omega,⟨g,f⟩,p,?_⟩,by simp [intOf];omega⟩;show _=_;rw [k.out,plN o c m j d.out,q.out]
    · obtain rfl:j=0:=by omega
      go_wp2;go_ret;refine paX (by omega) ?_;have h:=q.out;rw [Int.natCast_zero,Int.mul_zero,Int.add_zero,zF p.1 p.2] at h;rw [H.out,h]
theorem plO (a m) (n:Nat) (w) (O:-9223372036854775808<=a/\a<=9223372036854775807) (H:n<=9223372036854775807) (P:1<=m/\m<=9223372036854775807) :
 Calls prog 72 #[.int .i64 a,n,.int .i64 m] w (RetZ .i64 m (powZ a n m) w):=by
 go_in;go_wp2_with (go_at_call 138;first | ((with_reducible refine (rResidue_any 1 _ _ (by omega) (by omega)).mono ?_);rintro e w' ⟨u,G,F,K,rfl,rfl⟩) | ((with_reducible refine (rResidue_any _ _ _ (by omega) (by omega)).mono ?_);rintro e w' ⟨x,J,y,z,rfl,rfl⟩))
 go_loop [7,8,1] (fun r b i=>∃ (j:Nat) (x p:Int),b=.int .i64 x/\i=.int .i64 (j:Int)/\r=.int .i64 p/\j<=9223372036854775807/\(0<=x/\x<m)/\0<=p/\p<m/\Hid (p * x ^ j % m=a ^ n % m)) (fun _ _ i=>(intOf i).toNat)
 case atStart=>exact ⟨n,x,u,rfl,rfl,rfl,H,⟨y,z⟩,F,K,by show _=_;rw [G.out,J.out,yV,ue,pfz,<-yV,Int.one_mul]⟩
 case round =>
  obtain ⟨j,x,p,rfl,rfl,rfl,Q,M,g,o,q⟩:=hrel;by_cases N:0<j
  · by_cases hb1:j % 2=1
    · have B:((j:Int) % 2 == 1)=true:=by rw [yW];omega
      have c:=ah hb1;clear hb1;go_wp2_with (go_at_call 150;first | ((with_reducible refine (rMul_any p x m _ (by omega) (by omega) (by omega)).mono ?_);rintro e w' ⟨E,D,A,C,rfl,rfl⟩) | ((with_reducible refine (rMul_any x x m _ (by omega) (by omega) (by omega)).mono ?_);rintro e w' ⟨t,k,f,d,rfl,rfl⟩))
      refine ⟨⟨j / 2,t,E,rfl,by go_num,rfl,by omega,⟨f,d⟩,A,C,?_⟩,by simp [intOf];omega⟩;show _=_;rw [k.out,D.out,pn9 p x m j c.out,q.out]
    · have v:j % 2=0:=by omega
      have B:((j:Int) % 2 == 1)=false:=by rw [xm];omega
      have c:=ah v;clear hb1 v;go_wp2_with (go_at_call 150;((with_reducible refine (rMul_any x x m _ (by omega) (by omega) (by omega)).mono ?_);rintro e w' ⟨t,k,f,d,rfl,rfl⟩))
      refine ⟨⟨j / 2,t,p,rfl,by go_num,rfl,by omega,⟨f,d⟩,g,o,?_⟩,by simp [intOf];omega⟩;show _=_;rw [k.out,plz p x m j c.out,q.out]
  · obtain rfl:j=0:=by omega
    go_wp2;go_ret;refine ⟨p,?_,g,o,rfl,rfl⟩;have h:=q.out;rw [Int.pow_zero,Int.mul_one,zF g o] at h;exact h
theorem pqS (a b M) (f:b<256) (d:0<M):(a * 256+b) % (M * 256)=(a % M) * 256+b:=by
 have h1:=zR a M;have c:=yP a d;have e:a * 256+b=(a % M * 256+b)+M * 256 * (a / M):=by
  have:a * 256=M * (a / M) * 256+a % M * 256:=by rw [<-uu,h1]
  rw [this,Nat.mul_right_comm];omega
 rw [e,zM,xV];have:(a % M+1) * 256<=M * 256:=uD _ c;omega
def accR (h:List UInt8) (k:Nat):Nat:=acc8 h k % (128 * 256 ^ (k - 1))
theorem poC (h:List UInt8) (k) (d:1<=k):accR h (k+1)=accR h k * 256+(h.getD k 0).toNat:=by
 unfold accR;have c:=(h.getD k 0).toNat_lt;have a:0<128 * 256 ^ (k - 1):=Nat.mul_pos (by omega) (Nat.pow_pos (by omega));have e:128 * 256 ^ (k+1 - 1)=(128 * 256 ^ (k - 1)) * 256:=by
  rw [yZ,<-x8];congr 2;omega
 rw [e,acc8,pqS _ _ _ (by omega) a]
theorem pqT (h:List UInt8):accR h 1=(h.getD 0 0).toNat % 128:=by
 unfold accR;simp [acc8]
theorem poD (h:List UInt8) (k):accR h k<128 * 256 ^ (k - 1):=yP _ (Nat.mul_pos (by omega) (Nat.pow_pos (by omega)))
theorem pqU (h:List UInt8):accR h 8=numN h:=rfl
theorem pga (h:List UInt8) (F:h.length=32) (w) :
 Calls prog 189 #[.agg (byteVals h).toArray] w (MkN 9223372036854775808 (numN h) w):=by
 obtain ⟨cs,d⟩:=az ((byteVals h).toArray);rw [<-d];have f:∀ k,k<32->(w.alloc (.cells cs 60)).cell? ⟨w.heap.size,k,none⟩=some (.int .u8 ((h.getD k 0).toNat:Int)):=by
  intro k r;rw [xa _ w.heap.size k cs 60 (0,0) (xi _ _),d];simp [byteVals,pbj,List.getD,show k<h.length by omega]
 have v:=ah f;have G:=ah d;have x:Uq w (w.alloc (.cells cs 60)):=uR.alloc _;have u:=f 0 (by omega);obtain ⟨m,j⟩:=az (h.getD 0 0);rw [<-j] at u;have E:=m.toNat_lt;have C:=ah j;clear f d j;go_in;go_wp2_with fail;generalize w.alloc (.cells cs 60)=W at *;clear u;have A:m.toNat % 128<128:=yP _ (by omega);go_loop [3,4] (fun n i=>∃ (k z:Nat),i=.int .i64 (k:Int)/\1<=k/\k<=8/\n=.int .i64 (z:Int)/\Hid (z=accR h k)) (fun _ i=>8 - (intOf i).toNat)
 case atStart=>exact ⟨1,m.toNat % 128,rfl,by omega,by omega,by first | rfl | simp,by show _=_;rw [pqT h,C.out]⟩
 case round =>
  clear A E;obtain ⟨k,z,rfl,o,r,rfl,a⟩:=hrel;by_cases y:k<8
  · have c:=v.out k (by omega);have g:=poC h k o;obtain ⟨b,t⟩:=az (h.getD k 0);rw [<-t] at c g;have J:=b.toNat_lt;have K:z<36028797018963968:=by
     have h1:=poD h k;rw [<-a.out] at h1;have:256 ^ (k - 1)<=256 ^ 6:=zm (by omega) (by omega);have e:(256:Nat) ^ 6=281474976710656:=by decide
     omega
    have D:=ah g;clear t g;have H:(k:Int)<32:=by omega
    go_wp2_with fail;exact ⟨⟨k+1,z * 256+b.toNat,by go_num,by omega,by omega,by go_num,by show _=_;rw [D.out,a.out]⟩,by simp [intOf];omega⟩
  · have q:k=8:=by omega
    have p:(k:Int)=8:=by omega
    rw [q] at a;rw [p];clear y r o q p;have B:z<9223372036854775808:=by
     have h1:=poD h 8;rw [<-a.out] at h1;have e:(128:Nat) * 256 ^ (8 - 1)=9223372036854775808:=by decide
     omega
    go_wp2;go_ret;exact ⟨z,by show _=_;rw [a.out,pqU],B,rfl,x⟩
theorem pdx (x w) (_hx:-9223372036854775808<=x/\x<=9223372036854775807) :
 Calls prog 142 #[.int .i64 x] w (fun e w'=>∃ r,Hid (r=expN x)/\r<1152921504606845789/\e=.returned (.int .i64 (r:Int))/\w=w'):=by
 have c:=ug (a:=x) (b:=1152921504606845789);have d:=pf2 x;have H1:=ah (xf c d);clear c d;have f:=phS x;go_in;go_wp2_with fail
 all_goals go_ret
 all_goals refine ⟨expN x,rfl,f,phL ?_,rfl⟩
 all_goals have h:=H1.out
 all_goals obtain ⟨h1,g⟩:=h
 all_goals first | simp only [wrap64] | skip
 all_goals split at h1 <;> omega
theorem pdP:∃ i,prog.info? 5=some i/\i.zero=some (.int .u8 0)/\i.size=1/\i.bytes=1:=by
 have h:(prog.info? 5).map (fun i=>(i.zero,i.size,i.bytes))=some (some (.int .u8 0),1,1):=by kernel_rfl
 obtain ⟨i,c,a⟩:=yp.1 h;simp only [yY] at a;exact ⟨i,c,a.1,a.2.1,a.2.2⟩
theorem peP (n:Nat) (w) (_hn:n<=9223372036854775807):Calls prog 156 #[n] w (MkS (len8 n) w):=by
 go_in;go_wp2;go_loopw [3,4] (fun t i wr=>∃ (k:Nat) (z:Int),i=.int .i64 z/\z=7 - (k:Int)/\k<=8/\Hid (wr.ownsRow 0 5 1 t k (byteVals ((len8 n).take k)))/\Hid (Upd [] (foot t) w wr)) (fun _ i _=>(intOf i+1).toNat)
 case atStart=>exact ⟨0,7,rfl,rfl,xu _,⟨by simp [byteVals],.inl ⟨rfl,rfl⟩⟩,Upd.refl _ _⟩
 case round =>
  obtain ⟨k,z,rfl,o,Q,d,g⟩:=hrel;by_cases K:k<8
  · obtain ⟨m,rfl⟩:∃ m:Nat,z=(m:Int):=⟨7 - k,by omega⟩
    obtain ⟨b,f⟩:=az (UInt8.ofNat (n / 2 ^ (8 * m)));have hb1:(n:Int) / 2 ^ (8 * m) % 256=(b.toNat:Int):=by
     have:(UInt8.ofNat (n / 2 ^ (8 * m))).toNat=n / 2 ^ (8 * m) % 256:=by simp
     rw [f,this];simp
    have U:m<=7:=by omega
    have D:(len8 n).take (k+1)=(len8 n).take k ++ [b]:=by
     rw [zn (by rw [pau];omega)];congr 1;rw [f];have T:m=7 - k:=by omega
     simp [len8,T]
    have R:=ah D;have M:=ah o;have a:=d.out;have B:=g.out;have v:(wr.alloc (.cells #[.int .u8 (b.toNat:Int)] 5)).ownsRow 0 5 1 u3 k (byteVals ((len8 n).take k)):=paj a (fun j c=>xY _ _ _ (pag a j c));have C:(wr.alloc (.cells #[.int .u8 (b.toNat:Int)] 5)).heap[wr.heap.size]? =some (.cells #[.int .u8 (b.toNat:Int)] 5 (0,0)):=xi _ _;obtain ⟨S,F,E,y,G⟩:=pdP;obtain ⟨W,w',q,p,r⟩:=pa0 (P:=prog) (wr.alloc (.cells #[.int .u8 (b.toNat:Int)] 5)) 95 95 5 S (.int .u8 0) 1 1 underlying95 F E y G rfl (by omega) u3 k _ v ⟨wr.heap.size,0,none⟩ 1 1 [pbj b] rfl (by
     intro j u c;have:j=0:=by
      cases j with
      | zero=>rfl
      | succ j=>simp at c
     subst this;simp only [yh,yz] at c;subst c;have e:(⟨wr.heap.size,0,none⟩:Addr).add 0=⟨wr.heap.size,0,none⟩:=by simp [Addr.add]
     rw [e,xa _ _ _ _ _ _ C];rfl) (paL [b]) (by omega) (by simp only [maxLen];omega)
    have H:=ah q;have J:=ah p;have N:=ah ((B.alloc (.cells #[.int .u8 (b.toNat:Int)] 5)).trans r);clear F E y G;clear f o D a B v C q p r d g;go_wp2_with (refine bN H ?_)
    refine ⟨⟨k+1,_,rfl,?_,by omega,?_,N.out⟩,?_⟩
    · have:=M.out;omega
    · show World.ownsRow _ _ _ _ _ _ _;rw [R.out,pa6];exact J.out
    · first | (simp [intOf];done) | (simp [intOf];omega)
  · obtain rfl:z=-1:=by omega
    have A:k=8:=by omega
    have a:=d.out;rw [A,xy (by rw [pau];omega)] at a;have x:=pdK (P:=prog) wr 95 9 5 underlying95 underlying5 underlying9 u3 (len8 n) (by rw [pau];exact a);have O:=ah x;clear K o Q A a x d;go_wp2_with fail;rw [O.out];go_wp2;go_ret;exact ⟨⟨(len8 n).toArray⟩,rfl,xj _,rfl,g.out.mono (fun _ h=>h) (fun _ h=>absurd h (by simp))⟩
theorem pbS (s w) (t:s.size<=281474976710000) :
 Calls prog 134 #[.string s] w (MkN 1152921504606845789 (pd3 (bs s)) w):=by
 go_in;go_wp2_with fail;refine (phW _ w (by have:(ByteArray.mk #[115,47]).size=2:=rfl;simp [ByteArray.size_append];omega)).mono ?_;rintro e m ⟨rfl,k⟩;have f:bs (⟨#[115,47]⟩ ++ s)=[115,47] ++ bs s:=by rw [pae];rfl
 rw [f];clear f;obtain ⟨h,a⟩:=az (sha ([115,47] ++ bs s));have d:h.length=32:=by rw [a,pbP]
 rw [<-a];obtain ⟨cs,c⟩:=az ((byteVals h).toArray);rw [<-c];have o:=ah a;have n:=ah d;have j:=ah c;clear a d c;go_wp2_with fail;rw [j.out];refine (pga h n.out m).mono ?_;rintro e u ⟨r,p,q,rfl,g⟩;go_wp2;go_ret;refine ⟨r % 1152921504606845789,?_,yP _ (by omega),?_,k.trans g⟩
 · show _=_;rw [pd3,p.out,o.out]
 · first | rfl | simp
theorem peq (s w) (g:s.size<=281474976710000) :
 Calls prog 65 #[.string s] w (fun e w'=>∃ r,Hid (r=posN (pd3 (bs s)))/\0<r/\r<1152921504606845789/\e=.returned (.int .i64 (r:Int))/\Uq w w'):=by
 go_in;go_wp2_with fail;refine (pbS s w g).mono ?_;rintro e h ⟨r,f,c,rfl,d⟩;go_wp2;go_ret;have a:posN r=max r 1:=by unfold posN;split <;> omega
 refine ⟨posN r,by show _=_;rw [f.out],plB r,pkx c,?_,d⟩;exact phL (by rw [a];omega)
theorem pdm (a n:Nat) (m w) (k:a<=9223372036854775807) (f:n<=9223372036854775807) (c:m=2305843009213691579) :
 Calls prog 72 #[a,n,.int .i64 m] w (fun e w'=>∃ r,Hid (r=a ^ n % Pn)/\r<2305843009213691579/\e=.returned (.int .i64 (r:Int))/\w=w'):=by
 subst c;refine (plO a 2305843009213691579 n w (by omega) f (by omega)).mono ?_;rintro e g ⟨r,d,o,j,rfl,rfl⟩;obtain ⟨m,rfl⟩:∃ m:Nat,r=(m:Int):=⟨r.toNat,by omega⟩
 refine ⟨m,?_,by omega,rfl,rfl⟩;show _=_;have h:=d.out;rw [pcn] at h;omega
theorem phb (x w) (a:-9223372036854775808<=x/\x<=9223372036854775807) :
 Calls prog 66 #[.int .i64 x] w (fun e w'=>∃ r,Hid (r=gP (expN x))/\r<2305843009213691579/\e=.returned (.int .i64 (r:Int))/\w=w'):=by
 go_in;go_wp2_with fail;refine (pdx x w a).mono ?_;rintro e f ⟨n,c,h,rfl,rfl⟩;go_wp2_with fail;refine (pdm 4 n _ w (by omega) (by omega) rfl).mono ?_;rintro e f ⟨r,d,g,rfl,rfl⟩;go_wp2;go_ret;exact ⟨r,by show _=_;rw [d.out,c.out,gP],g,rfl,rfl⟩
theorem plP (s w) (n:s.size<=140737488355000) :
 Calls prog 19 #[.string s] w (pto 1152921504606845789 2305843009213691579 (keyN (bs s)) (gP (keyN (bs s))) w):=by
 go_in;go_wp2_with fail;refine (peq _ w (by have:(ByteArray.mk #[107]).size=1:=rfl;simp [ByteArray.size_append];omega)).mono ?_;rintro e h ⟨r,j,p,a,rfl,f⟩;have c:r=keyN (bs s):=by
  rw [j.out,pae,keyN];rfl
 have d:=ah c;clear c;go_wp2_with fail;refine (phb r h (by omega)).mono ?_;rintro e o ⟨y,g,m,rfl,rfl⟩;go_wp2;go_ret2;have k:expN (r:Int)=r:=peb a;exact ⟨r,y,d.out,by show _=_;rw [g.out,k,d.out],a,m,rfl,f⟩
theorem pgS (r p:Nat) (t w) (o:r<=9223372036854775807) (m:p<=9223372036854775807) (B:t.size<=140737488355000) :
 Calls prog 201 #[r,p,.string t] w (MkN 1152921504606845789 (pdr r p (bs t)) w):=by
 have y:(ByteArray.mk #[99]).size=1:=rfl;go_in;go_wp2_with fail;refine (peP r w o).mono ?_;rintro e n ⟨C,a,h,rfl,k⟩;rw [pau] at h;go_wp2_with fail;refine (peP p n m).mono ?_;rintro e u ⟨A,g,j,rfl,d⟩;rw [pau] at j;have v:=k.trans d;go_wp2_with fail;refine (pbS _ u (by simp [ByteArray.size_append];omega)).mono ?_;rintro e z ⟨c,q,x,rfl,f⟩;go_wp2;go_ret;refine ⟨c,?_,x,rfl,v.trans f⟩;show _=_;rw [q.out,pae,pae,pae,a.out,g.out,pdr];rfl
theorem pi0 (x t) (n:Nat) (w) (f:-9223372036854775808<=x/\x<=9223372036854775807) (E:t.size<=140737488355000) (Y:n<1152921504606845789) :
 Calls prog 157 #[.int .i64 x,.string t,n] w (pse (gP n) (sWith (expN x) n (bs t)) w):=by
 obtain ⟨X,c⟩:=az (expN x);have C:=phS x;rw [<-c] at C;rw [<-c];have k:=ah c;clear c;have h0:=SigAt.start w 0 0;go_in;go_wp2_with fail;refine (pdx x _ f).mono ?_;rintro e g ⟨d,B,T,rfl,rfl⟩;obtain rfl:d=X:=B.out.trans k.out.symm;go_wp2_with fail;refine (pdm 4 n _ _ (by omega) (by omega) rfl).mono ?_;rintro e g ⟨r,h,G,rfl,rfl⟩;go_wp2_with fail;refine (phb x _ f).mono ?_;rintro e g ⟨y,F,O,rfl,rfl⟩;go_wp2_with fail;refine (pgS r y t _ (by omega) (by omega) E).mono ?_;rintro e M ⟨U,q,P,rfl,m⟩;have a:=h0.upd m;clear h0;go_wp2_with fail;refine (rMul_any _ _ _ _ (by omega) (by omega) (by omega)).mono ?_;rintro e u ⟨W,z,N,Q,rfl,rfl⟩;go_wp2_with fail;refine (plM _ _ _ _ (by omega) (by omega) (by omega)).mono ?_;rintro e u ⟨j,o,J,S,rfl,rfl⟩;obtain ⟨s,rfl⟩:∃ s:Nat,j=(s:Int):=⟨j.toNat,by omega⟩
 obtain ⟨H,D⟩:=a.cells;obtain ⟨K,Z⟩:=a.free;go_wp2_with fail;refine xI (v:=.agg #[r,s]) (by simp [results,Tryz.results157,go_sem,H,D]) rfl ⟨r,s,?_,?_,G,by omega,rfl,?_⟩
 · show _=_;rw [h.out,gP]
 · show _=_;have a:=o.out;have A:r=gP n:=by rw [h.out,gP]
   rw [z.out,q.out,F.out,A,<-k.out,Int.add_emod_emod] at a;rw [sWith];have R:((s:Nat):Int)=(((n+d * pdr (gP n) (gP d) (bs t)) % Qn:Nat):Int):=by
    rw [a];simp [Qn]
   omega
 · exact (a.up.setNew (p:=⟨_,_,none⟩) (xj _) _).setNew (p:=⟨_,_,none⟩) (xj _) _
theorem pgb (x t w) (f:-9223372036854775808<=x/\x<=9223372036854775807) (A:t.size<=140737488355000) :
 Calls prog 81 #[.int .i64 x,.string t] w (pse (gP (nonceN (expN x) (bs t))) (sWith (expN x) (nonceN (expN x) (bs t)) (bs t)) w):=by
 have h0:=SigAt.start w 0 0;have Q:(ByteArray.mk #[110]).size=1:=rfl;go_in;go_wp2_with fail;refine (pdx x _ f).mono ?_;rintro e K ⟨X,E,R,rfl,rfl⟩;go_wp2_with fail;refine (peP X _ (by omega)).mono ?_;rintro e z ⟨O,h,m,rfl,j⟩;rw [pau] at m;have g:=h0.upd j;clear h0;go_wp2_with fail;refine (peq _ z (by simp [ByteArray.size_append];omega)).mono ?_;rintro e G ⟨n,B,N,J,rfl,o⟩;have d:n=nonceN (expN x) (bs t):=by
  rw [B.out,pae,pae,h.out,E.out,nonceN];rfl
 have c:=ah d;have D:=g.upd o;clear d g;go_wp2_with fail;refine (pi0 x t n G f A J).mono ?_;rintro e P ⟨r,s,u,F,C,y,rfl,k⟩;have a:=D.upd k;obtain ⟨H,q⟩:=a.cells;obtain ⟨M,S⟩:=a.free;go_wp2_with fail;refine xI (v:=.agg #[r,s]) (by simp [results,Tryz.results81,go_sem,H,q]) rfl ⟨r,s,?_,?_,C,y,rfl,?_⟩
 · show _=_;rw [u.out,c.out]
 · show _=_;rw [F.out,c.out]
 · exact (a.up.setNew (p:=⟨_,_,none⟩) (xj _) _).setNew (p:=⟨_,_,none⟩) (xj _) _
theorem plQ (wr:World) (b):(convert 95 9 (.slice (some ⟨wr.heap.size,0,none⟩) 1 1)).run prog (wr.alloc (.cells #[.int .u8 (b.toNat:Int)] 5))=.ok (.string ⟨#[b]⟩) (wr.alloc (.cells #[.int .u8 (b.toNat:Int)] 5)) :=
 pbO (P:=prog) (wr.alloc (.cells #[.int .u8 (b.toNat:Int)] 5)) 95 9 5 underlying95 underlying5 underlying9 wr.heap.size _ _ _ (xi _ _) [b] rfl 0 1 1 (by simp)
theorem pgc (n w) (x:pab n):Calls prog 146 #[.int .i64 n] w (MkS (Lib.itoa n) w):=by
 have S:=x.1;have W:=x.2;by_cases h0:n=0
 · subst h0;go_in;go_wp2;go_ret;exact ⟨⟨#[48]⟩,by show _=_;rw [piW];rfl,by rw [piW];decide,rfl,Upd.refl _ _⟩
 · have R:(n == 0)=false:=by rw [xm];exact h0
   have O:=ah h0;clear h0;obtain ⟨u,K⟩:=az (n.natAbs);have G:u<=9223372036854775808:=by omega
   have c:=ah K;have M:=ah G;clear K G;go_in;go_wp2;go_loopw [3,4] (fun t i wr=>∃ (z:Int) (r:ByteArray),i=.int .i64 z/\t=.string r/\(-9223372036854775808<=z/\z<=9223372036854775807)/\Hid (digs z.natAbs ++ bs r=digs u)/\r.size<=30/\Uq w wr) (fun _ i _=>(intOf i).natAbs)
   case atStart=>exact ⟨n,⟨#[]⟩,rfl,rfl,x,by show _=_;rw [c.out];simp [bs],by decide,Upd.refl _ _⟩
   case round =>
    obtain ⟨z,r,rfl,rfl,X,v,T,q⟩:=hrel;by_cases g:z=0
    · subst g;have j:=v.out;have j:bs r=digs u:=by simpa [digs] using j
      have a:=ah j;clear j v;by_cases C:n<0
      · go_wp2;go_ret;refine ⟨_,?_,?_,rfl,q⟩
        · show _=_;rw [pae,a.out,plJ C,c.out];rfl
        · rw [plJ C,xT];have:=paF a.out;have e:(ByteArray.mk #[45]).size=1:=rfl;simp [this,e,<-c.out];omega
      · go_wp2;go_ret;have A:0<n:=by have:=O.out;omega
        refine ⟨r,?_,?_,rfl,q⟩
        · show _=_;rw [a.out,plI A,c.out]
        · rw [plI A,<-c.out,<-a.out];exact xj _
    · have P:(z == 0)=false:=by rw [xm];exact g
      obtain ⟨b,h⟩:=az (UInt8.ofNat (48+z.natAbs % 10));have D:b.toNat=48+z.natAbs % 10:=by rw [h];exact pbR (yP _ (by omega))
      have d:=piV z.natAbs (by omega);rw [<-h] at d;have hq:(z.tdiv 10).natAbs=z.natAbs / 10:=by rw [Int.natAbs_tdiv];rfl
      have J:(z.tmod 10).natAbs=z.natAbs % 10:=by rw [Int.natAbs_tmod];rfl
      have f:digs (z.tdiv 10).natAbs ++ bs (⟨#[b]⟩ ++ r)=digs u:=by
       rw [pae,<-v.out,d,hq,xG];rfl
      have m:(⟨#[b]⟩ ++ r:ByteArray).size<=19:=by
       have h1:=xU List.length f;rw [xr,pac] at h1;have U:=pqM M.out;omega
      have a:=ah f;have y:=ah m;have k:(z.tdiv 10).natAbs<z.natAbs:=by rw [hq];omega
      have B:=ah k;have p:-9223372036854775808<=z.tdiv 10/\z.tdiv 10<=9223372036854775807:=by omega
      have H:=ah p;have F:=ah (plQ wr b);have E:=q.alloc (.cells #[.int .u8 (b.toNat:Int)] 5);have h1:(ByteArray.mk #[b]).size<=1:=xj _;by_cases Q:z.tmod 10<0
      · have hb1:48 + -(z.tmod 10)=(b.toNat:Int):=by omega
        have N:-10<z.tmod 10:=by omega
        have o:=ah hb1;clear h D d hq J f m k p g hb1;go_wp2_with fail;rw [o.out,F.out];go_wp2_with fail;exact ⟨⟨_,_,rfl,rfl,H.out,a.out,by have:=y.out;omega,E⟩,by simp only [intOf];exact B.out⟩
      · have hb1:48+z.tmod 10=(b.toNat:Int):=by omega
        have N:z.tmod 10<10:=by omega
        have o:=ah hb1;clear h D d hq J f m k p g hb1;go_wp2_with fail;rw [o.out,F.out];go_wp2_with fail;exact ⟨⟨_,_,rfl,rfl,H.out,a.out,by have:=y.out;omega,E⟩,by simp only [intOf];exact B.out⟩
end Go.Proofs.YtkhjolbbpdaplaaGreatDoor

namespace Go.Proofs.YtkhjolbbpdaplaaGreatDoor
set_option maxHeartbeats 1000000
set_option maxRecDepth 100000
open Go Go.RowKit
end Go.Proofs.YtkhjolbbpdaplaaGreatDoor

namespace Go.Proofs.YtkhjolbbpdaplaaGreatDoor
set_option maxHeartbeats 1000000
open Go.RowKit Go.Proofs.Tryz
set_option maxRecDepth 100000
theorem poE (r s w) (f:pab r) (h:pab s):Calls prog 69 #[.agg #[.int .i64 r,.int .i64 s]] w (MkS (pb4 r s) w):=by
 have h1:=SigAt.start w r s;have g:=h1.upd uR.drew;have o:=g.cells;have C:=itoa_len r f;have A:=itoa_len s h;go_in;go_wp2_with fail;clear h1;go_region_held3 (fun j=>j.cell? ⟨w.heap.size,0,none⟩=some (.int .i64 r)/\j.cell? ⟨w.heap.size,1,none⟩=some (.int .i64 s)) (first | exact o | assumption)
  (first
   | (go_at_call 146;((with_reducible refine (pgc r _ f).mono ?_);rintro e n ⟨d,c,z,rfl,hq⟩;have y:¬ 9223372036854775807<d.size+1:=(by omega);have k:=g.upd hq;have t:=k.cells;clear hq))
   | (go_at_call 146;((with_reducible refine (pgc s _ h).mono ?_);rintro e n ⟨p,a,x,rfl,hq⟩;have B:¬ 9223372036854775807<d.size+1+p.size:=(by omega);have m:=k.upd hq;have t:=m.cells;clear hq)))
 go_wp2;go_ret;refine ⟨_,?_,?_,rfl,m.up⟩
 · show _=_;rw [pae,pae,c.out,a.out];rfl
 · have q:=paF c.out;have v:=paF a.out;have u:(ByteArray.mk #[46]).size=1:=rfl;simp [ByteArray.size_append,pb4,q,v,u];omega
def ptw (l:List UInt8) (w:World) (e:Ending) (w':World):Prop:=∃ (n:Int) (ok:Bool),Hid (ptt l n ok)/\pab n/\e=.returned (.tuple #[n,.bool ok])/\Upd [] [] w w'
theorem poF (s) (h:0<s.size):bs s=s[0] :: (bs s).drop 1:=by
 have a:0<(bs s).length:=h;have:=xZ a;exact this
theorem pc6 (s k) (h:k<s.size):(bs s)[k]? =some s[k]:=by
 have:k<(bs s).length:=h;rw [xd this];rfl
theorem pbM {y s}:(y.toList == s.toList)=true ↔ bs y=bs s:=by
 rw [yW,yi,yi];rfl
theorem pkB (s k):bs (s.extract 0 k)=(bs s).take k:=by rw [pbc];simp
theorem phX (s k):bs (s.extract k s.size)=(bs s).drop k:=by
 rw [pbc,xy];simp [pac]
end Go.Proofs.YtkhjolbbpdaplaaGreatDoor
