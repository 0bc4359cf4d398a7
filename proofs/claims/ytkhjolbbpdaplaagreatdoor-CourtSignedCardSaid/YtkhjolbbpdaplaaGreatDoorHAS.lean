/- equal.Prove and equal.Verify and what follows. -/
import Derived.Test.YtkhjolbbpdaplaaGreatDoorHAR
namespace Go.Proofs.YtkhjolbbpdaplaaGreatDoor
set_option maxHeartbeats 2000000
open Go.RowKit Go.Proofs.Tryz
set_option maxRecDepth 100000
abbrev vz:=@Lib.join_cons
def psK (c z:Nat) (w:World) (e:Ending) (w':World):Prop:=∃ a b:Nat,Hid (a=c)/\Hid (b=z)/\a<1152921504606845789/\b<1152921504606845789/\e=.returned (.agg #[a,b])/\Upd [] [] w w'
theorem pup (w:World) (a b c t) (g:pab a) (e:pab b) (f:pab c):pey (w.alloc (.cells #[.int .i64 a,.int .i64 b,.int .i64 c] t)) w.heap.size [a,b,c]:=by
 refine ⟨by simp,fun j x h=>?_,fun x d=>?_⟩
 · rw [xa _ w.heap.size _ #[a,b,c] t (0,0) (xi _ _)]
   match j,h with
   | 0,h=>simp at h;subst h;rfl
   | 1,h=>simp at h;subst h;rfl
   | 2,h=>simp at h;subst h;rfl
   | n+3,h=>simp at h
 · simp at d;rcases d with rfl | rfl | rfl <;> assumption
theorem ptM (w:World) (a b c d e f t) (k:pab a) (p:pab b) (q:pab c) (r:pab d) (o:pab e) (m:pab f):pey (w.alloc (.cells #[.int .i64 a,.int .i64 b,.int .i64 c,.int .i64 d,.int .i64 e,.int .i64 f] t)) w.heap.size [a,b,c,d,e,f]:=by
 refine ⟨by simp,fun j x h=>?_,fun x g=>?_⟩
 · rw [xa _ w.heap.size _ #[a,b,c,d,e,f] t (0,0) (xi _ _)]
   match j,h with
   | 0,h=>simp at h;subst h;rfl
   | 1,h=>simp at h;subst h;rfl
   | 2,h=>simp at h;subst h;rfl
   | 3,h=>simp at h;subst h;rfl
   | 4,h=>simp at h;subst h;rfl
   | 5,h=>simp at h;subst h;rfl
   | n+6,h=>simp at h
 · simp at g;rcases g with rfl | rfl | rfl | rfl | rfl | rfl <;> assumption
theorem paq (a b w) (c:pab a) (h:memB a=b):Calls prog 44 #[.int .i64 a] w (fun e w'=>e=.returned (.bool b)/\Uq w w'):=pbw a b w c h
theorem rpow_at (a n m) (N:Nat) (c:n=(N:Int)) (w) (e:-9223372036854775808<=a/\a<=9223372036854775807) (f:n<=9223372036854775807) (d:1<=m/\m<=9223372036854775807) :
 Calls prog 72 #[.int .i64 a,.int .i64 n,.int .i64 m] w (RetZ .i64 m (powZ a N m) w):=by
 subst c;exact plO a m N w e (by omega) d
theorem pkX (a w) (k:-9223372036854775808<=a/\a<=9223372036854775807) :
 Calls prog 151 #[.int .i64 a] w (RetB (memB a) w):=by
 by_cases h1:1<=a
 · by_cases f:a<2305843009213691579
   · have c:=ah (plA h1 (by omega));go_in;go_wp2_with (go_at_call 72;((with_reducible refine (rpow_at a _ _ 1152921504606845789 qCast _ (by omega) (by omega) (by omega)).mono ?_);rintro e w' ⟨r,g,j,h,rfl,rfl⟩))
     go_ret;refine ⟨_,?_,rfl,rfl⟩;show _=_;rw [c.out,<-g.out];rfl
   · have d:2305843009213691579<=a:=by omega
     have c:=ah (piJ (a:=a) (by omega));clear f;go_in;go_wp2;go_ret;exact ⟨_,c.out.symm,rfl,rfl⟩
 · have d:a<1:=by omega
   have c:=ah (phQ d);clear h1;go_in;go_wp2;go_ret;exact ⟨_,c.out.symm,rfl,rfl⟩
theorem pcX (a b w) (d:pab a) (h:memB a=b):Calls prog 151 #[.int .i64 a] w (fun e w'=>e=.returned (.bool b)/\w=w'):=by
 refine (pkX a w d).mono ?_;rintro e w' ⟨r,c,rfl,rfl⟩;exact ⟨by rw [c.out,h],rfl⟩
theorem ppr (a b:Nat) (w) (k:a<=9223372036854775807) (g:b<=9223372036854775807) :
 Calls prog 150 #[a,b,.int .i64 2305843009213691579] w (fun e w'=>∃ r,Hid (r=a * b % Pn)/\r<2305843009213691579/\e=.returned (.int .i64 (r:Int))/\w=w'):=by
 refine (rMul_any a b 2305843009213691579 w (by omega) (by omega) (by omega)).mono ?_;rintro e d ⟨r,c,f,j,rfl,rfl⟩;obtain ⟨m,rfl⟩:∃ m:Nat,r=(m:Int):=⟨r.toNat,by omega⟩
 refine ⟨m,?_,by omega,rfl,rfl⟩;show _=_;have h:((m:Nat):Int)=((a * b % Pn:Nat):Int):=by rw [c.out];simp [Pn]
 omega
theorem pps (l x) (h:l≠[]):Lib.join (l ++ [x]) [47]=Lib.join l [47] ++ [47] ++ x:=by
 cases l with
 | nil=>exact absurd rfl h
 | cons y r =>
  rw [yA,vz,vz];simp [Lib.joinTail,List.append_assoc]
theorem pe0 {a:List Int} (h:∀ x∈a,pab x) (k):(Lib.join ((a.take k).map Lib.itoa) [47]).length<=21 * a.length:=by
 have h1:=pjs ((a.take k).map Lib.itoa) (by
  intro z c;simp only [zh] at c;obtain ⟨v,d,rfl⟩:=c;exact itoa_len v (h v (zA d)))
 rw [yx,xQ] at h1;omega
theorem phu (a g c n w) (d:pey w g a) (D:n=a.length) (O:n<=1000) :
 Calls prog 152 #[.slice (some ⟨g,0,none⟩) n c] w (MkS (Lib.join (a.map Lib.itoa) [47]) w):=by
 have C:=ah d;have m:=ah D;clear d D;go_in;go_wp2;go_loopw [3,4] (fun s i wr=>∃ (k:Nat) (t:ByteArray),i=.int .i64 (k:Int)/\s=.string t/\k<=n/\t.size<=21000/\Hid (bs t=Lib.join ((a.take k).map Lib.itoa) [47])/\Hid (Uq w wr)) (fun _ i _=>n - (intOf i).toNat)
 case atStart=>exact ⟨0,⟨#[]⟩,rfl,rfl,xu _,by decide,rfl,Upd.refl _ _⟩
 case round =>
  obtain ⟨k,t,rfl,rfl,P,S,u,j⟩:=hrel;by_cases Q:k<n
  · have B:k<a.length:=by have:=m.out;omega
    obtain ⟨x,d⟩:∃ x,a[k]? =some x:=⟨_,xd B⟩
    have q:=C.out.upd j.out;have X:=q.2.1 k x d;have p:pab x:=q.2.2 x (xt d);have z:a.take (k+1)=a.take k ++ [x]:=by rw [xN,d];rfl
    have v:(Lib.join ((a.take (k+1)).map Lib.itoa) [47]).length<=21000:=by
     have:=pe0 C.out.2.2 (k+1);have:=m.out;omega
    have A:=ah z;have E:=ah v;have N:=itoa_len x p;have R:(ByteArray.mk #[47]).size=1:=rfl;clear d z q v B;by_cases h0:k=0
    · subst h0;have J:t=⟨#[]⟩:=paT (by rw [u.out];rfl);subst J;go_wp2_with fail;refine (pcF x wr p).mono ?_;rintro e K ⟨y,r,M,rfl,o⟩;have F:y.size<=20:=by omega
      go_wp2_with fail;refine ⟨⟨1,y,rfl,by congr 1,by omega,by omega,?_,j.out.trans o⟩,by simp [intOf];omega⟩;show _=_;rw [A.out,r.out];simp [Lib.join_one]
    · have U:0<k:=by omega
      have G:=ah h0;clear h0;go_wp2_with fail;refine (pcF x wr p).mono ?_;rintro e K ⟨y,r,M,rfl,o⟩;have F:y.size<=20:=by omega
      have f:bs (t ++ ⟨#[47]⟩ ++ y)=Lib.join ((a.take (k+1)).map Lib.itoa) [47]:=by
       have H:(a.take k).map Lib.itoa≠[]:=by
        intro e;have h1:=xU List.length e;rw [yx,xQ] at h1;simp only [zG] at h1;have W:=m.out;have T:=G.out;omega
       rw [pae,pae,u.out,r.out,A.out,uK,zr,zU,pps _ _ H];rfl
      have h:=ah f;clear f;go_wp2_with fail;exact ⟨⟨k+1,_,by go_num,rfl,by omega,by rw [paF h.out];exact E.out,h.out,j.out.trans o⟩,by simp [intOf];omega⟩
  · obtain rfl:k=n:=by omega
    have f:bs t=Lib.join (a.map Lib.itoa) [47]:=by rw [u.out,m.out,yb]
    have h:=ah f;clear f;go_wp2;go_ret;exact ⟨t,h.out,xJ (paF h.out),rfl,j.out⟩
theorem ppt (a g c n w) (d:pey w g a) (f:n=a.length) (p:n<=1000) :
 Calls prog 199 #[.slice (some ⟨g,0,none⟩) n c] w (MkN 1152921504606845789 (pfk ppl a) w):=by
 have j:=pe0 d.2.2 a.length;rw [yb,<-f] at j;have u:=ah d;have m:=ah f;have x:(ByteArray.mk #[101,113,117,97,108,47]).size=6:=rfl;clear d f;go_in;go_wp2_with fail;refine (phu a g c n w u.out m.out p).mono ?_;rintro e q ⟨y,o,B,rfl,k⟩;have z:y.size<=21000:=by omega
 go_wp2_with fail;refine (pbS _ q (by rw [xT,x];omega)).mono ?_;rintro e A ⟨r,v,t,rfl,h⟩;go_wp2;go_ret;refine ⟨r,?_,t,rfl,k.trans h⟩;show _=_;rw [v.out,pae,o.out,pfk,pme];rfl
theorem pdV (a n:Nat) (w) (g:a<=9223372036854775807) (f:n<=9223372036854775807) :
 Calls prog 200 #[a,n] w (fun e w'=>∃ r,Hid (r=pP a n)/\r<2305843009213691579/\e=.returned (.int .i64 (r:Int))/\w=w'):=by
 go_in;go_wp2_with fail;refine (pdm a n _ w g f rfl).mono ?_;rintro e h ⟨r,c,d,rfl,rfl⟩;go_wp2;go_ret;exact ⟨r,c.out,d,rfl,rfl⟩
theorem ppu (a b:Nat) (w) (k:a<=9223372036854775807) (g:b<=9223372036854775807) :
 Calls prog 150 #[a,b,.int .i64 1152921504606845789] w (fun e w'=>∃ r,Hid (r=a * b % Qn)/\r<1152921504606845789/\e=.returned (.int .i64 (r:Int))/\w=w'):=by
 refine (rMul_any a b 1152921504606845789 w (by omega) (by omega) (by omega)).mono ?_;rintro e d ⟨r,c,f,j,rfl,rfl⟩;obtain ⟨m,rfl⟩:∃ m:Nat,r=(m:Int):=⟨r.toNat,by omega⟩
 refine ⟨m,?_,by omega,rfl,rfl⟩;show _=_;have h:((m:Nat):Int)=((a * b % Qn:Nat):Int):=by rw [c.out];simp [Qn]
 omega
theorem pkY (a b:Nat) (w) (k:a<=9223372036854775807) (g:b<=9223372036854775807) :
 Calls prog 63 #[a,b,.int .i64 1152921504606845789] w (fun e w'=>∃ r,Hid (r=(a+b) % Qn)/\r<1152921504606845789/\e=.returned (.int .i64 (r:Int))/\w=w'):=by
 refine (plM a b 1152921504606845789 w (by omega) (by omega) (by omega)).mono ?_;rintro e d ⟨r,c,f,j,rfl,rfl⟩;obtain ⟨m,rfl⟩:∃ m:Nat,r=(m:Int):=⟨r.toNat,by omega⟩
 refine ⟨m,?_,by omega,rfl,rfl⟩;show _=_;have h:((m:Nat):Int)=(((a+b) % Qn:Nat):Int):=by rw [c.out];simp [Qn]
 omega
theorem pid (x) (g h k:Nat) (w) (F:-9223372036854775808<=x/\x<=9223372036854775807) (Q:g<2305843009213691579) (S:h<2305843009213691579) (W:k<1152921504606845789) :
 Calls prog 154 #[.int .i64 x,g,h,k] w (psK (pnc (expN x) g h k) (prd (expN x) g h k) w):=by
 have h0:=ProofAt.start w 0 0;go_in;go_wp2_with fail;refine (pez x _ F).mono ?_;rintro e d ⟨X,A,hX,rfl,rfl⟩;go_wp2_with fail;refine (pdV g X _ (by omega) (by omega)).mono ?_;rintro e d ⟨a,C,J,rfl,rfl⟩;go_wp2_with fail;refine (pdV h X _ (by omega) (by omega)).mono ?_;rintro e d ⟨b,D,N,rfl,rfl⟩;go_wp2_with fail;refine (pdV g k _ (by omega) (by omega)).mono ?_;rintro e d ⟨r,u,O,rfl,rfl⟩;go_wp2_with fail;refine (pdV h k _ (by omega) (by omega)).mono ?_;rintro e d ⟨s,B,H,rfl,rfl⟩;have f:=ptM (w.alloc (.cells #[.int .i64 0,.int .i64 0] 46)) g a h b r s 3 (ipE Q) (ipE J) (ipE S) (ipE N) (ipE O) (ipE H);have q:(w.alloc (.cells #[.int .i64 0,.int .i64 0] 46)).heap.size=w.heap.size+1:=by simp
 rw [q] at f;have y:=ah f;have h1:=h0.upd (uR.alloc (.cells #[g,a,h,b,r,s] 3));clear f h0 q;go_wp2_with fail;refine (ppt [(g:Int),(a:Int),(h:Int),(b:Int),(r:Int),(s:Int)] _ _ 6 _ y.out rfl (by omega)).mono ?_;rintro e Z ⟨c,t,U,rfl,E⟩;have j:=h1.upd E;have o:c=pnc (expN x) g h k:=by
  rw [t.out,pnc,prc,C.out,D.out,u.out,B.out,A.out]
 have n:=ah o;clear h1 o t y C D u B;go_wp2_with fail;refine (ppu c X _ (by omega) (by omega)).mono ?_;rintro e P ⟨m,M,hm,rfl,rfl⟩;go_wp2_with fail;refine (pkY k m _ (by omega) (by omega)).mono ?_;rintro e P ⟨z,K,T,rfl,rfl⟩;obtain ⟨R,G⟩:=j.cells;obtain ⟨Y,f1⟩:=j.free;go_wp2_with fail;refine xI (v:=.agg #[c,z]) (by simp [results,Tryz.results154,go_sem,R,G]) rfl ⟨c,z,n.out,?_,U,T,rfl,?_⟩
 · show _=_;rw [K.out,M.out,prd,n.out,A.out,Nat.add_mod_mod]
 · exact (j.up.setNew (p:=⟨_,_,none⟩) (xj _) _).setNew (p:=⟨_,_,none⟩) (xj _) _
theorem ptO {a b c d e f:Int}:1<=[a,b,c,d,e,f].length/\[a,b,c,d,e,f].length<=100:=⟨by simp,by simp⟩
theorem prf (a b c d e f g h w) (k:pey w g [a,b,c,d,e,f]) (j:Tabs w) :
 Calls prog 267 #[.string ⟨#[101,113,117,97,108]⟩,.slice (some ⟨g,0,none⟩) 6 h] w (MkN 1152921504606845789 (pfk ppl [a,b,c,d,e,f]) w) :=
 pkV ⟨#[101,113,117,97,108]⟩ [a,b,c,d,e,f] g h w k (by decide) ptO j
theorem pgt (g a h b c z w) (D:pab g) (J:pab a) (N:pab h) (R:pab b) (hc:pab c) (hz:pab z) (aa:Tabs w) :
 Calls prog 219 #[.int .i64 g,.int .i64 a,.int .i64 h,.int .i64 b,.agg #[.int .i64 c,.int .i64 z]] w (MkB (verE g a h b c z) w):=by
 have h0:=ProofAt.start w c z;have ad:=hc.1;have ag:=hc.2;have af:=hz.1;have ai:=hz.2
 cases t:memB g with
 | false =>
  have o:Hid (verE g a h b c z=false):=by show _=_;simp [verE,t]
  have q:=ah t;clear t;go_in;go_wp2_with fail;refine (paq g false _ D q.out).mono ?_;rintro e F ⟨rfl,j⟩;have h1:=h0.upd j;clear h0;go_wp2;go_ret;exact ⟨_,o.out.symm,rfl,h1.up⟩
 | true =>
 cases x:memB a with
 | false =>
  have o:Hid (verE g a h b c z=false):=by show _=_;simp [verE,x]
  have q:=ah t;have v:=ah x;clear t x;go_in;go_wp2_with fail;refine (paq g true _ D q.out).mono ?_;rintro e F ⟨rfl,j⟩;have h1:=h0.upd j;clear h0;go_wp2_with fail;refine (paq a false _ J v.out).mono ?_;rintro e M ⟨rfl,m⟩;have d:=h1.upd m;clear h1;go_wp2;go_ret;exact ⟨_,o.out.symm,rfl,d.up⟩
 | true =>
 cases K:memB h with
 | false =>
  have o:Hid (verE g a h b c z=false):=by show _=_;simp [verE,K]
  have q:=ah t;have v:=ah x;have E:=ah K;clear t x K;go_in;go_wp2_with fail;refine (paq g true _ D q.out).mono ?_;rintro e F ⟨rfl,j⟩;have h1:=h0.upd j;clear h0;go_wp2_with fail;refine (paq a true _ J v.out).mono ?_;rintro e M ⟨rfl,m⟩;have d:=h1.upd m;clear h1;go_wp2_with fail;refine (paq h false _ N E.out).mono ?_;rintro e S ⟨rfl,p⟩;have f:=d.upd p;clear d;go_wp2;go_ret;exact ⟨_,o.out.symm,rfl,f.up⟩
 | true =>
 cases Q:memB b with
 | false =>
  have o:Hid (verE g a h b c z=false):=by show _=_;simp [verE,Q]
  have q:=ah t;have v:=ah x;have E:=ah K;have O:=ah Q;clear t x K Q;go_in;go_wp2_with fail;refine (paq g true _ D q.out).mono ?_;rintro e F ⟨rfl,j⟩;have h1:=h0.upd j;clear h0;go_wp2_with fail;refine (paq a true _ J v.out).mono ?_;rintro e M ⟨rfl,m⟩;have d:=h1.upd m;clear h1;go_wp2_with fail;refine (paq h true _ N E.out).mono ?_;rintro e S ⟨rfl,p⟩;have f:=d.upd p;clear d;go_wp2_with fail;refine (paq b false _ R O.out).mono ?_;rintro e U ⟨rfl,u⟩;have k:=f.upd u;clear f;go_wp2;go_ret;exact ⟨_,o.out.symm,rfl,k.up⟩
 | true =>
 have q:=ah t;have v:=ah x;have E:=ah K;have O:=ah Q;have X:=ah (xf t (xf x (xf K Q)));clear t x K Q;by_cases c0:c<0
 · have o:Hid (verE g a h b c z=false):=by
    show _=_;have:decide (0<=c)=false:=by rw [zi];omega
    simp [verE,this]
   go_in;go_wp2_with fail;refine (paq g true _ D q.out).mono ?_;rintro e F ⟨rfl,j⟩;have h1:=h0.upd j;clear h0;go_wp2_with fail;refine (paq a true _ J v.out).mono ?_;rintro e M ⟨rfl,m⟩;have d:=h1.upd m;clear h1;go_wp2_with fail;refine (paq h true _ N E.out).mono ?_;rintro e S ⟨rfl,p⟩;have f:=d.upd p;clear d;go_wp2_with fail;refine (paq b true _ R O.out).mono ?_;rintro e U ⟨rfl,u⟩;have k:=f.upd u;clear f;obtain ⟨W,T⟩:=k.cells;go_wp2;go_ret;exact ⟨_,o.out.symm,rfl,k.up⟩
 by_cases c9:1152921504606845788<c
 · have o:Hid (verE g a h b c z=false):=by
    show _=_;have:decide (c<1152921504606845789)=false:=by rw [zi];omega
    simp [verE,this]
   go_in;go_wp2_with fail;refine (paq g true _ D q.out).mono ?_;rintro e F ⟨rfl,j⟩;have h1:=h0.upd j;clear h0;go_wp2_with fail;refine (paq a true _ J v.out).mono ?_;rintro e M ⟨rfl,m⟩;have d:=h1.upd m;clear h1;go_wp2_with fail;refine (paq h true _ N E.out).mono ?_;rintro e S ⟨rfl,p⟩;have f:=d.upd p;clear d;go_wp2_with fail;refine (paq b true _ R O.out).mono ?_;rintro e U ⟨rfl,u⟩;have k:=f.upd u;clear f;obtain ⟨W,T⟩:=k.cells;go_wp2;go_ret;exact ⟨_,o.out.symm,rfl,k.up⟩
 by_cases z0:z<0
 · have o:Hid (verE g a h b c z=false):=by
    show _=_;have:decide (0<=z)=false:=by rw [zi];omega
    simp [verE,this]
   go_in;go_wp2_with fail;refine (paq g true _ D q.out).mono ?_;rintro e F ⟨rfl,j⟩;have h1:=h0.upd j;clear h0;go_wp2_with fail;refine (paq a true _ J v.out).mono ?_;rintro e M ⟨rfl,m⟩;have d:=h1.upd m;clear h1;go_wp2_with fail;refine (paq h true _ N E.out).mono ?_;rintro e S ⟨rfl,p⟩;have f:=d.upd p;clear d;go_wp2_with fail;refine (paq b true _ R O.out).mono ?_;rintro e U ⟨rfl,u⟩;have k:=f.upd u;clear f;obtain ⟨W,T⟩:=k.cells;go_wp2;go_ret;exact ⟨_,o.out.symm,rfl,k.up⟩
 by_cases z9:1152921504606845788<z
 · have o:Hid (verE g a h b c z=false):=by
    show _=_;have:decide (z<1152921504606845789)=false:=by rw [zi];omega
    simp [verE,this]
   go_in;go_wp2_with fail;refine (paq g true _ D q.out).mono ?_;rintro e F ⟨rfl,j⟩;have h1:=h0.upd j;clear h0;go_wp2_with fail;refine (paq a true _ J v.out).mono ?_;rintro e M ⟨rfl,m⟩;have d:=h1.upd m;clear h1;go_wp2_with fail;refine (paq h true _ N E.out).mono ?_;rintro e S ⟨rfl,p⟩;have f:=d.upd p;clear d;go_wp2_with fail;refine (paq b true _ R O.out).mono ?_;rintro e U ⟨rfl,u⟩;have k:=f.upd u;clear f;obtain ⟨W,T⟩:=k.cells;go_wp2;go_ret;exact ⟨_,o.out.symm,rfl,k.up⟩
 obtain ⟨⟨G,rfl,hG⟩,⟨A,rfl,hA⟩,⟨H,rfl,hH⟩,⟨B,rfl,hB⟩⟩:(∃ n:Nat,g=(n:Int)/\memN n)/\(∃ n:Nat,a=(n:Int)/\memN n)/\(∃ n:Nat,h=(n:Int)/\memN n)/\(∃ n:Nat,b=(n:Int)/\memN n) :=
  ⟨pc3 X.out.1,pc3 X.out.2.1,pc3 X.out.2.2.1,pc3 X.out.2.2.2⟩
 obtain ⟨C,rfl⟩:∃ n:Nat,c=(n:Int):=⟨c.toNat,by omega⟩
 obtain ⟨Z,rfl⟩:∃ n:Nat,z=(n:Int):=⟨z.toNat,by omega⟩
 have lG:G<2305843009213691579:=hG.2.1;have lA:A<2305843009213691579:=hA.2.1;have lH:H<2305843009213691579:=hH.2.1;have lB:B<2305843009213691579:=hB.2.1;have lC:C<1152921504606845789:=by omega
 have lZ:Z<1152921504606845789:=by omega
 have P:=ah (xf lC lZ);clear hG hA hH hB lC lZ;have VG:=q;have VA:=v;have VH:=E;have VB:=O;go_in;go_wp2_with fail;refine (paq G true _ D VG.out).mono ?_;rintro e F ⟨rfl,j⟩;have h1:=h0.upd j;clear h0;go_wp2_with fail;refine (paq A true _ J VA.out).mono ?_;rintro e M ⟨rfl,m⟩;have d:=h1.upd m;clear h1;go_wp2_with fail;refine (paq H true _ N VH.out).mono ?_;rintro e S ⟨rfl,p⟩;have f:=d.upd p;clear d;go_wp2_with fail;refine (paq B true _ R VB.out).mono ?_;rintro e U ⟨rfl,u⟩;have k:=f.upd u;clear f;obtain ⟨W,T⟩:=k.cells;have h5:=k.upd uR.drew;have k5:=h5.cells;go_wp2_with fail;clear W T k;go_region_held3 (fun wp=>wp.cell? ⟨w.heap.size,0,none⟩=some (.int .i64 (C:Int))/\wp.cell? ⟨w.heap.size,1,none⟩=some (.int .i64 (Z:Int))) (first | exact k5 | assumption | go_keep)
  (first
   | (go_at_call 266;((with_reducible refine (pmh G A C Z w _ (by omega) (by omega) P.out.1 P.out.2 h5).mono ?_);rintro e wq ⟨r,HR,hr,rfl,hq⟩;have Y:=h5.upd hq;have kq:=Y.cells;clear hq))
   | (go_at_call 266;((with_reducible refine (pmh H B C Z w _ (by omega) (by omega) P.out.1 P.out.2 Y).mono ?_);rintro e wq ⟨s,HS,hs,rfl,hq⟩;have g2:=Y.upd hq;have kq:=g2.cells;have i2:=ptM wq G A H B r s 3 (ipE lG) (ipE lA) (ipE lH) (ipE lB) (ipE hr) (ipE hs);have u2:=(Upd.refl [] wq).alloc (.cells #[G,A,H,B,r,s] 3);have g3:=g2.upd u2;have ac:=g3.cells;clear hq))
   | (go_at_call 267;((with_reducible refine (prf G A H B r s _ _ _ i2 (aa.upd g3.up)).mono ?_);rintro e wz ⟨y,HY,hy,rfl,hq⟩;have g4:=g3.upd hq;have kq:=g4.cells;clear hq)))
 go_wp2;go_ret;refine ⟨_,?_,rfl,g4.up⟩;show _=_;have ab:y=prc G A H B (pnd G A C Z) (pnd H B C Z):=by rw [HY.out,HR.out,HS.out];rfl
 have e1:decide (0<=(C:Int))=true:=by rw [ye];omega
 have e2:decide (0<=(Z:Int))=true:=by rw [ye];omega
 have e3:decide ((C:Int)<1152921504606845789)=true:=by have:=P.out.1;rw [ye];omega
 have e4:decide ((Z:Int)<1152921504606845789)=true:=by have:=P.out.2;rw [ye];omega
 unfold verE;rw [VG.out,VA.out,VH.out,VB.out,e1,e2,e3,e4];simp only [xW,uq];rw [Bool.eq_iff_iff,ye,<-ab];show ((C:Int) == (y:Int))=true ↔ _;rw [yW];omega
theorem pne (g a h b c z v w) (m:pab g) (j:pab a) (o:pab h) (p:pab b) (r:pab c) (n:pab z) (d:Tabs w) (k:verE g a h b c z=v) :
 Calls prog 219 #[.int .i64 g,.int .i64 a,.int .i64 h,.int .i64 b,.agg #[.int .i64 c,.int .i64 z]] w (fun e w'=>e=.returned (.bool v)/\Uq w w'):=by
 refine (pgt g a h b c z w m j o p r n d).mono ?_;rintro e w' ⟨x,f,rfl,q⟩;exact ⟨by rw [f.out,k],q⟩
theorem phv (x g h w) (u:-9223372036854775808<=x/\x<=9223372036854775807) (o:memN g) (q:memN h) :
 Calls prog 73 #[.int .i64 x,.int .i64 (g:Int),.int .i64 (h:Int)] w (psK (pnc (expN x) g h (pht (expN x) g h)) (prd (expN x) g h (pht (expN x) g h)) w):=by
 have d:g<2305843009213691579:=o.2.1;have f:h<2305843009213691579:=q.2.1;have K:=ah ((pbG g).2 o);have S:=ah ((pbG h).2 q);clear o q;have h0:=ProofAt.start w 0 0;go_in;go_wp2_with fail;refine (pcX g true _ (ipE d) K.out).mono ?_;rintro e A ⟨rfl,rfl⟩;go_wp2_with fail;refine (pcX h true _ (ipE f) S.out).mono ?_;rintro e A ⟨rfl,rfl⟩;go_wp2_with fail;refine (pez x _ u).mono ?_;rintro e A ⟨X,T,hX,rfl,rfl⟩;have j:=pup (w.alloc (.cells #[.int .i64 0,.int .i64 0] 46)) X g h 3 (iqE hX) (ipE d) (ipE f);have B:(w.alloc (.cells #[.int .i64 0,.int .i64 0] 46)).heap.size=w.heap.size+1:=by simp
 rw [B] at j;have n:=ah j;have h1:=h0.upd (uR.alloc (.cells #[X,g,h] 3));clear j h0 B;have W:(ByteArray.mk #[110,111,110,99,101,47]).size=6:=rfl;go_wp2_with fail;refine (phu [(X:Int),(g:Int),(h:Int)] _ _ 3 _ n.out rfl (by omega)).mono ?_;rintro e N ⟨y,Q,P,rfl,E⟩;have C:=h1.upd E;have a:=pe0 n.out.2.2 3;have aa:y.size<=63:=by
  have Y:[(X:Int),(g:Int),(h:Int)].take 3=[(X:Int),(g:Int),(h:Int)]:=rfl;rw [Y] at a;simp only [xF,zG] at a;omega
 clear h1 a n P;go_wp2_with fail;refine (pbS _ N (by rw [xT,W];omega)).mono ?_;rintro e U ⟨k,D,M,rfl,G⟩;have t:k=pht (expN x) g h:=by
  rw [D.out,pae,Q.out,pht,pfk,pme,T.out];rfl
 have r:=ah t;have R:=C.upd G;clear t D C;go_wp2_with fail;refine (pid x g h k U u d f M).mono ?_;rintro e w4 ⟨c,z,J,O,hc,Z,rfl,F⟩;have m:=R.upd F;obtain ⟨k0,H⟩:=m.cells;obtain ⟨f0,f1⟩:=m.free;go_wp2_with fail;refine xI (v:=.agg #[c,z]) (by simp [results,Tryz.results73,go_sem,k0,H]) rfl ⟨c,z,?_,?_,hc,Z,rfl,?_⟩
 · show _=_;rw [J.out,r.out]
 · show _=_;rw [O.out,r.out]
 · exact (m.up.setNew (p:=⟨_,_,none⟩) (xj _) _).setNew (p:=⟨_,_,none⟩) (xj _) _
end Go.Proofs.YtkhjolbbpdaplaaGreatDoor
