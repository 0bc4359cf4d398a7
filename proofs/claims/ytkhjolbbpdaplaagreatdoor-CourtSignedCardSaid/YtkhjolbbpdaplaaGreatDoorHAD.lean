/- sign.Key, sign.Sign, sign.Verify and what follows. -/
import Derived.Test.YtkhjolbbpdaplaaGreatDoorHAC
import Derived.Lib.AtoiAllCases
import Derived.Lib.IndexMore
import Derived.Test.YtkhjolbbpdaplaaGreatDoorCards
import Derived.Test.YtkhjolbbpdaplaaGreatDoorTie
import Derived.Lib.SmallJoins
import Derived.Deep.DeepWitnessRowRef
import Derived.Stop.LaidErr
import Derived.LaidMore
import Derived.HandedShaped
namespace Go.Proofs.YtkhjolbbpdaplaaGreatDoor
set_option maxHeartbeats 1000000
open Go.RowKit Go.Proofs.Tryz
set_option maxRecDepth 100000
abbrev xe:=@List.getElem?_eq_some_iff
abbrev xm:=@beq_eq_false_iff_ne
abbrev xr:=@List.length_append
abbrev x9:=@World.ownsRow_nil
abbrev yi:=@ByteArray.toList_eq
abbrev yn:=@UInt8.toNat_ofNat'
abbrev yo:=@List.mem_cons
abbrev yp:=@Option.map_eq_some_iff
abbrev yq:=@List.mem_append
abbrev yz:=@Option.some.injEq
abbrev yU:=@Lib.atoiAll_bounds
abbrev yY:=@Prod.mk.injEq
abbrev zl:=@List.mem_singleton
abbrev zL:=@List.getElem?_drop
def expN (x:Int):Nat:=(x % 1152921504606845789).toNat
theorem pf2 (x):(expN x:Int)=x % 1152921504606845789:=by unfold expN;omega
theorem phS (x):expN x<1152921504606845789:=by unfold expN;omega
theorem peb {n} (h:n<Qn):expN (n:Int)=n:=by
 have a:n<1152921504606845789:=h;unfold expN;omega
def pto (m k r s:Nat) (w:World) (e:Ending) (w':World):Prop:=∃ a b:Nat,Hid (a=r)/\Hid (b=s)/\a<m/\b<k/\e=.returned (.tuple #[a,b])/\Upd [] [] w w'
def pse (r s:Nat) (w:World) (e:Ending) (w':World):Prop:=∃ a b:Nat,Hid (a=r)/\Hid (b=s)/\a<2305843009213691579/\b<1152921504606845789/\e=.returned (.agg #[a,b])/\Upd [] [] w w'
theorem pfd (n:Nat) (w) (a:n<1152921504606845789):Calls prog 117 #[n] w (fun e w'=>∃ r,Hid (r=posN n)/\0<r/\r<1152921504606845789/\e=.returned (.int .i64 (r:Int))/\w=w'):=by
 refine (piL n w).mono ?_;rintro e w' ⟨rfl,rfl⟩;exact ⟨_,rfl,plB n,pkx a,rfl,rfl⟩
theorem psf (s w) (x:s.size<=140737488355000) (j:Tabs w) :
 Calls prog 49 #[.string s] w (pto 1152921504606845789 2305843009213691579 (keyN (bs s)) (gP (keyN (bs s))) w):=by
 go_in;go_wp2_with fail;have a:=pue w ⟨#[107]⟩ s 9;have f:Uq w (w.alloc (.cells #[.string ⟨#[107]⟩,.string s] 9)):=uR.alloc _;have n:=ah a;have d:Hid ((([⟨#[107]⟩,s]:List ByteArray).map bs).flatten=[107] ++ bs s):=by
  show _=_;simp;rfl
 clear a;refine (pea [⟨#[107]⟩,s] w.heap.size _ _ n.out (by simp) (by simp) (by rw [d.out];simp [pac];omega) (j.upd f)).mono ?_;rintro e g ⟨c,q,u,rfl,m⟩;go_wp2_with fail;refine (pfd c g u).mono ?_;rintro e A ⟨r,t,B,p,rfl,rfl⟩;go_wp2_with fail;refine (pen r g (by omega)).mono ?_;rintro e z ⟨y,o,v,rfl,k⟩;go_wp2;go_ret2;have h:r=keyN (bs s):=by
  rw [t.out,q.out,d.out,keyN]
 exact ⟨r,y,h,by show _=_;rw [o.out,h],p,v,rfl,(f.trans m).trans k⟩
theorem plE (x t w) (hx:-9223372036854775808<=x/\x<=9223372036854775807) (ht:t.size<=140737488355000) (m:Tabs w) :
 Calls prog 50 #[.int .i64 x,.string t] w (pse (gP (nonceN (expN x) (bs t))) (sWith (expN x) (nonceN (expN x) (bs t)) (bs t)) w):=by
 obtain ⟨X,h⟩:=az (expN x);have R:=phS x;rw [<-h] at R;rw [<-h];have HX:=ah h;clear h;go_in;go_wp2_with fail;have j:Uq w (w.alloc (.cells #[.int .i64 0,.int .i64 0] 39)):=uR.alloc _;refine (pn7 x 0 1152921504606845789 _ hx (by omega) (by omega)).mono ?_;rintro e G ⟨x1,E,aj,af,rfl,rfl⟩;have S:x1=(X:Int):=by rw [E.out,HX.out,pf2,Int.add_zero]
 subst S;have F:(w.alloc (.cells #[.int .i64 0,.int .i64 0] 39)).heap[w.heap.size]? =some (.cells #[.int .i64 0,.int .i64 0] 39 (0,0)):=xi _ _;have P:=ah F;clear F E;have hg:w.heap.size<(w.alloc (.cells #[.int .i64 0,.int .i64 0] 39)).heap.size:=by simp
 generalize w.alloc (.cells #[.int .i64 0,.int .i64 0] 39)=G at *;go_wp2_with fail;refine (pf0 X G (by omega)).mono ?_;rintro e f ⟨g,M,ai,rfl,u⟩;go_wp2_with fail;have C:=puf f ⟨#[110]⟩ g t 9;have A:Uq f (f.alloc (.cells #[.string ⟨#[110]⟩,.string g,.string t] 9)):=uR.alloc _;have aa:=ah C;have z:Hid ((([⟨#[110]⟩,g,t]:List ByteArray).map bs).flatten=[110] ++ len8 X ++ bs t):=by
  show _=_;simp [M.out];rfl
 clear C;refine (pea [⟨#[110]⟩,g,t] f.heap.size _ _ aa.out (by simp) (by simp) (by rw [z.out];simp [pac,pau];omega) (m.upd (j.trans (u.trans A)))).mono ?_;rintro e K ⟨c,HC,hc,rfl,N⟩;go_wp2_with fail;refine (pfd c K hc).mono ?_;rintro e w5 ⟨n,HN,ag,hn,rfl,rfl⟩;have D:n=nonceN X (bs t):=by rw [HN.out,HC.out,z.out,nonceN]
 have q:=ah D;clear D;go_wp2_with fail;refine (pen n K (by omega)).mono ?_;rintro e w6 ⟨r,H,hr,rfl,Z⟩;go_wp2_with fail;refine (pen X w6 (by omega)).mono ?_;rintro e w7 ⟨y,HY,hy,rfl,O⟩;have B:=((u.trans A).trans N).trans (Z.trans O);go_wp2_with fail;refine (peo r y t w7 (by omega) (by omega) ht (m.upd (j.trans B))).mono ?_;rintro e d ⟨c2,W,ad,rfl,U⟩;have o:=B.trans U;go_wp2_with fail;refine (mul_any _ _ _ _ (by omega) (by omega) (by omega)).mono ?_;rintro e Y ⟨m1,Q,ac,ak,rfl,rfl⟩;go_wp2_with fail;refine (pn7 _ _ _ _ (by omega) (by omega) (by omega)).mono ?_;rintro e Y ⟨J,T,ab,al,rfl,rfl⟩;obtain ⟨s,rfl⟩:∃ s:Nat,J=(s:Int):=⟨J.toNat,by omega⟩
 have a:d.heap[w.heap.size]? =some (.cells #[.int .i64 0,.int .i64 0] 39 (0,0)):=by rw [o.block _ hg (by simp)];exact P.out
 have k0:d.cell? ⟨w.heap.size,0,none⟩=some (.int .i64 0):=by rw [xa _ _ _ _ _ _ a];rfl
 have k1:d.cell? ⟨w.heap.size,1,none⟩=some (.int .i64 0):=by rw [xa _ _ _ _ _ _ a];rfl
 have f0:d.frozen? ⟨w.heap.size,0,none⟩=false:=xp _ _ _ _ _ a;have f1:d.frozen? ⟨w.heap.size,1,none⟩=false:=xp _ _ _ _ _ a;clear a;go_wp2_with fail;refine xI (v:=.agg #[r,s]) (by simp [results,Tryz.results50,go_sem,k0,k1]) rfl ⟨r,s,?_,?_,hr,by omega,rfl,?_⟩
 · show _=_;rw [H.out,q.out]
 · show _=_;have k:=T.out;rw [Q.out,W.out,H.out,HY.out,q.out] at k;rw [Int.add_emod_emod] at k;rw [sWith];have h3:((s:Nat):Int)=(((nonceN X (bs t)+X * pdr (gP (nonceN X (bs t))) (gP X) (bs t)) % Qn:Nat):Int):=by
    rw [k];simp [Qn]
   omega
 · exact ((j.trans o).setNew (p:=⟨_,_,none⟩) (xj _) _).setNew (p:=⟨_,_,none⟩) (xj _) _
theorem pbw (a b w) (f:-9223372036854775808<=a/\a<=9223372036854775807) (h:memB a=b) :
 Calls prog 44 #[.int .i64 a] w (fun e w'=>e=.returned (.bool b)/\Uq w w'):=by
 refine (pmQ a w f).mono ?_;rintro e w' ⟨r,d,rfl,c⟩;exact ⟨by rw [d.out,h],c⟩
structure SigAt (w wp:World) (r s:Int):Prop where
 up:Upd [] [] w wp
 row:wp.heap[w.heap.size]? =some (.cells #[r,s] 39 (0,0))
theorem SigAt.start (w r s):SigAt w (w.alloc (.cells #[.int .i64 r,.int .i64 s] 39)) r s:=⟨uR.alloc _,xi _ _⟩
theorem SigAt.upd {w c a r s} (h:SigAt w c r s) (u:Uq c a):SigAt w a r s :=
 ⟨h.up.trans u,by rw [u.block _ (xq.1 h.row).1 (by simp)];exact h.row⟩
theorem SigAt.cells {w a r s} (h:SigAt w a r s):a.cell? ⟨w.heap.size,0,none⟩=some (.int .i64 r)/\a.cell? ⟨w.heap.size,1,none⟩=some (.int .i64 s) :=
 ⟨by rw [xa _ _ _ _ _ _ h.row];rfl,by rw [xa _ _ _ _ _ _ h.row];rfl⟩
theorem pdM (p t r s w) (o:-9223372036854775808<=p/\p<=9223372036854775807) (u:-9223372036854775808<=r/\r<=9223372036854775807) (hs:-9223372036854775808<=s/\s<=9223372036854775807) (ht:t.size<=140737488355000) (K:Tabs w) :
 Calls prog 11 #[.int .i64 p,.string t,.agg #[.int .i64 r,.int .i64 s]] w (MkB (verB p (bs t) r s) w):=by
 have y:Uq w (w.alloc (.cells #[r,s] 39)):=uR.alloc _;have B:(w.alloc (.cells #[r,s] 39)).heap[w.heap.size]? =some (.cells #[r,s] 39 (0,0)):=xi _ _;have A:=ah B;clear B;have Y:w.heap.size<(w.alloc (.cells #[r,s] 39)).heap.size:=by simp
 cases hm1:memB p with
 | false =>
  have k:Hid (verB p (bs t) r s=false):=by show _=_;simp [verB,hm1]
  have j:=ah hm1;clear hm1;go_in;go_wp2_with fail;refine (pbw p false _ o j.out).mono ?_;rintro e n ⟨rfl,a⟩;go_wp2;go_ret;exact ⟨_,k.out.symm,rfl,y.trans a⟩
 | true =>
 have j:=ah hm1
 cases hm2:memB r with
 | false =>
  have k:Hid (verB p (bs t) r s=false):=by show _=_;simp [verB,hm2]
  have m:=ah hm2;clear hm1 hm2;go_in;go_wp2_with fail;refine (pbw p true _ o j.out).mono ?_;rintro e n ⟨rfl,a⟩;have z:n.heap[w.heap.size]? =some (.cells #[r,s] 39 (0,0)):=by rw [a.block _ Y (by simp)];exact A.out
  have f:n.cell? ⟨w.heap.size,0,none⟩=some (.int .i64 r):=by rw [xa _ _ _ _ _ _ z];rfl
  clear z;go_wp2_with fail;refine (pbw r false _ u m.out).mono ?_;rintro e q ⟨rfl,h⟩;go_wp2;go_ret;exact ⟨_,k.out.symm,rfl,(y.trans a).trans h⟩
 | true =>
 obtain ⟨P,rfl,v⟩:=pc3 hm1;obtain ⟨R,rfl,x⟩:=pc3 hm2;have m:=ah hm2;clear hm1 hm2;have ac:P<2305843009213691579:=v.2.1;have aa:R<2305843009213691579:=x.2.1;have ai:=ah (xf v x);clear v x;by_cases al:s<0
 · have k:Hid (verB (P:Int) (bs t) (R:Int) s=false):=by
    show _=_;have:decide (0<=s)=false:=by rw [zi];omega
    simp [verB,this]
   go_in;go_wp2_with fail;refine (pbw P true _ o j.out).mono ?_;rintro e n ⟨rfl,a⟩;have h1:=(SigAt.start w R s).upd a;obtain ⟨f,g⟩:=h1.cells;go_wp2_with fail;refine (pbw R true _ u m.out).mono ?_;rintro e q ⟨rfl,h⟩;have d:=h1.upd h;clear h1 f g;obtain ⟨f,g⟩:=d.cells;go_wp2;go_ret;exact ⟨_,k.out.symm,rfl,d.up⟩
 by_cases aj:1152921504606845788<s
 · have k:Hid (verB (P:Int) (bs t) (R:Int) s=false):=by
    show _=_;have:decide (s<1152921504606845789)=false:=by rw [zi];omega
    simp [verB,this]
   go_in;go_wp2_with fail;refine (pbw P true _ o j.out).mono ?_;rintro e n ⟨rfl,a⟩;have h1:=(SigAt.start w R s).upd a;obtain ⟨f,g⟩:=h1.cells;go_wp2_with fail;refine (pbw R true _ u m.out).mono ?_;rintro e q ⟨rfl,h⟩;have d:=h1.upd h;clear h1 f g;obtain ⟨f,g⟩:=d.cells;go_wp2;go_ret;exact ⟨_,k.out.symm,rfl,d.up⟩
 obtain ⟨T,rfl⟩:∃ T:Nat,s=(T:Int):=⟨s.toNat,by omega⟩
 go_in;go_wp2_with fail;refine (pbw P true _ o j.out).mono ?_;rintro e n ⟨rfl,a⟩;have h1:=(SigAt.start w R T).upd a;obtain ⟨f,g⟩:=h1.cells;go_wp2_with fail;refine (pbw R true _ u m.out).mono ?_;rintro e q ⟨rfl,h⟩;have d:=h1.upd h;clear h1 f g;obtain ⟨f,g⟩:=d.cells;go_wp2_with fail;refine (peo R P t q (by omega) (by omega) ht (K.upd d.up)).mono ?_;rintro e w3 ⟨c,U,hc,rfl,O⟩;have F:=d.upd O;clear d f g;have C:=F.upd uR.drew;have S:=C.cells;go_wp2_with fail;clear F A;go_region_held3 (fun G=>G.cell? ⟨w.heap.size,0,none⟩=some (.int .i64 (R:Int))/\G.cell? ⟨w.heap.size,1,none⟩=some (.int .i64 (T:Int))) (first | exact S | assumption)
  (first
   | (go_at_call 46;((with_reducible refine (pen T _ (by omega)).mono ?_);rintro e J ⟨y1,Q,ak,rfl,hq⟩;have H:=C.upd hq;have kq:=H.cells;clear hq))
   | (go_at_call 48;((with_reducible refine (phP P 2305843009213691579 c _ (by omega) (by omega) (by omega)).mono ?_);rintro e J ⟨Z,N,ab,af,rfl,hq⟩;have E:=H.upd hq;have kq:=E.cells;clear hq))
   | (go_at_call 47;((with_reducible refine (mul_any R Z 2305843009213691579 _ (by omega) (by omega) (by omega)).mono ?_);rintro e J ⟨y3,M,ag,ad,rfl,rfl⟩)))
 go_wp2;go_ret;refine ⟨_,?_,rfl,E.up⟩;show _=_;have D:=M.out;rw [N.out,U.out] at D;have W:powZ 4 T 2305843009213691579=((gP T:Nat):Int):=pcn 4 T;have X:decide (0<=(T:Int))=true:=by rw [ye];omega
 have e4:decide ((T:Int)<1152921504606845789)=true:=by rw [ye];omega
 unfold verB;rw [j.out,m.out,X,e4,xW,xW,xW,W,<-D,<-Q.out];rfl
end Go.Proofs.YtkhjolbbpdaplaaGreatDoor

namespace Go.Proofs.YtkhjolbbpdaplaaGreatDoor
set_option maxHeartbeats 1000000
set_option maxRecDepth 100000
open Go
theorem pg9 (c d) (e:c.toNat=48+d) (f:d<10):∀ l a v,Lib.parseUint10 a l=.ok v->v<1844674407370955162->v * 10+d<18446744073709551616->Lib.parseUint10 a (l ++ [c])=.ok (v * 10+d)
 | [],a,v,h,h1,h2=>by
  simp only [Lib.parseUint10] at h
  injection h with h
  subst h
  simp only [zk,Lib.parseUint10]
  rw [xH (by omega),yy (by omega),yy (by omega),show c.toNat - 48=d by omega]
 | x :: r,a,v,h,h1,h2=>by
  simp only [yA,Lib.parseUint10] at h ⊢
  split at h
  · rename_i hx
    rw [xH hx]
    split at h
    · cases h
    · rename_i hy
      rw [yy hy]
      split at h
      · cases h
      · rename_i hz
        rw [yy hz]
        exact pg9 c d e f r _ v h h1 h2
  · cases h
theorem pbR {d} (h:d<10):(UInt8.ofNat (48+d)).toNat=48+d:=by
 rw [yn];omega
theorem piM:∀ u,u<18446744073709551616->Lib.parseUint10 0 (Lib.decDigits u)=.ok u:=by
 intro u
 induction u using Nat.strongRecOn with
 | ind u ih =>
  intro a;rw [Lib.decDigits];by_cases h:u<10
  · rw [dif_pos h];simp only [Lib.parseUint10];rw [pbR h,xH (by omega),yy (by omega),yy (by omega)];congr 1;omega
  · rw [dif_neg h];have:=pg9 _ (u % 10) (pbR (by omega)) (by omega) (Lib.decDigits (u / 10)) 0 (u / 10) (ih (u / 10) (by omega) (by omega)) (by omega) (by omega);rw [this];congr 1;omega
theorem pcN:∀ u,∀ c∈Lib.decDigits u,48<=c.toNat/\c.toNat<=57:=by
 intro u
 induction u using Nat.strongRecOn with
 | ind u ih =>
  intro c hc;rw [Lib.decDigits] at hc;by_cases h:u<10
  · rw [dif_pos h] at hc;simp only [zl] at hc;subst hc;rw [pbR h];omega
  · rw [dif_neg h] at hc;simp only [yq,zl] at hc;rcases hc with hc | hc
    · exact ih (u / 10) (by omega) c hc
    · subst hc;rw [pbR (by omega)];omega
theorem plF (u):Lib.decDigits u≠[]:=by
 rw [Lib.decDigits];split <;> simp
def pab (n:Int):Prop:=-9223372036854775808<=n/\n<=9223372036854775807
theorem paI (n) (h:pab n):Lib.atoiAll (Lib.itoa n)=.ok n:=by
 unfold pab at h;unfold Lib.itoa;split
 · rename_i hn;rw [Lib.atoiAll_minus,Lib.parseMag,yy (plF _),piM _ (by omega),Lib.signed,yy (by omega)];congr 1;omega
 · rename_i hn;obtain ⟨c,r,a⟩:∃ c r,Lib.decDigits n.toNat=c :: r:=by
    cases hd:Lib.decDigits n.toNat with
    | nil=>exact absurd hd (plF _)
    | cons c r=>exact ⟨c,r,rfl⟩
   have d:=pcN n.toNat c (by rw [a];simp);rw [a,Lib.atoiAll_plain c r (by omega) (by omega),<-a,Lib.parseMag,yy (plF _),piM _ (by omega),Lib.signless,yy (by omega)];congr 1;omega
theorem paQ {a b} (d:pab a) (c:pab b) (h:Lib.itoa a=Lib.itoa b):a=b:=by
 have h1:=paI a d;rw [h,paI b c] at h1;injection h1 with h1;exact h1.symm
theorem pob (n):(46:UInt8) ∉ Lib.itoa n:=by
 intro h;unfold Lib.itoa at h;split at h
 · simp only [yo] at h;rcases h with h | h
   · cases h
   · have:=pcN _ _ h;have e:(46:UInt8).toNat=46:=rfl;omega
 · have:=pcN _ _ h;have e:(46:UInt8).toNat=46:=rfl;omega
theorem peL:∀ k u,u<10 ^ (k+1)->(Lib.decDigits u).length<=k+1
 | 0,u,h=>by
  rw [Lib.decDigits,dif_pos (by simpa using h)];simp
 | k+1,u,h=>by
  rw [Lib.decDigits]
  split
  · simp
  · have:=peL k (u / 10) (by rw [x8] at h;omega)
    simp;omega
theorem itoa_len (n) (h:pab n):(Lib.itoa n).length<=20:=by
 unfold pab at h;unfold Lib.itoa;have e:(10:Nat) ^ 19=10000000000000000000:=by decide
 split
 · have:=peL 18 n.natAbs (by rw [e];omega);simp;omega
 · have:=peL 18 n.toNat (by rw [e];omega);omega
theorem peM (c):∀ a b,c ∉ a->Lib.index (a ++ c :: b) [c]=(a.length:Int)
 | [],b,_=>by simp [Lib.index]
 | x :: a,b,h=>by
  have d:c≠x:=fun e=>h (by simp [e])
  have g:=peM c a b (fun e=>h (by simp [e]))
  simp only [yA,Lib.index]
  rw [g]
  have h1:([c]:List UInt8).isPrefixOf (x :: (a ++ c :: b))=false:=by simp [List.isPrefixOf,d]
  have f:((a.length:Int) == -1)=false:=by rw [xm];omega
  rw [h1,f]
  simp
theorem pf3 (c):∀ a,c ∉ a->Lib.index a [c]=-1
 | [],_=>rfl
 | x :: a,h=>by
  have d:c≠x:=fun e=>h (by simp [e])
  have f:=pf3 c a (fun e=>h (by simp [e]))
  simp only [Lib.index]
  rw [f]
  have h1:([c]:List UInt8).isPrefixOf (x :: a)=false:=by simp [List.isPrefixOf,d]
  rw [h1]
  simp
theorem pbH (c a b) (h:c ∉ a):Lib.cut (a ++ c :: b) [c]=(a,b,true):=by
 unfold Lib.cut;rw [peM c a b h,xH (by omega),xW];have h1:(a ++ c :: b).take a.length=a:=List.take_left;have d:(a ++ c :: b).drop (a.length+[c].length)=b:=by
  rw [show a ++ c :: b=(a ++ [c]) ++ b by simp,show a.length+[c].length=(a ++ [c]).length by simp];exact List.drop_left
 rw [h1,d]
theorem pqF (c a) (h:c ∉ a):Lib.cut a [c]=(a,[],false):=by
 unfold Lib.cut;rw [pf3 c a h,yy (by omega)]
def pb4 (a b:Int):List UInt8:=Lib.itoa a ++ [46] ++ Lib.itoa b
theorem piN {a b} (d:pab a) (c:pab b):(pb4 a b).length<=41:=by
 have:=itoa_len a d;have:=itoa_len b c;simp [pb4];omega
theorem pf4 (a b):Lib.cut (pb4 a b) [46]=(Lib.itoa a,Lib.itoa b,true):=by
 have:pb4 a b=Lib.itoa a ++ 46 :: Lib.itoa b:=by simp [pb4]
 rw [this,pbH 46 _ _ (pob a)]
theorem poc {a b c d} (j:pab a) (e:pab b) (g:pab c) (f:pab d) (h:pb4 a b=pb4 c d):a=c/\b=d:=by
 have h1:=pf4 a b;rw [h,pf4 c d] at h1;simp only [yY,uZ] at h1;exact ⟨paQ j g h1.1.symm,paQ e f h1.2.symm⟩
def piO (l:List UInt8):Option (Int × Int) :=
 match Lib.atoiAll (Lib.cut l [46]).1,Lib.atoiAll (Lib.cut l [46]).2.1 with
 | .ok a,.ok b=>if pb4 a b=l then some (a,b) else none
 | _,_=>none
theorem pmR {a b} (d:pab a) (c:pab b):piO (pb4 a b)=some (a,b):=by
 unfold piO;rw [pf4,paI a d,paI b c];simp
def piP (l:List UInt8):Int × Int × Bool:=match piO l with | some (a,b)=>(a,b,true) | none=>(0,0,false)
end Go.Proofs.YtkhjolbbpdaplaaGreatDoor

namespace Go.Proofs.YtkhjolbbpdaplaaGreatDoor
set_option maxHeartbeats 1000000
open Go.RowKit Go.Proofs.Tryz
set_option maxRecDepth 100000
theorem pqG (c w):Uq w (Go.Sort.grow w c) :=
 ⟨rfl,rfl,rfl,by simp [Go.Sort.grow],fun k a _=>by simp [Go.Sort.grow,Array.getElem?_append,a],fun _ a=>absurd a (by simp)⟩
theorem paA (n w) (a:pab n) (c:Tabs w):Calls prog 54 #[.int .i64 n] w (MkS (Lib.itoa n) w):=by
 refine (Tryz.strconv_Itoa n a.1 a.2 w c.p).mono ?_;rintro e w' ⟨rfl,k,d,rfl⟩;exact ⟨⟨(Lib.itoa n).toArray⟩,rfl,xj _,rfl,((Upd.refl [] w).drewN k).trans (pqG d _)⟩
theorem plG (r s w) (j:pab r) (k:pab s) (d:Tabs w):Calls prog 109 #[.agg #[.int .i64 r,.int .i64 s]] w (MkS (pb4 r s) w):=by
 have h1:=SigAt.start w r s;have a:=h1.upd uR.drew;have p:=a.cells;have D:=itoa_len r j;have B:=itoa_len s k;go_in;go_wp2_with fail;clear h1;go_region_held3 (fun m=>m.cell? ⟨w.heap.size,0,none⟩=some (.int .i64 r)/\m.cell? ⟨w.heap.size,1,none⟩=some (.int .i64 s)) (first | exact p | assumption)
  (first
   | (go_at_call 54;((with_reducible refine (paA r _ j (d.upd a.up)).mono ?_);rintro e o ⟨h,g,A,rfl,hq⟩;have z:¬ 9223372036854775807<h.size+1:=(by omega);have c:=a.upd hq;have u:=c.cells;clear hq))
   | (go_at_call 54;((with_reducible refine (paA s _ k (d.upd c.up)).mono ?_);rintro e o ⟨q,f,y,rfl,hq⟩;have C:¬ 9223372036854775807<h.size+1+q.size:=(by omega);have n:=c.upd hq;have u:=n.cells;clear hq)))
 go_wp2;go_ret;refine ⟨_,?_,?_,rfl,n.up⟩
 · show _=_;rw [pae,pae,g.out,f.out];rfl
 · have t:=paF g.out;have x:=paF f.out;have v:(ByteArray.mk #[46]).size=1:=rfl;simp [ByteArray.size_append,pb4,t,x,v];omega
theorem pod (w e t):Uq w (Lib.bytesWorld w e t):=by
 exact paE (Lib.bytesWorld_below _ _ _)
theorem pco (s v w) (c:s.size<=140737488355000) (h:Lib.atoiAll (bs s)=.ok v) :
 Calls prog 105 #[.string s] w (fun e w'=>e=.returned (.tuple #[.int .i64 v,.nilIface])/\Uq w w'):=by
 refine (Tryz.strconv_Atoi_ok s (by omega) v h w).mono ?_;rintro e w' ⟨rfl,a⟩;refine ⟨rfl,?_⟩;rcases a with rfl | ⟨t,rfl⟩
 · exact Upd.refl _ _
 · exact pod _ _ _
def psg (w:World) (e:Ending) (w':World):Prop:=∃ (v:Int) (N:Nat),e=.returned (.tuple #[v,.iface 253 (.pointer (some ⟨N,0,none⟩))])/\pab v/\Upd [] [] w w'
theorem pbX (s w) (g:s.size<=140737488355000) (h:∀ v,Lib.atoiAll (bs s)≠.ok v) (f:Tabs w) :
 Calls prog 105 #[.string s] w (psg w):=by
 cases hq:Lib.atoiAll (bs s) with
 | ok v=>exact absurd hq (h v)
 | «syntax» =>
  obtain ⟨d,p,a⟩:=f.es;refine (Tryz.strconv_Atoi_syntax_var s (by omega) hq d p w a).mono ?_;rintro e w' ⟨N,rfl,_,_,c⟩;exact ⟨0,N,rfl,⟨by omega,by omega⟩,paE c⟩
 | range =>
  obtain ⟨d,p,a⟩:=f.er;refine (Tryz.strconv_Atoi_range_var s (by omega) hq d p w a).mono ?_;rintro e w' ⟨N,rfl,_,_,c⟩;refine ⟨_,N,rfl,?_,paE c⟩;unfold Lib.atoiSat pab;split <;> omega
theorem poe (s w) (d:s.size<=140737488355000) (f:Tabs w) :
 Calls prog 105 #[.string s] w (fun e w'=>∃ v j,e=.returned (.tuple #[.int .i64 v,j])/\pab v/\Uq w w'):=by
 by_cases h:∃ v,Lib.atoiAll (bs s)=.ok v
 · obtain ⟨v,c⟩:=h;exact (pco s v w d c).mono fun e w' ⟨h1,a⟩=>⟨v,_,h1,yU c,a⟩
 · exact (pbX s w d (fun v e=>h ⟨v,e⟩) f).mono fun e w' ⟨v,N,h1,a,g⟩=>⟨v,_,h1,a,g⟩
theorem SigAt.free {w a r s} (h:SigAt w a r s):a.frozen? ⟨w.heap.size,0,none⟩=false/\a.frozen? ⟨w.heap.size,1,none⟩=false :=
 ⟨xp _ _ _ _ _ h.row,xp _ _ _ _ _ h.row⟩
theorem paT {a b} (h:bs a=bs b):a=b:=by
 cases a;cases b
 simp only [bs,Array.toList_inj] at h;rw [h]
theorem pdt (s w) (d:s.size<=4000000000) (a:Tabs w) :
 Calls prog 173 #[.string s,.string ⟨#[46]⟩] w (fun e w'=>∃ l r b,Hid (bs l=(Lib.cut (bs s) [46]).1)/\Hid (bs r=(Lib.cut (bs s) [46]).2.1)/\l.size<=s.size/\r.size<=s.size/\e=.returned (.tuple #[.string l,.string r,.bool b])/\Uq w w'):=by
 obtain ⟨m,c⟩:=a.mc;refine (Tryz.strings_Cut s ⟨#[46]⟩ m w (by omega) c).mono ?_;rintro e w' ⟨rfl,n,rfl⟩;have h:(Lib.cut (bs s) [46]).1.length<=s.size/\(Lib.cut (bs s) [46]).2.1.length<=s.size:=by
  unfold Lib.cut;split
  · simp [pac];omega
  · simp [pac]
 exact ⟨⟨(Lib.cut (bs s) [46]).1.toArray⟩,⟨(Lib.cut (bs s) [46]).2.1.toArray⟩,_,rfl,rfl,h.1,h.2,rfl,uR.drewN n⟩
def ptp (l:List UInt8) (w:World) (e:Ending) (w':World):Prop:=∃ (a b:Int) (ok:Bool),Hid (piP l=(a,b,ok))/\pab a/\pab b/\e=.returned (.tuple #[.agg #[a,b],.bool ok])/\Upd [] [] w w'
theorem pof {l} (h:∀ v,Lib.atoiAll (Lib.cut l [46]).1≠.ok v):piP l=(0,0,false):=by
 have:piO l=none:=by
  unfold piO;split
  · rename_i x y hx hy;exact absurd hx (h x)
  · rfl
 rw [piP,this]
theorem pog {l} (h:∀ v,Lib.atoiAll (Lib.cut l [46]).2.1≠.ok v):piP l=(0,0,false):=by
 have:piO l=none:=by
  unfold piO;split
  · rename_i x y hx hy;exact absurd hy (h y)
  · rfl
 rw [piP,this]
theorem pqH {l a b} (h1:Lib.atoiAll (Lib.cut l [46]).1=.ok a) (c:Lib.atoiAll (Lib.cut l [46]).2.1=.ok b):piP l=if pb4 a b=l then (a,b,true) else (0,0,false):=by
 rw [piP,piO,h1,c];dsimp only;split
 · rename_i x y h;split at h
   · rename_i hp;rw [xH hp]
     cases h;rfl
   · cases h
 · rename_i h;split at h
   · cases h
   · rename_i hp;rw [yy hp]
theorem pqI (s w) (J:s.size<=4000000000) (h:Tabs w):Calls prog 107 #[.string s] w (ptp (bs s) w):=by
 have h1:=SigAt.start w 0 0;by_cases k:∃ v,Lib.atoiAll (Lib.cut (bs s) [46]).1=.ok v
 case neg =>
  have P:∀ v,Lib.atoiAll (Lib.cut (bs s) [46]).1≠.ok v:=fun v e=>k ⟨v,e⟩;have X:=ah P;clear k P;go_in;go_wp2_with fail;refine (pdt s _ J (h.upd h1.up)).mono ?_;rintro e A ⟨l,r,b,t,C,k,o,rfl,u⟩;have g:=h1.upd u;clear h1;go_wp2_with fail;refine (pbX l A (by omega) (by rw [t.out];exact X.out) (h.upd g.up)).mono ?_;rintro e B ⟨v1,N1,rfl,ac,z⟩;have f:=g.upd z;clear g;go_wp2_with fail;refine (poe r B (by omega) (h.upd f.up)).mono ?_;rintro e M ⟨K,ev,rfl,aa,x⟩;have m:=f.upd x;clear f;have d:=m.upd (uR.alloc (.cells #[v1,K] 39));obtain ⟨q,j⟩:=d.cells;obtain ⟨U,f1⟩:=d.free;go_wp2_with fail;refine xI (v:=.tuple #[.agg #[.int .i64 0,.int .i64 0],.bool false]) (by simp [results,Tryz.results107,go_sem,q,j]) rfl ⟨0,0,false,pof X.out,⟨by omega,by omega⟩,⟨by omega,by omega⟩,rfl,?_⟩;exact (d.up.setNew (p:=⟨_,_,none⟩) (xj _) _).setNew (p:=⟨_,_,none⟩) (xj _) _
 case pos =>
  obtain ⟨a,n⟩:=k;by_cases o:∃ v,Lib.atoiAll (Lib.cut (bs s) [46]).2.1=.ok v
  case neg =>
   have Q:∀ v,Lib.atoiAll (Lib.cut (bs s) [46]).2.1≠.ok v:=fun v e=>o ⟨v,e⟩;have T:=ah Q;have O:=ah n;clear o Q n;go_in;go_wp2_with fail;refine (pdt s _ J (h.upd h1.up)).mono ?_;rintro e A ⟨l,r,b,t,C,k,o,rfl,u⟩;have g:=h1.upd u;clear h1;go_wp2_with fail;refine (pco l a A (by omega) (by rw [t.out];exact O.out)).mono ?_;rintro e B ⟨rfl,z⟩;have f:=g.upd z;clear g;go_wp2_with fail;refine (pbX r B (by omega) (by rw [C.out];exact T.out) (h.upd f.up)).mono ?_;rintro e M ⟨K,N,rfl,aa,x⟩;have m:=f.upd x;clear f;have d:=m.upd (uR.alloc (.cells #[a,K] 39));obtain ⟨q,j⟩:=d.cells;obtain ⟨U,f1⟩:=d.free;go_wp2_with fail;refine xI (v:=.tuple #[.agg #[.int .i64 0,.int .i64 0],.bool false]) (by simp [results,Tryz.results107,go_sem,q,j]) rfl ⟨0,0,false,pog T.out,⟨by omega,by omega⟩,⟨by omega,by omega⟩,rfl,?_⟩;exact (d.up.setNew (p:=⟨_,_,none⟩) (xj _) _).setNew (p:=⟨_,_,none⟩) (xj _) _
  case pos =>
   obtain ⟨c,G⟩:=o;have E:=xf (yU n) (yU G);have Y:=ah (pqH n G);have O:=ah n;have HC:=ah G;clear n G;go_in;go_wp2_with fail;refine (pdt s _ J (h.upd h1.up)).mono ?_;rintro e A ⟨l,r,b,t,C,k,o,rfl,u⟩;have g:=h1.upd u;clear h1;go_wp2_with fail;refine (pco l a A (by omega) (by rw [t.out];exact O.out)).mono ?_;rintro e B ⟨rfl,z⟩;have f:=g.upd z;clear g;go_wp2_with fail;refine (pco r c B (by omega) (by rw [C.out];exact HC.out)).mono ?_;rintro e M ⟨rfl,x⟩;have m:=f.upd x;clear f;have d:=m.upd (uR.alloc (.cells #[a,c] 39));have H:=SigAt.start M a c;obtain ⟨S,Z⟩:=H.cells;go_wp2_with fail;refine (plG a c _ E.1 E.2 (h.upd d.up)).mono ?_;rintro e w6 ⟨y,W,hy,rfl,R⟩;have F:=d.upd R;have s6:=H.upd R;clear d H S Z m;obtain ⟨S,Z⟩:=s6.cells;obtain ⟨q,j⟩:=F.cells;obtain ⟨U,f1⟩:=F.free;by_cases D:pb4 a c=bs s
   · have ab:y=s:=paT (W.out.trans D);subst ab;go_wp2_with fail;refine xI (v:=.tuple #[.agg #[a,c],.bool true]) (by simp [results,Tryz.results107,go_sem,q,j]) rfl ⟨a,c,true,?_,E.1,E.2,rfl,?_⟩
     · show _=_;rw [Y.out,xH D]
     · exact (F.up.setNew (p:=⟨_,_,none⟩) (xj _) _).setNew (p:=⟨_,_,none⟩) (xj _) _
   · have h7:(y.toList == s.toList)=false:=by
      rw [xm,yi,yi];exact fun e=>D (W.out.symm.trans e)
     go_wp2_with fail;refine xI (v:=.tuple #[.agg #[.int .i64 0,.int .i64 0],.bool false]) (by simp [results,Tryz.results107,go_sem,q,j]) rfl ⟨0,0,false,?_,⟨by omega,by omega⟩,⟨by omega,by omega⟩,rfl,?_⟩
     · show _=_;rw [Y.out,yy D]
     · exact (F.up.setNew (p:=⟨_,_,none⟩) (xj _) _).setNew (p:=⟨_,_,none⟩) (xj _) _
end Go.Proofs.YtkhjolbbpdaplaaGreatDoor

namespace Go.Proofs.YtkhjolbbpdaplaaGreatDoor
set_option maxHeartbeats 1000000
open Go.ChangeShapes Go.WideShapes Go.ChangeAt Go.RowKit Go.Proofs.Tryz
set_option maxRecDepth 100000
theorem pqJ:ownKnob prog.godebug=none:=by kernel_rfl
theorem phT:laidOutB prog=true:=by kernel_rfl
def psh:List (String × DataW Unit):=Rows.courtSignedRow.laid
theorem gP10 : prog.globalNamed "internal/strconv.uint64pow10" = some 2 := by kernel_rfl
theorem gER : prog.globalNamed "strconv.ErrRange" = some 1 := by kernel_rfl
theorem gES : prog.globalNamed "strconv.ErrSyntax" = some 0 := by kernel_rfl
theorem ptq : ("*" ++ "errors.errorString" : String) = "*errors.errorString" := by decide
theorem rowE (u) (h : prog.typeName? 3 u = some "*errors.errorString") : u = 316 :=
 typeName_ptr_named (nm := "errors.errorString") (by rw [ptq]; kernel_rfl) (by kernel_rfl) (by decide) u (by rw [ptq]; exact h)
theorem piQ {W} (h:laidMetH prog psh W) (k:W.ShapedOpen prog):Tabs W:=by
 have h0:laidMet prog psh W:=h;have a:=h0.tail.tail;have c:=a
 have c:=a.tail
 have e:=c.tail;have d:=e.tail;have f:=d.tail;have m:=f.tail;obtain ⟨q,p,j,_⟩:=laid_sentinel e gER (by kernel_rfl) underlying150 rowE underlying316 underlying318 rfl rfl underlying9 (by kernel_rfl) (by kernel_rfl);obtain ⟨n,o,g,_⟩:=laid_sentinel d gES (by kernel_rfl) underlying150 rowE underlying316 underlying318 rfl rfl underlying9 (by kernel_rfl) (by kernel_rfl);refine ⟨?_,?_,?_,⟨_,_,j⟩,⟨_,_,g⟩,?_⟩
 · exact Lib.tabIs_of_head (rest:=_) gK (by kernel_rfl) underlying302 underlying163 (by kernel_rfl) (by kernel_rfl) m
 · exact Lib.tabIs_of_head (rest:=_) gF (by kernel_rfl) underlying275 underlying163 (by kernel_rfl) (by kernel_rfl) f
 · exact Lib.tabIs_of_head (rest:=_) gP10 (by kernel_rfl) underlying299 underlying121 (by kernel_rfl) (by kernel_rfl) a
 · exact Go.Proofs.cell_of_shapedOpen_int (zero:=#[.int .i64 0]) (t:=3) k (of_decide_eq_true (by kernel_rfl)) (by kernel_rfl) rfl (by kernel_rfl) (by kernel_rfl) underlying3
end Go.Proofs.YtkhjolbbpdaplaaGreatDoor

namespace Go.Proofs.YtkhjolbbpdaplaaGreatDoor
set_option maxHeartbeats 1000000
open Go.RowKit Go.Proofs.Tryz
set_option maxRecDepth 100000
theorem piR {w w'} (h:Uq w w'):Below w.heap.size w w':=⟨h.os,h.tape,h.output,h.size,fun k a=>h.block k a (by simp)⟩
end Go.Proofs.YtkhjolbbpdaplaaGreatDoor

namespace Go.Proofs.YtkhjolbbpdaplaaGreatDoor
set_option maxHeartbeats 1000000
open Go.ChangeShapes Go.WideShapes Go.ChangeAt Go.RowKit Go.Deep Go.Joins Go.Proofs.Tryz
set_option maxRecDepth 100000
inductive Kd where
 | i (k:IntKind)
 | s
 | b
def Kd.ok:Kd->Value->Prop
 | .i k,v=>∃ n:Int,v=.int k n/\(Lit.int k n).wf=true
 | .s,v=>∃ s:ByteArray,v=.string s/\s.size<=maxLen
 | .b,v=>∃ b:Bool,v=.bool b
def poh (P:Program) (fl:TypeId->Option (List Kd)):Nat->List Field->Option (List Kd)
 | _,[]=>some []
 | off,f :: r=>match fl f.type with
  | some l=>if f.offset=off/\l.length=P.cellsOf f.type then (poh P fl (off+l.length) r).map (l ++ ·) else none
  | none=>none
def pgQ (P:Program):Nat->TypeId->Option (List Kd)
 | 0,_=>none
 | f+1,t=>match P.underlying t with
  | some (.int k)=>some [.i k]
  | some .string=>some [.s]
  | some .bool=>some [.b]
  | some (.array n e)=>match pgQ P f e with
   | some l=>if l.length=P.cellsOf e/\n * l.length=P.cellsOf t/\0<l.length then some (List.replicate n l).flatten else none
   | none=>none
  | some (.struct fs)=>match poh P (pgQ P f) 0 fs.toList with
   | some l=>if l.length=P.cellsOf t then some l else none
   | none=>none
  | _=>none
def Mt (ks:List Kd) (cs:List Value):Prop:=cs.length=ks.length/\∀ (i:Nat) k,ks[i]? =some k->∃ v,cs[i]? =some v/\k.ok v
theorem Mt.one {k v} (h:k.ok v):Mt [k] [v]:=by
 refine ⟨rfl,fun i c a=>?_⟩
 cases i with
 | zero=>simp at a;subst a;exact ⟨v,rfl,h⟩
 | succ i=>simp at a
theorem pf5 {α:Type} (l m) (d:l.length=m) (h0:0<m):∀ (n i:Nat) (a:α),(List.replicate n l).flatten[i]? =some a->i / m<n/\l[i % m]? =some a
 | 0,i,a,h=>by simp at h
 | n+1,i,a,h=>by
  rw [yL,List.flatten_cons] at h
  by_cases c:i<m
  · rw [yu (by omega)] at h
    rw [uA c,xV c]
    exact ⟨by omega,h⟩
  · rw [xC (by omega),d] at h
    have f:=pf5 l m d h0 n (i - m) a h
    have e:i / m=(i - m) / m+1:=by rw [Nat.div_eq_sub_div h0 (by omega)]
    have g:i % m=(i - m) % m:=by rw [Nat.mod_eq_sub_mod (by omega)]
    rw [e,g]
    exact ⟨by omega,f.2⟩
theorem piS {cs:List Value} {off a j v} (h:((cs.drop off).take a)[j]? =some v):cs[off+j]? =some v:=by
 rw [ul] at h;split at h
 · rw [zL] at h;exact h
 · cases h
section
variable {H : Type} {enc : TypeId × Value -> H} {P : Program} {w : World} {base : Nat} {sp : Nat -> Bool} {hd : Bool}
theorem plH {fl} {cs:List Value}:∀ e off a,poh P fl off e=some a ->
 (∀ f∈e,∀ l,fl f.type=some l->Mt l ((cs.drop f.offset).take (P.cellsOf f.type)))->∀ (i) k,a[i]? =some k->∃ v,cs[off+i]? =some v/\k.ok v
 | [],off,a,h,_,i,k,hi=>by
  simp only [poh,yz] at h
  subst h
  simp at hi
 | f :: r,off,a,h,hf,i,k,hi=>by
  simp only [poh] at h
  split at h
  · rename_i l hl
    split at h
    · rename_i hc
      obtain ⟨j,n,rfl⟩:=yp.1 h
      by_cases g:i<l.length
      · rw [yu g] at hi
        obtain ⟨v,c,d⟩:=(hf f (by simp) l hl).2 i k hi
        have:=piS c
        rw [hc.1] at this
        exact ⟨v,this,d⟩
      · rw [xC (by omega)] at hi
        obtain ⟨v,c,d⟩:=plH r (off+l.length) j n (fun o m=>hf o (by simp [m])) (i - l.length) k hi
        rw [show off+l.length+(i - l.length)=off+i by omega] at c
        exact ⟨v,c,d⟩
    · cases h
  · cases h
theorem pfB:∀ f t c d cs x,pgQ P f t=some c->DataW.trod enc P w base sp hd d t cs=some x->Mt c cs
 | 0,t,c,d,cs,x,h,_=>by simp [pgQ] at h
 | f+1,t,c,d,cs,x,h,hx=>by
  simp only [pgQ] at h
  split at h
  · rename_i k hu
    obtain ⟨n,rfl,_,D⟩:=DataW.trod_int hu hx
    simp only [yz] at h
    subst h
    exact Mt.one ⟨n,rfl,D⟩
  · rename_i hu
    obtain ⟨s,rfl,_,E⟩:=DataW.trod_string hu hx
    simp only [yz] at h
    subst h
    exact Mt.one ⟨s,rfl,E⟩
  · rename_i hu
    obtain ⟨b,rfl,_⟩:=DataW.trod_bool hu hx
    simp only [yz] at h
    subst h
    exact Mt.one ⟨b,rfl⟩
  · rename_i n e hu
    split at h
    · rename_i l hl
      split at h
      · rename_i hc
        simp only [yz] at h
        subst h
        obtain ⟨a,m,_,_,g,C,o⟩:=DataW.trod_array hu hx
        refine ⟨by rw [g,<-hc.2.1];simp,fun i k q=>?_⟩
        obtain ⟨hq,G⟩:=pf5 l (P.cellsOf e) hc.1 (by omega) n i k q
        have h1:=o (i / P.cellsOf e) hq
        have p:a[i / P.cellsOf e]? =some (a[i / P.cellsOf e]'(by omega)):=xd (by omega)
        rw [p] at h1
        obtain ⟨v,J,A⟩:=(pfB f e l m _ _ hl h1).2 (i % P.cellsOf e) k G
        have:=piS J
        rw [yk,zR] at this
        exact ⟨v,this,A⟩
      · cases h
    · cases h
  · rename_i fs hu
    split at h
    · rename_i l hl
      split at h
      · rename_i hc
        simp only [yz] at h
        subst h
        obtain ⟨a,m,_,_,g,C,o⟩:=DataW.trod_struct hu hx
        refine ⟨by rw [g,hc],fun i k q=>?_⟩
        have:=plH fs.toList 0 l hl (fun u B F z=>by
         obtain ⟨j,y⟩:=List.getElem?_of_mem B
         have h1:=o j u (by simpa using y)
         have r:j<a.length:=by
          have:=(xe.1 y).1;simp at this;omega
         have p:a[j]? =some (a[j]'r):=xd r;rw [p] at h1;exact pfB f u.type F m _ _ z h1) i k q
        rw [yB] at this;exact this
      · cases h
    · cases h
  · cases h
theorem piT {t v d p c r u} (f) (o:pgQ P f t=some c) (a:Value.okWide P w r u t v) (h:DataW.Trod enc P w base sp hd t v d p) (q:(∃ n e,P.underlying t=some (.array n e))\/∃ j,P.underlying t=some (.struct j)) :
 ∃ cs,v=.agg cs/\Mt c cs.toList:=by
 obtain ⟨m,x⟩:=h;have k:=pfB f t c m _ _ o x;rcases q with ⟨n,e,g⟩ | ⟨j,g⟩
 · simp only [Value.okWide,g] at a;obtain ⟨cs,rfl,_⟩:=a;exact ⟨cs,rfl,k⟩
 · simp only [Value.okWide,g] at a;obtain ⟨cs,rfl,_⟩:=a;exact ⟨cs,rfl,k⟩
theorem Mt.i64 {a cs} (h:Mt a cs) {i:Nat} (e:a[i]? =some (.i .i64)):∃ n,cs[i]? =some (.int .i64 n)/\-9223372036854775808<=n/\n<=9223372036854775807:=by
 obtain ⟨v,c,n,rfl,d⟩:=h.2 i _ e;exact ⟨n,c,bounds_i64 d⟩
theorem pmS {t v d p r E} (f) (C:pgQ P f t=some [.i .i64,.i .i64,.i .i64,.i .i64]) (G:Value.okWide P w r E t v) (h:DataW.Trod enc P w base sp hd t v d p) (j:(∃ n e,P.underlying t=some (.array n e))\/∃ q,P.underlying t=some (.struct q)) :
 ∃ a b c e,v=.agg #[.int .i64 a,.int .i64 b,.int .i64 c,.int .i64 e]/\(-9223372036854775808<=a/\a<=9223372036854775807)/\(-9223372036854775808<=b/\b<=9223372036854775807)/\(-9223372036854775808<=c/\c<=9223372036854775807)/\(-9223372036854775808<=e/\e<=9223372036854775807):=by
 obtain ⟨cs,rfl,g⟩:=piT f C G h j;obtain ⟨a,j,F⟩:=g.i64 (i:=0) rfl;obtain ⟨b,m,D⟩:=g.i64 (i:=1) rfl;obtain ⟨c,o,wc⟩:=g.i64 (i:=2) rfl;obtain ⟨e,k,B⟩:=g.i64 (i:=3) rfl;have A:cs.toList.length=4:=g.1;refine ⟨a,b,c,e,?_,F,D,wc,B⟩;congr 1;apply Array.ext'
 match h:cs.toList,A with
 | [x,y,z,u],_ =>
  rw [h] at j m o k;simp at j m o k;rw [j,m,o,k]
end
theorem pmT (b off j):(⟨b,off,none⟩:Addr).add j=⟨b,off+j,none⟩:=by unfold Addr.add;split <;> simp_all
theorem pmU {w:World} {a:Addr} {v} (h:w.cell? (a.add 0)=some v):a.spot=none:=by
 have e:a.add 0=a:=by simp [Addr.add]
 rw [e] at h;unfold World.cell? at h
 cases hs:a.spot with
 | none=>rfl
 | some s =>
  rw [hs] at h;split at h <;> simp at h
theorem pqK {w:World} {g o v} (h:w.cell? ⟨g,o,none⟩=some v):g<w.heap.size:=by
 unfold World.cell? at h;by_cases a:g<w.heap.size
 · exact a
 · rw [Array.getElem?_eq_none (by show w.heap.size<=g;omega)] at h;simp at h
section
variable {H : Type} {enc : TypeId × Value -> H} {w : World}
theorem poi {t e f v d p r Z} (K:prog.underlying t=some (.slice e)) (Y:pgQ prog 8 e=some f) (O:0<f.length) (hc:prog.cellsOf e=f.length) (hv:Value.okWide prog w r Z t v) (h:DataW.Trod enc prog w 0 (fun _=>true) true t v d p) :
 ∃ E g k,v=.slice E g k/\g<=k/\k<=9223372036854775807/\(g=0\/∃ b off,E=some ⟨b,off,none⟩/\b<w.heap.size/\∀ i,i<g->∃ cs,Mt f cs/\∀ j u,cs[j]? =some u->w.cell? ⟨b,off+i * f.length+j,none⟩=some u):=by
 obtain ⟨a,g,k,rfl⟩:=okWide_slice K hv;obtain ⟨ab,hf⟩:=h;rcases open_slice K hf with ⟨o,_⟩ | ⟨x,l,c,m,n,D,Pl,o,_,W,hm,A,_,C⟩
 · simp [Value.cells] at o;obtain ⟨rfl,rfl,rfl⟩:=o;exact ⟨none,0,0,rfl,by simp,by simp,.inl rfl⟩
 · simp [Value.cells] at o;obtain ⟨rfl,rfl,rfl⟩:=o;simp only [if_true] at A;rw [A] at C;refine ⟨some x,g,k,rfl,W,hm,?_⟩;by_cases h0:g=0
   · exact .inl h0
   · right;have z:∀ i,i<g->∃ cs:List Value,Mt f cs/\∀ j u,cs[j]? =some u->w.cell? (x.add (i * f.length+j))=some u:=by
      intro i aa;obtain ⟨M,B,ht⟩:=C i (by omega);rw [hc] at B;have J:=pfB 8 e f _ _ _ Y ht;refine ⟨M,J,fun j u y=>?_⟩;obtain ⟨_,_,N⟩:=World.cells?_some B;have R:j<f.length:=by
       have:=(xe.1 y).1;rw [J.1] at this;exact this
      have F:=N j R;rw [add_add] at F;exact F.trans y
     obtain ⟨T,Q,S⟩:=z 0 (by omega);obtain ⟨X,P⟩:∃ u,T[0]? =some u:=⟨_,xd (by rw [Q.1];exact O)⟩
     have q:=S 0 X P;rw [vg] at q;have G:=pmU q;obtain ⟨b,off,s⟩:=x;simp only at G;subst G;simp only [pmT] at z q;refine ⟨b,off,rfl,pqK q,fun i U=>?_⟩;obtain ⟨cs,h1,h2⟩:=z i U;exact ⟨cs,h1,fun j u y=>by rw [ud];exact h2 j u y⟩
end
end Go.Proofs.YtkhjolbbpdaplaaGreatDoor

namespace Go.Proofs.YtkhjolbbpdaplaaGreatDoor
set_option maxHeartbeats 1000000
open Go.RowKit Go.Proofs.Tryz
set_option maxRecDepth 100000
theorem paf {w:World} {b o} (h:w.heap[b]? =some o):b<w.heap.size:=(xq.1 h).1
def pbD (ss:List (List UInt8)):List Value:=ss.map strV
def paU (w:World) (v:Value) (ss:List (List UInt8)):Prop:=w.ownsRow 0 9 1 v ss.length (pbD ss)
theorem pqL:(prog.info? 9).map (fun i=>(i.zero,i.size,i.bytes))=some (some (.string ⟨#[]⟩),1,16):=by kernel_rfl
theorem paU.same {w w':World} {v:Value} {a:List (List UInt8)} (h:paU w v a) (c:∀ k,k∈foot v->w'.heap[k]? =w.heap[k]?):paU w' v a:=paj h c
theorem paU.lt {w:World} {v:Value} {a:List (List UInt8)} (h:paU w v a):∀ k,k∈foot v->k<w.heap.size:=pag h
theorem pdN (w):paU w (.slice none 0 0) []:=x9 _ _ _ _
theorem pbE (w v a r) (h:paU w v a) (A:a.length<=1099511627776) :
 ∃ d c,(Builtin.append_ #[123,123] 123 #[v,.slice (some ⟨w.heap.size,0,none⟩) 1 1]).run prog (w.alloc (.cells #[.string r] 9))=.ok d c /\
  paU c d (a ++ [bs r])/\Upd (foot v) (foot d) w c:=by
 obtain ⟨z,t,o,q,n⟩:=info_parts pqL;obtain ⟨d,c,x,m,p⟩:=pa0 (P:=prog) (w.alloc (.cells #[.string r] 9)) 123 123 9 z _ 1 16 underlying123 t o q n rfl (by omega) v a.length (pbD a)
  (paj h (fun k y=>xY _ _ _ (h.lt k y))) ⟨w.heap.size,0,none⟩ 1 1 [.string r] rfl
  (by
   intro j u f;match j,f with
   | 0,f=>simp at f;subst f;simp [Addr.add])
  (by intro u g;simp at g;subst g;rfl) (by omega) (by simp [maxLen];omega)
 refine ⟨d,c,x,?_,p.fore⟩;unfold paU;have e:pbD (a ++ [bs r])=pbD a ++ [.string r]:=by simp [pbD,pnW]
 rw [e,xr];exact m
theorem Upd.past {a b c T S S'} (u:Upd T T a b) (v:Upd S S' b c) (e:∀ k,k∈S->a.heap.size<=k):Upd T T a c :=
 ⟨v.os.trans u.os,v.tape.trans u.tape,v.output.trans u.output,xB u.size v.size,fun k d g=>(v.block k (xA d u.size) (fun f=>by have:=e k f;omega)).trans (u.block k d g),fun _ d=>.inl d⟩
theorem Upd.widen {w w' S K} (h:Upd S S w w') (c:∀ k,k∈S->k∈K):Upd K K w w':=⟨h.os,h.tape,h.output,h.size,fun k a e=>h.block k a (fun d=>e (c k d)),fun _ a=>.inl a⟩
theorem Upd.setCellsIn {S S' a g} (c:g∈S):∀ V o b,Upd S S' a b->Upd S S' a (b.setCells g o V)
 | [],_,_,h=>h
 | v :: V,o,b,h=>by
  rw [World.setCells]
  exact Upd.setCellsIn c V (o+1) _ (h.setCell (p:=⟨g,o,none⟩) c v)
theorem pb5 {w:World} {g l t R} (c:R=l.toArray) (h:w.heap[g]? =some (.cells R t (0,0))):w.rangeAt g 0 l:=by
 intro j v a;rw [yB,xa _ _ _ _ _ _ h,c,xD];exact a
end Go.Proofs.YtkhjolbbpdaplaaGreatDoor
