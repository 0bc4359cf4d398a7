/- Numbers modulo a prime: Fermat, Pocklington, orders. Plain: no program in sight and what follows. -/
import Derived.Test.YtkhjolbbpdaplaaGreatDoorHAB
namespace Go.Proofs.YtkhjolbbpdaplaaGreatDoor
set_option maxHeartbeats 1000000
abbrev xW:=@Int.toNat_natCast
abbrev x8:=@Nat.pow_succ
abbrev ye:=@decide_eq_true_iff
abbrev yf:=@Classical.byContradiction
abbrev yy:=@if_neg
abbrev yP:=@Nat.mod_lt
abbrev yQ:=@Nat.mul_add
abbrev yR:=@Bool.and_eq_true
abbrev yV:=@Int.mul_emod
abbrev yZ:=@Nat.mul_assoc
abbrev zi:=@decide_eq_false_iff_not
abbrev zj:=@Nat.pow_mul
abbrev zm:=@Nat.pow_le_pow_right
abbrev zC:=@Nat.mul_le_mul
abbrev zF:=@Int.emod_eq_of_lt
abbrev zM:=@Nat.add_mul_mod_self_left
abbrev zR:=@Nat.div_add_mod
abbrev zY:=@Nat.add_zero
abbrev z8:=@Nat.le_of_dvd
abbrev ue:=@Int.emod_emod
abbrev ug:=@Int.tmod_eq_emod
abbrev ui:=@Nat.lt_of_le_of_lt
abbrev uo:=@Int.eq_ofNat_of_zero_le
abbrev ur:=@Nat.dvd_of_mod_eq_zero
abbrev ut:=@Nat.div_div_eq_div_mul
abbrev ux:=@Int.add_emod
abbrev uy:=@Nat.sub_mod_eq_zero_of_mod_eq
abbrev uA:=@Nat.div_eq_of_lt
abbrev uF:=@Nat.pow_add
abbrev uG:=@Nat.one_mul
abbrev uH:=@Nat.mul_mod
abbrev uV:=@Int.pow_succ
abbrev vc:=@Nat.dvd_trans
abbrev ve:=@Nat.mod_eq_zero_of_dvd
abbrev vh:=@Nat.pow_zero
abbrev vi:=@Nat.mul_zero
abbrev vu:=@Nat.pow_mod
abbrev vx:=@Nat.mod_mod_of_dvd
abbrev vB:=@Int.sub_emod_right
abbrev vC:=@Int.mul_assoc
def Pr (p:Nat):Prop:=2<=p/\∀ d,d ∣ p->d=1\/d=p
theorem Pr.cop {p a} (h:Pr p) (c:¬ p ∣ a):Nat.Coprime p a:=by
 rcases h.2 _ (Nat.gcd_dvd_left p a) with e | e
 · exact e
 · exact absurd (e ▸ Nat.gcd_dvd_right p a) c
theorem Pr.mul {p a b} (h:Pr p) (d:p ∣ a * b):p ∣ a\/p ∣ b:=by
 by_cases c:p ∣ a
 · exact .inl c
 · exact .inr ((h.cop c).dvd_of_dvd_mul_left d)
/-! ### Fermat -/
def pas:Nat->Nat->Nat
 | _,0=>1
 | 0,_+1=>0
 | n+1,k+1=>pas n k+pas n (k+1)
theorem pd8 (n):pas n 0=1:=by cases n <;> rfl
theorem pg2 (n):∀ k,n<k->pas n k=0:=by
 induction n with
 | zero=>intro k h;cases k with
  | zero=>omega
  | succ k=>rfl
 | succ n ih=>intro k h;cases k with
  | zero=>omega
  | succ k=>simp only [pas];rw [ih k (by omega),ih (k+1) (by omega)]
theorem pkt (n):pas n n=1:=by
 induction n with
 | zero=>rfl
 | succ n ih=>simp only [pas];rw [ih,pg2 n (n+1) (by omega)]
theorem pmP (n):∀ k,(k+1) * pas (n+1) (k+1)=(n+1) * pas n k:=by
 induction n with
 | zero=>intro k;cases k with
  | zero=>rfl
  | succ k=>simp [pas]
 | succ n ih =>
  intro k
  cases k with
  | zero =>
   have h:=ih 0;simp only [pas,pd8,yB,uG,zf] at h ⊢;omega
  | succ k =>
   have h1:=ih k;have a:=ih (k+1);have c:pas (n+1+1) (k+1+1)=pas (n+1) (k+1)+pas (n+1) (k+1+1):=rfl;have d:pas (n+1) (k+1)=pas n k+pas n (k+1):=rfl
   calc (k+1+1) * pas (n+1+1) (k+1+1)=(k+1) * pas (n+1) (k+1)+pas (n+1) (k+1)+(k+1+1) * pas (n+1) (k+1+1):=by rw [c,yQ,uu (k+1) 1 (pas (n+1) (k+1)),uG]
    _=(n+1) * pas n k+pas (n+1) (k+1)+(n+1) * pas n (k+1):=by rw [h1,a]
    _=(n+1+1) * pas (n+1) (k+1):=by rw [uu (n+1) 1,uG,d,yQ];omega
def pcy (f:Nat->Nat):Nat->Nat
 | 0=>0
 | n+1=>pcy f n+f n
theorem plx (n a):∀ m,pcy (fun k=>pas (n+1) k * a ^ k) (m+1)=pcy (fun k=>pas n k * a ^ k) (m+1)+a * pcy (fun k=>pas n k * a ^ k) m
 | 0=>by simp [pcy,pd8]
 | m+1=>by
  have g:=plx n a m
  have e:pcy (fun k=>pas (n+1) k * a ^ k) (m+1+1)=pcy (fun k=>pas (n+1) k * a ^ k) (m+1)+pas (n+1) (m+1) * a ^ (m+1):=rfl
  have h:pcy (fun k=>pas n k * a ^ k) (m+1+1)=pcy (fun k=>pas n k * a ^ k) (m+1)+pas n (m+1) * a ^ (m+1):=rfl
  have c:pcy (fun k=>pas n k * a ^ k) (m+1)=pcy (fun k=>pas n k * a ^ k) m+pas n m * a ^ m:=rfl
  have f:pas (n+1) (m+1)=pas n m+pas n (m+1):=rfl
  have d:a * (pas n m * a ^ m)=pas n m * a ^ (m+1):=by rw [x8];rw [<-yZ,yk a,yZ,yk a]
  rw [e,g,h,f,uu]
  conv=>rhs;rw [c,yQ,d]
  rw [c]
  omega
theorem ply (a):∀ n,(a+1) ^ n=pcy (fun k=>pas n k * a ^ k) (n+1)
 | 0=>by simp [pcy,pas]
 | n+1=>by
  rw [plx n a (n+1)]
  have e:pcy (fun k=>pas n k * a ^ k) (n+1+1)=pcy (fun k=>pas n k * a ^ k) (n+1)+pas n (n+1) * a ^ (n+1):=rfl
  rw [e,pg2 n (n+1) (by omega),vg,<-ply a n,x8,yQ,zf,yk a ((a+1) ^ n)]
  omega
theorem pn1 (p f):∀ m,(∀ k,0<k->k<m+1->p ∣ f k)->pcy f (m+1) % p=f 0 % p
 | 0,_=>by simp [pcy]
 | m+1,h=>by
  have e:pcy f (m+1+1)=pcy f (m+1)+f (m+1):=rfl
  obtain ⟨c,a⟩:=h (m+1) (by omega) (by omega)
  rw [e,a,zM]
  exact pn1 p f m (fun k h1 d=>h k h1 (by omega))
theorem Pr.choose {p} (h:Pr p) (k) (h1:0<k) (c:k<p):p ∣ pas p k:=by
 obtain ⟨n,rfl⟩:∃ n,p=n+1:=⟨p - 1,by omega⟩
 obtain ⟨j,rfl⟩:∃ j,k=j+1:=⟨k - 1,by omega⟩
 have e:=pmP n j;have a:n+1 ∣ (j+1) * pas (n+1) (j+1):=⟨pas n j,e⟩
 rcases h.mul a with g | g
 · exact absurd (z8 (by omega) g) (by omega)
 · exact g
theorem prL {p} (h:Pr p):∀ a,a ^ p % p=a % p
 | 0=>by rw [Nat.zero_pow (by have:=h.1;omega)]
 | a+1=>by
  have c:=prL h a
  obtain ⟨n,d⟩:∃ n,p=n+1:=⟨p - 1,by have:=h.1;omega⟩
  rw [ply a p]
  have e:pcy (fun k=>pas p k * a ^ k) (p+1)=pcy (fun k=>pas p k * a ^ k) p+pas p p * a ^ p:=rfl
  have f:pcy (fun k=>pas p k * a ^ k) p % p=1 % p:=by
   have:=pn1 p (fun k=>pas p k * a ^ k) n (fun k h1 g=>vc (h.choose k h1 (by omega)) (Nat.dvd_mul_right _ _));rw [<-d] at this;rw [this,pd8];simp
  rw [e,pkt,uG,Nat.add_mod,f,c,<-Nat.add_mod,Nat.add_comm]
theorem pg3 {p a} (h:Pr p) (d:¬ p ∣ a):a ^ (p - 1) % p=1:=by
 have h1:=prL h a;have k:=h.1;have e:a ^ p=a * a ^ (p - 1):=by
  conv=>lhs;rw [show p=(p - 1)+1 by omega]
  rw [x8,yk]
 have h0:0<a:=Nat.pos_of_ne_zero (fun e=>d (e ▸ Nat.dvd_zero p));have f:1<=a ^ (p - 1):=Nat.one_le_pow _ _ h0;have j:p ∣ a * (a ^ (p - 1) - 1):=by
  rw [Nat.mul_sub,zf,<-e];have n:a<=a ^ p:=by rw [e];exact Nat.le_mul_of_pos_right _ f
  exact ur (uy h1)
 rcases h.mul j with g | g
 · exact absurd g d
 · obtain ⟨c,m⟩:=g;have:a ^ (p - 1)=1+p * c:=by omega
   rw [this,zM,xV (by omega)]
/-! ### powers modulo m -/
theorem pcA (a n m:Nat):(a % m) ^ n % m=a ^ n % m:=(vu a n m).symm
theorem pfW {p a n:Nat} (h:p ∣ a) (c:n≠0):p ∣ a ^ n:=by
 obtain ⟨k,rfl⟩:∃ k,n=k+1:=⟨n - 1,by omega⟩
 rw [x8];exact vc h (Nat.dvd_mul_left a (a ^ k))
theorem pd9 {b m} (h:b % m=1 % m) (n):b ^ n % m=1 % m:=by
 rw [vu,h,<-vu,Nat.one_pow]
theorem pn2 (b N):∀ m n,b ^ m % N=1 % N->b ^ n % N=1 % N->b ^ Nat.gcd m n % N=1 % N:=by
 intro m n
 induction m,n using Nat.gcd.induction with
 | H0 n=>intro _ h;rwa [Nat.gcd_zero_left]
 | H1 m n hm ih =>
  intro h1 a;rw [Nat.gcd_rec];refine ih ?_ h1;have e:b ^ n=(b ^ m) ^ (n / m) * b ^ (n % m):=by
   rw [<-zj,<-uF,zR]
  rw [e,uH,pd9 h1,<-uH,uG] at a;exact a
theorem piH:∀ n,2<=n->∃ p,Pr p/\p ∣ n:=by
 intro n
 induction n using Nat.strongRecOn with
 | ind n ih =>
  intro j;by_cases h:Pr n
  · exact ⟨n,h,Nat.dvd_refl n⟩
  · have:∃ d,d ∣ n/\d≠1/\d≠n:=by
     apply yf;intro g;refine h ⟨j,fun d a=>?_⟩;apply yf;intro hq;exact g ⟨d,a,fun e=>hq (.inl e),fun e=>hq (.inr e)⟩
    obtain ⟨d,a,h1,k⟩:=this;have m:=z8 (by omega) a;have h0:d≠0:=by rintro rfl;have:=Nat.eq_zero_of_zero_dvd a;omega
    obtain ⟨p,f,c⟩:=ih d (by omega) (by omega);exact ⟨p,f,vc c a⟩
theorem pfX {n} (g:2<=n) (h:¬ Pr n):∃ p,Pr p/\p ∣ n/\p * p<=n:=by
 have:∃ d,d ∣ n/\d≠1/\d≠n:=by
  apply yf;intro j;refine h ⟨g,fun d k=>?_⟩;apply yf;intro hq;exact j ⟨d,k,fun e=>hq (.inl e),fun e=>hq (.inr e)⟩
 obtain ⟨d,⟨e,a⟩,h1,m⟩:=this;have r:d≠0:=by rintro rfl;rw [vg] at a;omega
 have q:e≠0:=by rintro rfl;rw [vi] at a;omega
 have o:e≠1:=by rintro rfl;rw [zf] at a;omega
 rcases Nat.le_total d e with hde | hde
 · obtain ⟨p,f,c⟩:=piH d (by omega);refine ⟨p,f,vc c ⟨e,a⟩,?_⟩;have:=z8 (by omega) c;rw [a];exact zC this (by omega)
 · obtain ⟨p,f,c⟩:=piH e (by omega);refine ⟨p,f,vc c ⟨d,by rw [a,yk]⟩,?_⟩;have:=z8 (by omega) c;rw [a];exact zC (by omega) this
theorem pku {n q R a} (w:2<=n) (hq:Pr q) (z:n - 1=q * R) (E:n<q * q) (h1:a ^ (n - 1) % n=1) (x:Nat.gcd (a ^ R % n+n - 1) n=1):Pr n:=by
 apply yf;intro B;obtain ⟨p,h,d,D⟩:=pfX w B;have F:=h.1;have g:a ^ (n - 1) % p=1:=by
  have e:a ^ (n - 1) % n % p=a ^ (n - 1) % p:=vx _ d;rw [<-e,h1,xV (by omega)]
 have C:0<n - 1:=by omega
 have o:¬ p ∣ a:=by
  intro f;have:p ∣ a ^ (n - 1):=pfW f (by omega);rw [ve this] at g;omega
 have t:(a ^ R) ^ q % p=1 % p:=by
  rw [<-zj,yk,<-z,g,xV (by omega)]
 have k:(a ^ R) ^ (p - 1) % p=1 % p:=by
  rw [<-zj,yk,zj];refine pd9 ?_ R;rw [pg3 h o,xV (by omega)]
 have j:=pn2 _ _ _ _ t k;rcases hq.2 _ (Nat.gcd_dvd_left q (p - 1)) with e | e
 · rw [e,Nat.pow_one] at j;have r:(a ^ R % n+n - 1) % p=0:=by
    have v:a ^ R % n % p=1 % p:=by rw [vx _ d,j]
    obtain ⟨c,m⟩:=d;have A:a ^ R % n % p=1:=by rw [v,xV (by omega)]
    have y:=zR (a ^ R % n) p;rw [A] at y;have u:a ^ R % n+n - 1=p * (a ^ R % n / p+c):=by rw [yQ,<-m];omega
    rw [u,Nat.mul_mod_right]
   have:p ∣ Nat.gcd (a ^ R % n+n - 1) n:=Nat.dvd_gcd (ur r) d;rw [x] at this;have:=z8 (by omega) this;omega
 · have f:q ∣ p - 1:=by
    have:=Nat.gcd_dvd_right q (p - 1)
    rwa [e] at this
   have:=z8 (by omega) f;have:q * q<=p * p:=zC (by omega) (by omega);omega
def pmF (m:Nat):Nat->Nat->Nat->Nat
 | 0,_,_=>1 % m
 | k+1,a,n=>if n=0 then 1 % m else if n % 2=1 then pmF m k (a * a % m) (n / 2) * a % m else pmF m k (a * a % m) (n / 2)
theorem pg4 (m):∀ k a n,n<2 ^ k->pmF m k a n=a ^ n % m
 | 0,a,n,h=>by
  have:n=0:=by simp at h;omega
  subst this;rfl
 | k+1,a,n,h=>by
  rw [pmF]
  by_cases h0:n=0
  · rw [xH h0,h0];rfl
  · rw [yy h0]
    have f:n / 2<2 ^ k:=by rw [x8] at h;omega
    have d:=pg4 m k (a * a % m) (n / 2) f
    have e:(a * a % m) ^ (n / 2) % m=a ^ (2 * (n / 2)) % m:=by
     rw [pcA,zj,Nat.pow_two]
    rw [d,e];have c:=zR n 2;by_cases h1:n % 2=1
    · rw [xH h1]
      conv=>rhs;rw [<-c,h1,x8]
      rw [Nat.mod_mul_mod]
    · rw [yy h1]
      conv=>rhs;rw [<-c,show n % 2=0 by omega,zY]
theorem pud {n b} (f:2<=n) (j:n<b * b) (h:∀ d,d<b->2<=d->n % d≠0):Pr n:=by
 apply yf;intro g;obtain ⟨p,e,c,k⟩:=pfX f g;by_cases a:p<b
 · exact h p a e.1 (ve c)
 · have:b * b<=p * p:=zC (by omega) (by omega);omega
def pn3 (n:Nat):Nat->Bool
 | 0=>true
 | d+1=>pn3 n d && (decide (d<2) || decide (n % d≠0))
theorem pfY (n):∀ b,pn3 n b=true->∀ d,d<b->2<=d->n % d≠0
 | 0,_,d,h,_=>by omega
 | b+1,hb,d,h,h2=>by
  simp only [pn3,yR,Bool.or_eq_true,decide_eq_true_eq] at hb
  by_cases e:d=b
  · subst e
    rcases hb.2 with g | g
    · omega
    · exact g
  · exact pfY n b hb.1 d (by omega) h2
theorem pn4 {n q R a} (k) (hq:Pr q) (d:(decide (2<=n) && decide (n - 1=q * R) && decide (n<q * q) && decide (n - 1<2 ^ k) && decide (R<2 ^ k) && decide (pmF n k a (n - 1)=1) && decide (Nat.gcd (pmF n k a R+n - 1) n=1))=true):Pr n:=by
 simp only [yR,decide_eq_true_eq] at d;obtain ⟨⟨⟨⟨⟨⟨h1,f⟩,j⟩,h⟩,g⟩,e⟩,c⟩:=d;rw [pg4 n k a _ h] at e;rw [pg4 n k a _ g] at c;exact pku h1 hq f j e c
theorem pr1:Pr 95189:=pud (b:=309) (by omega) (by omega) (pfY 95189 309 (by decide +kernel))
theorem pr2:Pr 2835870689:=pn4 (q:=95189) (R:=29792) (a:=3) 64 pr1 (by decide +kernel)
theorem pr3:Pr 5671741379:=pn4 (q:=2835870689) (R:=2) (a:=2) 64 pr2 (by decide +kernel)
theorem pr4:Pr 288230376151711447:=pn4 (q:=5671741379) (R:=50818674) (a:=2) 64 pr3 (by decide +kernel)
def Qn:Nat:=1152921504606845789
def Pn:Nat:=2305843009213691579
theorem prQ:Pr Qn:=pn4 (q:=288230376151711447) (R:=4) (a:=2) 64 pr4 (by decide +kernel)
theorem prP:Pr Pn:=pn4 (q:=Qn) (R:=2) (a:=2) 64 prQ (by decide +kernel)
theorem prM {a} (h:a ^ Qn % Pn=1):¬ Pn ∣ a:=by
 intro c;have:Pn ∣ a ^ Qn:=pfW c (by decide);rw [ve this] at h;omega
theorem prN {a x y} (e:¬ Pn ∣ a) (h:a * x % Pn=a * y % Pn):x % Pn=y % Pn:=by
 rcases Nat.le_total x y with hl | hl
 · have d:Pn ∣ a * (y - x):=by
    rw [Nat.mul_sub];exact ur (uy h.symm)
   rcases prP.mul d with g | g
   · exact absurd g e
   · obtain ⟨c,f⟩:=g;rw [show y=x+Pn * c by omega,zM]
 · have d:Pn ∣ a * (x - y):=by
    rw [Nat.mul_sub];exact ur (uy h)
   rcases prP.mul d with g | g
   · exact absurd g e
   · obtain ⟨c,f⟩:=g;rw [show x=y+Pn * c by omega,zM]
theorem pg5 {a} (h:¬ Pn ∣ a):∀ n,¬ Pn ∣ a ^ n
 | 0=>by rw [vh];decide
 | n+1=>by
  rw [x8]
  intro c
  rcases prP.mul c with g | g
  · exact pg5 h n g
  · exact h g
theorem psb {a i j} (h:a ^ Qn % Pn=1) (h1:a % Pn≠1) (d:i<Qn) (f:j<Qn) (c:a ^ i % Pn=a ^ j % Pn):i=j:=by
 have key:∀ i j,i<=j->i<Qn->j<Qn->a ^ i % Pn=a ^ j % Pn->i=j:=by
  intro i j o d f c;apply yf;intro p;have e:a ^ j=a ^ i * a ^ (j - i):=by rw [<-uF];congr 1;omega
  rw [e,show a ^ i % Pn=a ^ i * 1 % Pn by rw [zf]] at c;have n:=prN (pg5 (prM h) i) c;have k:=pn2 a Pn (j - i) Qn n.symm h;have m:Nat.gcd (j - i) Qn=1:=by
   rcases prQ.2 _ (Nat.gcd_dvd_right (j - i) Qn) with g | g
   · exact g
   · have:=z8 (by omega) (Nat.gcd_dvd_left (j - i) Qn);omega
  rw [m,Nat.pow_one] at k;exact h1 k
 rcases Nat.le_total i j with hl | hl
 · exact key i j hl d f c
 · exact (key j i hl f d c.symm).symm
theorem phO {x} (h:¬ Pn ∣ x):(x * x) ^ Qn % Pn=1:=by
 have e:(x * x) ^ Qn=x ^ (Pn - 1):=by
  rw [<-Nat.pow_two,<-zj];rfl
 rw [e];exact pg3 prP h
theorem psc {a} (h:a ^ Qn % Pn=1) (n):a ^ n % Pn=a ^ (n % Qn) % Pn:=by
 conv=>lhs;rw [<-zR n Qn,uF,zj,uH,pd9 (show a ^ Qn % Pn=1 % Pn from h),<-uH,uG]
end Go.Proofs.YtkhjolbbpdaplaaGreatDoor

namespace Go.Proofs.YtkhjolbbpdaplaaGreatDoor
set_option maxHeartbeats 1000000
open Go.RowKit Go.Proofs.Tryz
set_option maxRecDepth 100000
theorem residue_any (a m w) (_ha:-9223372036854775808<=a/\a<=9223372036854775807) (f:1<=m/\m<=9223372036854775807) :
 Calls prog 113 #[.int .i64 a,.int .i64 m] w (RetZ .i64 m (a % m) w):=by
 have c:=ug (a:=a) (b:=m);have d:=yF a (show m≠0 by omega);have e:=yj a (show 0<m by omega);have H1:=ah c;clear c;go_in;go_wp2_with fail
 · go_ret;refine paX (by omega) ?_;have h:=H1.out;simp only [wrap64];split at h <;> omega
 · go_ret;refine paX (by omega) ?_;have h:=H1.out;split at h <;> omega
theorem plus_any (x y m w) (a:0<=x/\x<m) (d:0<=y/\y<m) (c:m<=9223372036854775807) :
 Calls prog 115 #[.int .u64 x,.int .u64 y,.int .u64 m] w (RetZ .u64 m ((x+y) % m) w):=by
 go_in;go_wp2_with fail
 · go_ret;refine paX (by omega) ?_;rw [<-vB (x+y) m,zF (by omega) (by omega)]
 · go_ret;refine paX (by omega) ?_;rw [zF (by omega) (by omega)]
theorem psd (q:Nat) (hq:q<18446744073709551616):bits .and .u64 (q:Int) 1=((q % 2:Nat):Int):=by
 show IntKind.u64.wrap ((BitVec.ofInt 64 (q:Int) &&& BitVec.ofInt 64 1).toNat:Int)=_;have a:(BitVec.ofInt 64 (q:Int)).toNat=q:=by
  rw [yO];show ((q:Int) % 18446744073709551616).toNat=_;omega
 have c:(BitVec.ofInt 64 (1:Int)).toNat=1:=rfl;rw [BitVec.toNat_and,a,c,Nat.and_one_is_mod];have:q % 2<2:=yP _ (by omega);show ((q % 2:Nat):Int) % 18446744073709551616=_;omega
theorem piI (q:Nat) (hq:q<9223372036854775808):bits .and .i64 (q:Int) 1=((q % 2:Nat):Int):=by
 show IntKind.i64.wrap ((BitVec.ofInt 64 (q:Int) &&& BitVec.ofInt 64 1).toNat:Int)=_;have a:(BitVec.ofInt 64 (q:Int)).toNat=q:=by
  rw [yO];show ((q:Int) % 18446744073709551616).toNat=_;omega
 have c:(BitVec.ofInt 64 (1:Int)).toNat=1:=rfl;rw [BitVec.toNat_and,a,c,Nat.and_one_is_mod];have:q % 2<2:=yP _ (by omega);exact pam (by omega) (by omega)
theorem pn5 (y) (h:y<18446744073709551616):y<2 ^ Lib.bitLen y/\Lib.bitLen y<=64:=by
 by_cases h0:y=0
 · subst h0;decide
 · obtain ⟨h1,d,c⟩:=Lib.bitLenAux_bounds 64 y h h0;refine ⟨c,?_⟩;show Lib.bitLenAux 64 y<=64;by_cases a:Lib.bitLenAux 64 y<=64
   · exact a
   · exfalso;have:2 ^ 64<=2 ^ (Lib.bitLenAux 64 y - 1):=zm (by omega) (by omega);have e:(2:Nat) ^ 64=18446744073709551616:=by decide
     omega
theorem pn6 (y c k) (h:k<c):y / 2 ^ (c - 1 - k)=2 * (y / 2 ^ (c - k))+y / 2 ^ (c - 1 - k) % 2:=by
 have e:c - k=(c - 1 - k)+1:=by omega
 rw [e,x8,<-ut];omega
theorem mul_any (a b m w) (ha:-9223372036854775808<=a/\a<=9223372036854775807) (hb:-9223372036854775808<=b/\b<=9223372036854775807) (hm:1<=m/\m<=9223372036854775807) :
 Calls prog 47 #[.int .i64 a,.int .i64 b,.int .i64 m] w (RetZ .i64 m (a * b % m) w):=by
 have M:=yF b (show m≠0 by omega);have Q:=yj b (show 0<m by omega);obtain ⟨y,g⟩:∃ y:Nat,b % m=(y:Int):=⟨(b % m).toNat,by omega⟩
 rw [g] at M Q;have q:a * b % m=(a % m) * y % m:=by rw [yV,g]
 rw [q];have f:=pn5 y (by omega);obtain ⟨c,p⟩:=ae (Lib.bitLen y);rw [p] at f;have R:=ah p;have S:=ah g;clear p g q;have X:=ah f.1;have af:=f.2;clear f;go_in;go_wp2_with (first | (go_at_call 113;((with_reducible refine (residue_any a _ _ (by omega) (by omega)).mono ?_);rintro e w' ⟨x,T,aa,ad,rfl,rfl⟩)) | (go_at_call 113;((with_reducible refine (residue_any b _ _ (by omega) (by omega)).mono ?_);rintro e w' ⟨Y,O,ag,Z,rfl,rfl⟩;obtain rfl:Y=(y:Int):=O.out.trans S.out)) | (go_at_call 114;((with_reducible refine (Tryz.bits_Len64 _ _ (by omega) (by omega)).mono ?_);rintro e w' ⟨rfl,rfl⟩;rw [xW,R.out])))
 go_loop [10,28] (fun r i=>∃ k:Nat,k<=c/\i=.int .i64 (k:Int)/\∃ z:Int,r=.int .u64 z/\0<=z/\z<m/\Hid (z=x * ((y / 2 ^ (c - k):Nat):Int) % m)) (fun _ i=>c - (intOf i).toNat)
 case atStart =>
  have W:y / 2 ^ (c - 0)=0:=uA X.out;exact ⟨0,xu _,rfl,0,rfl,by omega,by omega,by rw [W];simp [Hid]⟩
 case round =>
  obtain ⟨k,hk,rfl,z,rfl,ab,ac,D⟩:=hrel;by_cases J:k<c
  · have hq:y / 2 ^ (c - 1 - k)<18446744073709551616:=ui (Nat.div_le_self _ _) (by omega);have t:=pn6 y c k J;have G:c - (k+1)=c - 1 - k:=by omega
    have h:(y:Int) / 2 ^ (c - 1 - k)=((y / 2 ^ (c - 1 - k):Nat):Int):=by simp
    have d:=psd _ hq;rw [<-h] at d;have E:=ah t;have F:=ah G;clear t G hq;have A:(z+z) % m=x * ((2 * (y / 2 ^ (c - k)):Nat):Int) % m:=by
     rw [D.out,<-ux,vm,<-Int.two_mul];congr 1;rw [Int.mul_left_comm];rfl
    have u:=ah A;clear A;by_cases hb1:y / 2 ^ (c - 1 - k) % 2=1
    · have N:(bits BinOp.and IntKind.u64 ((y:Int) / 2 ^ (c - 1 - k)) 1 == 1)=true:=by rw [d,hb1];rfl
      have j:=ah hb1;clear hb1 d h;go_wp2_with (go_at_call 115;first | ((with_reducible refine (plus_any z z _ _ (by omega) (by omega) (by omega)).mono ?_);rintro e w' ⟨C,o,v,B,rfl,rfl⟩) | ((with_reducible refine (plus_any _ x _ _ (by omega) (by omega) (by omega)).mono ?_);rintro e w' ⟨U,P,K,H,rfl,rfl⟩))
      refine ⟨⟨k+1,by omega,by go_num,U,rfl,K,H,?_⟩,by simp [intOf];omega⟩;show _=_;rw [P.out,o.out,u.out,Int.emod_add_emod,F.out,E.out,j.out,Int.natCast_add,Int.mul_add];simp
    · have n:y / 2 ^ (c - 1 - k) % 2=0:=by omega
      have N:(bits BinOp.and IntKind.u64 ((y:Int) / 2 ^ (c - 1 - k)) 1 == 1)=false:=by rw [d,n];rfl
      have j:=ah n;clear hb1 n d h;go_wp2_with (go_at_call 115;((with_reducible refine (plus_any z z _ _ (by omega) (by omega) (by omega)).mono ?_);rintro e w' ⟨C,o,v,B,rfl,rfl⟩))
      refine ⟨⟨k+1,by omega,by go_num,C,rfl,v,B,?_⟩,by simp [intOf];omega⟩;show _=_;rw [o.out,u.out,F.out,E.out,j.out,zY]
  · obtain rfl:k=c:=by omega
    go_wp2;go_ret;refine paX (by omega) ?_;rw [D.out,T.out];simp
theorem pn7 (a b m w) (n:-9223372036854775808<=a/\a<=9223372036854775807) (q:-9223372036854775808<=b/\b<=9223372036854775807) (k:1<=m/\m<=9223372036854775807) :
 Calls prog 118 #[.int .i64 a,.int .i64 b,.int .i64 m] w (RetZ .i64 m ((a+b) % m) w):=by
 go_in;go_wp2_with (first | (go_at_call 113;((with_reducible refine (residue_any a _ _ (by omega) (by omega)).mono ?_);rintro e w' ⟨x,d,h,p,rfl,rfl⟩)) | (go_at_call 113;((with_reducible refine (residue_any b _ _ (by omega) (by omega)).mono ?_);rintro e w' ⟨y,c,o,g,rfl,rfl⟩)) | (go_at_call 115;((with_reducible refine (plus_any _ _ _ _ (by omega) (by omega) (by omega)).mono ?_);rintro e w' ⟨r,f,t,j,rfl,rfl⟩)))
 go_ret;refine paX (by omega) ?_;rw [f.out,d.out,c.out,<-ux]
theorem pfz (a m:Int):∀ k,(a % m) ^ k % m=a ^ k % m
 | 0=>by simp
 | k+1=>by rw [uV,uV,yV,ue,pfz a m k,<-yV]
theorem pn8 (x:Int):∀ h,(x * x) ^ h=x ^ (2 * h)
 | 0=>by simp
 | h+1=>by rw [uV,pn8 x h,show 2 * (h+1)=2 * h+1+1 by omega,uV,uV,vC]
theorem pn9 (p x m:Int) (j) (h:j % 2=1):(p * x % m) * (x * x % m) ^ (j / 2) % m=p * x ^ j % m:=by
 rw [yV,ue,pfz,<-yV,pn8,vC,Int.mul_comm x,<-uV,show (2 * (j / 2)).succ=j by omega]
theorem plz (p x m:Int) (j) (h:j % 2=0):p * (x * x % m) ^ (j / 2) % m=p * x ^ j % m:=by
 rw [yV,pfz,<-yV,pn8,show 2 * (j / 2)=j by omega]
def powZ (a:Int) (n:Nat) (m:Int):Int:=a ^ n % m
theorem pow1_any (x y m g w) (c:-9223372036854775808<=x/\x<=9223372036854775807) (j:-9223372036854775808<=y/\y<=9223372036854775807) (d:1<=m/\m<=9223372036854775807)
 (h:w.cell? ⟨g,0,none⟩=some (.int .i64 m)) :
 Calls prog 116 #[.int .i64 x,.int .i64 y,.pointer (some ⟨g,0,none⟩)] w (RetZ .i64 m (x * y % m) w):=by
 go_in;go_wp2_with (go_at_call 47;((with_reducible refine (mul_any _ _ _ _ (by omega) (by omega) (by omega)).mono ?_);rintro e w' ⟨r,a,k,f,rfl,rfl⟩))
 go_ret;exact paX (by omega) a.out
theorem phP (a m) (n:Nat) (w) (E:-9223372036854775808<=a/\a<=9223372036854775807) (F:n<=9223372036854775807) (K:1<=m/\m<=9223372036854775807) :
 Calls prog 48 #[.int .i64 a,n,.int .i64 m] w (MkZ .i64 m (powZ a n m) w):=by
 go_in;go_wp2_with (first | (go_at_call 113;((with_reducible refine (residue_any _ _ _ (by omega) (by omega)).mono ?_);rintro e w' ⟨x,G,u,y,rfl,rfl⟩)))
 go_loop [0,1,8] (fun b i r=>∃ (j:Nat) (x p:Int),b=.int .i64 x/\i=.int .i64 (j:Int)/\r=.int .i64 p/\j<=9223372036854775807/\(-9223372036854775808<=x/\x<=9223372036854775807)/\0<=p/\p<m/\Hid (p * x ^ j % m=a ^ n % m)) (fun _ i _=>(intOf i).toNat)
 case atStart=>exact ⟨n,a,x,rfl,rfl,rfl,F,E,u,y,by show _=_;rw [G.out,yV,ue,<-yV,Int.one_mul]⟩
 case round =>
  obtain ⟨j,x,p,rfl,rfl,rfl,M,H,f,k,o⟩:=hrel;by_cases J:0<j
  · by_cases hb1:j % 2=1
    · have A:(bits BinOp.and IntKind.i64 (j:Int) 1 == 1)=true:=by rw [piI _ (by omega),hb1];rfl
      have c:=ah hb1;clear hb1;go_wp2_with (go_at_call 116;first | ((with_reducible refine (pow1_any p x m _ _ (by omega) (by omega) (by omega) (by simp)).mono ?_);rintro e w' ⟨D,C,z,B,rfl,rfl⟩) | ((with_reducible refine (pow1_any x x m _ _ (by omega) (by omega) (by omega) (by simp)).mono ?_);rintro e w' ⟨q,g,v,t,rfl,rfl⟩))
      refine ⟨⟨j / 2,q,D,rfl,by go_num,rfl,by omega,by omega,z,B,?_⟩,by simp [intOf];omega⟩;show _=_;rw [g.out,C.out,pn9 p x m j c.out,o.out]
    · have d:j % 2=0:=by omega
      have A:(bits BinOp.and IntKind.i64 (j:Int) 1 == 1)=false:=by rw [piI _ (by omega),d];rfl
      have c:=ah d;clear hb1 d;go_wp2_with (go_at_call 116;((with_reducible refine (pow1_any x x m _ _ (by omega) (by omega) (by omega) (by simp)).mono ?_);rintro e w' ⟨q,g,v,t,rfl,rfl⟩))
      refine ⟨⟨j / 2,q,p,rfl,by go_num,rfl,by omega,by omega,f,k,?_⟩,by simp [intOf];omega⟩;show _=_;rw [g.out,plz p x m j c.out,o.out]
  · obtain rfl:j=0:=by omega
    go_wp2;go_ret;refine ⟨p,?_,f,k,rfl,uR.alloc _⟩;have h:=o.out;rw [Int.pow_zero,Int.mul_one,zF f k] at h;exact h
def MkB (b:Bool) (w:World) (e:Ending) (w':World):Prop:=∃ r:Bool,Hid (r=b)/\e=.returned (.bool r)/\Upd [] [] w w'
def RetB (b:Bool) (w:World) (e:Ending) (w':World):Prop:=∃ r:Bool,Hid (r=b)/\e=.returned (.bool r)/\w=w'
def memB (a:Int):Bool:=decide (1<=a) && decide (a<2305843009213691579) && decide (powZ a 1152921504606845789 2305843009213691579=1)
theorem pow_at (a n m) (N:Nat) (c:n=(N:Int)) (w) (e:-9223372036854775808<=a/\a<=9223372036854775807) (f:n<=9223372036854775807) (d:1<=m/\m<=9223372036854775807) :
 Calls prog 48 #[.int .i64 a,.int .i64 n,.int .i64 m] w (MkZ .i64 m (powZ a N m) w):=by
 subst c;exact phP a m N w e (by omega) d
theorem qCast:(1152921504606845789:Int)=((1152921504606845789:Nat):Int):=rfl
theorem phQ {a} (h:a<1):memB a=false:=by
 have:decide (1<=a)=false:=by simpa using h
 simp [memB,this]
theorem piJ {a} (h:2305843009213691578<a):memB a=false:=by
 have:decide (a<2305843009213691579)=false:=by rw [zi];omega
 simp [memB,this]
theorem plA {a} (h1:1<=a) (e:a<=2305843009213691578):memB a=decide (powZ a 1152921504606845789 2305843009213691579=1):=by
 have c:decide (1<=a)=true:=by simpa using h1
 have d:decide (a<2305843009213691579)=true:=by rw [ye];omega
 rw [memB,c,d];rfl
theorem pmQ (a w) (m:-9223372036854775808<=a/\a<=9223372036854775807) :
 Calls prog 44 #[.int .i64 a] w (MkB (memB a) w):=by
 by_cases h1:1<=a
 · by_cases f:a<=2305843009213691578
   · have c:=ah (plA h1 f);go_in;go_wp2_with (go_at_call 48;((with_reducible refine (pow_at a _ _ 1152921504606845789 qCast _ (by omega) (by omega) (by omega)).mono ?_);rintro e w' ⟨r,h,k,j,rfl,g⟩))
     go_ret;refine ⟨_,?_,rfl,g⟩;show _=_;rw [c.out,<-h.out];rfl
   · have d:2305843009213691578<a:=by omega
     have c:=ah (piJ d);clear f;go_in;go_wp2;go_ret;exact ⟨_,c.out.symm,rfl,Upd.refl _ _⟩
 · have d:a<1:=by omega
   have c:=ah (phQ d);clear h1;go_in;go_wp2;go_ret;exact ⟨_,c.out.symm,rfl,Upd.refl _ _⟩
def acc8 (h:List UInt8):Nat->Nat
 | 0=>0
 | k+1=>acc8 h k * 256+(h.getD k 0).toNat
theorem pkv (h:List UInt8):∀ k,acc8 h k<256 ^ k
 | 0=>by simp [acc8]
 | k+1=>by
  have h1:=pkv h k
  have a:=(h.getD k 0).toNat_lt
  rw [acc8,x8]
  omega
def numN (h:List UInt8):Nat:=acc8 h 8 % 9223372036854775808
def pd3 (s:List UInt8):Nat:=numN (sha ([115,47] ++ s)) % 1152921504606845789
theorem or64 (a:Nat) (b:UInt8) (h:a<72057594037927936):bits .or .u64 ((a:Int) * 256 % 18446744073709551616) (b.toNat:Int)=((a * 256+b.toNat:Nat):Int):=by
 have g:=b.toNat_lt;have e:(a:Int) * 256 % 18446744073709551616=((a * 256:Nat):Int):=by omega
 rw [e];show IntKind.u64.wrap ((BitVec.ofInt 64 ((a * 256:Nat):Int) ||| BitVec.ofInt 64 (b.toNat:Int)).toNat:Int)=_;have d:(BitVec.ofInt 64 ((a * 256:Nat):Int)).toNat=a * 256:=by
  rw [yO];show (((a * 256:Nat):Int) % 18446744073709551616).toNat=_;omega
 have f:(BitVec.ofInt 64 (b.toNat:Int)).toNat=b.toNat:=by
  rw [yO];show ((b.toNat:Int) % 18446744073709551616).toNat=_;omega
 have c:a * 256 ||| b.toNat=a * 256+b.toNat:=by
  rw [yk a,show (256:Nat)=2 ^ 8 from rfl,<-zX (by omega:b.toNat<2 ^ 8)]
 rw [uN,d,f,c];show ((a * 256+b.toNat:Nat):Int) % 18446744073709551616=_;omega
theorem pqD (n:Nat) (h:n<18446744073709551616):bits .andNot .u64 (n:Int) 9223372036854775808=((n % 9223372036854775808:Nat):Int):=by
 have e:=u64_andNot_nat n 9223372036854775808 h (by omega);have a:(18446744073709551615 - 9223372036854775808:Nat)=2 ^ 63 - 1:=by decide
 rw [a,Nat.and_two_pow_sub_one_eq_mod] at e;exact e
theorem pg6 (s w) (hs:s.size<=281474976710656) (T:Tabs w) :
 Calls prog 228 #[.string s] w (fun e w'=>∃ r,Hid (r=numN (sha (bs s)))/\r<9223372036854775808/\e=.returned (.int .i64 (r:Int))/\Uq w w'):=by
 obtain ⟨h,t⟩:=az (sha (bs s));have m:h.length=32:=by rw [t,pbP]
 have F:=ah t;obtain ⟨cs,c⟩:=az ((byteVals h).toArray);have j:cs.size=32:=by rw [c];simp [byteVals,m]
 have C:cs.all (·.oneCell')=true:=by
  rw [yg];intro v Q;rw [c] at Q;exact paL _ v (by simpa using Q)
 have u:(prog.info? 60).map (·.size)=some cs.size:=by rw [j];kernel_rfl
 have HI:=ah u;have W:=ah C;have E:=ah c;have O:=ah (xf m j);clear t m c j C u;go_in;go_wp2_with fail;refine (pn0 s w hs T).mono ?_;rintro e a ⟨rfl,f⟩;rw [<-F.out,<-E.out];have h0:(a.alloc (.cells (byteVals (List.replicate 32 0)).toArray 60)).heap[a.heap.size]? =some (.cells (byteVals (List.replicate 32 0)).toArray 60 (0,0)):=xi _ _;have H0:=ah h0;have A:=(f.alloc (.cells (byteVals (List.replicate 32 0)).toArray 60)).setRowNew (g:=a.heap.size) f.size cs;have P:=xz _ a.heap.size _ cs _ _ h0;have N:=ah P;have H:=ah A;clear h0 P A;go_wp2_with (refine yH rfl 60 _ _ rfl a.heap.size cs rfl rfl _ _ H0.out HI.out (by rw [O.out.2];simp [byteVals]) W.out ?_)
 have Z:a.heap.size=a.heap.size:=rfl;generalize hg:a.heap.size=g at *;go_loopw [4,8] (fun n i wr=>∃ k:Nat,k<=8/\i=.int .i64 (k:Int)/\Fr wr g cs 60/\Uq w wr/\∃ z:Nat,n=.int .u64 (z:Int)/\z<256 ^ k/\Hid (z=acc8 h k)) (fun _ i _=>8 - (intOf i).toNat)
 case atStart=>exact ⟨0,xu _,rfl,N.out,H.out,0,rfl,by decide,rfl⟩
 case round =>
  clear H0 N H f Z hg;obtain ⟨k,hk,rfl,M,S,z,rfl,q,d⟩:=hrel;by_cases X:k<8
  · have hq:wr.cell? ⟨g,k,none⟩=some (.int .u8 ((h.getD k 0).toNat:Int)):=by
     rw [xa wr g k _ _ _ M.out,E.out];have:=O.out.1;simp [byteVals,pbj,List.getD,show k<h.length by omega]
    have Y:z<72057594037927936:=by
     have:256 ^ k<=256 ^ 7:=zm (by omega) (by omega);have e:(256:Nat) ^ 7=72057594037927936:=by decide
     omega
    have K:=or64 z (h.getD k 0) Y;have x:=pkv h (k+1);have HA:=ah x;clear x;obtain ⟨b,o⟩:=az (h.getD k 0);rw [<-o] at hq K;have aa:=b.toNat_lt;have R:=ah o;clear o q;go_wp2_with fail;refine ⟨⟨k+1,by omega,by go_num,M.out,S,z * 256+b.toNat,?_,?_,?_⟩,by simp [intOf];omega⟩
    · rw [show (z:Int) * 256=(z:Int) * 256 % 18446744073709551616 by omega,K]
    · have e:=HA.out;rw [acc8,<-d.out,<-R.out] at e;exact e
    · show _=_;rw [acc8,<-d.out,<-R.out]
  · have G:k=8:=by omega
    have B:(k:Int)=8:=by omega
    rw [G] at q d;rw [B];clear X hk G B;have U:z<18446744073709551616:=by
     have e:(256:Nat) ^ 8=18446744073709551616:=by decide
     omega
    clear q;have D:=pqD z U;have J:z % 9223372036854775808<9223372036854775808:=yP _ (by omega);obtain ⟨y,p⟩:=az (z % 9223372036854775808);rw [<-p] at D J;have HY:=ah p;clear p;go_wp2;go_ret;refine ⟨y,?_,J,?_,S⟩
    · show _=_;rw [HY.out,d.out,numN,F.out]
    · first | rfl | (rw [D]) | trace_state
def MkN (m v:Nat) (w:World) (e:Ending) (w':World):Prop:=∃ r:Nat,Hid (r=v)/\r<m/\e=.returned (.int .i64 (r:Int))/\Upd [] [] w w'
theorem pfZ (s w) (q:s.size<=281474976710000) (c:Tabs w) :
 Calls prog 177 #[.string s] w (MkN 1152921504606845789 (pd3 (bs s)) w):=by
 go_in;go_wp2_with fail;refine (pg6 _ w (by have:(ByteArray.mk #[115,47]).size=2:=rfl;simp [ByteArray.size_append];omega) c).mono ?_;rintro e m ⟨r,g,o,rfl,h⟩;go_wp2_with fail;refine (residue_any _ _ _ (by omega) (by omega)).mono ?_;rintro e t ⟨x,f,p,k,rfl,rfl⟩;go_wp2;go_ret;obtain ⟨n,j⟩:∃ n:Nat,x=(n:Int):=⟨x.toNat,by omega⟩
 subst j;refine ⟨n,?_,by omega,rfl,h⟩;show _=_;have h1:=f.out;have a:=g.out;rw [pae] at a;have d:bs ⟨#[115,47]⟩=[115,47]:=rfl;rw [d] at a;rw [pd3,<-a];omega
end Go.Proofs.YtkhjolbbpdaplaaGreatDoor

namespace Go.Proofs.YtkhjolbbpdaplaaGreatDoor
set_option maxHeartbeats 1000000
set_option maxRecDepth 100000
theorem pfA:4 ^ Qn % Pn=1:=by
 rw [<-pg4 Pn 64 4 Qn (by decide +kernel)];decide +kernel
theorem prO:0<Pn:=by decide
theorem ptn:1<Pn:=by decide
theorem pg7:0<Qn:=by decide
def gP (n:Nat):Nat:=4 ^ n % Pn
def memN (a:Nat):Prop:=1<=a/\a<Pn/\a ^ Qn % Pn=1
theorem pkw {a} (h:a ^ Qn % Pn=1) (n):memN (a ^ n % Pn):=by
 have e:(a ^ n % Pn) ^ Qn % Pn=1:=by
  rw [pcA,<-zj,yk,zj,vu,h,Nat.one_pow,xV ptn]
 refine ⟨?_,yP _ prO,e⟩;by_cases h0:a ^ n % Pn=0
 · rw [h0,Nat.zero_pow pg7,Nat.zero_mod] at e;omega
 · omega
theorem pg8 (n):memN (gP n):=pkw pfA n
theorem pqE (n):gP n<Pn:=(pg8 n).2.1
theorem pcn (a n:Nat):powZ (a:Int) n 2305843009213691579=((a ^ n % Pn:Nat):Int):=by
 rw [powZ,uC,uM];rfl
theorem pbG (a:Nat):memB (a:Int)=true ↔ memN a:=by
 have c:=pcn a 1152921504606845789;unfold memB memN;rw [c];have e:(decide (1<=(a:Int))=true) ↔ 1<=a:=by rw [ye];omega
 have f:(decide ((a:Int)<2305843009213691579)=true) ↔ a<Pn:=by rw [ye];unfold Pn;omega
 have d:(decide (((a ^ 1152921504606845789 % Pn:Nat):Int)=1)=true) ↔ a ^ Qn % Pn=1:=by
  rw [ye];show ((a ^ Qn % Pn:Nat):Int)=1 ↔ _;omega
 rw [yR,yR,e,f,d,and_assoc]
theorem pc3 {a} (h:memB a=true):∃ n:Nat,a=(n:Int)/\memN n:=by
 by_cases h0:0<=a
 · obtain ⟨n,rfl⟩:=uo h0;exact ⟨n,rfl,(pbG n).1 h⟩
 · rw [phQ (by omega)] at h
   cases h
def pdr (r p:Nat) (t:List UInt8):Nat:=pd3 ([99] ++ len8 r ++ len8 p ++ t)
def posN (n:Nat):Nat:=if n=0 then 1 else n
def keyN (seed:List UInt8):Nat:=posN (pd3 ([107] ++ seed))
def nonceN (x:Nat) (t:List UInt8):Nat:=posN (pd3 ([110] ++ len8 x ++ t))
def sWith (x n:Nat) (t:List UInt8):Nat:=(n+x * pdr (gP n) (gP x) t) % Qn
theorem phR (s):pd3 s<Qn:=yP _ pg7
theorem pkx {n} (h:n<Qn):posN n<Qn:=by
 unfold posN;split
 · decide
 · exact h
theorem plB (n):0<posN n:=by unfold posN;split <;> omega
theorem poa (s):keyN s<Qn:=pkx (phR _)
theorem pdL (x n t):sWith x n t<Qn:=yP _ pg7
theorem plC (r p t):pdr r p t<Qn:=phR _
def verB (p:Int) (t:List UInt8) (r s:Int):Bool :=
 memB p && memB r && decide (0<=s) && decide (s<1152921504606845789) && decide (powZ 4 s.toNat 2305843009213691579=r * powZ p (pdr r.toNat p.toNat t) 2305843009213691579 % 2305843009213691579)
theorem piK (p r s:Nat) (t):verB (p:Int) t (r:Int) (s:Int)=true ↔ memN p/\memN r/\s<Qn/\gP s=r * p ^ pdr r p t % Pn:=by
 unfold verB;have g:(decide (0<=(s:Int))=true):=by rw [ye];omega
 have h:(decide ((s:Int)<1152921504606845789)=true) ↔ s<Qn:=by rw [ye];unfold Qn;omega
 have e:(r:Int) * ((p ^ pdr r p t % Pn:Nat):Int) % 2305843009213691579=((r * p ^ pdr r p t % Pn:Nat):Int):=by
  rw [<-vm];show ((r * (p ^ pdr r p t % Pn):Nat):Int) % ((Pn:Nat):Int)=_;rw [<-uC,Nat.mul_mod_mod]
 have f:powZ 4 s 2305843009213691579=((gP s:Nat):Int):=pcn 4 s;rw [yR,yR,yR,yR,h,pbG,pbG,xW,xW,xW,pcn,e,f];constructor
 · rintro ⟨⟨⟨⟨h1,c⟩,_⟩,d⟩,a⟩;exact ⟨h1,c,d,by rw [ye] at a;exact_mod_cast a⟩
 · rintro ⟨h1,c,d,a⟩;exact ⟨⟨⟨⟨h1,c⟩,g⟩,d⟩,by rw [ye,a]⟩
theorem ver_with (x n t):verB (gP x:Int) t (gP n:Int) (sWith x n t:Int)=true:=by
 rw [piK];refine ⟨pg8 x,pg8 n,pdL x n t,?_⟩;unfold sWith;generalize pdr (gP n) (gP x) t=c;unfold gP;rw [<-psc pfA,Nat.mod_mul_mod,uH,pcA,<-zj,<-uH,<-uF]
theorem ver_two {p r s:Nat} {t u} (h:verB (p:Int) t (r:Int) (s:Int)=true) (c:verB (p:Int) u (r:Int) (s:Int)=true):pdr r p t=pdr r p u\/p=1:=by
 rw [piK] at h c;obtain ⟨⟨m,e,f⟩,⟨k,n,j⟩,_,d⟩:=h;obtain ⟨_,_,_,g⟩:=c;by_cases a:p=1
 · exact .inr a
 · left;refine psb f (by rw [xV e];exact a) (plC _ _ _) (plC _ _ _) ?_;exact prN (prM j) (d.symm.trans g)
end Go.Proofs.YtkhjolbbpdaplaaGreatDoor

namespace Go.Proofs.YtkhjolbbpdaplaaGreatDoor
set_option maxHeartbeats 1000000
open Go.RowKit Go.Proofs.Tryz
set_option maxRecDepth 100000
def MkS (l:List UInt8) (w:World) (e:Ending) (w':World):Prop:=∃ r:ByteArray,Hid (bs r=l)/\r.size<=l.length/\e=.returned (.string r)/\Upd [] [] w w'
theorem paF {r l} (h:bs r=l):r.size=l.length:=by rw [<-h,pac]
theorem pf0 (n:Nat) (w) (_hn:n<=9223372036854775807):Calls prog 112 #[n] w (MkS (len8 n) w):=by
 have g:(w.alloc (.cells (byteVals (List.replicate 8 0)).toArray 217)).heap[w.heap.size]? =some (.cells (byteVals (List.replicate 8 0)).toArray 217 (0,0)):=xi _ _;have h:Uq w (w.alloc (.cells (byteVals (List.replicate 8 0)).toArray 217)):=uR.alloc _;have f:=ah g;clear g;go_in;go_wp2;go_loopw [5] (fun i wr=>∃ k:Nat,i=.int .i64 (k:Int)/\k<=8/\Hid (wr.heap[w.heap.size]? =some (.cells (byteVals ((len8 n).take k ++ List.replicate (8 - k) 0)).toArray 217 (0,0)))/\Uq w wr) (fun i _=>8 - (intOf i).toNat)
 case atStart=>exact ⟨0,rfl,xu _,f.out,h⟩
 case round =>
  clear f h;obtain ⟨k,rfl,x,a,o⟩:=hrel;by_cases q:k<8
  · have m:∃ j,wr.cell? ⟨w.heap.size,k,none⟩=some j:=by
     rw [xa wr w.heap.size k _ _ _ a.out];exact ⟨_,yv (by simp [byteVals,len8];omega)⟩
    obtain ⟨j,m⟩:=m;have y:wr.frozen? ⟨w.heap.size,k,none⟩=false:=xp wr w.heap.size k _ _ a.out;have d:=xg wr w.heap.size k _ _ (pbj (UInt8.ofNat (n / 2 ^ (8 * (7 - k))))) a.out;rw [piF n k q] at d;have u:=ah d;have r:=ah (o.setNew (p:=⟨w.heap.size,k,none⟩) (xj _) (pbj (UInt8.ofNat (n / 2 ^ (8 * (7 - k))))));clear d;have v:56 - 8 * k=8 * (7 - k):=by omega
    go_wp2_with fail;go_roundw
    case rel=>exact ⟨k+1,by go_num,by omega,by rw [pfy];exact u.out,by rw [pfy];exact r.out⟩
    case measure=>simp [intOf];omega
  · obtain rfl:k=8:=by omega
    have c:=a.out;rw [xy (by rw [pau];omega)] at c;simp only [yC,zg,yl] at c;have e:=pbO (P:=prog) wr 95 9 5 underlying95 underlying5 underlying9 w.heap.size _ _ _ c (len8 n) (by rw [xy (by simp [byteVals])]) 0 8 8 (by rw [pau];omega);have t:=ah e;clear e c;go_wp2_with fail;rw [t.out];go_wp2;go_ret;refine ⟨⟨(len8 n).toArray⟩,rfl,?_,?_,o⟩
    · exact xj _
    · rw [xy (by rw [pau];omega)];rfl
theorem piL (n:Nat) (w):Calls prog 117 #[n] w (Ret (.int .i64 (posN n:Int)) w):=by
 by_cases h:n=0
 · subst h;go_in;go_wp2;go_ret;exact ⟨rfl,rfl⟩
 · have a:posN n=n:=by simp [posN,h]
   have c:=ah a;have h1:0<n:=by omega
   clear h a;go_in;go_wp2;go_ret;exact ⟨by rw [c.out];rfl,rfl⟩
theorem pen (n:Nat) (w) (f:n<=9223372036854775807):Calls prog 46 #[n] w (MkN 2305843009213691579 (gP n) w):=by
 go_in;go_wp2_with fail;refine (phP 4 2305843009213691579 n w (by omega) f (by omega)).mono ?_;rintro e g ⟨r,c,k,j,rfl,d⟩;obtain ⟨m,rfl⟩:∃ m:Nat,r=(m:Int):=⟨r.toNat,by omega⟩
 go_wp2;go_ret;refine ⟨m,?_,by omega,rfl,d⟩;show _=_;have h:=c.out;have a:powZ 4 n 2305843009213691579=((gP n:Nat):Int):=pcn 4 n;rw [a] at h;omega
theorem plD (a):Lib.join a []=a.flatten:=by
 unfold Lib.join
 induction a with
 | nil=>rfl
 | cons x r ih =>
  cases r with
  | nil=>simp
  | cons y r=>simpa [List.intercalate] using ih
def pf1 (w:World) (g:Nat) (xs:List ByteArray):Prop:=g<w.heap.size/\∀ (j:Nat) x,xs[j]? =some x->w.cell? ⟨g,0+j,none⟩=some (.string x)
theorem pea (a g c w) (h:pf1 w g a) (z:a.length<=c) (B:a.length<=1000) (u:(a.map bs).flatten.length<=140737488355328) (p:Tabs w) :
 Calls prog 111 #[.slice (some ⟨g,0,none⟩) a.length c] w (MkN 1152921504606845789 (pd3 (a.map bs).flatten) w):=by
 have o:Lib.join (a.map (·.data.toList)) (ByteArray.mk #[]).data.toList=(a.map bs).flatten:=plD _;have k:=ah o;have j:=ah h;clear o h;go_in;go_wp2_with fail;refine (Tryz.strings_Join g 0 c a ⟨#[]⟩ w j.out.2 j.out.1 (by omega) z (by rw [k.out];omega)).mono ?_;rintro e v ⟨rfl,m⟩;have n:=paE m;clear m;rw [k.out];obtain ⟨T,f⟩:∃ T:ByteArray,T=⟨(a.map bs).flatten.toArray⟩:=⟨_,rfl⟩
 rw [<-f];have d:bs T=(a.map bs).flatten:=by rw [f,pcM]
 have A:T.size<=140737488355328:=by rw [paF d];exact u
 have t:=ah d;clear f d;go_wp2_with fail;refine (pfZ T v (by omega) (p.upd n)).mono ?_;rintro e C ⟨r,y,x,rfl,q⟩;go_wp2;go_ret;refine ⟨r,?_,x,rfl,n.trans q⟩;show _=_;rw [y.out,t.out]
theorem pue (w:World) (a b t):pf1 (w.alloc (.cells #[.string a,.string b] t)) w.heap.size [a,b]:=by
 refine ⟨by simp,fun j x h=>?_⟩;rw [xa _ w.heap.size _ #[.string a,.string b] t (0,0) (xi _ _)]
 match j,h with
 | 0,h=>simp at h;subst h;rfl
 | 1,h=>simp at h;subst h;rfl
 | n+2,h=>simp at h
theorem puf (w:World) (a b c t):pf1 (w.alloc (.cells #[.string a,.string b,.string c] t)) w.heap.size [a,b,c]:=by
 refine ⟨by simp,fun j x h=>?_⟩;rw [xa _ w.heap.size _ #[.string a,.string b,.string c] t (0,0) (xi _ _)]
 match j,h with
 | 0,h=>simp at h;subst h;rfl
 | 1,h=>simp at h;subst h;rfl
 | 2,h=>simp at h;subst h;rfl
 | n+3,h=>simp at h
theorem pug (w:World) (a b c d t):pf1 (w.alloc (.cells #[.string a,.string b,.string c,.string d] t)) w.heap.size [a,b,c,d]:=by
 refine ⟨by simp,fun j x h=>?_⟩;rw [xa _ w.heap.size _ #[.string a,.string b,.string c,.string d] t (0,0) (xi _ _)]
 match j,h with
 | 0,h=>simp at h;subst h;rfl
 | 1,h=>simp at h;subst h;rfl
 | 2,h=>simp at h;subst h;rfl
 | 3,h=>simp at h;subst h;rfl
 | n+4,h=>simp at h
theorem peo (r p:Nat) (t w) (A:r<=9223372036854775807) (y:p<=9223372036854775807) (G:t.size<=140737488355000) (m:Tabs w) :
 Calls prog 45 #[r,p,.string t] w (MkN 1152921504606845789 (pdr r p (bs t)) w):=by
 go_in;go_wp2_with fail;refine (pf0 r w A).mono ?_;rintro e z ⟨f,n,E,rfl,x⟩;go_wp2_with fail;refine (pf0 p z y).mono ?_;rintro e a ⟨d,v,F,rfl,o⟩;have k:=x.trans o;go_wp2_with fail;have g:=pug a ⟨#[99]⟩ f d t 9;have j:Uq a (a.alloc (.cells #[.string ⟨#[99]⟩,.string f,.string d,.string t] 9)):=uR.alloc _;have q:=ah g;have h:Hid ((([⟨#[99]⟩,f,d,t]:List ByteArray).map bs).flatten=[99] ++ len8 r ++ len8 p ++ bs t):=by
  show _=_;simp [n.out,v.out];rfl
 clear g;refine (pea [⟨#[99]⟩,f,d,t] a.heap.size _ _ q.out (by simp) (by simp) (by rw [h.out];simp [pac,pau];omega) (m.upd (k.trans j))).mono ?_;rintro e D ⟨c,B,C,rfl,u⟩;go_wp2;go_ret;exact ⟨c,by show _=_;rw [B.out,h.out,pdr],C,rfl,(k.trans j).trans u⟩
end Go.Proofs.YtkhjolbbpdaplaaGreatDoor
