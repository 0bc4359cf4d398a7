/- Numbers modulo a prime: Fermat, Pocklington, orders. Plain: no program in sight and what follows. -/
import Derived.Lib.Hide
import Derived.Test.YtheobkejohifaaaGreatDoorRows
import Derived.Test.YtheobkejohifaaaGreatDoorHAA
import Derived.Test.YtheobkejohifaaaGreatDoorShelfC
import Derived.Test.YtheobkejohifaaaGreatDoorHAB
import Derived.Laws.BitsAllLaws
namespace Go.Proofs.YtheobkejohifaaaGreatDoor
def Pr (p:Nat):Prop:=2≤p∧∀ d,d ∣ p→d=1∨d=p
theorem Pr.cop {p a:Nat} (h:Pr p) (ha:¬ p ∣ a):Nat.Coprime p a:=by
 rcases h.2 _ (Nat.gcd_dvd_left p a) with e | e
 · exact e
 · exact absurd (e ▸ Nat.gcd_dvd_right p a) ha
theorem Pr.mul {p a b:Nat} (h:Pr p) (hd:p ∣ a * b):p ∣ a∨p ∣ b:=by
 by_cases ha:p ∣ a
 · exact .inl ha
 · exact .inr ((h.cop ha).dvd_of_dvd_mul_left hd)
/-! ### Fermat -/
def pam:Nat→Nat→Nat
 | _,0=>1
 | 0,_+1=>0
 | n+1,k+1=>pam n k+pam n (k+1)
theorem pdh (n:Nat):pam n 0=1:=by cases n <;> rfl
theorem pfQ (n:Nat):∀ k,n<k→pam n k=0:=by
 induction n with
 | zero=>intro k h;cases k with
  | zero=>omega
  | succ k=>rfl
 | succ n ih=>intro k h;cases k with
  | zero=>omega
  | succ k=>simp only [pam];rw [ih k (by omega),ih (k+1) (by omega)]
theorem piK (n:Nat):pam n n=1:=by
 induction n with
 | zero=>rfl
 | succ n ih=>simp only [pam];rw [ih,pfQ n (n+1) (by omega)]
theorem pkQ (n:Nat):∀ k,(k+1) * pam (n+1) (k+1)=(n+1) * pam n k:=by
 induction n with
 | zero=>intro k;cases k with
  | zero=>rfl
  | succ k=>simp [pam]
 | succ n ih =>
  intro k
  cases k with
  | zero =>
   have h:=ih 0
   simp only [pam,pdh,Nat.zero_add,Nat.one_mul,Nat.mul_one] at h ⊢
   omega
  | succ k =>
   have h1:=ih k
   have h2:=ih (k+1)
   have e1:pam (n+1+1) (k+1+1)=pam (n+1) (k+1)+pam (n+1) (k+1+1):=rfl
   have e2:pam (n+1) (k+1)=pam n k+pam n (k+1):=rfl
   calc (k+1+1) * pam (n+1+1) (k+1+1)=(k+1) * pam (n+1) (k+1)+pam (n+1) (k+1)+(k+1+1) * pam (n+1) (k+1+1):=by rw [e1,Nat.mul_add,Nat.add_mul (k+1) 1 (pam (n+1) (k+1)),Nat.one_mul]
    _=(n+1) * pam n k+pam (n+1) (k+1)+(n+1) * pam n (k+1):=by rw [h1,h2]
    _=(n+1+1) * pam (n+1) (k+1):=by rw [Nat.add_mul (n+1) 1,Nat.one_mul,e2,Nat.mul_add];omega
def sumTo (f:Nat→Nat):Nat→Nat
 | 0=>0
 | n+1=>sumTo f n+f n
theorem pjJ (n a:Nat):∀ m,sumTo (fun k=>pam (n+1) k * a ^ k) (m+1)=sumTo (fun k=>pam n k * a ^ k) (m+1)+a * sumTo (fun k=>pam n k * a ^ k) m
 | 0=>by simp [sumTo,pdh]
 | m+1=>by
  have ih:=pjJ n a m
  have e:sumTo (fun k=>pam (n+1) k * a ^ k) (m+1+1)=sumTo (fun k=>pam (n+1) k * a ^ k) (m+1)+pam (n+1) (m+1) * a ^ (m+1):=rfl
  have e2:sumTo (fun k=>pam n k * a ^ k) (m+1+1)=sumTo (fun k=>pam n k * a ^ k) (m+1)+pam n (m+1) * a ^ (m+1):=rfl
  have e3:sumTo (fun k=>pam n k * a ^ k) (m+1)=sumTo (fun k=>pam n k * a ^ k) m+pam n m * a ^ m:=rfl
  have e4:pam (n+1) (m+1)=pam n m+pam n (m+1):=rfl
  have e5:a * (pam n m * a ^ m)=pam n m * a ^ (m+1):=by rw [Nat.pow_succ];rw [← Nat.mul_assoc,Nat.mul_comm a,Nat.mul_assoc,Nat.mul_comm a]
  rw [e,ih,e2,e4,Nat.add_mul]
  conv=>rhs;rw [e3,Nat.mul_add,e5]
  rw [e3]
  omega
theorem pjK (a:Nat):∀ n,(a+1) ^ n=sumTo (fun k=>pam n k * a ^ k) (n+1)
 | 0=>by simp [sumTo,pam]
 | n+1=>by
  rw [pjJ n a (n+1)]
  have e:sumTo (fun k=>pam n k * a ^ k) (n+1+1)=sumTo (fun k=>pam n k * a ^ k) (n+1)+pam n (n+1) * a ^ (n+1):=rfl
  rw [e,pfQ n (n+1) (by omega),Nat.zero_mul,← pjK a n,Nat.pow_succ,Nat.mul_add,Nat.mul_one,Nat.mul_comm a ((a+1) ^ n)]
  omega
theorem plJ (p:Nat) (f:Nat→Nat):∀ m,(∀ k,0<k→k<m+1→p ∣ f k)→sumTo f (m+1) % p=f 0 % p
 | 0,_=>by simp [sumTo]
 | m+1,h=>by
  have e:sumTo f (m+1+1)=sumTo f (m+1)+f (m+1):=rfl
  obtain ⟨c,hc⟩:=h (m+1) (by omega) (by omega)
  rw [e,hc,Nat.add_mul_mod_self_left]
  exact plJ p f m (fun k h1 h2=>h k h1 (by omega))
theorem Pr.choose {p:Nat} (h:Pr p) (k:Nat) (h1:0<k) (h2:k<p):p ∣ pam p k:=by
 obtain ⟨n,rfl⟩:∃ n,p=n+1:=⟨p - 1,by omega⟩
 obtain ⟨j,rfl⟩:∃ j,k=j+1:=⟨k - 1,by omega⟩
 have e:=pkQ n j
 have hd:n+1 ∣ (j+1) * pam (n+1) (j+1):=⟨pam n j,e⟩
 rcases h.mul hd with g | g
 · exact absurd (Nat.le_of_dvd (by omega) g) (by omega)
 · exact g
theorem ppc {p:Nat} (h:Pr p):∀ a,a ^ p % p=a % p
 | 0=>by rw [Nat.zero_pow (by have:=h.1;omega)]
 | a+1=>by
  have ih:=ppc h a
  obtain ⟨n,hn⟩:∃ n,p=n+1:=⟨p - 1,by have:=h.1;omega⟩
  rw [pjK a p]
  have e:sumTo (fun k=>pam p k * a ^ k) (p+1)=sumTo (fun k=>pam p k * a ^ k) p+pam p p * a ^ p:=rfl
  have hs:sumTo (fun k=>pam p k * a ^ k) p % p=1 % p:=by
   have:=plJ p (fun k=>pam p k * a ^ k) n (fun k h1 h2=>Nat.dvd_trans (h.choose k h1 (by omega)) (Nat.dvd_mul_right _ _))
   rw [← hn] at this
   rw [this,pdh];simp
  rw [e,piK,Nat.one_mul,Nat.add_mod,hs,ih,← Nat.add_mod,Nat.add_comm]
theorem pfR {p a:Nat} (h:Pr p) (ha:¬ p ∣ a):a ^ (p - 1) % p=1:=by
 have h1:=ppc h a
 have hp:=h.1
 have e:a ^ p=a * a ^ (p - 1):=by
  conv=>lhs;rw [show p=(p - 1)+1 by omega]
  rw [Nat.pow_succ,Nat.mul_comm]
 have h0:0<a:=Nat.pos_of_ne_zero (fun e=>ha (e ▸ Nat.dvd_zero p))
 have hle:1≤a ^ (p - 1):=Nat.one_le_pow _ _ h0
 have hd:p ∣ a * (a ^ (p - 1) - 1):=by
  rw [Nat.mul_sub,Nat.mul_one,← e]
  have hle2:a≤a ^ p:=by rw [e];exact Nat.le_mul_of_pos_right _ hle
  exact Nat.dvd_of_mod_eq_zero (Nat.sub_mod_eq_zero_of_mod_eq h1)
 rcases h.mul hd with g | g
 · exact absurd g ha
 · obtain ⟨c,hc⟩:=g
   have:a ^ (p - 1)=1+p * c:=by omega
   rw [this,Nat.add_mul_mod_self_left,Nat.mod_eq_of_lt (by omega)]
/-! ### powers modulo m -/
theorem pbo (a n m:Nat):(a % m) ^ n % m=a ^ n % m:=(Nat.pow_mod a n m).symm
theorem peW {p a n:Nat} (h:p ∣ a) (hn:n≠0):p ∣ a ^ n:=by
 obtain ⟨k,rfl⟩:∃ k,n=k+1:=⟨n - 1,by omega⟩
 rw [Nat.pow_succ];exact Nat.dvd_trans h (Nat.dvd_mul_left a (a ^ k))
theorem pdi {b m:Nat} (h:b % m=1 % m) (n:Nat):b ^ n % m=1 % m:=by
 rw [Nat.pow_mod,h,← Nat.pow_mod,Nat.one_pow]
theorem plK (b N:Nat):∀ m n:Nat,b ^ m % N=1 % N→b ^ n % N=1 % N→b ^ Nat.gcd m n % N=1 % N:=by
 intro m n
 induction m,n using Nat.gcd.induction with
 | H0 n=>intro _ h;rwa [Nat.gcd_zero_left]
 | H1 m n hm ih =>
  intro h1 h2
  rw [Nat.gcd_rec]
  refine ih ?_ h1
  have e:b ^ n=(b ^ m) ^ (n / m) * b ^ (n % m):=by
   rw [← Nat.pow_mul,← Nat.pow_add,Nat.div_add_mod]
  rw [e,Nat.mul_mod,pdi h1,← Nat.mul_mod,Nat.one_mul] at h2
  exact h2
theorem phm:∀ n:Nat,2≤n→∃ p,Pr p∧p ∣ n:=by
 intro n
 induction n using Nat.strongRecOn with
 | ind n ih =>
  intro hn
  by_cases h:Pr n
  · exact ⟨n,h,Nat.dvd_refl n⟩
  · have:∃ d,d ∣ n∧d≠1∧d≠n:=by
     apply Classical.byContradiction
     intro hc
     refine h ⟨hn,fun d hd=>?_⟩
     apply Classical.byContradiction
     intro hq
     exact hc ⟨d,hd,fun e=>hq (.inl e),fun e=>hq (.inr e)⟩
    obtain ⟨d,hd,h1,h2⟩:=this
    have hle:=Nat.le_of_dvd (by omega) hd
    have h0:d≠0:=by rintro rfl;have:=Nat.eq_zero_of_zero_dvd hd;omega
    obtain ⟨p,hp,hpd⟩:=ih d (by omega) (by omega)
    exact ⟨p,hp,Nat.dvd_trans hpd hd⟩
theorem peX {n:Nat} (hn:2≤n) (h:¬ Pr n):∃ p,Pr p∧p ∣ n∧p * p≤n:=by
 have:∃ d,d ∣ n∧d≠1∧d≠n:=by
  apply Classical.byContradiction
  intro hc
  refine h ⟨hn,fun d hd=>?_⟩
  apply Classical.byContradiction
  intro hq
  exact hc ⟨d,hd,fun e=>hq (.inl e),fun e=>hq (.inr e)⟩
 obtain ⟨d,⟨e,he⟩,h1,h2⟩:=this
 have hd0:d≠0:=by rintro rfl;rw [Nat.zero_mul] at he;omega
 have he0:e≠0:=by rintro rfl;rw [Nat.mul_zero] at he;omega
 have he1:e≠1:=by rintro rfl;rw [Nat.mul_one] at he;omega
 rcases Nat.le_total d e with hde | hde
 · obtain ⟨p,hp,hpd⟩:=phm d (by omega)
   refine ⟨p,hp,Nat.dvd_trans hpd ⟨e,he⟩,?_⟩
   have:=Nat.le_of_dvd (by omega) hpd
   rw [he]
   exact Nat.mul_le_mul this (by omega)
 · obtain ⟨p,hp,hpd⟩:=phm e (by omega)
   refine ⟨p,hp,Nat.dvd_trans hpd ⟨d,by rw [he,Nat.mul_comm]⟩,?_⟩
   have:=Nat.le_of_dvd (by omega) hpd
   rw [he]
   exact Nat.mul_le_mul (by omega) this
theorem piL {n q R a:Nat} (hn:2≤n) (hq:Pr q) (he:n - 1=q * R) (hb:n<q * q) (h1:a ^ (n - 1) % n=1) (h2:Nat.gcd (a ^ R % n+n - 1) n=1):Pr n:=by
 apply Classical.byContradiction
 intro hc
 obtain ⟨p,hp,hpd,hpp⟩:=peX hn hc
 have hp2:=hp.1
 have h1p:a ^ (n - 1) % p=1:=by
  have e:a ^ (n - 1) % n % p=a ^ (n - 1) % p:=Nat.mod_mod_of_dvd _ hpd
  rw [← e,h1,Nat.mod_eq_of_lt (by omega)]
 have hn1:0<n - 1:=by omega
 have hna:¬ p ∣ a:=by
  intro hd
  have:p ∣ a ^ (n - 1):=peW hd (by omega)
  rw [Nat.mod_eq_zero_of_dvd this] at h1p
  omega
 have hbq:(a ^ R) ^ q % p=1 % p:=by
  rw [← Nat.pow_mul,Nat.mul_comm,← he,h1p,Nat.mod_eq_of_lt (by omega)]
 have hbp:(a ^ R) ^ (p - 1) % p=1 % p:=by
  rw [← Nat.pow_mul,Nat.mul_comm,Nat.pow_mul]
  refine pdi ?_ R
  rw [pfR hp hna,Nat.mod_eq_of_lt (by omega)]
 have hg:=plK _ _ _ _ hbq hbp
 rcases hq.2 _ (Nat.gcd_dvd_left q (p - 1)) with e | e
 · rw [e,Nat.pow_one] at hg
   have hp1:(a ^ R % n+n - 1) % p=0:=by
    have e1:a ^ R % n % p=1 % p:=by rw [Nat.mod_mod_of_dvd _ hpd,hg]
    obtain ⟨c,hcn⟩:=hpd
    have e2:a ^ R % n % p=1:=by rw [e1,Nat.mod_eq_of_lt (by omega)]
    have e3:=Nat.div_add_mod (a ^ R % n) p
    rw [e2] at e3
    have e4:a ^ R % n+n - 1=p * (a ^ R % n / p+c):=by rw [Nat.mul_add,← hcn];omega
    rw [e4,Nat.mul_mod_right]
   have:p ∣ Nat.gcd (a ^ R % n+n - 1) n:=Nat.dvd_gcd (Nat.dvd_of_mod_eq_zero hp1) hpd
   rw [h2] at this
   have:=Nat.le_of_dvd (by omega) this
   omega
 · have hd:q ∣ p - 1:=by
    have:=Nat.gcd_dvd_right q (p - 1)
    rwa [e] at this
   have:=Nat.le_of_dvd (by omega) hd
   have:q * q≤p * p:=Nat.mul_le_mul (by omega) (by omega)
   omega
def pmF (m:Nat):Nat→Nat→Nat→Nat
 | 0,_,_=>1 % m
 | k+1,a,n=>if n=0 then 1 % m else if n % 2=1 then pmF m k (a * a % m) (n / 2) * a % m else pmF m k (a * a % m) (n / 2)
theorem pfS (m:Nat):∀ k a n,n<2 ^ k→pmF m k a n=a ^ n % m
 | 0,a,n,h=>by
  have:n=0:=by simp at h;omega
  subst this;rfl
 | k+1,a,n,h=>by
  rw [pmF]
  by_cases h0:n=0
  · rw [if_pos h0,h0];rfl
  · rw [if_neg h0]
    have hk:n / 2<2 ^ k:=by rw [Nat.pow_succ] at h;omega
    have ih:=pfS m k (a * a % m) (n / 2) hk
    have e:(a * a % m) ^ (n / 2) % m=a ^ (2 * (n / 2)) % m:=by
     rw [pbo,Nat.pow_mul,Nat.pow_two]
    rw [ih,e]
    have hd:=Nat.div_add_mod n 2
    by_cases h1:n % 2=1
    · rw [if_pos h1]
      conv=>rhs;rw [← hd,h1,Nat.pow_succ]
      rw [Nat.mod_mul_mod]
    · rw [if_neg h1]
      conv=>rhs;rw [← hd,show n % 2=0 by omega,Nat.add_zero]
theorem trial {n b:Nat} (hn:2≤n) (hb:n<b * b) (h:∀ d,d<b→2≤d→n % d≠0):Pr n:=by
 apply Classical.byContradiction
 intro hc
 obtain ⟨p,hp,hpd,hpp⟩:=peX hn hc
 by_cases hlt:p<b
 · exact h p hlt hp.1 (Nat.mod_eq_zero_of_dvd hpd)
 · have:b * b≤p * p:=Nat.mul_le_mul (by omega) (by omega)
   omega
def plL (n:Nat):Nat→Bool
 | 0=>true
 | d+1=>plL n d && (decide (d<2) || decide (n % d≠0))
theorem peY (n:Nat):∀ b,plL n b=true→∀ d,d<b→2≤d→n % d≠0
 | 0,_,d,h,_=>by omega
 | b+1,hb,d,h,h2=>by
  simp only [plL,Bool.and_eq_true,Bool.or_eq_true,decide_eq_true_eq] at hb
  by_cases e:d=b
  · subst e
    rcases hb.2 with g | g
    · omega
    · exact g
  · exact peY n b hb.1 d (by omega) h2
theorem chain {n q R a:Nat} (k:Nat) (hq:Pr q) (hc:(decide (2≤n) && decide (n - 1=q * R) && decide (n<q * q) && decide (n - 1<2 ^ k) && decide (R<2 ^ k) && decide (pmF n k a (n - 1)=1) && decide (Nat.gcd (pmF n k a R+n - 1) n=1))=true):Pr n:=by
 simp only [Bool.and_eq_true,decide_eq_true_eq] at hc
 obtain ⟨⟨⟨⟨⟨⟨h1,h2⟩,h3⟩,h4⟩,h5⟩,h6⟩,h7⟩:=hc
 rw [pfS n k a _ h4] at h6
 rw [pfS n k a _ h5] at h7
 exact piL h1 hq h2 h3 h6 h7
theorem pr1:Pr 95189:=trial (b:=309) (by omega) (by omega) (peY 95189 309 (by decide +kernel))
theorem pr2:Pr 2835870689:=chain (q:=95189) (R:=29792) (a:=3) 64 pr1 (by decide +kernel)
theorem pr3:Pr 5671741379:=chain (q:=2835870689) (R:=2) (a:=2) 64 pr2 (by decide +kernel)
theorem pr4:Pr 288230376151711447:=chain (q:=5671741379) (R:=50818674) (a:=2) 64 pr3 (by decide +kernel)
def Qn:Nat:=1152921504606845789
def Pn:Nat:=2305843009213691579
theorem prQ:Pr Qn:=chain (q:=288230376151711447) (R:=4) (a:=2) 64 pr4 (by decide +kernel)
theorem prP:Pr Pn:=chain (q:=Qn) (R:=2) (a:=2) 64 prQ (by decide +kernel)
theorem ppd {a:Nat} (h:a ^ Qn % Pn=1):¬ Pn ∣ a:=by
 intro hd
 have:Pn ∣ a ^ Qn:=peW hd (by decide)
 rw [Nat.mod_eq_zero_of_dvd this] at h
 omega
theorem cancel {a x y:Nat} (ha:¬ Pn ∣ a) (h:a * x % Pn=a * y % Pn):x % Pn=y % Pn:=by
 rcases Nat.le_total x y with hl | hl
 · have hd:Pn ∣ a * (y - x):=by
    rw [Nat.mul_sub]
    exact Nat.dvd_of_mod_eq_zero (Nat.sub_mod_eq_zero_of_mod_eq h.symm)
   rcases prP.mul hd with g | g
   · exact absurd g ha
   · obtain ⟨c,hc⟩:=g
     rw [show y=x+Pn * c by omega,Nat.add_mul_mod_self_left]
 · have hd:Pn ∣ a * (x - y):=by
    rw [Nat.mul_sub]
    exact Nat.dvd_of_mod_eq_zero (Nat.sub_mod_eq_zero_of_mod_eq h)
   rcases prP.mul hd with g | g
   · exact absurd g ha
   · obtain ⟨c,hc⟩:=g
     rw [show x=y+Pn * c by omega,Nat.add_mul_mod_self_left]
theorem pfT {a:Nat} (h:¬ Pn ∣ a):∀ n,¬ Pn ∣ a ^ n
 | 0=>by rw [Nat.pow_zero];decide
 | n+1=>by
  rw [Nat.pow_succ]
  intro hd
  rcases prP.mul hd with g | g
  · exact pfT h n g
  · exact h g
theorem ppx {a i j:Nat} (h:a ^ Qn % Pn=1) (h1:a % Pn≠1) (hi:i<Qn) (hj:j<Qn) (he:a ^ i % Pn=a ^ j % Pn):i=j:=by
 have key:∀ i j,i≤j→i<Qn→j<Qn→a ^ i % Pn=a ^ j % Pn→i=j:=by
  intro i j hij hi hj he
  apply Classical.byContradiction
  intro hne
  have e:a ^ j=a ^ i * a ^ (j - i):=by rw [← Nat.pow_add];congr 1;omega
  rw [e,show a ^ i % Pn=a ^ i * 1 % Pn by rw [Nat.mul_one]] at he
  have hc:=cancel (pfT (ppd h) i) he
  have hg:=plK a Pn (j - i) Qn hc.symm h
  have hcop:Nat.gcd (j - i) Qn=1:=by
   rcases prQ.2 _ (Nat.gcd_dvd_right (j - i) Qn) with g | g
   · exact g
   · have:=Nat.le_of_dvd (by omega) (Nat.gcd_dvd_left (j - i) Qn)
     omega
  rw [hcop,Nat.pow_one] at hg
  exact h1 hg
 rcases Nat.le_total i j with hl | hl
 · exact key i j hl hi hj he
 · exact (key j i hl hj hi he.symm).symm
theorem pgy {x:Nat} (h:¬ Pn ∣ x):(x * x) ^ Qn % Pn=1:=by
 have e:(x * x) ^ Qn=x ^ (Pn - 1):=by
  rw [← Nat.pow_two,← Nat.pow_mul];rfl
 rw [e];exact pfR prP h
theorem piM {a:Nat} (h:a ^ Qn % Pn=1) (n:Nat):a ^ n % Pn=a ^ (n % Qn) % Pn:=by
 conv=>lhs;rw [← Nat.div_add_mod n Qn,Nat.pow_add,Nat.pow_mul,Nat.mul_mod,pdi (show a ^ Qn % Pn=1 % Pn from h),← Nat.mul_mod,Nat.one_mul]
end Go.Proofs.YtheobkejohifaaaGreatDoor

namespace Go.Proofs.YtheobkejohifaaaGreatDoor
open Go.RowKit
set_option maxRecDepth 100000
theorem residue_any (a m:Int) (w:World) (_ha:-9223372036854775808≤a∧a≤9223372036854775807) (hm:1≤m∧m≤9223372036854775807) :
 Calls Tryz.prog 133 #[.int .i64 a,.int .i64 m] w (RetZ .i64 m (a % m) w):=by
 have e1:=Int.tmod_eq_emod (a:=a) (b:=m)
 have e3:=Int.emod_nonneg a (show m≠0 by omega)
 have e4:=Int.emod_lt_of_pos a (show 0<m by omega)
 have H1:=Lib.hid e1
 clear e1
 go_enter Tryz.func133,Tryz.ntmps133
 go_wp2_with fail
 · go_ret
   refine paP (by omega) ?_
   have h:=H1.out
   simp only [wrap64]
   split at h <;> omega
 · go_ret
   refine paP (by omega) ?_
   have h:=H1.out
   split at h <;> omega
theorem plus_any (x y m:Int) (w:World) (hx:0≤x∧x<m) (hy:0≤y∧y<m) (hm:m≤9223372036854775807) :
 Calls Tryz.prog 132 #[.int .u64 x,.int .u64 y,.int .u64 m] w (RetZ .u64 m ((x+y) % m) w):=by
 go_enter Tryz.func132,Tryz.ntmps132
 go_wp2_with fail
 · go_ret
   refine paP (by omega) ?_
   rw [← Int.sub_emod_right (x+y) m,Int.emod_eq_of_lt (by omega) (by omega)]
 · go_ret
   refine paP (by omega) ?_
   rw [Int.emod_eq_of_lt (by omega) (by omega)]
theorem and_one (q:Nat) (hq:q<18446744073709551616):bits .and .u64 (q:Int) 1=((q % 2:Nat):Int):=by
 show IntKind.u64.wrap ((BitVec.ofInt 64 (q:Int) &&& BitVec.ofInt 64 1).toNat:Int)=_
 have e1:(BitVec.ofInt 64 (q:Int)).toNat=q:=by
  rw [BitVec.toNat_ofInt]
  show ((q:Int) % 18446744073709551616).toNat=_
  omega
 have e2:(BitVec.ofInt 64 (1:Int)).toNat=1:=rfl
 rw [BitVec.toNat_and,e1,e2,Nat.and_one_is_mod]
 have:q % 2<2:=Nat.mod_lt _ (by omega)
 show ((q % 2:Nat):Int) % 18446744073709551616=_
 omega
theorem phn (q:Nat) (hq:q<9223372036854775808):bits .and .i64 (q:Int) 1=((q % 2:Nat):Int):=by
 show IntKind.i64.wrap ((BitVec.ofInt 64 (q:Int) &&& BitVec.ofInt 64 1).toNat:Int)=_
 have e1:(BitVec.ofInt 64 (q:Int)).toNat=q:=by
  rw [BitVec.toNat_ofInt]
  show ((q:Int) % 18446744073709551616).toNat=_
  omega
 have e2:(BitVec.ofInt 64 (1:Int)).toNat=1:=rfl
 rw [BitVec.toNat_and,e1,e2,Nat.and_one_is_mod]
 have:q % 2<2:=Nat.mod_lt _ (by omega)
 exact pap (by omega) (by omega)
theorem plM (y:Nat) (h:y<18446744073709551616):y<2 ^ Lib.bitLen y∧Lib.bitLen y≤64:=by
 by_cases h0:y=0
 · subst h0;decide
 · obtain ⟨h1,h2,h3⟩:=Lib.bitLenAux_bounds 64 y h h0
   refine ⟨h3,?_⟩
   show Lib.bitLenAux 64 y≤64
   by_cases h4:Lib.bitLenAux 64 y≤64
   · exact h4
   · exfalso
     have:2 ^ 64≤2 ^ (Lib.bitLenAux 64 y - 1):=Nat.pow_le_pow_right (by omega) (by omega)
     have e:(2:Nat) ^ 64=18446744073709551616:=by decide
     omega
theorem plN (y c k:Nat) (h:k<c):y / 2 ^ (c - 1 - k)=2 * (y / 2 ^ (c - k))+y / 2 ^ (c - 1 - k) % 2:=by
 have e:c - k=(c - 1 - k)+1:=by omega
 rw [e,Nat.pow_succ,← Nat.div_div_eq_div_mul]
 omega
theorem mul_any (a b m:Int) (w:World) (ha:-9223372036854775808≤a∧a≤9223372036854775807) (hb:-9223372036854775808≤b∧b≤9223372036854775807) (hm:1≤m∧m≤9223372036854775807) :
 Calls Tryz.prog 80 #[.int .i64 a,.int .i64 b,.int .i64 m] w (RetZ .i64 m (a * b % m) w):=by
 have xb0:=Int.emod_nonneg b (show m≠0 by omega)
 have xb1:=Int.emod_lt_of_pos b (show 0<m by omega)
 obtain ⟨y,hy⟩:∃ y:Nat,b % m=(y:Int):=⟨(b % m).toNat,by omega⟩
 rw [hy] at xb0 xb1
 have hmul:a * b % m=(a % m) * y % m:=by rw [Int.mul_emod,hy]
 rw [hmul]
 have hbl:=plM y (by omega)
 obtain ⟨c,hc⟩:∃ c:Nat,Lib.bitLen y=c:=⟨_,rfl⟩
 rw [hc] at hbl
 have HC:=Lib.hid hc
 have HY:=Lib.hid hy
 clear hc hy hmul
 have HB:=Lib.hid hbl.1
 have hc64:=hbl.2
 clear hbl
 go_enter Tryz.func80,Tryz.ntmps80
 go_wp2_with (first | (go_at_call 133;((with_reducible refine (residue_any a _ _ (by omega) (by omega)).mono ?_);rintro e w' ⟨x,HX,xa0,xa1,rfl,rfl⟩)) | (go_at_call 133;((with_reducible refine (residue_any b _ _ (by omega) (by omega)).mono ?_);rintro e w' ⟨y',HY',ya0,ya1,rfl,rfl⟩;obtain rfl:y'=(y:Int):=HY'.out.trans HY.out)) | (go_at_call 136;((with_reducible refine (Tryz.bits_Len64 _ _ (by omega) (by omega)).mono ?_);rintro e w' ⟨rfl,rfl⟩;rw [Int.toNat_natCast,HC.out])))
 go_loop [10,28] (fun r i=>∃ k:Nat,k≤c∧i=.int .i64 (k:Int)∧∃ z:Int,r=.int .u64 z∧0≤z∧z<m∧Hid (z=x * ((y / 2 ^ (c - k):Nat):Int) % m)) (fun _ i=>c - (intOf i).toNat)
 case atStart =>
  have hz:y / 2 ^ (c - 0)=0:=Nat.div_eq_of_lt HB.out
  exact ⟨0,Nat.zero_le _,rfl,0,rfl,by omega,by omega,by rw [hz];simp [Hid]⟩
 case round =>
  obtain ⟨k,hk,rfl,z,rfl,hz0,hz1,HZ⟩:=hrel
  by_cases hlt:k<c
  · have hq:y / 2 ^ (c - 1 - k)<18446744073709551616:=Nat.lt_of_le_of_lt (Nat.div_le_self _ _) (by omega)
    have hst:=plN y c k hlt
    have ck:c - (k+1)=c - 1 - k:=by omega
    have hcast:(y:Int) / 2 ^ (c - 1 - k)=((y / 2 ^ (c - 1 - k):Nat):Int):=by simp
    have hand:=and_one _ hq
    rw [← hcast] at hand
    have HS:=Lib.hid hst
    have CK:=Lib.hid ck
    clear hst ck hq
    have hz2:(z+z) % m=x * ((2 * (y / 2 ^ (c - k)):Nat):Int) % m:=by
     rw [HZ.out,← Int.add_emod,Int.natCast_mul,← Int.two_mul]
     congr 1
     rw [Int.mul_left_comm];rfl
    have HZ2:=Lib.hid hz2
    clear hz2
    by_cases hb1:y / 2 ^ (c - 1 - k) % 2=1
    · have hbt:(bits BinOp.and IntKind.u64 ((y:Int) / 2 ^ (c - 1 - k)) 1 == 1)=true:=by rw [hand,hb1];rfl
      have HB1:=Lib.hid hb1
      clear hb1 hand hcast
      go_wp2_with (go_at_call 132;first | ((with_reducible refine (plus_any z z _ _ (by omega) (by omega) (by omega)).mono ?_);rintro e w' ⟨r1,HR1,r10,r11,rfl,rfl⟩) | ((with_reducible refine (plus_any _ x _ _ (by omega) (by omega) (by omega)).mono ?_);rintro e w' ⟨r2,HR2,r20,r21,rfl,rfl⟩))
      refine ⟨⟨k+1,by omega,by go_num,r2,rfl,r20,r21,?_⟩,by simp [intOf];omega⟩
      show _=_
      rw [HR2.out,HR1.out,HZ2.out,Int.emod_add_emod,CK.out,HS.out,HB1.out,Int.natCast_add,Int.mul_add]
      simp
    · have hb0:y / 2 ^ (c - 1 - k) % 2=0:=by omega
      have hbt:(bits BinOp.and IntKind.u64 ((y:Int) / 2 ^ (c - 1 - k)) 1 == 1)=false:=by rw [hand,hb0];rfl
      have HB1:=Lib.hid hb0
      clear hb1 hb0 hand hcast
      go_wp2_with (go_at_call 132;((with_reducible refine (plus_any z z _ _ (by omega) (by omega) (by omega)).mono ?_);rintro e w' ⟨r1,HR1,r10,r11,rfl,rfl⟩))
      refine ⟨⟨k+1,by omega,by go_num,r1,rfl,r10,r11,?_⟩,by simp [intOf];omega⟩
      show _=_
      rw [HR1.out,HZ2.out,CK.out,HS.out,HB1.out,Nat.add_zero]
  · obtain rfl:k=c:=by omega
    go_wp2_with fail
    go_ret
    refine paP (by omega) ?_
    rw [HZ.out,HX.out]
    simp
theorem plO (a b m:Int) (w:World) (ha:-9223372036854775808≤a∧a≤9223372036854775807) (hb:-9223372036854775808≤b∧b≤9223372036854775807) (hm:1≤m∧m≤9223372036854775807) :
 Calls Tryz.prog 74 #[.int .i64 a,.int .i64 b,.int .i64 m] w (RetZ .i64 m ((a+b) % m) w):=by
 go_enter Tryz.func74,Tryz.ntmps74
 go_wp2_with (first | (go_at_call 133;((with_reducible refine (residue_any a _ _ (by omega) (by omega)).mono ?_);rintro e w' ⟨x,HX,xa0,xa1,rfl,rfl⟩)) | (go_at_call 133;((with_reducible refine (residue_any b _ _ (by omega) (by omega)).mono ?_);rintro e w' ⟨y,HY,ya0,ya1,rfl,rfl⟩)) | (go_at_call 132;((with_reducible refine (plus_any _ _ _ _ (by omega) (by omega) (by omega)).mono ?_);rintro e w' ⟨r,HR,r0,r1,rfl,rfl⟩)))
 go_ret
 refine paP (by omega) ?_
 rw [HR.out,HX.out,HY.out,← Int.add_emod]
theorem peD (a m:Int):∀ k:Nat,(a % m) ^ k % m=a ^ k % m
 | 0=>by simp
 | k+1=>by rw [Int.pow_succ,Int.pow_succ,Int.mul_emod,Int.emod_emod,peD a m k,← Int.mul_emod]
theorem sq_pow (x:Int):∀ h:Nat,(x * x) ^ h=x ^ (2 * h)
 | 0=>by simp
 | h+1=>by rw [Int.pow_succ,sq_pow x h,show 2 * (h+1)=2 * h+1+1 by omega,Int.pow_succ,Int.pow_succ,Int.mul_assoc]
theorem pow_odd (p x m:Int) (j:Nat) (h:j % 2=1):(p * x % m) * (x * x % m) ^ (j / 2) % m=p * x ^ j % m:=by
 rw [Int.mul_emod,Int.emod_emod,peD,← Int.mul_emod,sq_pow,Int.mul_assoc,Int.mul_comm x,← Int.pow_succ,show (2 * (j / 2)).succ=j by omega]
theorem pow_even (p x m:Int) (j:Nat) (h:j % 2=0):p * (x * x % m) ^ (j / 2) % m=p * x ^ j % m:=by
 rw [Int.mul_emod,peD,← Int.mul_emod,sq_pow,show 2 * (j / 2)=j by omega]
def powZ (a:Int) (n:Nat) (m:Int):Int:=a ^ n % m
theorem pow1_any (x y m:Int) (g:Nat) (w:World) (hx:-9223372036854775808≤x∧x≤9223372036854775807) (hy:-9223372036854775808≤y∧y≤9223372036854775807) (hm:1≤m∧m≤9223372036854775807)
 (hg:w.cell? ⟨g,0,none⟩=some (.int .i64 m)) :
 Calls Tryz.prog 171 #[.int .i64 x,.int .i64 y,.pointer (some ⟨g,0,none⟩)] w (RetZ .i64 m (x * y % m) w):=by
 go_enter Tryz.func171,Tryz.ntmps171
 go_wp2_with (go_at_call 80;((with_reducible refine (mul_any _ _ _ _ (by omega) (by omega) (by omega)).mono ?_);rintro e w' ⟨r,HR,r0,r1,rfl,rfl⟩))
 go_ret
 exact paP (by omega) HR.out
theorem pgz (a m:Int) (n:Nat) (w:World) (ha:-9223372036854775808≤a∧a≤9223372036854775807) (hn:n≤9223372036854775807) (hm:1≤m∧m≤9223372036854775807) :
 Calls Tryz.prog 135 #[.int .i64 a,.int .i64 (n:Int),.int .i64 m] w (MkZ .i64 m (powZ a n m) w):=by
 go_enter Tryz.func135,Tryz.ntmps135
 go_wp2_with (first | (go_at_call 133;((with_reducible refine (residue_any _ _ _ (by omega) (by omega)).mono ?_);rintro e w' ⟨x,HX,xa0,xa1,rfl,rfl⟩)))
 go_loop [0,1,8] (fun b i r=>∃ (j:Nat) (x p:Int),b=.int .i64 x∧i=.int .i64 (j:Int)∧r=.int .i64 p∧j≤9223372036854775807∧(-9223372036854775808≤x∧x≤9223372036854775807)∧0≤p∧p<m∧Hid (p * x ^ j % m=a ^ n % m)) (fun _ i _=>(intOf i).toNat)
 case atStart=>exact ⟨n,a,x,rfl,rfl,rfl,hn,ha,xa0,xa1,by show _=_;rw [HX.out,Int.mul_emod,Int.emod_emod,← Int.mul_emod,Int.one_mul]⟩
 case round =>
  obtain ⟨j,x,p,rfl,rfl,rfl,hj,hx,hp0,hp1,HP⟩:=hrel
  by_cases hlt:0<j
  · by_cases hb1:j % 2=1
    · have hbt:(bits BinOp.and IntKind.i64 (j:Int) 1 == 1)=true:=by rw [phn _ (by omega),hb1];rfl
      have HB1:=Lib.hid hb1
      clear hb1
      go_wp2_with (go_at_call 171;first | ((with_reducible refine (pow1_any p x m _ _ (by omega) (by omega) (by omega) (by simp)).mono ?_);rintro e w' ⟨r1,HR1,r10,r11,rfl,rfl⟩) | ((with_reducible refine (pow1_any x x m _ _ (by omega) (by omega) (by omega) (by simp)).mono ?_);rintro e w' ⟨r2,HR2,r20,r21,rfl,rfl⟩))
      refine ⟨⟨j / 2,r2,r1,rfl,by go_num,rfl,by omega,by omega,r10,r11,?_⟩,by simp [intOf];omega⟩
      show _=_
      rw [HR2.out,HR1.out,pow_odd p x m j HB1.out,HP.out]
    · have hb0:j % 2=0:=by omega
      have hbt:(bits BinOp.and IntKind.i64 (j:Int) 1 == 1)=false:=by rw [phn _ (by omega),hb0];rfl
      have HB1:=Lib.hid hb0
      clear hb1 hb0
      go_wp2_with (go_at_call 171;((with_reducible refine (pow1_any x x m _ _ (by omega) (by omega) (by omega) (by simp)).mono ?_);rintro e w' ⟨r2,HR2,r20,r21,rfl,rfl⟩))
      refine ⟨⟨j / 2,r2,p,rfl,by go_num,rfl,by omega,by omega,hp0,hp1,?_⟩,by simp [intOf];omega⟩
      show _=_
      rw [HR2.out,pow_even p x m j HB1.out,HP.out]
  · obtain rfl:j=0:=by omega
    go_wp2_with fail
    go_ret
    refine ⟨p,?_,hp0,hp1,rfl,(Upd.refl _ _).alloc _⟩
    have h:=HP.out
    rw [Int.pow_zero,Int.mul_one,Int.emod_eq_of_lt hp0 hp1] at h
    exact h
def MkB (b:Bool) (w:World) (e:Ending) (w':World):Prop:=∃ r:Bool,Hid (r=b)∧e=.returned (.bool r)∧Upd [] [] w w'
def RetB (b:Bool) (w:World) (e:Ending) (w':World):Prop:=∃ r:Bool,Hid (r=b)∧e=.returned (.bool r)∧w=w'
def memB (a:Int):Bool:=decide (1≤a) && decide (a<2305843009213691579) && decide (powZ a 1152921504606845789 2305843009213691579=1)
theorem pow_at (a n m:Int) (N:Nat) (hN:n=(N:Int)) (w:World) (ha:-9223372036854775808≤a∧a≤9223372036854775807) (hn:n≤9223372036854775807) (hm:1≤m∧m≤9223372036854775807) :
 Calls Tryz.prog 135 #[.int .i64 a,.int .i64 n,.int .i64 m] w (MkZ .i64 m (powZ a N m) w):=by
 subst hN
 exact pgz a m N w ha (by omega) hm
theorem qCast:(1152921504606845789:Int)=((1152921504606845789:Nat):Int):=rfl
theorem pgA {a:Int} (h:a<1):memB a=false:=by
 have:decide (1≤a)=false:=by simpa using h
 simp [memB,this]
theorem pho {a:Int} (h:2305843009213691578<a):memB a=false:=by
 have:decide (a<2305843009213691579)=false:=by rw [decide_eq_false_iff_not];omega
 simp [memB,this]
theorem pjL {a:Int} (h1:1≤a) (h2:a≤2305843009213691578):memB a=decide (powZ a 1152921504606845789 2305843009213691579=1):=by
 have e1:decide (1≤a)=true:=by simpa using h1
 have e2:decide (a<2305843009213691579)=true:=by rw [decide_eq_true_iff];omega
 rw [memB,e1,e2];rfl
theorem pkR (a:Int) (w:World) (ha:-9223372036854775808≤a∧a≤9223372036854775807) :
 Calls Tryz.prog 181 #[.int .i64 a] w (MkB (memB a) w):=by
 by_cases h1:1≤a
 · by_cases h2:a≤2305843009213691578
   · have HM:=Lib.hid (pjL h1 h2)
     go_enter Tryz.func181,Tryz.ntmps181
     go_wp2_with (go_at_call 135;((with_reducible refine (pow_at a _ _ 1152921504606845789 qCast _ (by omega) (by omega) (by omega)).mono ?_);rintro e w' ⟨r,HR,r0,r1,rfl,hu⟩))
     go_ret
     refine ⟨_,?_,rfl,hu⟩
     show _=_
     rw [HM.out,← HR.out]
     rfl
   · have h3:2305843009213691578<a:=by omega
     have HM:=Lib.hid (pho h3)
     clear h2
     go_enter Tryz.func181,Tryz.ntmps181
     go_wp2_with fail
     go_ret
     exact ⟨_,HM.out.symm,rfl,Upd.refl _ _⟩
 · have h3:a<1:=by omega
   have HM:=Lib.hid (pgA h3)
   clear h1
   go_enter Tryz.func181,Tryz.ntmps181
   go_wp2_with fail
   go_ret
   exact ⟨_,HM.out.symm,rfl,Upd.refl _ _⟩
def acc8 (h:List UInt8):Nat→Nat
 | 0=>0
 | k+1=>acc8 h k * 256+(h.getD k 0).toNat
theorem plP (h:List UInt8):∀ k,acc8 h k<256 ^ k
 | 0=>by simp [acc8]
 | k+1=>by
  have h1:=plP h k
  have h2:=(h.getD k 0).toNat_lt
  rw [acc8,Nat.pow_succ]
  omega
def numN (h:List UInt8):Nat:=acc8 h 8 % 9223372036854775808
def pc9 (s:List UInt8):Nat:=numN (sha ([115,47] ++ s)) % 1152921504606845789
theorem or64 (a:Nat) (b:UInt8) (ha:a<72057594037927936):bits .or .u64 ((a:Int) * 256 % 18446744073709551616) (b.toNat:Int)=((a * 256+b.toNat:Nat):Int):=by
 have hb:=b.toNat_lt
 have e0:(a:Int) * 256 % 18446744073709551616=((a * 256:Nat):Int):=by omega
 rw [e0]
 show IntKind.u64.wrap ((BitVec.ofInt 64 ((a * 256:Nat):Int) ||| BitVec.ofInt 64 (b.toNat:Int)).toNat:Int)=_
 have e1:(BitVec.ofInt 64 ((a * 256:Nat):Int)).toNat=a * 256:=by
  rw [BitVec.toNat_ofInt]
  show (((a * 256:Nat):Int) % 18446744073709551616).toNat=_
  omega
 have e2:(BitVec.ofInt 64 (b.toNat:Int)).toNat=b.toNat:=by
  rw [BitVec.toNat_ofInt]
  show ((b.toNat:Int) % 18446744073709551616).toNat=_
  omega
 have e3:a * 256 ||| b.toNat=a * 256+b.toNat:=by
  rw [Nat.mul_comm a,show (256:Nat)=2 ^ 8 from rfl,← Nat.two_pow_add_eq_or_of_lt (by omega:b.toNat<2 ^ 8)]
 rw [BitVec.toNat_or,e1,e2,e3]
 show ((a * 256+b.toNat:Nat):Int) % 18446744073709551616=_
 omega
theorem pn4 (n:Nat) (h:n<18446744073709551616):bits .andNot .u64 (n:Int) 9223372036854775808=((n % 9223372036854775808:Nat):Int):=by
 have e:=u64_andNot_nat n 9223372036854775808 h (by omega)
 have e2:(18446744073709551615 - 9223372036854775808:Nat)=2 ^ 63 - 1:=by decide
 rw [e2,Nat.and_two_pow_sub_one_eq_mod] at e
 exact e
set_option maxHeartbeats 1000000 in
theorem pfU (s:ByteArray) (w:World) (hs:s.size≤281474976710656) (htab:Tabs w) :
 Calls Tryz.prog 170 #[.string s] w (fun e w'=>∃ r:Nat,Hid (r=numN (sha (bs s)))∧r<9223372036854775808∧e=.returned (.int .i64 (r:Int))∧Upd [] [] w w'):=by
 obtain ⟨h,hh⟩:∃ h,h=sha (bs s):=⟨_,rfl⟩
 have hl:h.length=32:=by rw [hh,pcf]
 have HHH:=Lib.hid hh
 obtain ⟨cs,hcs⟩:∃ cs:Array Value,cs=(byteVals h).toArray:=⟨_,rfl⟩
 have hcz:cs.size=32:=by rw [hcs];simp [byteVals,hl]
 have hc1:cs.all (·.oneCell')=true:=by
  rw [Array.all_eq_true_iff_forall_mem]
  intro v hv
  rw [hcs] at hv
  exact paG _ v (by simpa using hv)
 have hi32:(Tryz.prog.info? 51).map (·.size)=some cs.size:=by rw [hcz];kernel_rfl
 have HI:=Lib.hid hi32
 have HC1:=Lib.hid hc1
 have HCS:=Lib.hid hcs
 have HL:=Lib.hid (And.intro hl hcz)
 clear hh hl hcs hcz hc1 hi32
 go_enter Tryz.func170,Tryz.ntmps170
 go_wp2_with fail
 refine (ppw s w hs htab).mono ?_
 rintro e w1 ⟨rfl,hu1⟩
 rw [← HHH.out,← HCS.out]
 have h0:(w1.alloc (.cells (byteVals (List.replicate 32 0)).toArray 51)).heap[w1.heap.size]? =some (.cells (byteVals (List.replicate 32 0)).toArray 51 (0,0)):=heap_alloc_new _ _
 have H0:=Lib.hid h0
 have hu2:=(hu1.alloc (.cells (byteVals (List.replicate 32 0)).toArray 51)).setRowNew (g:=w1.heap.size) hu1.size cs
 have h3:=setRow_heap _ w1.heap.size _ cs _ _ h0
 have H3:=Lib.hid h3
 have HU2:=Lib.hid hu2
 clear h0 h3 hu2
 go_wp2_with (refine wpList_store_row rfl 51 _ _ rfl w1.heap.size cs rfl rfl _ _ H0.out HI.out (by rw [HL.out.2];simp [byteVals]) HC1.out ?_)
 have hsz:w1.heap.size=w1.heap.size:=rfl
 generalize hg:w1.heap.size=g at *
 go_loopw [4,8] (fun n i wr=>∃ k:Nat,k≤8∧i=.int .i64 (k:Int)∧Hid (wr.heap[g]? =some (.cells cs 51 (0,0)))∧Upd [] [] w wr∧∃ z:Nat,n=.int .u64 (z:Int)∧z<256 ^ k∧Hid (z=acc8 h k)) (fun _ i _=>8 - (intOf i).toNat)
 case atStart=>exact ⟨0,Nat.zero_le _,rfl,H3.out,HU2.out,0,rfl,by decide,rfl⟩
 case round =>
  clear H0 H3 HU2 hu1 hsz hg
  obtain ⟨k,hk,rfl,HR,hu,z,rfl,hz,HZ⟩:=hrel
  by_cases hlt:k<8
  · have hq:wr.cell? ⟨g,k,none⟩=some (.int .u8 ((h.getD k 0).toNat:Int)):=by
     rw [cell_of_row wr g k _ _ _ HR.out,HCS.out]
     have:=HL.out.1
     simp [byteVals,pbt,List.getD,show k<h.length by omega]
    have hz1:z<72057594037927936:=by
     have:256 ^ k≤256 ^ 7:=Nat.pow_le_pow_right (by omega) (by omega)
     have e:(256:Nat) ^ 7=72057594037927936:=by decide
     omega
    have hor:=or64 z (h.getD k 0) hz1
    have hacc:=plP h (k+1)
    have HA:=Lib.hid hacc
    clear hacc
    obtain ⟨b,hb⟩:∃ b,b=h.getD k 0:=⟨_,rfl⟩
    rw [← hb] at hq hor
    have hb8:=b.toNat_lt
    have HB:=Lib.hid hb
    clear hb hz
    go_wp2_with fail
    refine ⟨⟨k+1,by omega,by go_num,HR.out,hu,z * 256+b.toNat,?_,?_,?_⟩,by simp [intOf];omega⟩
    · rw [show (z:Int) * 256=(z:Int) * 256 % 18446744073709551616 by omega,hor]
    · have e:=HA.out
      rw [acc8,← HZ.out,← HB.out] at e
      exact e
    · show _=_
      rw [acc8,← HZ.out,← HB.out]
  · have hk8:k=8:=by omega
    have hki:(k:Int)=8:=by omega
    rw [hk8] at hz HZ
    rw [hki]
    clear hlt hk hk8 hki
    have hz64:z<18446744073709551616:=by
     have e:(256:Nat) ^ 8=18446744073709551616:=by decide
     omega
    clear hz
    have han:=pn4 z hz64
    have hzm:z % 9223372036854775808<9223372036854775808:=Nat.mod_lt _ (by omega)
    obtain ⟨y,hy⟩:∃ y:Nat,y=z % 9223372036854775808:=⟨_,rfl⟩
    rw [← hy] at han hzm
    have HY:=Lib.hid hy
    clear hy
    go_wp2_with fail
    go_ret
    refine ⟨y,?_,hzm,?_,hu⟩
    · show _=_
      rw [HY.out,HZ.out,numN,HHH.out]
    · first | rfl | (rw [han]) | trace_state
def MkN (m v:Nat) (w:World) (e:Ending) (w':World):Prop:=∃ r:Nat,Hid (r=v)∧r<m∧e=.returned (.int .i64 (r:Int))∧Upd [] [] w w'
theorem peZ (s:ByteArray) (w:World) (hs:s.size≤281474976710000) (htab:Tabs w) :
 Calls Tryz.prog 134 #[.string s] w (MkN 1152921504606845789 (pc9 (bs s)) w):=by
 go_enter Tryz.func134,Tryz.ntmps134
 go_wp2_with fail
 refine (pfU _ w (by have:(ByteArray.mk #[115,47]).size=2:=rfl;simp [ByteArray.size_append];omega) htab).mono ?_
 rintro e w1 ⟨r,HR,hr,rfl,hu⟩
 go_wp2_with fail
 refine (residue_any _ _ _ (by omega) (by omega)).mono ?_
 rintro e w2 ⟨x,HX,x0,x1,rfl,rfl⟩
 go_wp2_with fail
 go_ret
 obtain ⟨n,hn⟩:∃ n:Nat,x=(n:Int):=⟨x.toNat,by omega⟩
 subst hn
 refine ⟨n,?_,by omega,rfl,hu⟩
 show _=_
 have h1:=HX.out
 have h2:=HR.out
 rw [pae] at h2
 have h3:bs ⟨#[115,47]⟩=[115,47]:=rfl
 rw [h3] at h2
 rw [pc9,← h2]
 omega
end Go.Proofs.YtheobkejohifaaaGreatDoor

namespace Go.Proofs.YtheobkejohifaaaGreatDoor
set_option maxRecDepth 100000
theorem peE:4 ^ Qn % Pn=1:=by
 rw [← pfS Pn 64 4 Qn (by decide +kernel)]
 decide +kernel
theorem plQ:0<Pn:=by decide
theorem ppe:1<Pn:=by decide
theorem peg:0<Qn:=by decide
def gP (n:Nat):Nat:=4 ^ n % Pn
def memN (a:Nat):Prop:=1≤a∧a<Pn∧a ^ Qn % Pn=1
theorem pgB {a:Nat} (h:a ^ Qn % Pn=1) (n:Nat):memN (a ^ n % Pn):=by
 have e:(a ^ n % Pn) ^ Qn % Pn=1:=by
  rw [pbo,← Nat.pow_mul,Nat.mul_comm,Nat.pow_mul,Nat.pow_mod,h,Nat.one_pow,Nat.mod_eq_of_lt ppe]
 refine ⟨?_,Nat.mod_lt _ plQ,e⟩
 by_cases h0:a ^ n % Pn=0
 · rw [h0,Nat.zero_pow peg,Nat.zero_mod] at e
   omega
 · omega
theorem pe0 (n:Nat):memN (gP n):=pgB peE n
theorem pqD (n:Nat):gP n<Pn:=(pe0 n).2.1
theorem pbW (a n:Nat):powZ (a:Int) n 2305843009213691579=((a ^ n % Pn:Nat):Int):=by
 rw [powZ,Int.natCast_emod,Int.natCast_pow]
 rfl
theorem pbu (a:Nat):memB (a:Int)=true ↔ memN a:=by
 have hp:=pbW a 1152921504606845789
 unfold memB memN
 rw [hp]
 have e1:(decide (1≤(a:Int))=true) ↔ 1≤a:=by rw [decide_eq_true_iff];omega
 have e2:(decide ((a:Int)<2305843009213691579)=true) ↔ a<Pn:=by rw [decide_eq_true_iff];unfold Pn;omega
 have e3:(decide (((a ^ 1152921504606845789 % Pn:Nat):Int)=1)=true) ↔ a ^ Qn % Pn=1:=by
  rw [decide_eq_true_iff]
  show ((a ^ Qn % Pn:Nat):Int)=1 ↔ _
  omega
 rw [Bool.and_eq_true,Bool.and_eq_true,e1,e2,e3,and_assoc]
theorem pcT {a:Int} (h:memB a=true):∃ n:Nat,a=(n:Int)∧memN n:=by
 by_cases h0:0≤a
 · obtain ⟨n,rfl⟩:=Int.eq_ofNat_of_zero_le h0
   exact ⟨n,rfl,(pbu n).1 h⟩
 · rw [pgA (by omega)] at h
   cases h
def pcF (r p:Nat) (t:List UInt8):Nat:=pc9 ([99] ++ len8 r ++ len8 p ++ t)
def posN (n:Nat):Nat:=if n=0 then 1 else n
def keyN (seed:List UInt8):Nat:=posN (pc9 ([107] ++ seed))
def nonceN (x:Nat) (t:List UInt8):Nat:=posN (pc9 ([110] ++ len8 x ++ t))
def sWith (x n:Nat) (t:List UInt8):Nat:=(n+x * pcF (gP n) (gP x) t) % Qn
theorem peF (s:List UInt8):pc9 s<Qn:=Nat.mod_lt _ peg
theorem piN {n:Nat} (h:n<Qn):posN n<Qn:=by
 unfold posN
 split
 · decide
 · exact h
theorem pjM (n:Nat):0<posN n:=by unfold posN;split <;> omega
theorem ppy (s:List UInt8):keyN s<Qn:=piN (peF _)
theorem pjN (x n:Nat) (t:List UInt8):sWith x n t<Qn:=Nat.mod_lt _ peg
theorem pjO (r p:Nat) (t:List UInt8):pcF r p t<Qn:=peF _
def verB (p:Int) (t:List UInt8) (r s:Int):Bool :=
 memB p && memB r && decide (0≤s) && decide (s<1152921504606845789) && decide (powZ 4 s.toNat 2305843009213691579=r * powZ p (pcF r.toNat p.toNat t) 2305843009213691579 % 2305843009213691579)
theorem php (p r s:Nat) (t:List UInt8):verB (p:Int) t (r:Int) (s:Int)=true ↔ memN p∧memN r∧s<Qn∧gP s=r * p ^ pcF r p t % Pn:=by
 unfold verB
 have e3:(decide (0≤(s:Int))=true):=by rw [decide_eq_true_iff];omega
 have e4:(decide ((s:Int)<1152921504606845789)=true) ↔ s<Qn:=by rw [decide_eq_true_iff];unfold Qn;omega
 have e5:(r:Int) * ((p ^ pcF r p t % Pn:Nat):Int) % 2305843009213691579=((r * p ^ pcF r p t % Pn:Nat):Int):=by
  rw [← Int.natCast_mul]
  show ((r * (p ^ pcF r p t % Pn):Nat):Int) % ((Pn:Nat):Int)=_
  rw [← Int.natCast_emod,Nat.mul_mod_mod]
 have e6:powZ 4 s 2305843009213691579=((gP s:Nat):Int):=pbW 4 s
 rw [Bool.and_eq_true,Bool.and_eq_true,Bool.and_eq_true,Bool.and_eq_true,e4,pbu,pbu,Int.toNat_natCast,Int.toNat_natCast,Int.toNat_natCast,pbW,e5,e6]
 constructor
 · rintro ⟨⟨⟨⟨h1,h2⟩,_⟩,h4⟩,h5⟩
   exact ⟨h1,h2,h4,by rw [decide_eq_true_iff] at h5;exact_mod_cast h5⟩
 · rintro ⟨h1,h2,h4,h5⟩
   exact ⟨⟨⟨⟨h1,h2⟩,e3⟩,h4⟩,by rw [decide_eq_true_iff,h5]⟩
theorem ver_with (x n:Nat) (t:List UInt8):verB (gP x:Int) t (gP n:Int) (sWith x n t:Int)=true:=by
 rw [php]
 refine ⟨pe0 x,pe0 n,pjN x n t,?_⟩
 unfold sWith
 generalize pcF (gP n) (gP x) t=c
 unfold gP
 rw [← piM peE,Nat.mod_mul_mod,Nat.mul_mod,pbo,← Nat.pow_mul,← Nat.mul_mod,← Nat.pow_add]
theorem ver_two {p r s:Nat} {t u:List UInt8} (h:verB (p:Int) t (r:Int) (s:Int)=true) (h':verB (p:Int) u (r:Int) (s:Int)=true):pcF r p t=pcF r p u∨p=1:=by
 rw [php] at h h'
 obtain ⟨⟨p1,p2,p3⟩,⟨r1,r2,r3⟩,_,e1⟩:=h
 obtain ⟨_,_,_,e2⟩:=h'
 by_cases hp:p=1
 · exact .inr hp
 · left
   refine ppx p3 (by rw [Nat.mod_eq_of_lt p2];exact hp) (pjO _ _ _) (pjO _ _ _) ?_
   exact cancel (ppd r3) (e1.symm.trans e2)
end Go.Proofs.YtheobkejohifaaaGreatDoor

namespace Go.Proofs.YtheobkejohifaaaGreatDoor
open Go.RowKit
set_option maxRecDepth 100000
def MkS (l:List UInt8) (w:World) (e:Ending) (w':World):Prop:=∃ r:ByteArray,Hid (bs r=l)∧r.size≤l.length∧e=.returned (.string r)∧Upd [] [] w w'
theorem paT {r:ByteArray} {l:List UInt8} (h:bs r=l):r.size=l.length:=by rw [← h,pac]
theorem pe1 (n:Nat) (w:World) (_hn:n≤9223372036854775807):Calls Tryz.prog 77 #[.int .i64 (n:Int)] w (MkS (len8 n) w):=by
 have hw1:(w.alloc (.cells (byteVals (List.replicate 8 0)).toArray 176)).heap[w.heap.size]? =some (.cells (byteVals (List.replicate 8 0)).toArray 176 (0,0)):=heap_alloc_new _ _
 have hu1:Upd [] [] w (w.alloc (.cells (byteVals (List.replicate 8 0)).toArray 176)):=(Upd.refl _ _).alloc _
 have HW1:=Lib.hid hw1
 clear hw1
 go_enter Tryz.func77,Tryz.ntmps77
 go_wp2_with fail
 go_loopw [5] (fun i wr=>∃ k:Nat,i=.int .i64 (k:Int)∧k≤8∧Hid (wr.heap[w.heap.size]? =some (.cells (byteVals ((len8 n).take k ++ List.replicate (8 - k) 0)).toArray 176 (0,0)))∧Upd [] [] w wr) (fun i _=>8 - (intOf i).toNat)
 case atStart=>exact ⟨0,rfl,Nat.zero_le _,HW1.out,hu1⟩
 case round =>
  clear HW1 hu1
  obtain ⟨k,rfl,hk,HR,hu⟩:=hrel
  by_cases hlt:k<8
  · have q1:∃ v0,wr.cell? ⟨w.heap.size,k,none⟩=some v0:=by
     rw [cell_of_row wr w.heap.size k _ _ _ HR.out]
     exact ⟨_,Array.getElem?_eq_getElem (by simp [byteVals,len8];omega)⟩
    obtain ⟨v0,q1⟩:=q1
    have q2:wr.frozen? ⟨w.heap.size,k,none⟩=false:=frozen_of_row wr w.heap.size k _ _ HR.out
    have h3:=heap_setCell_same wr w.heap.size k _ _ (pbt (UInt8.ofNat (n / 2 ^ (8 * (7 - k))))) HR.out
    rw [phk n k hlt] at h3
    have H3:=Lib.hid h3
    have HU3:=Lib.hid (hu.setNew (p:=⟨w.heap.size,k,none⟩) (Nat.le_refl _) (pbt (UInt8.ofNat (n / 2 ^ (8 * (7 - k))))))
    clear h3
    have hk8:56 - 8 * k=8 * (7 - k):=by omega
    go_wp2_with fail
    go_roundw
    case rel=>exact ⟨k+1,by go_num,by omega,by rw [peC];exact H3.out,by rw [peC];exact HU3.out⟩
    case measure=>simp [intOf];omega
  · obtain rfl:k=8:=by omega
    have hR:=HR.out
    rw [List.take_of_length_le (by rw [pas];omega)] at hR
    simp only [Nat.sub_self,List.replicate_zero,List.append_nil] at hR
    have hcv:=pbT (P:=Tryz.prog) wr 124 9 5 Tryz.underlying124 Tryz.underlying5 Tryz.underlying9 w.heap.size _ _ _ hR (len8 n) (by rw [List.take_of_length_le (by simp [byteVals])]) 0 8 8 (by rw [pas];omega)
    have HCV:=Lib.hid hcv
    clear hcv hR
    go_wp2_with fail
    rw [HCV.out]
    go_wp2_with fail
    go_ret
    refine ⟨⟨(len8 n).toArray⟩,rfl,?_,?_,hu⟩
    · exact Nat.le_refl _
    · rw [List.take_of_length_le (by rw [pas];omega)]
      rfl
theorem phq (n:Nat) (w:World):Calls Tryz.prog 75 #[.int .i64 (n:Int)] w (Ret (.int .i64 (posN n:Int)) w):=by
 by_cases h:n=0
 · subst h
   go_enter Tryz.func75,Tryz.ntmps75
   go_wp2_with fail
   go_ret
   exact ⟨rfl,rfl⟩
 · have hp:posN n=n:=by simp [posN,h]
   have HP:=Lib.hid hp
   have h1:0<n:=by omega
   clear h hp
   go_enter Tryz.func75,Tryz.ntmps75
   go_wp2_with fail
   go_ret
   exact ⟨by rw [HP.out];rfl,rfl⟩
theorem pdz (n:Nat) (w:World) (hn:n≤9223372036854775807):Calls Tryz.prog 78 #[.int .i64 (n:Int)] w (MkN 2305843009213691579 (gP n) w):=by
 go_enter Tryz.func78,Tryz.ntmps78
 go_wp2_with fail
 refine (pgz 4 2305843009213691579 n w (by omega) hn (by omega)).mono ?_
 rintro e w1 ⟨r,HR,r0,r1,rfl,hu⟩
 obtain ⟨m,rfl⟩:∃ m:Nat,r=(m:Int):=⟨r.toNat,by omega⟩
 go_wp2_with fail
 go_ret
 refine ⟨m,?_,by omega,rfl,hu⟩
 show _=_
 have h:=HR.out
 have h2:powZ 4 n 2305843009213691579=((gP n:Nat):Int):=pbW 4 n
 rw [h2] at h
 omega
theorem join_nil (xs:List (List UInt8)):Lib.join xs []=xs.flatten:=by
 unfold Lib.join
 induction xs with
 | nil=>rfl
 | cons x r ih =>
  cases r with
  | nil=>simp
  | cons y r=>simpa [List.intercalate] using ih
def pfV (w:World) (g:Nat) (xs:List ByteArray):Prop:=g<w.heap.size∧∀ (j:Nat) x,xs[j]? =some x→w.cell? ⟨g,0+j,none⟩=some (.string x)
theorem pdj (xs:List ByteArray) (g c:Nat) (w:World) (hx:pfV w g xs) (hc:xs.length≤c) (hN:xs.length≤1000) (hl:(xs.map bs).flatten.length≤140737488355328) (htab:Tabs w) :
 Calls Tryz.prog 76 #[.slice (some ⟨g,0,none⟩) xs.length c] w (MkN 1152921504606845789 (pc9 (xs.map bs).flatten) w):=by
 have hj:Lib.join (xs.map (·.data.toList)) (ByteArray.mk #[]).data.toList=(xs.map bs).flatten:=join_nil _
 have HJ:=Lib.hid hj
 have HX:=Lib.hid hx
 clear hj hx
 go_enter Tryz.func76,Tryz.ntmps76
 go_wp2_with fail
 refine (Tryz.strings_Join g 0 c xs ⟨#[]⟩ w HX.out.2 HX.out.1 (by omega) hc (by rw [HJ.out];omega)).mono ?_
 rintro e w1 ⟨rfl,hb⟩
 have hu:=paA hb
 clear hb
 rw [HJ.out]
 obtain ⟨T,hT⟩:∃ T:ByteArray,T=⟨(xs.map bs).flatten.toArray⟩:=⟨_,rfl⟩
 rw [← hT]
 have hTb:bs T=(xs.map bs).flatten:=by rw [hT,pc8]
 have hTl:T.size≤140737488355328:=by rw [paT hTb];exact hl
 have HTB:=Lib.hid hTb
 clear hT hTb
 go_wp2_with fail
 refine (peZ T w1 (by omega) (htab.upd hu)).mono ?_
 rintro e w2 ⟨r,HR,hr,rfl,hu2⟩
 go_wp2_with fail
 go_ret
 refine ⟨r,?_,hr,rfl,hu.trans hu2⟩
 show _=_
 rw [HR.out,HTB.out]
theorem prn (w:World) (a b:ByteArray) (t:TypeId):pfV (w.alloc (.cells #[.string a,.string b] t)) w.heap.size [a,b]:=by
 refine ⟨by simp,fun j x h=>?_⟩
 rw [cell_of_row _ w.heap.size _ #[.string a,.string b] t (0,0) (heap_alloc_new _ _)]
 match j,h with
 | 0,h=>simp at h;subst h;rfl
 | 1,h=>simp at h;subst h;rfl
 | n+2,h=>simp at h
theorem pro (w:World) (a b c:ByteArray) (t:TypeId):pfV (w.alloc (.cells #[.string a,.string b,.string c] t)) w.heap.size [a,b,c]:=by
 refine ⟨by simp,fun j x h=>?_⟩
 rw [cell_of_row _ w.heap.size _ #[.string a,.string b,.string c] t (0,0) (heap_alloc_new _ _)]
 match j,h with
 | 0,h=>simp at h;subst h;rfl
 | 1,h=>simp at h;subst h;rfl
 | 2,h=>simp at h;subst h;rfl
 | n+3,h=>simp at h
theorem prp (w:World) (a b c d:ByteArray) (t:TypeId):pfV (w.alloc (.cells #[.string a,.string b,.string c,.string d] t)) w.heap.size [a,b,c,d]:=by
 refine ⟨by simp,fun j x h=>?_⟩
 rw [cell_of_row _ w.heap.size _ #[.string a,.string b,.string c,.string d] t (0,0) (heap_alloc_new _ _)]
 match j,h with
 | 0,h=>simp at h;subst h;rfl
 | 1,h=>simp at h;subst h;rfl
 | 2,h=>simp at h;subst h;rfl
 | 3,h=>simp at h;subst h;rfl
 | n+4,h=>simp at h
theorem pdA (r p:Nat) (t:ByteArray) (w:World) (hr:r≤9223372036854775807) (hp:p≤9223372036854775807) (ht:t.size≤140737488355000) (htab:Tabs w) :
 Calls Tryz.prog 79 #[.int .i64 (r:Int),.int .i64 (p:Int),.string t] w (MkN 1152921504606845789 (pcF r p (bs t)) w):=by
 go_enter Tryz.func79,Tryz.ntmps79
 go_wp2_with fail
 refine (pe1 r w hr).mono ?_
 rintro e w1 ⟨b1,HB1,b1l,rfl,hu1⟩
 go_wp2_with fail
 refine (pe1 p w1 hp).mono ?_
 rintro e w2 ⟨b2,HB2,b2l,rfl,hu2⟩
 have hu:=hu1.trans hu2
 go_wp2_with fail
 have hst:=prp w2 ⟨#[99]⟩ b1 b2 t 9
 have hu0:Upd [] [] w2 (w2.alloc (.cells #[.string ⟨#[99]⟩,.string b1,.string b2,.string t] 9)):=(Upd.refl _ _).alloc _
 have HST:=Lib.hid hst
 have HFL:Hid ((([⟨#[99]⟩,b1,b2,t]:List ByteArray).map bs).flatten=[99] ++ len8 r ++ len8 p ++ bs t):=by
  show _=_
  simp [HB1.out,HB2.out]
  rfl
 clear hst
 refine (pdj [⟨#[99]⟩,b1,b2,t] w2.heap.size _ _ HST.out (by simp) (by simp) (by rw [HFL.out];simp [pac,pas];omega) (htab.upd (hu.trans hu0))).mono ?_
 rintro e w3 ⟨c,HC,hc,rfl,hu3⟩
 go_wp2_with fail
 go_ret
 exact ⟨c,by show _=_;rw [HC.out,HFL.out,pcF],hc,rfl,(hu.trans hu0).trans hu3⟩
end Go.Proofs.YtheobkejohifaaaGreatDoor
