/- Natural numbers as lists of digits to the base 2^32, plainly and what follows. -/
import Derived.Test.YtmjlkkbbnkanpaaGreatDoorHAA
import Derived.Test.YtmjlkkbbnkanpaaGreatDoorHAP
import Derived.Test.YtmjlkkbbnkanpaaGreatDoorHAE
import Derived.Test.YtmjlkkbbnkanpaaGreatDoorHAC
import Derived.Test.YtmjlkkbbnkanpaaGreatDoorHAG
import Derived.BigRegion
import Derived.Test.YtmjlkkbbnkanpaaGreatDoorHAK
import Derived.Test.YtmjlkkbbnkanpaaGreatDoorHAD
import Derived.BigQuiet
namespace Go.Proofs.YtmjlkkbbnkanpaaGreatDoor
open Go.RowKit
set_option maxRecDepth 100000
theorem take_stepW {α:Type} {l:List α} {k:Nat} {d:α} (h:l[k]? =some d):l.take (k+1)=l.take k ++ [d]:=by
 rw [List.take_add_one,h]
 rfl
def valW:List Nat→Nat
 | []=>0
 | d :: r=>d+4294967296 * valW r
def okW (l:List Nat):Prop:=∀ d∈l,d<4294967296
def dw (n:Nat):List Nat:=if n=0 then [] else n % 4294967296 :: dw (n / 4294967296)
termination_by n
decreasing_by omega
theorem dw_zero:dw 0=[]:=by rw [dw];rfl
theorem dw_pos {n:Nat} (h:0<n):dw n=n % 4294967296 :: dw (n / 4294967296):=by rw [dw,if_neg (by omega)]
theorem valW_dg (n:Nat):valW (dw n)=n:=by
 induction n using Nat.strongRecOn with
 | ind n ih =>
  by_cases h:n=0
  · subst h;rw [dw_zero];rfl
  · rw [dw_pos (by omega),valW,ih (n / 4294967296) (by omega)]
    omega
theorem dw_ok (n:Nat):okW (dw n):=by
 induction n using Nat.strongRecOn with
 | ind n ih =>
  by_cases h:n=0
  · subst h;rw [dw_zero];intro d hd;simp at hd
  · rw [dw_pos (by omega)]
    intro d hd
    rcases List.mem_cons.1 hd with rfl | hd
    · omega
    · exact ih (n / 4294967296) (by omega) d hd
theorem valW_append:∀ (a b:List Nat),valW (a ++ b)=valW a+4294967296 ^ a.length * valW b
 | [],b=>by simp [valW]
 | d :: r,b=>by
  simp only [List.cons_append,valW,valW_append r b,List.length_cons,Nat.pow_succ]
  rw [Nat.mul_add,Nat.add_assoc,← Nat.mul_assoc,Nat.mul_comm (4294967296 ^ r.length) 4294967296]
theorem valW_snoc (a:List Nat) (d:Nat):valW (a ++ [d])=valW a+4294967296 ^ a.length * d:=by rw [valW_append];simp [valW]
theorem okW_nil:okW []:=fun d hd=>by simp at hd
theorem okW_take {l:List Nat} (h:okW l) (k:Nat):okW (l.take k):=fun d hd=>h d (List.mem_of_mem_take hd)
theorem valW_lt:∀ {l:List Nat},okW l→valW l<4294967296 ^ l.length
 | [],_=>by simp [valW]
 | d :: r,h=>by
  have h1:=h d (by simp)
  have h2:=valW_lt (l:=r) (fun x hx=>h x (by simp [hx]))
  simp only [valW,List.length_cons,Nat.pow_succ]
  omega
theorem dw_of_last:∀ {c:List Nat},okW c→(∀ d,c.getLast? =some d→d≠0)→c=dw (valW c)
 | [],_,_=>by rw [valW,dw_zero]
 | d :: r,h,hl=>by
  have hd:=h d (by simp)
  cases r with
  | nil =>
   have:d≠0:=hl d (by simp)
   simp only [valW,Nat.mul_zero,Nat.add_zero]
   rw [dw_pos (by omega),show d % 4294967296=d by omega,show d / 4294967296=0 by omega,dw_zero]
  | cons e r =>
   have ih:=dw_of_last (c:=e :: r) (fun x hx=>h x (by simp [List.mem_cons.1 hx])) (fun x hx=>hl x (by simpa using hx))
   have hpos:0<valW (e :: r):=by
    rcases Nat.eq_zero_or_pos (valW (e :: r)) with h0 | h0
    · rw [h0,dw_zero] at ih;cases ih
    · exact h0
   rw [valW,dw_pos (by omega),show (d+4294967296 * valW (e :: r)) % 4294967296=d by omega,show (d+4294967296 * valW (e :: r)) / 4294967296=valW (e :: r) by omega,← ih]
theorem valW_drop_step {l:List Nat} {k d:Nat} (h:l[k]? =some d):valW (l.drop k)=d+4294967296 * valW (l.drop (k+1)):=by
 obtain ⟨hk,rfl⟩:=List.getElem?_eq_some_iff.1 h
 rw [List.drop_eq_getElem_cons hk,valW]
def padK:Nat→Nat→List UInt8
 | 0,_=>[]
 | k+1,r=>padK k (r / 10) ++ [UInt8.ofNat (48+r % 10)]
theorem padK_zero:∀ k,padK k 0=List.replicate k 48
 | 0=>rfl
 | k+1=>by
  rw [padK,show 0 / 10=0 by rfl,padK_zero k,List.replicate_succ']
  rfl
theorem padK_dec:∀ (k r:Nat),0<k→r<10 ^ k→padK k r=List.replicate (k - (Lib.decDigits r).length) 48 ++ Lib.decDigits r
 | 0,_,h,_=>absurd h (by omega)
 | k+1,r,_,hr=>by
  by_cases h:r<10
  · rw [padK,show r / 10=0 by omega,padK_zero,Lib.decDigits_one h,Nat.mod_eq_of_lt h]
    simp
  · have hk:0<k:=by
     cases k with
     | zero=>simp at hr;omega
     | succ k=>omega
    rw [Nat.pow_succ] at hr
    rw [padK,padK_dec k (r / 10) hk (by omega)]
    conv=>rhs;rw [Lib.decDigits,dif_neg h]
    rw [List.length_append]
    simp only [List.length_singleton,List.append_assoc]
    rw [show k+1 - ((Lib.decDigits (r / 10)).length+1)=k - (Lib.decDigits (r / 10)).length by omega]
theorem padK_mod:∀ (k x:Nat),padK k (x % 10 ^ k)=padK k x
 | 0,_=>rfl
 | k+1,x=>by
  have e1:x % 10 ^ (k+1) / 10=x / 10 % 10 ^ k:=by rw [Nat.pow_succ,Nat.mul_comm,Nat.mod_mul_right_div_self]
  have e2:x % 10 ^ (k+1) % 10=x % 10:=Nat.mod_mod_of_dvd x (by rw [Nat.pow_succ];exact Nat.dvd_mul_left _ _)
  rw [padK,padK,e1,e2,padK_mod k (x / 10)]
theorem dec_pad:∀ (k x:Nat),10 ^ k≤x→Lib.decDigits x=Lib.decDigits (x / 10 ^ k) ++ padK k x
 | 0,x,_=>by simp [padK]
 | k+1,x,h=>by
  have h0:1≤10 ^ k:=Nat.one_le_pow _ _ (by omega)
  rw [Nat.pow_succ] at h
  conv=>lhs;rw [Lib.decDigits,dif_neg (by omega)]
  rw [dec_pad k (x / 10) (by omega),padK,Nat.pow_succ,Nat.mul_comm,← Nat.div_div_eq_div_mul,List.append_assoc]
def grp (y:Nat):List UInt8:=if 1000000000≤y then padK 9 y else Lib.decDigits y
theorem grp_pad {y:Nat} (h:1000000000≤y):grp y=List.replicate (9 - (Lib.decDigits (y % 1000000000)).length) 48 ++ Lib.decDigits (y % 1000000000):=by
 unfold grp
 rw [if_pos h,← padK_mod 9 y,show (10:Nat) ^ 9=1000000000 by decide,padK_dec 9 _ (by omega) (by rw [show (10:Nat) ^ 9=1000000000 by decide];omega)]
theorem grp_last {y:Nat} (h:y<1000000000):grp y=Lib.decDigits (y % 1000000000):=by
 unfold grp
 rw [if_neg (by omega),Nat.mod_eq_of_lt h]
def rest9 (y:Nat):List UInt8:=if y=0 then [] else Lib.decDigits y
theorem grp_step {y:Nat} (h:0<y):rest9 y=rest9 (y / 1000000000) ++ grp y:=by
 unfold rest9 grp
 rw [if_neg (by omega)]
 by_cases h1:1000000000≤y
 · rw [if_pos h1,if_neg (by omega),← show (10:Nat) ^ 9=1000000000 by decide]
   exact dec_pad 9 y (by rw [show (10:Nat) ^ 9=1000000000 by decide];exact h1)
 · rw [if_neg h1,if_pos (by omega)]
   rfl
theorem or64n {r a:Nat} (ha:a<4294967296) (hr:r<4294967296):bits .or .u64 ((r * 4294967296:Nat):Int) (a:Int)=((r * 4294967296+a:Nat):Int):=by
 show IntKind.u64.wrap ((BitVec.ofInt 64 ((r * 4294967296:Nat):Int) ||| BitVec.ofInt 64 (a:Int)).toNat:Int)=_
 have e1:(BitVec.ofInt 64 ((r * 4294967296:Nat):Int)).toNat=r * 4294967296:=by
  rw [BitVec.toNat_ofInt]
  show (((r * 4294967296:Nat):Int) % 18446744073709551616).toNat=_
  omega
 have e2:(BitVec.ofInt 64 (a:Int)).toNat=a:=by
  rw [BitVec.toNat_ofInt]
  show ((a:Int) % 18446744073709551616).toNat=_
  omega
 have e3:=Nat.two_pow_add_eq_or_of_lt (i:=32) (b:=a) (by simpa using ha) r
 have e4:r * 4294967296 ||| a=r * 4294967296+a:=by
  rw [Nat.mul_comm r]
  exact e3.symm
 rw [BitVec.toNat_or,e1,e2,e4]
 show ((r * 4294967296+a:Nat):Int) % 18446744073709551616=_
 omega
theorem two_div {a b r t:Nat} (hr:r=b % 1000000000) (ht:t=r * 4294967296+a):valW [t / 1000000000,b / 1000000000]=valW [a,b] / 1000000000∧t % 1000000000=valW [a,b] % 1000000000:=by
 simp only [valW]
 omega
theorem valW_set:∀ (l:List Nat) (q d e:Nat),l[q]? =some d→valW (l.set q (d+e))=valW l+4294967296 ^ q * e
 | [],q,d,e,h=>by simp at h
 | d' :: r,0,d,e,h=>by
  simp only [List.getElem?_cons_zero,Option.some.injEq] at h
  subst h
  simp only [List.set_cons_zero,valW,Nat.pow_zero]
  omega
 | d' :: r,q+1,d,e,h=>by
  rw [List.getElem?_cons_succ] at h
  simp only [List.set_cons_succ,valW,valW_set r q d e h,Nat.pow_succ]
  rw [Nat.mul_add,Nat.mul_assoc,Nat.mul_left_comm,Nat.add_assoc]
theorem valW_at:∀ (l:List Nat) (q d:Nat),l[q]? =some d→4294967296 ^ q * d≤valW l
 | [],q,d,h=>by simp at h
 | d' :: r,0,d,h=>by
  simp only [List.getElem?_cons_zero,Option.some.injEq] at h
  subst h
  simp only [valW,Nat.pow_zero]
  omega
 | d' :: r,q+1,d,h=>by
  rw [List.getElem?_cons_succ] at h
  have ih:=valW_at r q d h
  simp only [valW,Nat.pow_succ]
  rw [Nat.mul_assoc,Nat.mul_left_comm]
  have:=Nat.mul_le_mul_left 4294967296 ih
  omega
theorem okW_set {l:List Nat} (h:okW l) {k x:Nat} (hx:x<4294967296):okW (l.set k x):=by
 intro d hd
 rcases List.mem_or_eq_of_mem_set hd with k | k
 · exact h d k
 · omega
theorem valW_zeros:∀ k,valW (List.replicate k 0)=0
 | 0=>rfl
 | k+1=>by rw [List.replicate_succ,valW,valW_zeros k]
theorem okW_zeros (k:Nat):okW (List.replicate k 0):=fun d hd=>by rw [List.mem_replicate] at hd;omega
theorem valW_drop:∀ (q:Nat) (l:List Nat),okW l→valW l / 4294967296 ^ q=valW (l.drop q)
 | 0,l,_=>by simp
 | q+1,[],_=>by simp [valW]
 | q+1,d :: r,h=>by
  have hd:=h d (by simp)
  have ih:=valW_drop q r (fun x hx=>h x (by simp [hx]))
  rw [List.drop_succ_cons,← ih,valW,Nat.pow_succ,Nat.mul_comm (4294967296 ^ q) 4294967296,← Nat.div_div_eq_div_mul]
  rw [show (d+4294967296 * valW r) / 4294967296=valW r by omega]
def byteN (V i:Nat):Nat:=V / 256 ^ i % 256
theorem byteN_lt (V i:Nat):byteN V i<256:=Nat.mod_lt _ (by decide)
theorem p256_4:(256:Nat) ^ 4=4294967296:=by decide
theorem p2_8:(2:Nat) ^ 8=256:=by decide
theorem byteN_at {l:List Nat} (h:okW l) {q r d:Nat} (hd:l[q]? =some d) (hr:r<4):byteN (valW l) (4 * q+r)=d / 2 ^ (8 * r) % 256:=by
 unfold byteN
 have e:(256:Nat) ^ (4 * q+r)=4294967296 ^ q * 256 ^ r:=by rw [Nat.pow_add,Nat.pow_mul,p256_4]
 have e2:(256:Nat) ^ r=2 ^ (8 * r):=by rw [Nat.pow_mul,p2_8]
 rw [e,← Nat.div_div_eq_div_mul,valW_drop q l h,valW_drop_step hd,← e2]
 have hdl:=h d (List.mem_of_getElem? hd)
 generalize valW (l.drop (q+1))=z
 have hr4:r=0∨r=1∨r=2∨r=3:=by omega
 clear e e2 hr hd
 rcases hr4 with rfl | rfl | rfl | rfl
 · simp only [Nat.pow_zero,Nat.div_one];omega
 · simp only [Nat.pow_one];omega
 · have h2:(256:Nat) ^ 2=65536:=by decide
   rw [h2];omega
 · have h3:(256:Nat) ^ 3=16777216:=by decide
   rw [h3];omega
def beN (V:Nat):Nat→List UInt8
 | 0=>[]
 | n+1=>UInt8.ofNat (byteN V n) :: beN V n
theorem beN_len (V:Nat):∀ n,(beN V n).length=n
 | 0=>rfl
 | n+1=>by rw [beN,List.length_cons,beN_len V n]
theorem natB_beN (V:Nat):∀ n,natB (beN V n)=V % 256 ^ n
 | 0=>by rw [Nat.pow_zero,Nat.mod_one];rfl
 | n+1=>by
  rw [beN,natB_cons,beN_len,natB_beN V n,UInt8.toNat_ofNat',Nat.mod_eq_of_lt (byteN_lt V n),Nat.pow_succ,Nat.mod_mul,Nat.add_comm,Nat.mul_comm]
  rfl
theorem natB_beN_all {V n:Nat} (h:V<256 ^ n):natB (beN V n)=V:=by rw [natB_beN,Nat.mod_eq_of_lt h]
def wV (d:Nat):Value:=.int .u32 (d:Int)
def wVals (l:List Nat):List Value:=l.map wV
def Wd (w:World) (v:Value) (l:List Nat):Prop:=∃ ao cap,v=.slice ao l.length cap∧l.length≤cap∧cap≤maxLen∧(l.length=0∨∃ b,ao=some ⟨b,0,none⟩∧b<w.heap.size∧∀ (j d:Nat),l[j]? =some d→w.cell? ⟨b,j,none⟩=some (.int .u32 (d:Int)))
theorem Wd.nil (w:World):Wd w (.slice none 0 0) []:=⟨none,0,rfl,Nat.le_refl _,by simp,.inl rfl⟩
theorem Wd.upd {w w':World} {v:Value} {l:List Nat} (h:Wd w v l) (u:Upd [] [] w w'):Wd w' v l:=by
 obtain ⟨ao,cap,rfl,h1,h2,h3⟩:=h
 refine ⟨ao,cap,rfl,h1,h2,?_⟩
 rcases h3 with h3 | ⟨b,rfl,hb,hc⟩
 · exact .inl h3
 · exact .inr ⟨b,rfl,Nat.lt_of_lt_of_le hb u.size,fun j d hj=>(u.cell hb (by simp)).trans (hc j d hj)⟩
def wLen:Value→Nat
 | .slice _ n _=>n
 | _=>0
theorem ntrim_at (v:Value) (l:List Nat) (w:World) (h:Wd w v l) (hl:okW l):Calls Tryz.prog 109 #[v] w (fun e w'=>∃ v',Hid (Wd w v' (dw (valW l))∧foot v'=foot v)∧e=.returned v'∧w=w'):=by
 obtain ⟨ao,cap,rfl,h1,h2,h3⟩:=h
 obtain ⟨n,hn⟩:∃ n,n=l.length:=⟨_,rfl⟩
 rw [← hn] at h1 h3
 rw [← hn]
 unfold maxLen at h2
 have H3:=Lib.hid h3
 have HN:=Lib.hid hn
 clear h3 hn
 go_enter Tryz.func109,Tryz.ntmps109
 go_wp2_with fail
 go_loop [0] (fun v=>∃ m:Nat,v=.slice ao m cap∧m≤n∧Hid (valW (l.take m)=valW l)) (fun v=>wLen v)
 case atStart=>exact ⟨n,rfl,Nat.le_refl _,by show _=_;rw [HN.out,List.take_length]⟩
 case round =>
  obtain ⟨m,rfl,hm,HM⟩:=hrel
  have hend:∀ k,k≤n→valW (l.take k)=valW l→(∀ d,(l.take k).getLast? =some d→d≠0)→Wd w (.slice ao k cap) (dw (valW l)):=by
   intro k hk hv hlast
   have hd:=dw_of_last (okW_take hl k) hlast
   rw [hv] at hd
   have hlen:(dw (valW l)).length=k:=by rw [← hd,List.length_take,← HN.out];omega
   refine ⟨ao,cap,by rw [hlen],by omega,by simp only [maxLen];omega,?_⟩
   rcases H3.out with h3 | ⟨b,rfl,hb,hc⟩
   · exact .inl (by omega)
   · refine .inr ⟨b,rfl,hb,fun j d hj=>hc j d ?_⟩
     rw [← hd,List.getElem?_take] at hj
     split at hj
     · exact hj
     · cases hj
  have HE:=Lib.hid hend
  clear hend
  by_cases h0:0<m
  · obtain ⟨k,rfl⟩:∃ k,m=k+1:=⟨m - 1,by omega⟩
    obtain ⟨b,rfl,hb,hc⟩:∃ b,ao=some ⟨b,0,none⟩∧b<w.heap.size∧∀ (j d:Nat),l[j]? =some d→w.cell? ⟨b,j,none⟩=some (.int .u32 (d:Int)):=by
     rcases H3.out with h | h
     · omega
     · exact h
    have hkl:k<l.length:=by have:=HN.out;omega
    have hk0:=hc k l[k] (List.getElem?_eq_getElem hkl)
    obtain ⟨d,hd⟩:∃ d,d=l[k]:=⟨_,rfl⟩
    rw [← hd] at hk0
    have hst:l[k]? =some d:=by rw [hd];exact List.getElem?_eq_getElem hkl
    have HST:=Lib.hid hst
    clear hc hkl hd hst
    have hki:((k+1:Nat):Int) - 1=(k:Int):=by omega
    by_cases hd0:d=0
    · subst hd0
      go_wp2_with fail
      refine ⟨⟨k,rfl,by omega,?_⟩,by simp [wLen]⟩
      show _=_
      rw [← HM.out,take_stepW HST.out,valW_snoc,Nat.mul_zero,Nat.add_zero]
    · have hb0:((d:Int) == 0)=false:=by rw [beq_eq_false_iff_ne];omega
      have hfin:=HE.out (k+1) hm HM.out (fun x hx=>by
       rw [take_stepW HST.out,List.getLast?_concat] at hx
       simp only [Option.some.injEq] at hx
       omega)
      have HF:=Lib.hid hfin
      clear hfin hd0
      go_wp2_with fail
      go_ret
      exact ⟨_,⟨HF.out,rfl⟩,rfl,rfl⟩
  · obtain rfl:m=0:=by omega
    have hfin:=HE.out 0 hm HM.out (fun x hx=>by simp at hx)
    have HF:=Lib.hid hfin
    clear hfin
    go_wp2_with fail
    go_ret
    exact ⟨_,⟨HF.out,by cases ao <;> rfl⟩,rfl,rfl⟩
theorem ntrim_any (v:Value) (l:List Nat) (w:World) (h:Wd w v l) (hl:okW l):Calls Tryz.prog 109 #[v] w (fun e w'=>∃ v',Hid (Wd w v' (dw (valW l)))∧e=.returned v'∧w=w'):=by
 refine (ntrim_at v l w h hl).mono ?_
 rintro e w' ⟨v',HV,he,hw⟩
 exact ⟨v',HV.out.1,he,hw⟩
theorem Wd.get {w:World} {ao:Option Addr} {n cap:Nat} {l:List Nat} (h:Wd w (.slice ao n cap) l) {k d:Nat} (hk:l[k]? =some d):∃ b,ao=some ⟨b,0,none⟩∧w.cell? ⟨b,k,none⟩=some (.int .u32 (d:Int)):=by
 obtain ⟨ao',cap',e,h1,h2,h3⟩:=h
 simp only [Value.slice.injEq] at e
 obtain ⟨rfl,rfl,rfl⟩:=e
 have hkl:=(List.getElem?_eq_some_iff.1 hk).1
 rcases h3 with h3 | ⟨b,rfl,hb,hc⟩
 · omega
 · exact ⟨b,rfl,hc k d hk⟩
theorem Wd.form {w:World} {v:Value} {l:List Nat} (h:Wd w v l):∃ ao cap,v=.slice ao l.length cap∧l.length≤cap∧cap≤9223372036854775807:=by
 obtain ⟨ao',cap',e,h1,h2,h3⟩:=h
 exact ⟨ao',cap',e,h1,h2⟩
def strLen:Value→Nat
 | .string t=>t.size
 | _=>0
theorem trimZero_any (s:ByteArray) (w:World) (hs:s.size≤1000000000000):Calls Tryz.prog 210 #[.string s,.int .u8 0] w (RetNat (natB (bs s)) w):=by
 go_enter Tryz.func210,Tryz.ntmps210
 go_wp2_with fail
 go_loop [0] (fun v=>∃ (k:Nat) (t:ByteArray),v=.string t∧k≤s.size∧Hid (bs t=(bs s).drop k)∧t.size=s.size - k∧Hid (canonL ((bs s).drop k)=canonL (bs s))) (fun v=>strLen v)
 case atStart=>exact ⟨0,s,rfl,Nat.zero_le _,by simp [Hid],by omega,rfl⟩
 case round =>
  obtain ⟨k,t,rfl,hk,HT,htz,HK⟩:=hrel
  by_cases hlt:0<t.size
  · have hks:k<s.size:=by omega
    have hg:(bs s)[k]? =some t[0]:=by
     have h1:=bs_get t 0 hlt
     rw [HT.out,List.getElem?_drop,Nat.add_zero] at h1
     exact h1
    by_cases h0:(t[0].toNat:Int)=0
    · have hb:((t[0].toNat:Int) == 0)=true:=by rw [beq_iff_eq];exact h0
      have hst:canonL ((bs s).drop (k+1))=canonL (bs s):=by
       rw [← canon_step (by rw [hg,u8_zero h0]),HK.out]
      have hbt:bs (t.extract 1 t.size)=(bs s).drop (k+1):=by
       rw [bs_extract,HT.out,List.drop_drop,List.take_of_length_le (by simp [bs_length];omega),Nat.add_comm]
      have HST:=Lib.hid hst
      have HBT:=Lib.hid hbt
      clear hst h0 hbt hg
      go_wp2_with fail
      rw [htz] at HBT
      exact ⟨⟨k+1,_,rfl,by omega,HBT,by rw [ByteArray.size_extract];omega,HST⟩,by simp [strLen,ByteArray.size_extract];omega⟩
    · have hb:((t[0].toNat:Int) == 0)=false:=by rw [beq_eq_false_iff_ne];exact h0
      have hst:(bs s).drop k=be (natB (bs s)):=by
       rw [← canon_be,← HK.out,canon_stop hg (fun e=>h0 (by rw [e];rfl))]
      have HST:=Lib.hid hst
      clear hst h0 hg
      go_wp2_with fail
      go_ret
      exact ⟨t,by show _=_;rw [HT.out,HST.out],rfl,rfl⟩
  · obtain rfl:k=s.size:=by omega
    have hst:be (natB (bs s))=[]:=by
     rw [← canon_be,← HK.out,List.drop_of_length_le (by simp [bs_length])]
     rfl
    have HST:=Lib.hid hst
    clear hst
    go_wp2_with fail
    go_ret
    exact ⟨t,by show _=_;rw [HT.out,HST.out,List.drop_of_length_le (by simp [bs_length])],rfl,rfl⟩
theorem strip_any (s:ByteArray) (w:World) (hs:s.size≤1000000000000):Calls Tryz.prog 108 #[.string s] w (RetNat (natB (bs s)) w):=by
 have HT:=Lib.hid (trimZero_any s w hs)
 have HTL:Hid (Calls Tryz.prog 162 #[.string s,.string ⟨#[0]⟩] w (RetNat (natB (bs s)) w)):=by
  by_cases h0:s=⟨#[]⟩
  · subst h0
    clear HT
    go_enter Tryz.func162,Tryz.ntmps162
    go_wp2_with fail
    go_ret
    exact ⟨_,by show _=_;exact be_zero.symm,rfl,rfl⟩
  · have hb:s.toList.isEmpty=false:=by
     rw [Bool.eq_false_iff,ne_eq,List.isEmpty_iff]
     exact fun e=>h0 (bs_inj (by rw [ByteArray.toList_eq] at e;exact e))
    go_enter Tryz.func162,Tryz.ntmps162
    go_wp2_with fail
    refine HT.out.mono ?_
    rintro e w' ⟨r,HR,rfl,rfl⟩
    go_wp2_with fail
    go_ret
    exact ⟨r,HR,rfl,rfl⟩
 clear HT
 go_enter Tryz.func108,Tryz.ntmps108
 go_wp2_with fail
 refine HTL.out.mono ?_
 rintro e w' ⟨r,HR,rfl,rfl⟩
 go_wp2_with fail
 go_ret
 exact ⟨r,HR,rfl,rfl⟩
theorem u32_parts:∃ i:TypeInfo,Tryz.prog.info? 140=some i∧i.zero=some (.int .u32 0)∧i.size=1∧i.bytes=4:=by
 have h:(Tryz.prog.info? 140).map (fun i=>(i.zero,i.size,i.bytes))=some (some (.int .u32 0),1,4):=by kernel_rfl
 obtain ⟨i,hi,he⟩:=Option.map_eq_some_iff.1 h
 simp only [Prod.mk.injEq] at he
 exact ⟨i,hi,he⟩
theorem made_words (k:Nat):madeCells (Value.int .u32 0).cells k=(wVals (List.replicate k 0)).toArray:=by
 apply Array.ext
 · simp [madeCells,wVals]
 · intro i h1 h2
   simp [madeCells,wVals,wV,Value.cells,Nat.mod_one]
theorem make_words (w:World) (n:Nat) (hn:n≤1000000000):(Instr.makeSlice 109 (.int .i64 (n:Int)) (.int .i64 (n:Int))).run Tryz.prog w=.ok (.slice (some ⟨w.heap.size,0,none⟩) n n) (w.alloc (.cells (wVals (List.replicate n 0)).toArray 140)):=by
 obtain ⟨i0,hi,hz0,hz1,hz2⟩:=u32_parts
 have:=run_make (P:=Tryz.prog) w 109 140 i0 (.int .u32 0) Tryz.underlying109 hi hz0 .i64 .i64 n n (by omega) (by omega) (by rw [hz2];omega) (by omega)
 rw [this,hz1]
 simp only [Int.toNat_natCast,Nat.mul_one,made_words]
def WB (w:World) (g:Nat) (l:List Nat):Prop:=w.heap[g]? =some (.cells (wVals l).toArray 140 (0,0))
theorem WB.upd {w w':World} {g:Nat} {l:List Nat} (h:WB w g l) (u:Upd [] [] w w'):WB w' g l:=by
 unfold WB at h ⊢
 rw [u.block _ (Array.getElem?_eq_some_iff.1 h).1 (by simp)];exact h
theorem WB.cell {w:World} {g:Nat} {l:List Nat} (h:WB w g l) {j d:Nat} (hj:l[j]? =some d):w.cell? ⟨g,j,none⟩=some (.int .u32 (d:Int)):=by
 rw [cell_of_row w g j _ _ _ h,List.getElem?_toArray]
 simp [wVals,hj,wV]
theorem WB.frozen {w:World} {g:Nat} {l:List Nat} (h:WB w g l) (j:Nat):w.frozen? ⟨g,j,none⟩=false:=frozen_of_row _ _ _ _ _ h
theorem WB.set {w:World} {g:Nat} {l:List Nat} (h:WB w g l) (j d:Nat):WB (w.setCell ⟨g,j,none⟩ (.int .u32 (d:Int))) g (l.set j d):=by
 have:=heap_setCell_same w g j _ _ (.int .u32 (d:Int)) h
 unfold WB
 rw [this]
 congr 2
 simp [wVals,List.map_set,wV]
theorem WB.slice {w:World} {g:Nat} {l:List Nat} (h:WB w g l) (hl:l.length≤maxLen):Wd w (.slice (some ⟨g,0,none⟩) l.length l.length) l :=
 ⟨_,_,rfl,Nat.le_refl _,hl,.inr ⟨g,rfl,(Array.getElem?_eq_some_iff.1 h).1,fun _ _ hj=>h.cell hj⟩⟩
theorem run_index_nat (s:ByteArray) (p:Nat) (b:UInt8) (hb:(bs s)[p]? =some b) (w:World):(Instr.index 40 (.string s) (.int .i64 (p:Int))).run Tryz.prog w=.ok (.int .u8 (b.toNat:Int)) w:=by
 have hu:Tryz.prog.underlying 40=some .string:=Tryz.underlying40
 have h0:(0:Int)≤(p:Int):=by omega
 have hp:p<s.size:=(List.getElem?_eq_some_iff.1 hb).1
 simp only [Instr.index,asIntOf,Sem.run_bind,Sem.run_pure,Result.andThen_ok,run_underlying hu w]
 rw [if_pos h0,Int.toNat_natCast]
 have h1:=bs_get s p hp
 rw [hb] at h1
 have h2:s[p]? =some b:=by rw [getElem?_pos s p hp];exact h1.symm
 rw [h2]
 rfl
theorem or32 {d x r:Nat} (hd:d<256 ^ r) (hx:x<256) (hr:r<4):bits .or .u32 (d:Int) ((x * 256 ^ r:Nat):Int)=((d+x * 256 ^ r:Nat):Int):=by
 have hlt:d+x * 256 ^ r<4294967296:=by
  have h4:r=0∨r=1∨r=2∨r=3:=by omega
  rcases h4 with rfl | rfl | rfl | rfl
  · simp at hd ⊢;omega
  · simp at hd ⊢;omega
  · have h2:(256:Nat) ^ 2=65536:=by decide
    rw [h2] at hd ⊢;omega
  · have h3:(256:Nat) ^ 3=16777216:=by decide
    rw [h3] at hd ⊢;omega
 show IntKind.u32.wrap ((BitVec.ofInt 32 (d:Int) ||| BitVec.ofInt 32 ((x * 256 ^ r:Nat):Int)).toNat:Int)=_
 have e1:(BitVec.ofInt 32 (d:Int)).toNat=d:=by
  rw [BitVec.toNat_ofInt]
  show ((d:Int) % 4294967296).toNat=_
  omega
 have e2:(BitVec.ofInt 32 ((x * 256 ^ r:Nat):Int)).toNat=x * 256 ^ r:=by
  rw [BitVec.toNat_ofInt]
  show (((x * 256 ^ r:Nat):Int) % 4294967296).toNat=_
  omega
 have e3:d ||| x * 256 ^ r=d+x * 256 ^ r:=by
  have hp:(256:Nat) ^ r=2 ^ (8 * r):=by rw [Nat.pow_mul,p2_8]
  rw [hp] at hd ⊢
  rw [Nat.or_comm,Nat.mul_comm x,← Nat.two_pow_add_eq_or_of_lt hd]
  omega
 rw [BitVec.toNat_or,e1,e2,e3]
 show ((d+x * 256 ^ r:Nat):Int) % 4294967296=_
 omega
theorem natB_back {l:List UInt8} {k:Nat} {b:UInt8} (hk:k<l.length) (hb:l[l.length - 1 - k]? =some b):natB (l.drop (l.length - (k+1)))=natB (l.drop (l.length - k))+b.toNat * 256 ^ k:=by
 have e:l.drop (l.length - (k+1))=b :: l.drop (l.length - k):=by
  obtain ⟨h,rfl⟩:=List.getElem?_eq_some_iff.1 hb
  have:l.length - (k+1)=l.length - 1 - k:=by omega
  rw [this,List.drop_eq_getElem_cons h,show l.length - 1 - k+1=l.length - k by omega]
 rw [e,natB_cons,List.length_drop,show l.length - (l.length - k)=k by omega]
 omega
theorem natB_back_lt {l:List UInt8} {k:Nat} (hk:k≤l.length):natB (l.drop (l.length - k))<256 ^ k:=by
 have:=natB_lt (l.drop (l.length - k))
 rwa [List.length_drop,show l.length - (l.length - k)=k by omega] at this
set_option maxHeartbeats 2000000 in
theorem digits_any (s:ByteArray) (w:World) (hs:s.size≤1000000000):Calls Tryz.prog 111 #[.string s] w (fun e w'=>∃ v',Hid (Wd w' v' (dw (natB (bs s))))∧e=.returned v'∧Upd [] [] w w'):=by
 obtain ⟨n4,hn4⟩:∃ n4,n4=(s.size+3) / 4:=⟨_,rfl⟩
 have hmk:=make_words w n4 (by omega)
 have q3:((s.size:Int)+3) / 4=(n4:Int):=by omega
 have hn4b:n4≤1000000000:=by omega
 have HN4:=Lib.hid hn4
 clear hn4
 go_enter Tryz.func111,Tryz.ntmps111
 go_wp2_with fail
 rw [q3]
 clear q3
 go_loopw [4,12] (fun _ i wr=>∃ k:Nat,i=.int .i64 (k:Int)∧k≤s.size∧Hid (∃ l,WB wr w.heap.size l∧l.length=n4∧okW l∧valW l=natB ((bs s).drop (s.size - k)))∧Hid (Upd [] [] w wr)) (fun _ i _=>s.size - (intOf i).toNat)
 case atStart =>
  refine ⟨0,rfl,Nat.zero_le _,⟨_,heap_alloc_new _ _,by simp,okW_zeros _,?_⟩,(Upd.refl _ _).alloc _⟩
  rw [valW_zeros,Nat.sub_zero,List.drop_of_length_le (by simp [bs_length])]
  rfl
 case round =>
  obtain ⟨k,rfl,hk,HL,HU⟩:=hrel
  by_cases hlt:k<s.size
  · obtain ⟨l,hb,hl,ho,hv⟩:=HL.out
    have hn4:=HN4.out
    obtain ⟨p,hp⟩:∃ p,p=s.size - 1 - k:=⟨_,rfl⟩
    obtain ⟨b,hbb⟩:∃ b,(bs s)[p]? =some b:=⟨_,List.getElem?_eq_getElem (by rw [bs_length];omega)⟩
    obtain ⟨q,hq⟩:∃ q,q=k / 4:=⟨_,rfl⟩
    obtain ⟨r,hr⟩:∃ r,r=k % 4:=⟨_,rfl⟩
    obtain ⟨d,hd⟩:∃ d,l[q]? =some d:=⟨_,List.getElem?_eq_getElem (by omega)⟩
    have hkq:k=4 * q+r:=by omega
    have hr4:r<4:=by omega
    have hb256:b.toNat<256:=b.toNat_lt
    have hlen:(bs s).length=s.size:=rfl
    have hlow:d<256 ^ r:=by
     have h1:=valW_at l q d hd
     have h2:natB ((bs s).drop (s.size - k))<256 ^ k:=natB_back_lt (by show k≤s.size;omega)
     have e:(256:Nat) ^ k=4294967296 ^ q * 256 ^ r:=by rw [hkq,Nat.pow_add,Nat.pow_mul,p256_4]
     rw [hv] at h1
     rw [e] at h2
     exact Nat.lt_of_mul_lt_mul_left (Nat.lt_of_le_of_lt h1 h2)
    have hval:valW (l.set q (d+b.toNat * 256 ^ r))=natB ((bs s).drop (s.size - (k+1))):=by
     have h1:=natB_back (l:=bs s) (k:=k) (b:=b) (by rw [hlen];omega) (by rw [hlen,← hp];exact hbb)
     have e:(256:Nat) ^ k=4294967296 ^ q * 256 ^ r:=by rw [hkq,Nat.pow_add,Nat.pow_mul,p256_4]
     rw [hlen] at h1
     rw [valW_set l q d _ hd,hv,h1,e,Nat.mul_left_comm]
    obtain ⟨r8,hr8⟩:∃ r8,r8=r * 8:=⟨_,rfl⟩
    obtain ⟨n1,hn1⟩:∃ n1,n1=s.size - 1:=⟨_,rfl⟩
    have d1:(k:Int) / 4=(q:Int):=by omega
    have d1t:(k:Int).tdiv 4=(q:Int):=by rw [Int.tdiv_eq_ediv_of_nonneg (by omega)];exact d1
    have d1w:IntKind.i64.wrap ((k:Int).tdiv 4)=(q:Int):=by rw [d1t];exact wrap_in (by omega) (by omega)
    have wq:IntKind.i64.wrap (q:Int)=(q:Int):=wrap_in (by omega) (by omega)
    have wrr:IntKind.i64.wrap (r:Int)=(r:Int):=wrap_in (by omega) (by omega)
    have wr8:IntKind.i64.wrap (r8:Int)=(r8:Int):=wrap_in (by omega) (by omega)
    have wp1:IntKind.i64.wrap (p:Int)=(p:Int):=wrap_in (by omega) (by omega)
    have d2:(k:Int) % 4=(r:Int):=by omega
    have d2t:(k:Int).tmod 4=(r:Int):=by rw [Int.tmod_eq_emod_of_nonneg (by omega)];exact d2
    have d2w:IntKind.i64.wrap ((k:Int).tmod 4)=(r:Int):=by rw [d2t];exact wrap_in (by omega) (by omega)
    have d3:(r:Int) * 8=(r8:Int):=by omega
    have d3w:IntKind.i64.wrap ((r:Int) * 8)=(r8:Int):=by rw [d3];exact wrap_in (by omega) (by omega)
    have e1:IntKind.i64.wrap ((s.size:Int) - 1)=(n1:Int):=by rw [wrap_in (by omega) (by omega)];omega
    have e2:IntKind.i64.wrap ((n1:Int) - (k:Int))=(p:Int):=by rw [wrap_in (by omega) (by omega)];omega
    have c0:=hb.cell hd
    have f0:=hb.frozen q
    have hix:=run_index_nat s p b hbb
    have i0:(0:Int)≤(k:Int):=by omega
    have i1:(k:Int)<(s.size:Int):=by omega
    have j0:(0:Int)≤(q:Int):=by omega
    have j1:(q:Int)<(n4:Int):=by omega
    have cv:IntKind.u32.wrap (b.toNat:Int)=(b.toNat:Int):=by show (b.toNat:Int) % 4294967296=_;omega
    have r0:(0:Int)≤(r8:Int):=by omega
    obtain ⟨x1,hx1⟩:∃ x1,x1=b.toNat * 256 ^ r:=⟨_,rfl⟩
    obtain ⟨dn,hdn⟩:∃ dn,dn=d+x1:=⟨_,rfl⟩
    have hor:bits .or .u32 (d:Int) (x1:Int)=(dn:Int):=by rw [hdn,hx1];exact or32 hlow hb256 hr4
    have hx1l:x1<4294967296:=by
     rw [hx1]
     have h4:r=0∨r=1∨r=2∨r=3:=by omega
     have h2:(256:Nat) ^ 2=65536:=by decide
     have h3:(256:Nat) ^ 3=16777216:=by decide
     rcases h4 with rfl | rfl | rfl | rfl
     · omega
     · omega
     · rw [h2];omega
     · rw [h3];omega
    have s1:min r8 32=r8:=by omega
    have s0:(b.toNat:Int) * 2 ^ r8=(x1:Int):=by
     rw [hx1,hr8,Int.natCast_mul,Int.natCast_pow,Nat.mul_comm r 8,Int.pow_mul]
     rfl
    have s2:(b.toNat:Int) * 2 ^ r8 % 4294967296=(x1:Int):=by rw [s0];omega
    have s3:IntKind.u32.wrap ((b.toNat:Int) * 2 ^ r8)=(x1:Int):=s2
    have cv2:(b.toNat:Int) % 4294967296=(b.toNat:Int):=by omega
    have hsh:Op.shift .shl .u32 (b.toNat:Int) .i64 (r8:Int)=pure (.int .u32 (x1:Int)):=by
     unfold Op.shift
     rw [if_neg (by omega)]
     show pure (Value.int .u32 (IntKind.u32.wrap ((b.toNat:Int) * 2 ^ (min r8 32))))=_
     rw [s1,s3]
    have HA2:Hid (∃ l,WB (wr.setCell ⟨w.heap.size,q,none⟩ (.int .u32 (dn:Int))).drew w.heap.size l∧l.length=n4∧okW l∧valW l=natB ((bs s).drop (s.size - (k+1)))):=by
     refine ⟨l.set q dn,(hb.set q dn).upd (Upd.refl _ _).drew,by rw [List.length_set];exact hl,okW_set ho ?_,by rw [hdn,hx1];exact hval⟩
     have h4:r=0∨r=1∨r=2∨r=3:=by omega
     have h2:(256:Nat) ^ 2=65536:=by decide
     have h3:(256:Nat) ^ 3=16777216:=by decide
     rcases h4 with rfl | rfl | rfl | rfl
     · omega
     · omega
     · rw [h2] at hlow hx1;omega
     · rw [h3] at hlow hx1;omega
    have HU2:Hid (Upd [] [] w (wr.setCell ⟨w.heap.size,q,none⟩ (.int .u32 (dn:Int))).drew):=(HU.out.setNew (p:=⟨w.heap.size,q,none⟩) (Nat.le_refl _) _).drew
    have HX:=Lib.hid (And.intro hx1 (And.intro hdn s0))
    clear hx1 hdn s0
    have HALL:=Lib.hid (And.intro hp (And.intro hq (And.intro hr (And.intro hr8 (And.intro hn1 hn4)))))
    have HV:=Lib.hid (And.intro hval (And.intro hlow (And.intro hl ho)))
    have HB:=Lib.hid hb
    clear hp hq hr hr8 hn1 hn4 hval hlow hl ho hv hb hbb hkq hlen
    go_wp2_with fail
    (first | go_region_with (fail) | fail)
    all_goals
     go_wp2_with fail
     exact ⟨⟨k+1,by go_num,by omega,HA2,HU2⟩,by simp [intOf];omega⟩
  · obtain rfl:k=s.size:=by omega
    obtain ⟨l,hb,hl,ho,hv⟩:=HL.out
    rw [Nat.sub_self,List.drop_zero] at hv
    have HT:=Lib.hid (ntrim_any _ l wr (hb.slice (by rw [hl];simp only [maxLen];omega)) ho)
    rw [hl,hv] at HT
    clear hb hl ho hv hlt HL
    go_wp2_with fail
    refine HT.out.mono ?_
    rintro e w1 ⟨v,HV,rfl,rfl⟩
    go_wp2_with fail
    go_ret
    exact ⟨v,HV,rfl,HU.out⟩
theorem Wd.new {w:World} (l:List Nat) (hl:l.length≤maxLen):Wd (w.alloc (.cells (wVals l).toArray 140)) (.slice (some ⟨w.heap.size,0,none⟩) l.length l.length) l :=
 WB.slice (heap_alloc_new _ _) hl
set_option maxHeartbeats 1000000 in
theorem split_any (n:Nat) (hn:n<18446744073709551616) (w:World):Calls Tryz.prog 49 #[.int .u64 (n:Int)] w (fun e w'=>∃ v',Hid (Wd w' v' (dw n))∧e=.returned v'∧Upd [] [] w w'):=by
 obtain ⟨a,ha⟩:∃ a,a=n % 4294967296:=⟨_,rfl⟩
 obtain ⟨b,hb⟩:∃ b,b=n / 4294967296:=⟨_,rfl⟩
 have e1:(n:Int) % 4294967296=(a:Int):=by omega
 have e2:(n:Int) / 4294967296=(b:Int):=by omega
 have e2f:(n:Int).fdiv 4294967296=(b:Int):=by rw [Int.fdiv_eq_ediv_of_nonneg _ (by omega)];exact e2
 have e3:(b:Int) % 4294967296=(b:Int):=by omega
 have hN:=Wd.new (w:=w) [a,b] (by simp [maxLen])
 have hv:valW [a,b]=n:=by simp [valW];omega
 have hT:=ntrim_any _ [a,b] _ hN (fun d hd=>by simp at hd;omega)
 rw [hv] at hT
 have HT:=Lib.hid hT
 clear hN hv hT ha hb
 go_enter Tryz.func49,Tryz.ntmps49
 go_wp2_with fail
 refine HT.out.mono ?_
 rintro e w1 ⟨v,HV,rfl,rfl⟩
 go_wp2_with fail
 go_ret
 exact ⟨v,HV,rfl,(Upd.refl _ _).alloc _⟩
theorem set_mid {α:Type} (m:Nat) (z b:α) (T:List α):(List.replicate (m+1) z ++ T).set m b=List.replicate m z ++ b :: T:=by
 rw [List.replicate_succ',List.append_assoc,List.set_append_right _ _ (by simp)]
 simp
theorem make_bytes (w:World) (n:Nat) (hn:n≤1000000000):(Instr.makeSlice 126 (.int .i64 (n:Int)) (.int .i64 (n:Int))).run Tryz.prog w=.ok (.slice (some ⟨w.heap.size,0,none⟩) n n) (w.alloc (.cells (byteVals (List.replicate n 0)).toArray 5)):=by
 have h:(Tryz.prog.info? 5).map (fun i=>(i.zero,i.size,i.bytes))=some (some (.int .u8 0),1,1):=by kernel_rfl
 obtain ⟨i0,hi,he⟩:=Option.map_eq_some_iff.1 h
 simp only [Prod.mk.injEq] at he
 have:=run_make (P:=Tryz.prog) w 126 5 i0 (.int .u8 0) Tryz.underlying126 hi he.1 .i64 .i64 n n (by omega) (by omega) (by rw [he.2.2];omega) (by omega)
 rw [this,he.2.1]
 have hm:madeCells (Value.int .u8 0).cells n=(byteVals (List.replicate n 0)).toArray:=by
  apply Array.ext
  · simp [madeCells,byteVals]
  · intro i h1 h2
    simp [madeCells,byteVals,byteV,Value.cells,Nat.mod_one]
 simp only [Int.toNat_natCast,Nat.mul_one,hm]
set_option maxHeartbeats 2000000 in
theorem natNumber_any (v:Value) (l:List Nat) (w:World) (h:Wd w v l) (ho:okW l) (hl:l.length≤100000):Calls Tryz.prog 48 #[v] w (MkNat (valW l) w):=by
 obtain ⟨ao,cap,rfl,hc1,hc2⟩:=h.form
 obtain ⟨n,hn⟩:∃ n,n=l.length:=⟨_,rfl⟩
 rw [← hn] at h hc1 hl ⊢
 obtain ⟨m4,hm4⟩:∃ m4,m4=4 * n:=⟨_,rfl⟩
 have hmk:=make_bytes w m4 (by omega)
 have q3:4 * (n:Int)=(m4:Int):=by omega
 have HM4:=Lib.hid hm4
 have HH:=Lib.hid h
 have HN:=Lib.hid hn
 have hmb:m4≤400000:=by omega
 clear hm4 h hn
 go_enter Tryz.func48,Tryz.ntmps48
 go_wp2_with fail
 clear q3
 go_loopw [4,11] (fun _ i wr=>∃ k:Nat,i=.int .i64 (k:Int)∧k≤m4∧Hid (AB 5 wr w.heap.size (List.replicate (m4 - k) 0 ++ beN (valW l) k))∧Hid (Upd [] [] w wr)) (fun _ i _=>m4 - (intOf i).toNat)
 case atStart =>
  refine ⟨0,rfl,Nat.zero_le _,?_,(Upd.refl _ _).alloc _⟩
  rw [Nat.sub_zero,beN,List.append_nil]
  exact heap_alloc_new _ _
 case round =>
  obtain ⟨k,rfl,hk,HA,HU⟩:=hrel
  by_cases hlt:k<m4
  · obtain ⟨m,hm⟩:∃ m,m4 - k=m+1:=⟨m4 - k - 1,by omega⟩
    obtain ⟨q,hq⟩:∃ q,q=k / 4:=⟨_,rfl⟩
    obtain ⟨r,hr⟩:∃ r,r=k % 4:=⟨_,rfl⟩
    obtain ⟨r8,hr8⟩:∃ r8,r8=r * 8:=⟨_,rfl⟩
    have hm4:=HM4.out
    obtain ⟨d,hd⟩:∃ d,l[q]? =some d:=⟨_,List.getElem?_eq_getElem (by have:=HN.out;omega)⟩
    obtain ⟨g,hao,c0⟩:=(HH.out.upd HU.out).get hd
    subst hao
    have hkq:k=4 * q+r:=by omega
    have hby:=byteN_at ho hd (r:=r) (by omega)
    rw [← hkq,Nat.mul_comm 8 r,← hr8] at hby
    obtain ⟨b,hb⟩:∃ b,b=UInt8.ofNat (byteN (valW l) k):=⟨_,rfl⟩
    have hbn:b.toNat=d / 2 ^ r8 % 256:=by rw [hb,UInt8.toNat_ofNat',← hby];exact Nat.mod_eq_of_lt (byteN_lt _ _)
    have d1:(k:Int) / 4=(q:Int):=by omega
    have d2:(k:Int) % 4=(r:Int):=by omega
    have d3:(r:Int) * 8=(r8:Int):=by omega
    have s1:min r8 32=r8:=by omega
    have s2:(d:Int) / 2 ^ r8 % 256=(b.toNat:Int):=by
     rw [hbn,Int.natCast_emod,Int.natCast_ediv,Int.natCast_pow]
     rfl
    have e1:(m4:Int) - 1 - (k:Int)=(m:Int):=by omega
    have f0:=HA.out.frozen m
    obtain ⟨b0,hb0⟩:∃ b0,(List.replicate (m4 - k) 0 ++ beN (valW l) k)[m]? =some b0:=⟨_,List.getElem?_eq_getElem (by rw [List.length_append,List.length_replicate];omega)⟩
    have cb:=HA.out.cell hb0
    have i0:(0:Int)≤(k:Int):=by omega
    have i1:(k:Int)<(m4:Int):=by omega
    have j0:(0:Int)≤(q:Int):=by omega
    have j1:(q:Int)<(n:Int):=by omega
    have m0:(0:Int)≤(m:Int):=by omega
    have m1:(m:Int)<(m4:Int):=by omega
    have r0:(0:Int)≤(r8:Int):=by omega
    have HA2:Hid (AB 5 (wr.setCell ⟨w.heap.size,m,none⟩ (.int .u8 (b.toNat:Int))) w.heap.size (List.replicate (m4 - (k+1)) 0 ++ beN (valW l) (k+1))):=by
     have h1:=HA.out.set m b
     rw [hm,set_mid,hb] at h1
     rw [show m4 - (k+1)=m by omega,beN,hb]
     exact h1
    have HU2:Hid (Upd [] [] w (wr.setCell ⟨w.heap.size,m,none⟩ (.int .u8 (b.toNat:Int)))):=HU.out.setNew (p:=⟨w.heap.size,m,none⟩) (Nat.le_refl _) _
    have HALL:=Lib.hid (And.intro hm (And.intro hq (And.intro hr (And.intro hr8 hm4))))
    have HB:=Lib.hid (And.intro hb (And.intro hbn hby))
    clear hm hq hr hr8 hm4 hb hbn hby hkq hd hb0
    go_wp2_with fail
    exact ⟨⟨k+1,by go_num,by omega,HA2,HU2⟩,by simp [intOf];omega⟩
  · obtain rfl:k=m4:=by omega
    have hA:=HA.out
    rw [Nat.sub_self,List.replicate_zero,List.nil_append] at hA
    obtain ⟨z,hz⟩:∃ z:ByteArray,bs z=beN (valW l) k:=⟨⟨(beN (valW l) k).toArray⟩,rfl⟩
    have hcv:=hA.text z hz k
    rw [beN_len] at hcv
    have hzs:z.size≤1000000000000:=by rw [← bs_length,hz,beN_len];omega
    have hS:=strip_any z wr hzs
    have hnat:natB (bs z)=valW l:=by
     rw [hz]
     refine natB_beN_all ?_
     have h1:=valW_lt ho
     rw [← HN.out] at h1
     rw [HM4.out,Nat.pow_mul,p256_4]
     exact h1
    rw [hnat] at hS
    have HS:=Lib.hid hS
    clear hA hz hS hnat hzs HA hlt
    go_wp2_with fail
    refine HS.out.mono ?_
    rintro e w1 ⟨r,HR,rfl,rfl⟩
    go_wp2_with fail
    go_ret
    exact ⟨r,HR,rfl,HU.out⟩
theorem dw_one {d:Nat} (h0:0<d) (h:d<4294967296):dw d=[d]:=by
 rw [dw_pos h0,Nat.mod_eq_of_lt h,Nat.div_eq_of_lt h,dw_zero]
theorem Wd.one {w:World} {v:Value} {d:Nat} (h:Wd w v [d]):∃ g cap,v=.slice (some ⟨g,0,none⟩) 1 cap∧1≤cap∧cap≤9223372036854775807∧g<w.heap.size∧w.cell? ⟨g,0,none⟩=some (.int .u32 (d:Int)):=by
 obtain ⟨ao,cap,rfl,h1,h2,h3⟩:=h
 rcases h3 with h3 | ⟨b,rfl,hb,hc⟩
 · simp at h3
 · exact ⟨b,cap,rfl,by simpa using h1,h2,hb,hc 0 d rfl⟩
theorem Wd.none' {w:World} {v:Value} (h:Wd w v []):∃ ao cap,v=.slice ao 0 cap:=by
 obtain ⟨ao,cap,rfl,h1,h2,h3⟩:=h
 exact ⟨ao,cap,rfl⟩
def MkInt (x:Int) (w:World) (e:Ending) (w':World):Prop:=e=.returned (.int .i64 x)∧Upd [] [] w w'
theorem compare_len (u v:Value) (l r:List Nat) (w:World) (hu:Wd w u l) (hv:Wd w v r) (hlt:l.length<r.length):Calls Tryz.prog 198 #[u,v] w (MkInt (-1) w):=by
 obtain ⟨ao,cap,rfl,_,_⟩:=hu.form
 obtain ⟨bo,cbp,rfl,_,_⟩:=hv.form
 have hb:((l.length:Int) != (r.length:Int))=true:=by rw [bne_iff_ne];omega
 have hb2:((l.length:Int) == (r.length:Int))=false:=by rw [beq_eq_false_iff_ne];omega
 have hb3:(l.length == r.length)=false:=by rw [beq_eq_false_iff_ne];omega
 have hl2:(l.length:Int)<(r.length:Int):=by omega
 clear hu hv
 go_enter Tryz.func198,Tryz.ntmps198
 go_wp2_with fail
 go_ret
 exact ⟨rfl,Upd.refl _ _⟩
theorem compare_same (u v:Value) (d:Nat) (w:World) (hu:Wd w u [d]) (hv:Wd w v [d]):Calls Tryz.prog 198 #[u,v] w (MkInt 0 w):=by
 obtain ⟨g,cap,rfl,_,_,_,c1⟩:=hu.one
 obtain ⟨h,cbp,rfl,_,_,_,c2⟩:=hv.one
 clear hu hv
 go_enter Tryz.func198,Tryz.ntmps198
 go_wp2_with fail
 refine wp_loop_rounds 2 ?_
 rw [rounds_succ]
 go_wp2_with fail
 go_quiet (fail)
 go_wp2_with fail
 rw [rounds_succ]
 go_wp2_with fail
 go_ret
 exact ⟨rfl,(Upd.refl _ _).drewN _⟩
theorem compare_less (u v:Value) (d e:Nat) (w:World) (hu:Wd w u [d]) (hv:Wd w v [e]) (hde:d<e):Calls Tryz.prog 198 #[u,v] w (MkInt (-1) w):=by
 obtain ⟨g,cap,rfl,_,_,_,c1⟩:=hu.one
 obtain ⟨h,cbp,rfl,_,_,_,c2⟩:=hv.one
 have b1:((d:Int) != (e:Int))=true:=by rw [bne_iff_ne];omega
 have b2:((d:Int) == (e:Int))=false:=by rw [beq_eq_false_iff_ne];omega
 have b3:(d:Int)<(e:Int):=by omega
 have b4:(d == e)=false:=by rw [beq_eq_false_iff_ne];omega
 clear hu hv
 go_enter Tryz.func198,Tryz.ntmps198
 go_wp2_with fail
 refine wp_loop_rounds 2 ?_
 rw [rounds_succ]
 go_wp2_with fail
 go_quiet (fail)
 go_wp2_with fail
 go_quiet (fail)
 go_wp2_with fail
 go_ret
 exact ⟨rfl,((Upd.refl _ _).drewN _).drewN _⟩
set_option maxHeartbeats 1000000 in
theorem mul33 (u v:Value) (w:World) (hu:Wd w u [3]) (hv:Wd w v [3]):Calls Tryz.prog 245 #[u,v] w (fun e w'=>∃ v',Hid (Wd w' v' [9])∧e=.returned v'∧Upd [] [] w w'):=by
 obtain ⟨g,cap,rfl,_,_,hg,c1⟩:=hu.one
 obtain ⟨h,cbp,rfl,_,_,hh,c2⟩:=hv.one
 have hmk:(Instr.makeSlice 109 (.int .i64 2) (.int .i64 2)).run Tryz.prog w=.ok (.slice (some ⟨w.heap.size,0,none⟩) 2 2) (w.alloc (.cells (wVals (List.replicate 2 0)).toArray 140)):=make_words w 2 (by omega)
 obtain ⟨w0,hw0⟩:∃ w0,w0=w.alloc (.cells (wVals (List.replicate 2 0)).toArray 140):=⟨_,rfl⟩
 have b0:WB w0 w.heap.size [0,0]:=by rw [hw0];exact heap_alloc_new _ _
 have u0:Upd [] [] w w0:=by rw [hw0];exact (Upd.refl _ _).alloc _
 rw [← hw0] at hmk
 obtain ⟨G,hG⟩:∃ G,G=w.heap.size:=⟨_,rfl⟩
 rw [← hG] at hmk b0
 have d1:w0.cell? ⟨g,0,none⟩=some (.int .u32 3):=(u0.cell hg (by simp)).trans c1
 have d2:w0.cell? ⟨h,0,none⟩=some (.int .u32 3):=(u0.cell hh (by simp)).trans c2
 have k0:w0.cell? ⟨G,0,none⟩=some (.int .u32 0):=b0.cell (j:=0) rfl
 have k1:w0.cell? ⟨G,1,none⟩=some (.int .u32 0):=b0.cell (j:=1) rfl
 have f0:=b0.frozen 0
 have f1:=b0.frozen 1
 have b2:WB ((w0.setCell ⟨G,0,none⟩ (.int .u32 9)).setCell ⟨G,1,none⟩ (.int .u32 0)) G [9,0]:=(b0.set 0 9).set 1 0
 have u2:Upd [] [] w ((w0.setCell ⟨G,0,none⟩ (.int .u32 9)).setCell ⟨G,1,none⟩ (.int .u32 0)):=(u0.setNew (p:=⟨G,0,none⟩) (by rw [hG];exact Nat.le_refl _) _).setNew (p:=⟨G,1,none⟩) (by rw [hG];exact Nat.le_refl _) _
 have hT:=ntrim_any _ _ _ (b2.slice (by simp [maxLen])) (fun d hd=>by simp at hd;omega)
 rw [show valW [9,0]=9 from rfl,dw_one (by omega) (by omega)] at hT
 have HT:=Lib.hid hT
 have HU:=Lib.hid u2
 have hne1:g≠G:=by omega
 have hne2:h≠G:=by omega
 clear hu hv c1 c2 hw0 u0 hT b2 u2 b0 hG hg hh
 go_enter Tryz.func245,Tryz.ntmps245
 go_wp2_with fail
 refine wp_loop_rounds 2 ?_
 rw [rounds_succ]
 go_wp2_with fail
 refine wp_loop_rounds 2 ?_
 rw [rounds_succ]
 go_wp2_with fail
 rw [rounds_succ]
 go_wp2_with fail
 rw [rounds_succ]
 go_wp2_with fail
 refine HT.out.mono ?_
 rintro e w1 ⟨v,HV,rfl,rfl⟩
 go_wp2_with fail
 go_ret
 exact ⟨v,HV,rfl,HU.out⟩
theorem digits_one (s:ByteArray) (d:Nat) (hs:bs s=be d) (h0:0<d) (hd:d<4294967296) (w:World):Calls Tryz.prog 111 #[.string s] w (fun e w'=>∃ v',Hid (Wd w' v' [d])∧e=.returned v'∧Upd [] [] w w'):=by
 have hsz:s.size≤1000000000:=by
  rw [← bs_length,hs]
  exact Nat.le_trans (be_len_le 4 d (by simpa using hd)) (by omega)
 have h:=digits_any s w hsz
 rw [hs,natB_be,dw_one h0 hd] at h
 exact h
set_option maxHeartbeats 1000000 in
theorem divDigit_one (v:Value) (d:Nat) (w:World) (hv:Wd w v [d]) (hd:d<1000000000):Calls Tryz.prog 112 #[v,.int .u32 1000000000] w (fun e w'=>∃ v',Hid (Wd w' v' [])∧e=.returned (.tuple #[v',.int .u32 (d:Int)])∧Upd [] [] w w'):=by
 obtain ⟨g,cap,rfl,_,_,hg,c1⟩:=hv.one
 have hmk:(Instr.makeSlice 109 (.int .i64 1) (.int .i64 1)).run Tryz.prog w=.ok (.slice (some ⟨w.heap.size,0,none⟩) 1 1) (w.alloc (.cells (wVals (List.replicate 1 0)).toArray 140)):=make_words w 1 (by omega)
 obtain ⟨w0,hw0⟩:∃ w0,w0=w.alloc (.cells (wVals (List.replicate 1 0)).toArray 140):=⟨_,rfl⟩
 have b0:WB w0 w.heap.size [0]:=by rw [hw0];exact heap_alloc_new _ _
 have u0:Upd [] [] w w0:=by rw [hw0];exact (Upd.refl _ _).alloc _
 rw [← hw0] at hmk
 obtain ⟨G,hG⟩:∃ G,G=w.heap.size:=⟨_,rfl⟩
 rw [← hG] at hmk b0
 have d1:w0.cell? ⟨g,0,none⟩=some (.int .u32 (d:Int)):=(u0.cell hg (by simp)).trans c1
 have k0:w0.cell? ⟨G,0,none⟩=some (.int .u32 0):=b0.cell (j:=0) rfl
 have f0:=b0.frozen 0
 have b2:WB (w0.setCell ⟨G,0,none⟩ (.int .u32 0)) G [0]:=b0.set 0 0
 have u2:Upd [] [] w (w0.setCell ⟨G,0,none⟩ (.int .u32 0)):=u0.setNew (p:=⟨G,0,none⟩) (by rw [hG];exact Nat.le_refl _) _
 have hT:=ntrim_any _ _ _ (b2.slice (by simp [maxLen])) (fun d hd=>by simp at hd;omega)
 rw [show valW [0]=0 from rfl,dw_zero] at hT
 have HT:=Lib.hid hT
 have HU:=Lib.hid u2
 have e1:bits .or .u64 0 (d:Int)=(d:Int):=by
  show IntKind.u64.wrap ((BitVec.ofInt 64 0 ||| BitVec.ofInt 64 (d:Int)).toNat:Int)=_
  have e1:(BitVec.ofInt 64 (d:Int)).toNat=d:=by
   rw [BitVec.toNat_ofInt]
   show ((d:Int) % 18446744073709551616).toNat=_
   omega
  have e0:(BitVec.ofInt 64 0).toNat=0:=rfl
  rw [BitVec.toNat_or,e0,e1,Nat.zero_or]
  show (d:Int) % 18446744073709551616=_
  omega
 have e2:(d:Int) / 1000000000=0:=by omega
 have e2t:(d:Int).tdiv 1000000000=0:=by rw [Int.tdiv_eq_ediv_of_nonneg (by omega)];exact e2
 have e3:(d:Int) % 1000000000=(d:Int):=by omega
 have e3t:(d:Int).tmod 1000000000=(d:Int):=by rw [Int.tmod_eq_emod_of_nonneg (by omega)];exact e3
 have e4:(d:Int) % 18446744073709551616=(d:Int):=by omega
 have e5:(d:Int) % 4294967296=(d:Int):=by omega
 clear hv c1 hw0 u0 hT b2 u2 b0 hG hg
 go_enter Tryz.func112,Tryz.ntmps112
 go_wp2_with fail
 refine wp_loop_rounds 2 ?_
 rw [rounds_succ]
 go_wp2_with fail
 rw [rounds_succ]
 go_wp2_with fail
 refine HT.out.mono ?_
 rintro e w1 ⟨v,HV,rfl,rfl⟩
 go_wp2_with fail
 go_ret2
 exact ⟨v,HV,rfl,HU.out⟩
theorem reverse_one (ao:Option Addr) (cap:Nat) (w:World):Calls Tryz.prog 114 #[.slice ao 1 cap] w (fun e w'=>e=.returned (.tuple #[])∧w=w'):=by
 go_enter Tryz.func114,Tryz.ntmps114
 go_wp2_with fail
 refine wp_loop_rounds 1 ?_
 rw [rounds_succ]
 go_wp2_with fail
 go_end0
 exact ⟨rfl,rfl⟩
theorem strRow_one {w:World} {v:Value} {s:ByteArray} (h:StrRow w v [bs s]):∃ g cap,v=.slice (some ⟨g,0,none⟩) 1 cap∧1≤cap∧g<w.heap.size∧w.cell? ⟨g,0,none⟩=some (.string s):=by
 have h':w.ownsRow 0 9 1 v 1 [.string s]:=h
 obtain ⟨g,cap,cur,rfl,hg,h1,h2,h3,h4⟩:=row_pos h' (by omega)
 refine ⟨g,cap,rfl,h1,(Array.getElem?_eq_some_iff.1 hg).1,?_⟩
 rw [cell_of_row _ _ _ _ _ _ hg]
 have e:(cur.toList.take (1 * 1))[0]? =some (.string s):=by rw [h4];rfl
 rw [List.getElem?_take_of_lt (by omega)] at e
 simpa using e
set_option maxHeartbeats 1000000 in
theorem natText_one (s:ByteArray) (d:Nat) (hs:bs s=be d) (h0:0<d) (hd:d<1000000000) (w:World) (htab:Tabs w):Calls Tryz.prog 51 #[.string s] w (MkS (Lib.itoa (d:Int)) w):=by
 have HD:=Lib.hid (digits_one s d hs h0 (by omega) w)
 have hl:=itoa_len (d:Int) (by unfold i64in;omega)
 clear hs
 go_enter Tryz.func51,Tryz.ntmps51
 go_wp2_with fail
 refine HD.out.mono ?_
 rintro e w1 ⟨v1,HV1,rfl,hu1⟩
 obtain ⟨g,cap,rfl,_,_,_,_⟩:=HV1.out.one
 have HDD:=Lib.hid (divDigit_one _ d w1 HV1.out hd)
 have HU1:=Lib.hid hu1
 clear HD hu1
 go_wp2_with fail
 refine wp_loop_rounds 2 ?_
 rw [rounds_succ]
 go_wp2_with fail
 refine HDD.out.mono ?_
 rintro e w2 ⟨v2,HV2,rfl,hu2⟩
 obtain ⟨ao2,cap2,rfl⟩:=HV2.out.none'
 have HU2:=Lib.hid (HU1.out.trans hu2)
 clear hu2 HV1 HV2 HDD HU1
 go_wp2_with fail
 refine (itoa_any (d:Int) w2 (by unfold i64in;omega) (htab.upd HU2.out)).mono ?_
 rintro e w3 ⟨t,HT,htl,rfl,hu3⟩
 have HU3:=Lib.hid (HU2.out.trans hu3)
 obtain ⟨v4,w4,hrun,hrow,hup⟩:=append_str w3 (.slice none 0 0) [] t (strRow_nil _) (by simp)
 have HRUN:=Lib.hid hrun
 obtain ⟨g4,cap4,rfl,hc4,hg4,c4⟩:=strRow_one hrow
 have HC4:=Lib.hid (And.intro hc4 (And.intro hg4 c4))
 have hu4:Upd [] [] w3 w4:=⟨hup.os,hup.tape,hup.output,hup.size,fun k hk _=>hup.block k hk (by simp [foot,Value.ownBlock]),fun _ hk=>by simp at hk⟩
 have HU4:=Lib.hid (HU3.out.trans hu4)
 clear hu3 hrun hrow hup hc4 hg4 c4 hu4 HU2 HU3
 go_wp2_with (refine wpList_append_run _ rfl _ _ _ _ rfl _ _ _ w4 rfl rfl HRUN.out ?_)
 rw [rounds_succ]
 go_wp2_with fail
 refine (reverse_one _ _ w4).mono ?_
 rintro e w5 ⟨rfl,rfl⟩
 go_wp2_with fail
 have hj:=Tryz.strings_Join g4 0 cap4 [t] ⟨#[]⟩ w4 (by
  intro j x hx
  match j,hx with
  | 0,hx=>simp at hx;subst hx;exact HC4.out.2.2) HC4.out.2.1 (by simp) HC4.out.1 (by
   show (Lib.join [bs t] []).length≤_
   simp [Lib.join]
   rw [HT.out]
   omega)
 refine hj.mono ?_
 rintro e w6 ⟨rfl,hb⟩
 have hu:=upd_of_below hb
 have HU:=Lib.hid (HU4.out.trans hu)
 have hbs:bs (⟨(Lib.join ([t].map (·.data.toList)) (⟨#[]⟩:ByteArray).data.toList).toArray⟩:ByteArray)=bs t:=by
  rw [bs_mk]
  show Lib.join [bs t] []=_
  simp [Lib.join]
 obtain ⟨R,hR⟩:∃ R:ByteArray,R=⟨(Lib.join ([t].map (·.data.toList)) (⟨#[]⟩:ByteArray).data.toList).toArray⟩:=⟨_,rfl⟩
 rw [← hR] at hbs ⊢
 have HB:=Lib.hid hbs
 clear hj hb hu hbs hR
 go_wp2_with fail
 go_ret
 exact ⟨R,by show _=_;rw [HB.out,HT.out],by rw [← HT.out,← HB.out,bs_length];exact Nat.le_refl _,rfl,HU.out⟩
end Go.Proofs.YtmjlkkbbnkanpaaGreatDoor
