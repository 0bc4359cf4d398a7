/- sortesref04.number, Scalar, Member and what follows. -/
import Derived.Test.YtmjlkkbbnkanpaaGreatDoorHAF
import Derived.Test.YtmjlkkbbnkanpaaGreatDoorHAD
import Derived.Test.YtmjlkkbbnkanpaaGreatDoorRows
import Derived.Test.YtmjlkkbbnkanpaaGreatDoorHAE
import Derived.Test.YtmjlkkbbnkanpaaGreatDoorHAA
import Derived.Test.YtmjlkkbbnkanpaaGreatDoorHAC
namespace Go.Proofs.YtmjlkkbbnkanpaaGreatDoor
open Go.RowKit
set_option maxRecDepth 100000
theorem acc_step (a b M:Nat) (hb:b<256) (hM:0<M):(a * 256+b) % (M * 256)=(a % M) * 256+b:=by
 have h1:=Nat.div_add_mod a M
 have h2:=Nat.mod_lt a hM
 have e:a * 256+b=(a % M * 256+b)+M * 256 * (a / M):=by
  have:a * 256=M * (a / M) * 256+a % M * 256:=by rw [← Nat.add_mul,h1]
  rw [this,Nat.mul_right_comm]
  omega
 rw [e,Nat.add_mul_mod_self_left,Nat.mod_eq_of_lt]
 have:(a % M+1) * 256≤M * 256:=Nat.mul_le_mul_right _ h2
 omega
def accR (h:List UInt8) (k:Nat):Nat:=acc8 h k % (128 * 256 ^ (k - 1))
theorem accR_step (h:List UInt8) (k:Nat) (hk:1≤k):accR h (k+1)=accR h k * 256+(h.getD k 0).toNat:=by
 unfold accR
 have hb:=(h.getD k 0).toNat_lt
 have hM:0<128 * 256 ^ (k - 1):=Nat.mul_pos (by omega) (Nat.pow_pos (by omega))
 have e:128 * 256 ^ (k+1 - 1)=(128 * 256 ^ (k - 1)) * 256:=by
  rw [Nat.mul_assoc,← Nat.pow_succ]
  congr 2
  omega
 rw [e,acc8,acc_step _ _ _ (by omega) hM]
theorem accR_one (h:List UInt8):accR h 1=(h.getD 0 0).toNat % 128:=by
 unfold accR
 simp [acc8]
theorem accR_lt (h:List UInt8) (k:Nat):accR h k<128 * 256 ^ (k - 1):=Nat.mod_lt _ (Nat.mul_pos (by omega) (Nat.pow_pos (by omega)))
theorem accR_all (h:List UInt8):accR h 8=numN h:=rfl
set_option maxHeartbeats 1000000 in
theorem rnumber_any (h:List UInt8) (hl:h.length=32) (w:World) :
 Calls Tryz.prog 141 #[.agg (byteVals h).toArray] w (MkN 9223372036854775808 (numN h) w):=by
 obtain ⟨cs,hcs⟩:∃ cs:Array Value,cs=(byteVals h).toArray:=⟨_,rfl⟩
 rw [← hcs]
 have hcell:∀ k,k<32→(w.alloc (.cells cs 64)).cell? ⟨w.heap.size,k,none⟩=some (.int .u8 ((h.getD k 0).toNat:Int)):=by
  intro k hk
  rw [cell_of_row _ w.heap.size k cs 64 (0,0) (heap_alloc_new _ _),hcs]
  simp [byteVals,byteV,List.getD,show k<h.length by omega]
 have HCELL:=Lib.hid hcell
 have HCS:=Lib.hid hcs
 have hu0:Upd [] [] w (w.alloc (.cells cs 64)):=(Upd.refl _ _).alloc _
 have c0:=hcell 0 (by omega)
 obtain ⟨B0,hB0⟩:∃ b,b=h.getD 0 0:=⟨_,rfl⟩
 rw [← hB0] at c0
 have b0:=B0.toNat_lt
 have HB0:=Lib.hid hB0
 clear hcell hcs hB0
 go_enter Tryz.func141,Tryz.ntmps141
 go_wp2_with fail
 generalize w.alloc (.cells cs 64)=W at *
 clear c0
 have hz1:B0.toNat % 128<128:=Nat.mod_lt _ (by omega)
 go_loop [3,4] (fun n i=>∃ (k z:Nat),i=.int .i64 (k:Int)∧1≤k∧k≤8∧n=.int .i64 (z:Int)∧Hid (z=accR h k)) (fun _ i=>8 - (intOf i).toNat)
 case atStart=>exact ⟨1,B0.toNat % 128,rfl,by omega,by omega,by first | rfl | simp,by show _=_;rw [accR_one h,HB0.out]⟩
 case round =>
  clear hz1 b0
  obtain ⟨k,z,rfl,hk1,hk,rfl,HZ⟩:=hrel
  by_cases hlt:k<8
  · have c:=HCELL.out k (by omega)
    have hst:=accR_step h k hk1
    obtain ⟨b,hb⟩:∃ b,b=h.getD k 0:=⟨_,rfl⟩
    rw [← hb] at c hst
    have hb8:=b.toNat_lt
    have hz:z<36028797018963968:=by
     have h1:=accR_lt h k
     rw [← HZ.out] at h1
     have:256 ^ (k - 1)≤256 ^ 6:=Nat.pow_le_pow_right (by omega) (by omega)
     have e:(256:Nat) ^ 6=281474976710656:=by decide
     omega
    have HST:=Lib.hid hst
    clear hb hst
    have k8:(k:Int)<32:=by omega
    go_wp2_with fail
    exact ⟨⟨k+1,z * 256+b.toNat,by go_num,by omega,by omega,by go_num,by show _=_;rw [HST.out,HZ.out]⟩,by simp [intOf];omega⟩
  · have hk8:k=8:=by omega
    have hki:(k:Int)=8:=by omega
    rw [hk8] at HZ
    rw [hki]
    clear hlt hk hk1 hk8 hki
    have hzl:z<9223372036854775808:=by
     have h1:=accR_lt h 8
     rw [← HZ.out] at h1
     have e:(128:Nat) * 256 ^ (8 - 1)=9223372036854775808:=by decide
     omega
    go_wp2_with fail
    go_ret
    exact ⟨z,by show _=_;rw [HZ.out,accR_all],hzl,rfl,hu0⟩
theorem exponent_any (x:Int) (w:World) (_hx:-9223372036854775808≤x∧x≤9223372036854775807) :
 Calls Tryz.prog 35 #[.int .i64 x] w (fun e w'=>∃ r:Nat,Hid (r=expN x)∧r<1152921504606845789∧e=.returned (.int .i64 (r:Int))∧w=w'):=by
 have e1:=Int.tmod_eq_emod (a:=x) (b:=1152921504606845789)
 have e2:=expN_cast x
 have H1:=Lib.hid (And.intro e1 e2)
 clear e1 e2
 have hlt:=expN_lt x
 go_enter Tryz.func35,Tryz.ntmps35
 go_wp2_with fail
 all_goals go_ret
 all_goals refine ⟨expN x,rfl,hlt,ret_i64 ?_,rfl⟩
 all_goals have h:=H1.out
 all_goals obtain ⟨h1,h2⟩:=h
 all_goals first | simp only [wrap64] | skip
 all_goals split at h1 <;> omega
theorem u8_parts:∃ i,Tryz.prog.info? 5=some i∧i.zero=some (.int .u8 0)∧i.size=1∧i.bytes=1:=by
 have h:(Tryz.prog.info? 5).map (fun i=>(i.zero,i.size,i.bytes))=some (some (.int .u8 0),1,1):=by kernel_rfl
 obtain ⟨i,hi,he⟩:=Option.map_eq_some_iff.1 h
 simp only [Prod.mk.injEq] at he
 exact ⟨i,hi,he.1,he.2.1,he.2.2⟩
set_option maxHeartbeats 1000000 in
theorem rBytes_any (n:Nat) (w:World) (_hn:n≤9223372036854775807):Calls Tryz.prog 36 #[.int .i64 (n:Int)] w (MkS (len8 n) w):=by
 go_enter Tryz.func36,Tryz.ntmps36
 go_wp2_with fail
 go_loopw [3,4] (fun t i wr=>∃ (k:Nat) (z:Int),i=.int .i64 z∧z=7 - (k:Int)∧k≤8∧Hid (wr.ownsRow 0 5 1 t k (byteVals ((len8 n).take k)))∧Hid (Upd [] (foot t) w wr)) (fun _ i _=>(intOf i+1).toNat)
 case atStart=>exact ⟨0,7,rfl,rfl,Nat.zero_le _,⟨by simp [byteVals],.inl ⟨rfl,rfl⟩⟩,Upd.refl _ _⟩
 case round =>
  obtain ⟨k,z,rfl,hz,hk,HR,HU⟩:=hrel
  by_cases hlt:k<8
  · obtain ⟨m,rfl⟩:∃ m:Nat,z=(m:Int):=⟨7 - k,by omega⟩
    obtain ⟨b,hb⟩:∃ b,b=UInt8.ofNat (n / 2 ^ (8 * m)):=⟨_,rfl⟩
    have hb1:(n:Int) / 2 ^ (8 * m) % 256=(b.toNat:Int):=by
     have:(UInt8.ofNat (n / 2 ^ (8 * m))).toNat=n / 2 ^ (8 * m) % 256:=by simp
     rw [hb,this]
     simp
    have hm7:m≤7:=by omega
    have hl:(len8 n).take (k+1)=(len8 n).take k ++ [b]:=by
     rw [List.take_succ_eq_append_getElem (by rw [len8_length];omega)]
     congr 1
     rw [hb]
     have hm:m=7 - k:=by omega
     simp [len8,hm]
    have HL:=Lib.hid hl
    have HMZ:=Lib.hid hz
    have hown:=HR.out
    have hup:=HU.out
    have hrow:(wr.alloc (.cells #[.int .u8 (b.toNat:Int)] 5)).ownsRow 0 5 1 u3 k (byteVals ((len8 n).take k)):=row_same hown (fun j hj=>Below.heap_alloc _ _ _ (row_foot_lt hown j hj))
    have hw1:(wr.alloc (.cells #[.int .u8 (b.toNat:Int)] 5)).heap[wr.heap.size]? =some (.cells #[.int .u8 (b.toNat:Int)] 5 (0,0)):=heap_alloc_new _ _
    obtain ⟨iu,u1,u2,u3',u4⟩:=u8_parts
    obtain ⟨v',w',hrun,hown',hup'⟩:=append_block (P:=Tryz.prog) (wr.alloc (.cells #[.int .u8 (b.toNat:Int)] 5)) 126 126 5 iu (.int .u8 0) 1 1 Tryz.underlying126 u1 u2 u3' u4 rfl (by omega) u3 k _ hrow ⟨wr.heap.size,0,none⟩ 1 1 [byteV b] rfl (by
     intro j u hj
     have:j=0:=by
      cases j with
      | zero=>rfl
      | succ j=>simp at hj
     subst this
     simp only [List.getElem?_cons_zero,Option.some.injEq] at hj
     subst hj
     have e:(⟨wr.heap.size,0,none⟩:Addr).add 0=⟨wr.heap.size,0,none⟩:=by simp [Addr.add]
     rw [e,cell_of_row _ _ _ _ _ _ hw1]
     rfl) (byteVals_one [b]) (by omega) (by simp only [maxLen];omega)
    have HRUN:=Lib.hid hrun
    have HOWN:=Lib.hid hown'
    have HUP:=Lib.hid ((hup.alloc (.cells #[.int .u8 (b.toNat:Int)] 5)).trans hup')
    clear u1 u2 u3' u4
    clear hb hz hl hown hup hrow hw1 hrun hown' hup' HR HU
    go_wp2_with (refine wpList_append_run _ rfl _ _ _ _ rfl _ _ v' w' rfl rfl HRUN.out ?_)
    refine ⟨⟨k+1,_,rfl,?_,by omega,?_,HUP.out⟩,?_⟩
    · have:=HMZ.out;omega
    · show World.ownsRow _ _ _ _ _ _ _
      rw [HL.out,byteVals_append]
      exact HOWN.out
    · first | (simp [intOf];done) | (simp [intOf];omega)
  · obtain rfl:z=-1:=by omega
    have hk8:k=8:=by omega
    have hown:=HR.out
    rw [hk8,List.take_of_length_le (by rw [len8_length];omega)] at hown
    have hcv:=conv_row (P:=Tryz.prog) wr 126 9 5 Tryz.underlying126 Tryz.underlying5 Tryz.underlying9 u3 (len8 n) (by rw [len8_length];exact hown)
    have HCV:=Lib.hid hcv
    clear hlt hz hk hk8 hown hcv HR
    go_wp2_with fail
    rw [HCV.out]
    go_wp2_with fail
    go_ret
    exact ⟨⟨(len8 n).toArray⟩,rfl,Nat.le_refl _,rfl,HU.out.mono (fun _ h=>h) (fun _ h=>absurd h (by simp))⟩
theorem rScalar_any (s:ByteArray) (w:World) (hs:s.size≤281474976710000) :
 Calls Tryz.prog 78 #[.string s] w (MkN 1152921504606845789 (scalN (bs s)) w):=by
 go_enter Tryz.func78,Tryz.ntmps78
 go_wp2_with fail
 refine (rsum_any _ w (by have:(ByteArray.mk #[115,47]).size=2:=rfl;simp [ByteArray.size_append];omega)).mono ?_
 rintro e w1 ⟨rfl,hu1⟩
 have hb:bs (⟨#[115,47]⟩ ++ s)=[115,47] ++ bs s:=by rw [bs_append];rfl
 rw [hb]
 clear hb
 obtain ⟨h,hh⟩:∃ h,h=sha ([115,47] ++ bs s):=⟨_,rfl⟩
 have hl:h.length=32:=by rw [hh,sha_length]
 rw [← hh]
 obtain ⟨cs,hcs⟩:∃ cs:Array Value,cs=(byteVals h).toArray:=⟨_,rfl⟩
 rw [← hcs]
 have HH:=Lib.hid hh
 have HL:=Lib.hid hl
 have HCS:=Lib.hid hcs
 clear hh hl hcs
 go_wp2_with fail
 rw [HCS.out]
 refine (rnumber_any h HL.out w1).mono ?_
 rintro e w2 ⟨r,HR,hr,rfl,hu2⟩
 go_wp2_with fail
 go_ret
 refine ⟨r % 1152921504606845789,?_,Nat.mod_lt _ (by omega),?_,hu1.trans hu2⟩
 · show _=_
   rw [scalN,HR.out,HH.out]
 · first | rfl | simp
theorem rpositive_any (s:ByteArray) (w:World) (hs:s.size≤281474976710000) :
 Calls Tryz.prog 33 #[.string s] w (fun e w'=>∃ r:Nat,Hid (r=posN (scalN (bs s)))∧0<r∧r<1152921504606845789∧e=.returned (.int .i64 (r:Int))∧Upd [] [] w w'):=by
 go_enter Tryz.func33,Tryz.ntmps33
 go_wp2_with fail
 refine (rScalar_any s w hs).mono ?_
 rintro e w1 ⟨r,HR,hr,rfl,hu⟩
 go_wp2_with fail
 go_ret
 have hp:posN r=max r 1:=by unfold posN;split <;> omega
 refine ⟨posN r,by show _=_;rw [HR.out],posN_pos r,posN_lt hr,?_,hu⟩
 exact ret_i64 (by rw [hp];omega)
theorem rPow_n (a n:Nat) (m:Int) (w:World) (ha:a≤9223372036854775807) (hn:n≤9223372036854775807) (hm:m=2305843009213691579) :
 Calls Tryz.prog 40 #[.int .i64 (a:Int),.int .i64 (n:Int),.int .i64 m] w (fun e w'=>∃ r:Nat,Hid (r=a ^ n % Pn)∧r<2305843009213691579∧e=.returned (.int .i64 (r:Int))∧w=w'):=by
 subst hm
 refine (rPow_any a 2305843009213691579 n w (by omega) hn (by omega)).mono ?_
 rintro e w1 ⟨r,HR,r0,r1,rfl,rfl⟩
 obtain ⟨m,rfl⟩:∃ m:Nat,r=(m:Int):=⟨r.toNat,by omega⟩
 refine ⟨m,?_,by omega,rfl,rfl⟩
 show _=_
 have h:=HR.out
 rw [powZ_cast] at h
 omega
theorem public_any (x:Int) (w:World) (hx:-9223372036854775808≤x∧x≤9223372036854775807) :
 Calls Tryz.prog 34 #[.int .i64 x] w (fun e w'=>∃ r:Nat,Hid (r=gP (expN x))∧r<2305843009213691579∧e=.returned (.int .i64 (r:Int))∧w=w'):=by
 go_enter Tryz.func34,Tryz.ntmps34
 go_wp2_with fail
 refine (exponent_any x w hx).mono ?_
 rintro e w1 ⟨n,HN,hn,rfl,rfl⟩
 go_wp2_with fail
 refine (rPow_n 4 n _ w (by omega) (by omega) rfl).mono ?_
 rintro e w1 ⟨r,HR,hr,rfl,rfl⟩
 go_wp2_with fail
 go_ret
 exact ⟨r,by show _=_;rw [HR.out,HN.out,gP],hr,rfl,rfl⟩
theorem rkey_any (s:ByteArray) (w:World) (hs:s.size≤140737488355000) :
 Calls Tryz.prog 7 #[.string s] w (MkTwo 1152921504606845789 2305843009213691579 (keyN (bs s)) (gP (keyN (bs s))) w):=by
 go_enter Tryz.func7,Tryz.ntmps7
 go_wp2_with fail
 refine (rpositive_any _ w (by have:(ByteArray.mk #[107]).size=1:=rfl;simp [ByteArray.size_append];omega)).mono ?_
 rintro e w1 ⟨r,HR,hr0,hr,rfl,hu1⟩
 have e1:r=keyN (bs s):=by
  rw [HR.out,bs_append,keyN]
  rfl
 have HE:=Lib.hid e1
 clear e1
 go_wp2_with fail
 refine (public_any r w1 (by omega)).mono ?_
 rintro e w2 ⟨y,HY,hy,rfl,rfl⟩
 go_wp2_with fail
 go_ret2
 have e2:expN (r:Int)=r:=expN_of hr
 exact ⟨r,y,HE.out,by show _=_;rw [HY.out,e2,HE.out],hr,hy,rfl,hu1⟩
theorem rchallenge_any (r p:Nat) (t:ByteArray) (w:World) (hr:r≤9223372036854775807) (hp:p≤9223372036854775807) (ht:t.size≤140737488355000) :
 Calls Tryz.prog 39 #[.int .i64 (r:Int),.int .i64 (p:Int),.string t] w (MkN 1152921504606845789 (chalN r p (bs t)) w):=by
 have h99:(ByteArray.mk #[99]).size=1:=rfl
 go_enter Tryz.func39,Tryz.ntmps39
 go_wp2_with fail
 refine (rBytes_any r w hr).mono ?_
 rintro e w1 ⟨b1,HB1,b1l,rfl,hu1⟩
 rw [len8_length] at b1l
 go_wp2_with fail
 refine (rBytes_any p w1 hp).mono ?_
 rintro e w2 ⟨b2,HB2,b2l,rfl,hu2⟩
 rw [len8_length] at b2l
 have hu:=hu1.trans hu2
 go_wp2_with fail
 refine (rScalar_any _ w2 (by simp [ByteArray.size_append];omega)).mono ?_
 rintro e w3 ⟨c,HC,hc,rfl,hu3⟩
 go_wp2_with fail
 go_ret
 refine ⟨c,?_,hc,rfl,hu.trans hu3⟩
 show _=_
 rw [HC.out,bs_append,bs_append,bs_append,HB1.out,HB2.out,chalN]
 rfl
def RetNat (n:Nat) (w:World) (e:Ending) (w':World):Prop:=∃ r:ByteArray,Hid (bs r=be n)∧e=.returned (.string r)∧w=w'
def MkNat (n:Nat) (w:World) (e:Ending) (w':World):Prop:=∃ r:ByteArray,Hid (bs r=be n)∧e=.returned (.string r)∧Upd [] [] w w'
theorem u8_zero {b:UInt8} (h:(b.toNat:Int)=0):b=0:=UInt8.toNat_inj.1 (by have:(0:UInt8).toNat=0:=rfl;omega)
theorem bs_get (s:ByteArray) (k:Nat) (h:k<s.size):(bs s)[k]? =some s[k]:=by
 have:k<(bs s).length:=h
 rw [List.getElem?_eq_getElem this];rfl
theorem bs_cons' (s:ByteArray) (h:0<s.size):bs s=s[0] :: (bs s).drop 1:=by
 have h2:0<(bs s).length:=h
 exact List.drop_eq_getElem_cons h2
theorem canon_any (s:ByteArray) (w:World) (hs:s.size≤1000000000000):Calls Tryz.prog 68 #[.string s] w (RetNat (natB (bs s)) w):=by
 go_enter Tryz.func68,Tryz.ntmps68
 go_wp2_with fail
 go_loop [3] (fun i=>∃ k:Nat,i=.int .i64 (k:Int)∧k≤s.size∧Hid (canonL ((bs s).drop k)=canonL (bs s))) (fun i=>s.size - (intOf i).toNat)
 case atStart=>exact ⟨0,rfl,Nat.zero_le _,rfl⟩
 case round =>
  obtain ⟨k,rfl,hk,HK⟩:=hrel
  by_cases hlt:k<s.size
  · by_cases h0:(s[k].toNat:Int)=0
    · have hb:((s[k].toNat:Int) == 0)=true:=by rw [beq_iff_eq];exact h0
      have hst:canonL ((bs s).drop (k+1))=canonL (bs s):=by
       rw [← canon_step (by rw [bs_get s k hlt,u8_zero h0]),HK.out]
      have HST:=Lib.hid hst
      clear hst h0
      go_wp2_with fail
      exact ⟨⟨k+1,by go_num,by omega,HST.out⟩,by simp [intOf];omega⟩
    · have hb:((s[k].toNat:Int) == 0)=false:=by rw [beq_eq_false_iff_ne];exact h0
      have hst:(bs s).drop k=be (natB (bs s)):=by
       rw [← canon_be,← HK.out,canon_stop (bs_get s k hlt) (fun e=>h0 (by rw [e];rfl))]
      have HST:=Lib.hid hst
      clear hst h0
      go_wp2_with fail
      go_ret
      refine ⟨s.extract k s.size,?_,rfl,rfl⟩
      show _=_
      rw [bs_extract,HST.out,← HST.out,List.take_of_length_le (by simp [bs_length])]
  · obtain rfl:k=s.size:=by omega
    have hst:be (natB (bs s))=[]:=by
     rw [← canon_be,← HK.out,List.drop_of_length_le (by simp [bs_length])]
     rfl
    have HST:=Lib.hid hst
    clear hst
    go_wp2_with fail
    go_ret
    refine ⟨ByteArray.empty,?_,rfl,rfl⟩
    show _=_
    rw [HST.out]
    rfl
theorem size_of_be {r:ByteArray} {x:Nat} (h:bs r=be x):r.size=(be x).length:=by rw [← h,bs_length]
set_option maxHeartbeats 1000000 in
theorem int_any (s:ByteArray) (x:Nat) (w:World) (hs:s.size≤1000000000000) (hx:x=natB (bs s)) (hb:x<9223372036854775808) :
 Calls Tryz.prog 128 #[.string s] w (fun e w'=>e=.returned (.tuple #[.int .i64 (x:Int),.bool true])∧w=w'):=by
 have HX:=Lib.hid hx
 clear hx
 go_enter Tryz.func128,Tryz.ntmps128
 go_wp2_with fail
 refine (canon_any s w hs).mono ?_
 rintro e w' ⟨r,HR,rfl,rfl⟩
 have hr:bs r=be x:=by rw [HR.out,HX.out]
 have hl:r.size≤8:=by
  rw [size_of_be hr]
  exact be_len_le 8 x (Nat.lt_trans hb (by decide))
 have HRR:=Lib.hid hr
 clear HR
 have hnat:natB (bs r)=x:=by rw [hr,natB_be]
 have HN:=Lib.hid hnat
 clear hr
 by_cases h8:r.size=8
 case' pos =>
  have hg:0<r.size:=by omega
  have h0:(r[0]'hg).toNat≤127:=by
   have h1:=natB_cons (r[0]'hg) ((bs r).drop 1)
   have h2:=bs_cons' r hg
   have h3:(bs r).length=8:=h8
   rw [← h2,hnat,List.length_drop,h3] at h1
   have e:(256:Nat) ^ (8 - 1)=72057594037927936:=by decide
   rw [e] at h1
   omega
  have hb8:((r.size:Int) == 8)=true:=by rw [beq_iff_eq];omega
 case' neg =>
  have hb8:((r.size:Int) == 8)=false:=by rw [beq_eq_false_iff_ne];omega
 all_goals
  clear hnat h8
  go_wp2_with fail
  go_loop [4,5] (fun n i=>∃ k m:Nat,n=.int .i64 (m:Int)∧i=.int .i64 (k:Int)∧k≤r.size∧m≤x∧Hid (m=natB ((bs r).take k))) (fun _ i=>r.size - (intOf i).toNat)
  case atStart=>exact ⟨0,0,rfl,rfl,Nat.zero_le _,Nat.zero_le _,rfl⟩
  case round =>
   obtain ⟨k,m,rfl,rfl,hk,hm,HM⟩:=hrel
   by_cases hlt:k<r.size
   · have hst:natB ((bs r).take (k+1))=m * 256+r[k].toNat:=by
      rw [take_step (bs_get r k hlt),natB_snoc,← HM.out]
     have hle:m * 256+r[k].toNat≤x:=by
      rw [← hst,← HN.out]
      exact natB_take_le _ _
     have HST:=Lib.hid hst
     have h1:(m:Int) * 256≤9223372036854775807:=by omega
     have h2:(m:Int) * 256+(r[k].toNat:Int)≤9223372036854775807:=by omega
     clear hst
     go_wp2_with fail
     exact ⟨⟨k+1,m * 256+r[k].toNat,by go_num,by go_num,by omega,hle,HST.out.symm⟩,by simp [intOf];omega⟩
   · obtain rfl:k=r.size:=by omega
     have hmx:m=x:=by rw [HM.out,List.take_of_length_le (by simp [bs_length]),HN.out]
     have HMX:=Lib.hid hmx
     clear hmx
     go_wp2_with fail
     go_ret2
     refine ⟨?_,rfl⟩
     rw [HMX.out]
     rfl
theorem small_ok (s:ByteArray) (x:Nat) (w:World) (hs:s.size≤1000000000000) (hx:x=natB (bs s)) (hb:(be x).length≤7) :
 Calls Tryz.prog 71 #[.string s,.int .i64 7] w (fun e w'=>e=.returned (.tuple #[.int .i64 (x:Int),.bool true])∧w=w'):=by
 have HX:=Lib.hid hx
 clear hx
 have hlt:x<9223372036854775808:=by
  have:=be_small hb
  have e:(256:Nat) ^ 7=72057594037927936:=by decide
  omega
 go_enter Tryz.func71,Tryz.ntmps71
 go_wp2_with fail
 refine (canon_any s w hs).mono ?_
 rintro e w' ⟨r,HR,rfl,rfl⟩
 have hl:r.size≤7:=by
  have:=size_of_be HR.out
  rw [← HX.out] at this
  omega
 clear hb
 go_wp2_with fail
 refine (int_any s x w hs HX.out hlt).mono ?_
 rintro e w' ⟨rfl,rfl⟩
 go_wp2_with fail
 go_ret2
 exact ⟨rfl,rfl⟩
theorem small_big (s:ByteArray) (x:Nat) (w:World) (hs:s.size≤1000000000000) (hx:x=natB (bs s)) (hb:7<(be x).length) :
 Calls Tryz.prog 71 #[.string s,.int .i64 7] w (fun e w'=>e=.returned (.tuple #[.int .i64 0,.bool false])∧w=w'):=by
 have HX:=Lib.hid hx
 clear hx
 go_enter Tryz.func71,Tryz.ntmps71
 go_wp2_with fail
 refine (canon_any s w hs).mono ?_
 rintro e w' ⟨r,HR,rfl,rfl⟩
 have hl:7<r.size:=by
  have:=size_of_be HR.out
  rw [← HX.out] at this
  omega
 clear hb
 go_wp2_with fail
 go_ret2
 exact ⟨rfl,rfl⟩
set_option maxHeartbeats 1000000 in
theorem of_int (n:Nat) (w:World) (hn:n<9223372036854775808):Calls Tryz.prog 24 #[.int .i64 (n:Int)] w (MkNat n w):=by
 by_cases h0:0<n
 case neg =>
  obtain rfl:n=0:=by omega
  go_enter Tryz.func24,Tryz.ntmps24
  go_wp2_with fail
  go_loop [3,4] (fun t i=>t=.slice none 0 0∧i=.int .i64 56) (fun _ _=>0)
  case atStart=>exact ⟨rfl,rfl⟩
  case round =>
   obtain ⟨rfl,rfl⟩:=hrel
   have hcv:=conv_row (P:=Tryz.prog) w 126 40 5 Tryz.underlying126 Tryz.underlying5 Tryz.underlying40 (.slice none 0 0) [] (World.ownsRow_nil _ _ _ _)
   have HCV:=Lib.hid hcv
   clear hcv
   go_wp2_with fail
   rw [HCV.out]
   go_wp2_with fail
   refine (canon_any _ w (by decide)).mono ?_
   rintro e w' ⟨r,HR,rfl,rfl⟩
   go_wp2_with fail
   go_ret
   exact ⟨r,HR,rfl,Upd.refl _ _⟩
 go_enter Tryz.func24,Tryz.ntmps24
 go_wp2_with fail
 go_loopw [3,4] (fun t i wr=>∃ (k:Nat) (z:Int),i=.int .i64 z∧z=56 - 8 * (k:Int)∧k≤8∧Hid (wr.ownsRow 0 5 1 t k (byteVals ((len8 n).take k)))∧Hid (Upd [] (foot t) w wr)) (fun _ i _=>(intOf i+8).toNat)
 case atStart=>exact ⟨0,56,rfl,rfl,Nat.zero_le _,⟨by simp [byteVals],.inl ⟨rfl,rfl⟩⟩,Upd.refl _ _⟩
 case round =>
  obtain ⟨k,z,rfl,hz,hk,HR,HU⟩:=hrel
  by_cases hlt:k<8
  · obtain ⟨m,rfl⟩:∃ m:Nat,z=(m:Int):=⟨(56 - 8 * k),by omega⟩
    obtain ⟨b,hb⟩:∃ b,b=UInt8.ofNat (n / 2 ^ m):=⟨_,rfl⟩
    have hb1:(n:Int) / 2 ^ m % 256=(b.toNat:Int):=by
     have:(UInt8.ofNat (n / 2 ^ m)).toNat=n / 2 ^ m % 256:=by simp
     rw [hb,this]
     simp
    have hm7:m≤56:=by omega
    have hl:(len8 n).take (k+1)=(len8 n).take k ++ [b]:=by
     rw [List.take_succ_eq_append_getElem (by rw [len8_length];omega)]
     congr 1
     rw [hb]
     have hm:m=8 * (7 - k):=by omega
     simp [len8,hm]
    have HL:=Lib.hid hl
    have HMZ:=Lib.hid hz
    have hown:=HR.out
    have hup:=HU.out
    have hrow:(wr.alloc (.cells #[.int .u8 (b.toNat:Int)] 5)).ownsRow 0 5 1 u3 k (byteVals ((len8 n).take k)):=row_same hown (fun j hj=>Below.heap_alloc _ _ _ (row_foot_lt hown j hj))
    have hw1:(wr.alloc (.cells #[.int .u8 (b.toNat:Int)] 5)).heap[wr.heap.size]? =some (.cells #[.int .u8 (b.toNat:Int)] 5 (0,0)):=heap_alloc_new _ _
    obtain ⟨iu,u1,u2,u3',u4⟩:=u8_parts
    obtain ⟨v',w',hrun,hown',hup'⟩:=append_block (P:=Tryz.prog) (wr.alloc (.cells #[.int .u8 (b.toNat:Int)] 5)) 126 126 5 iu (.int .u8 0) 1 1 Tryz.underlying126 u1 u2 u3' u4 rfl (by omega) u3 k _ hrow ⟨wr.heap.size,0,none⟩ 1 1 [byteV b] rfl (by
     intro j u hj
     have:j=0:=by
      cases j with
      | zero=>rfl
      | succ j=>simp at hj
     subst this
     simp only [List.getElem?_cons_zero,Option.some.injEq] at hj
     subst hj
     have e:(⟨wr.heap.size,0,none⟩:Addr).add 0=⟨wr.heap.size,0,none⟩:=by simp [Addr.add]
     rw [e,cell_of_row _ _ _ _ _ _ hw1]
     rfl) (byteVals_one [b]) (by omega) (by simp only [maxLen];omega)
    have HRUN:=Lib.hid hrun
    have HOWN:=Lib.hid hown'
    have HUP:=Lib.hid ((hup.alloc (.cells #[.int .u8 (b.toNat:Int)] 5)).trans hup')
    clear u1 u2 u3' u4
    clear hb hz hl hown hup hrow hw1 hrun hown' hup' HR HU
    go_wp2_with (refine wpList_append_run _ rfl _ _ _ _ rfl _ _ v' w' rfl rfl HRUN.out ?_)
    refine ⟨⟨k+1,_,rfl,?_,by omega,?_,HUP.out⟩,?_⟩
    · have:=HMZ.out;omega
    · show World.ownsRow _ _ _ _ _ _ _
      rw [HL.out,byteVals_append]
      exact HOWN.out
    · first | (simp [intOf];done) | (simp [intOf];omega)
  · obtain rfl:z=-8:=by omega
    have hk8:k=8:=by omega
    have hown:=HR.out
    rw [hk8,List.take_of_length_le (by rw [len8_length];omega)] at hown
    have hcv:=conv_row (P:=Tryz.prog) wr 126 40 5 Tryz.underlying126 Tryz.underlying5 Tryz.underlying40 u3 (len8 n) (by rw [len8_length];exact hown)
    have HCV:=Lib.hid hcv
    clear hlt hz hk hk8 hown hcv HR
    go_wp2_with fail
    rw [HCV.out]
    go_wp2_with fail
    refine (canon_any _ wr (by show (len8 n).length≤_;rw [len8_length];omega)).mono ?_
    rintro e w' ⟨r,HR,rfl,rfl⟩
    go_wp2_with fail
    go_ret
    refine ⟨r,?_,rfl,HU.out.mono (fun _ h=>h) (fun _ h=>absurd h (by simp))⟩
    show _=_
    rw [HR.out,bs_mk,natB_len8 n (by omega)]
def digV (d:Nat):Value:=.int .i64 (d:Int)
def digVals (l:List Nat):List Value:=l.map digV
def Sl (w:World) (v:Value) (l:List Nat):Prop:=∃ ao cap,v=.slice ao l.length cap∧l.length≤cap∧cap≤maxLen∧(l.length=0∨∃ b,ao=some ⟨b,0,none⟩∧b<w.heap.size∧∀ (j d:Nat),l[j]? =some d→w.cell? ⟨b,j,none⟩=some (.int .i64 (d:Int)))
theorem Sl.nil (w:World):Sl w (.slice none 0 0) []:=⟨none,0,rfl,Nat.le_refl _,by simp,.inl rfl⟩
theorem Sl.upd {w w':World} {v:Value} {l:List Nat} (h:Sl w v l) (u:Upd [] [] w w'):Sl w' v l:=by
 obtain ⟨ao,cap,rfl,h1,h2,h3⟩:=h
 refine ⟨ao,cap,rfl,h1,h2,?_⟩
 rcases h3 with h3 | ⟨b,rfl,hb,hc⟩
 · exact .inl h3
 · exact .inr ⟨b,rfl,Nat.lt_of_lt_of_le hb u.size,fun j d hj=>(u.cell hb (by simp)).trans (hc j d hj)⟩
theorem Sl.of_row {w:World} {v:Value} {l:List Nat} {t:TypeId} (h:w.ownsRow 0 t 1 v l.length (digVals l)):Sl w v l:=by
 by_cases h0:l.length=0
 · obtain ⟨ao,cap,rfl,h1,h2⟩:=row_slice h
   exact ⟨ao,cap,rfl,h1,h2,.inl h0⟩
 · obtain ⟨g,cap,cur,rfl,hg,h1,h2,h3,h4⟩:=row_pos h (by omega)
   refine ⟨_,cap,rfl,h1,h2,.inr ⟨g,rfl,(Array.getElem?_eq_some_iff.1 hg).1,fun j d hj=>?_⟩⟩
   have hjl:=(List.getElem?_eq_some_iff.1 hj).1
   rw [cell_of_row w g j _ _ _ hg]
   have e:(digVals l)[j]? =some (digV d):=by simp [digVals,hj]
   rw [← h4,Nat.mul_one,List.getElem?_take_of_lt hjl] at e
   simpa [digV] using e
def slLen:Value→Nat
 | .slice _ n _=>n
 | _=>0
theorem trim_at (v:Value) (l:List Nat) (w:World) (h:Sl w v l) (hl:okL l):Calls Tryz.prog 175 #[v] w (fun e w'=>∃ v',Hid (Sl w v' (dg (valL l))∧foot v'=foot v)∧e=.returned v'∧w=w'):=by
 obtain ⟨ao,cap,rfl,h1,h2,h3⟩:=h
 obtain ⟨n,hn⟩:∃ n,n=l.length:=⟨_,rfl⟩
 rw [← hn] at h1 h3
 rw [← hn]
 unfold maxLen at h2
 have H3:=Lib.hid h3
 have HN:=Lib.hid hn
 clear h3 hn
 go_enter Tryz.func175,Tryz.ntmps175
 go_wp2_with fail
 go_loop [0] (fun v=>∃ m:Nat,v=.slice ao m cap∧m≤n∧Hid (valL (l.take m)=valL l)) (fun v=>slLen v)
 case atStart=>exact ⟨n,rfl,Nat.le_refl _,by show _=_;rw [HN.out,List.take_length]⟩
 case round =>
  obtain ⟨m,rfl,hm,HM⟩:=hrel
  have hend:∀ k,k≤n→valL (l.take k)=valL l→(∀ d,(l.take k).getLast? =some d→d≠0)→Sl w (.slice ao k cap) (dg (valL l)):=by
   intro k hk hv hlast
   have hd:=dg_of_last (okL_take hl k) hlast
   rw [hv] at hd
   have hlen:(dg (valL l)).length=k:=by rw [← hd,List.length_take,← HN.out];omega
   refine ⟨ao,cap,by rw [hlen],by omega,by simp only [maxLen];omega,?_⟩
   rcases H3.out with h3 | ⟨b,rfl,hb,hc⟩
   · exact .inl (by omega)
   · refine .inr ⟨b,rfl,hb,fun j d hj=>hc j d ?_⟩
     rw [← hd,List.getElem?_take] at hj
     split at hj
     · exact hj
     · cases hj
  have HE:=Lib.hid hend
  clear hend
  by_cases h0:0<m
  · obtain ⟨k,rfl⟩:∃ k,m=k+1:=⟨m - 1,by omega⟩
    obtain ⟨b,rfl,hb,hc⟩:∃ b,ao=some ⟨b,0,none⟩∧b<w.heap.size∧∀ (j d:Nat),l[j]? =some d→w.cell? ⟨b,j,none⟩=some (.int .i64 (d:Int)):=by
     rcases H3.out with h | h
     · omega
     · exact h
    have hkl:k<l.length:=by have:=HN.out;omega
    have hk0:=hc k l[k] (List.getElem?_eq_getElem hkl)
    obtain ⟨d,hd⟩:∃ d,d=l[k]:=⟨_,rfl⟩
    rw [← hd] at hk0
    have hst:l[k]? =some d:=by rw [hd];exact List.getElem?_eq_getElem hkl
    have HST:=Lib.hid hst
    clear hc hkl hd hst
    have hki:((k+1:Nat):Int) - 1=(k:Int):=by omega
    by_cases hd0:d=0
    · subst hd0
      go_wp2_with fail
      refine ⟨⟨k,rfl,by omega,?_⟩,by simp [slLen]⟩
      show _=_
      rw [← HM.out,take_step HST.out,valL_snoc,Nat.mul_zero,Nat.add_zero]
    · have hb0:((d:Int) == 0)=false:=by rw [beq_eq_false_iff_ne];omega
      have hfin:=HE.out (k+1) hm HM.out (fun x hx=>by
       rw [take_step HST.out,List.getLast?_concat] at hx
       simp only [Option.some.injEq] at hx
       omega)
      have HF:=Lib.hid hfin
      clear hfin hd0
      go_wp2_with fail
      go_ret
      exact ⟨_,⟨HF.out,rfl⟩,rfl,rfl⟩
  · obtain rfl:m=0:=by omega
    have hfin:=HE.out 0 hm HM.out (fun x hx=>by simp at hx)
    have HF:=Lib.hid hfin
    clear hfin
    go_wp2_with fail
    go_ret
    exact ⟨_,⟨HF.out,by cases ao <;> rfl⟩,rfl,rfl⟩
theorem trim_any (v:Value) (l:List Nat) (w:World) (h:Sl w v l) (hl:okL l):Calls Tryz.prog 175 #[v] w (fun e w'=>∃ v',Hid (Sl w v' (dg (valL l)))∧e=.returned v'∧w=w'):=by
 refine (trim_at v l w h hl).mono ?_
 rintro e w' ⟨v',HV,he,hw⟩
 exact ⟨v',HV.out.1,he,hw⟩
theorem Sl.get {w:World} {ao:Option Addr} {n cap:Nat} {l:List Nat} (h:Sl w (.slice ao n cap) l) {k d:Nat} (hk:l[k]? =some d):∃ b,ao=some ⟨b,0,none⟩∧w.cell? ⟨b,k,none⟩=some (.int .i64 (d:Int)):=by
 obtain ⟨ao',cap',e,h1,h2,h3⟩:=h
 simp only [Value.slice.injEq] at e
 obtain ⟨rfl,rfl,rfl⟩:=e
 have hkl:=(List.getElem?_eq_some_iff.1 hk).1
 rcases h3 with h3 | ⟨b,rfl,hb,hc⟩
 · omega
 · exact ⟨b,rfl,hc k d hk⟩
theorem Sl.form {w:World} {v:Value} {l:List Nat} (h:Sl w v l):∃ ao cap,v=.slice ao l.length cap∧l.length≤cap∧cap≤9223372036854775807:=by
 obtain ⟨ao',cap',e,h1,h2,h3⟩:=h
 exact ⟨ao',cap',e,h1,h2⟩
def CmpOk (x y:Nat) (r:Int):Prop:=(r<0 ↔ x<y)∧(0<r ↔ y<x)
set_option maxHeartbeats 1000000 in
theorem cmp_any (u v:Value) (x y:Nat) (w:World) (hu:Sl w u (dg x)) (hv:Sl w v (dg y)):Calls Tryz.prog 176 #[u,v] w (fun e w'=>∃ r:Int,Hid (CmpOk x y r)∧(-9223372036854775808≤r∧r≤9223372036854775807)∧e=.returned (.int .i64 r)∧Upd [] [] w w'):=by
 obtain ⟨ao,cap,rfl,hu1,hu2⟩:=hu.form
 obtain ⟨bo,cbp,rfl,hv1,hv2⟩:=hv.form
 obtain ⟨n,hn⟩:∃ n,n=(dg x).length:=⟨_,rfl⟩
 obtain ⟨m,hm⟩:∃ m,m=(dg y).length:=⟨_,rfl⟩
 rw [← hn] at hu1 hu
 rw [← hm] at hv1 hv
 rw [← hn,← hm]
 have HU:=Lib.hid hu
 have HV:=Lib.hid hv
 have HN:=Lib.hid hn
 have HM:=Lib.hid hm
 clear hu hv hn hm
 by_cases hnm:n=m
 case neg =>
  have hb:((n:Int) != (m:Int))=true:=by rw [bne_iff_ne];omega
  have hb2:((n:Int) == (m:Int))=false:=by rw [beq_eq_false_iff_ne];omega
  have hb3:(n == m)=false:=by rw [beq_eq_false_iff_ne];omega
  have hc:CmpOk x y ((n:Int) - (m:Int)):=by
   rcases Nat.lt_or_ge n m with h | h
   · have:=dg_len_lt (x:=x) (y:=y) (by rw [← HN.out,← HM.out];exact h)
     exact ⟨⟨fun _=>this,fun _=>by omega⟩,⟨fun h=>by omega,fun h=>by omega⟩⟩
   · have:=dg_len_lt (x:=y) (y:=x) (by rw [← HN.out,← HM.out];omega)
     exact ⟨⟨fun h=>by omega,fun h=>by omega⟩,⟨fun _=>this,fun _=>by omega⟩⟩
  have HC:=Lib.hid hc
  clear hc hnm
  go_enter Tryz.func176,Tryz.ntmps176
  go_wp2_with fail
  go_ret
  exact ⟨_,HC.out,⟨by omega,by omega⟩,rfl,Upd.refl _ _⟩
 case pos =>
  subst hnm
  go_enter Tryz.func176,Tryz.ntmps176
  go_wp2_with fail
  go_loopw [5] (fun i wr=>∃ (z:Int) (k:Nat),i=.int .i64 z∧z+1=(k:Int)∧k≤n∧Hid ((dg x).drop k=(dg y).drop k)∧Hid (Upd [] [] w wr)) (fun i _=>(intOf i+1).toNat)
  case atStart=>exact ⟨(n:Int) - 1,n,rfl,by omega,Nat.le_refl _,by show _=_;rw [List.drop_of_length_le (by rw [HN.out];omega),List.drop_of_length_le (by rw [HM.out];omega)],Upd.refl _ _⟩
  case round =>
   obtain ⟨z,k,rfl,hz,hk,HK,HUP⟩:=hrel
   by_cases h0:0<k
   · obtain ⟨j,rfl⟩:∃ j,k=j+1:=⟨k - 1,by omega⟩
     obtain rfl:z=(j:Int):=by omega
     have hjx:j<(dg x).length:=by rw [← HN.out];omega
     have hjy:j<(dg y).length:=by rw [← HM.out];omega
     obtain ⟨a,ha⟩:∃ a,(dg x)[j]? =some a:=⟨_,List.getElem?_eq_getElem hjx⟩
     obtain ⟨b,hb⟩:∃ b,(dg y)[j]? =some b:=⟨_,List.getElem?_eq_getElem hjy⟩
     have ha2:a<16777216:=dg_ok x a (List.mem_of_getElem? ha)
     have hb2:b<16777216:=dg_ok y b (List.mem_of_getElem? hb)
     obtain ⟨g1,rfl,c1⟩:=(HU.out.upd HUP.out).get ha
     obtain ⟨g2,rfl,c2⟩:=(HV.out.upd HUP.out).get hb
     have HA:=Lib.hid ha
     have HB:=Lib.hid hb
     clear hjx hjy ha hb hz
     by_cases hab:a=b
     · subst hab
       have hst:(dg x).drop j=(dg y).drop j:=by
        obtain ⟨h1,e1⟩:=List.getElem?_eq_some_iff.1 HA.out
        obtain ⟨h2,e2⟩:=List.getElem?_eq_some_iff.1 HB.out
        rw [List.drop_eq_getElem_cons h1,List.drop_eq_getElem_cons h2,e1,e2,HK.out]
       have HST:=Lib.hid hst
       clear hst
       go_wp2_with fail
       go_quiet (fail)
       go_wp2_with fail
       exact ⟨⟨(j:Int) - 1,j,rfl,by omega,by omega,HST.out,HUP.out.drewN _⟩,by simp only [intOf];omega⟩
     · have hb1:((a:Int) != (b:Int))=true:=by rw [bne_iff_ne];omega
       have hb3:((a:Int) == (b:Int))=false:=by rw [beq_eq_false_iff_ne];omega
       have hc:CmpOk x y ((a:Int) - (b:Int)):=by
        have ex:=valL_dg x
        have ey:=valL_dg y
        rcases Nat.lt_or_ge a b with h | h
        · have:=val_cmp (dg_ok x) HK.out HA.out HB.out h
          rw [ex,ey] at this
          exact ⟨⟨fun _=>this,fun _=>by omega⟩,⟨fun h=>by omega,fun h=>by omega⟩⟩
        · have:=val_cmp (dg_ok y) HK.out.symm HB.out HA.out (by omega)
          rw [ex,ey] at this
          exact ⟨⟨fun h=>by omega,fun h=>by omega⟩,⟨fun _=>this,fun _=>by omega⟩⟩
       have HC:=Lib.hid hc
       clear hc hab
       go_wp2_with fail
       go_quiet (fail)
       go_wp2_with fail
       go_quiet (fail)
       go_wp2_with fail
       go_ret
       exact ⟨_,HC.out,⟨by omega,by omega⟩,rfl,(HUP.out.drewN _).drewN _⟩
   · obtain rfl:k=0:=by omega
     obtain rfl:z=-1:=by omega
     have hxy:x=y:=by
      have:=HK.out
      rw [List.drop_zero,List.drop_zero] at this
      rw [← valL_dg x,this,valL_dg]
     have hc:CmpOk x y 0:=by
      subst hxy
      exact ⟨⟨fun h=>by omega,fun h=>by omega⟩,⟨fun h=>by omega,fun h=>by omega⟩⟩
     have HC:=Lib.hid hc
     clear hc hxy hz
     go_wp2_with fail
     go_ret
     exact ⟨_,HC.out,⟨by omega,by omega⟩,rfl,HUP.out⟩
theorem int_parts:∃ i,Tryz.prog.info? 3=some i∧i.zero=some (.int .i64 0)∧i.size=1∧i.bytes=8:=by
 have h:(Tryz.prog.info? 3).map (fun i=>(i.zero,i.size,i.bytes))=some (some (.int .i64 0),1,8):=by kernel_rfl
 obtain ⟨i,hi,he⟩:=Option.map_eq_some_iff.1 h
 simp only [Prod.mk.injEq] at he
 exact ⟨i,hi,he.1,he.2.1,he.2.2⟩
theorem append_int (wr:World) (v:Value) (k:Nat) (xs:List Value) (x:Int) (hown:wr.ownsRow 0 3 1 v k xs) (hk:k<1099511627776) :
 ∃ v' w',(Builtin.append_ #[22,22] 22 #[v,.slice (some ⟨wr.heap.size,0,none⟩) 1 1]).run Tryz.prog (wr.alloc (.cells #[.int .i64 x] 3))=.ok v' w'∧w'.ownsRow 0 3 1 v' (k+1) (xs ++ [.int .i64 x])∧Upd (foot v) (foot v') wr w':=by
 have hrow:(wr.alloc (.cells #[.int .i64 x] 3)).ownsRow 0 3 1 v k xs:=row_same hown (fun j hj=>Below.heap_alloc _ _ _ (row_foot_lt hown j hj))
 have hw1:(wr.alloc (.cells #[.int .i64 x] 3)).heap[wr.heap.size]? =some (.cells #[.int .i64 x] 3 (0,0)):=heap_alloc_new _ _
 obtain ⟨iu,u1,u2,u3',u4⟩:=int_parts
 obtain ⟨v',w',hrun,hown',hup'⟩:=append_block (P:=Tryz.prog) (wr.alloc (.cells #[.int .i64 x] 3)) 22 22 3 iu (.int .i64 0) 1 8 Tryz.underlying22 u1 u2 u3' u4 rfl (by omega) v k _ hrow ⟨wr.heap.size,0,none⟩ 1 1 [.int .i64 x] rfl (by
  intro j u hj
  have:j=0:=by
   cases j with
   | zero=>rfl
   | succ j=>simp at hj
  subst this
  simp only [List.getElem?_cons_zero,Option.some.injEq] at hj
  subst hj
  have e:(⟨wr.heap.size,0,none⟩:Addr).add 0=⟨wr.heap.size,0,none⟩:=by simp [Addr.add]
  rw [e,cell_of_row _ _ _ _ _ _ hw1]
  rfl) (by intro u hu;simp at hu;subst hu;rfl) (by omega) (by simp only [maxLen];omega)
 exact ⟨v',w',hrun,hown',((Upd.refl _ _).alloc _).trans hup'⟩
theorem digVals_snoc (l:List Nat) (d:Nat):digVals (l ++ [d])=digVals l ++ [.int .i64 (d:Int)]:=by simp [digVals,digV]
set_option maxHeartbeats 2000000 in
theorem times_any (u:Value) (x d:Nat) (w:World) (hu:Sl w u (dg x)) (hd:d<16777216) (hx:(dg x).length≤1000000000):Calls Tryz.prog 179 #[u,.int .i64 (d:Int)] w (fun e w'=>∃ v',Hid (Sl w' v' (dg (x * d)))∧e=.returned v'∧Upd [] [] w w'):=by
 obtain ⟨ao,cap,rfl,hu1,hu2⟩:=hu.form
 obtain ⟨n,hn⟩:∃ n,n=(dg x).length:=⟨_,rfl⟩
 rw [← hn] at hu1 hu hx
 rw [← hn]
 have HU:=Lib.hid hu
 have HN:=Lib.hid hn
 clear hu hn
 go_enter Tryz.func179,Tryz.ntmps179
 go_wp2_with fail
 go_loopw [5,6,7] (fun o c i wr=>∃ (k cy:Nat) (out:List Nat),i=.int .i64 (k:Int)∧c=.int .i64 (cy:Int)∧k≤n∧cy<16777216∧Hid (out.length=k∧okL out∧valL out+16777216 ^ k * cy=valL ((dg x).take k) * d)∧Hid (wr.ownsRow 0 3 1 o k (digVals out))∧Hid (Upd [] (foot o) w wr)) (fun _ _ i _=>n - (intOf i).toNat)
 case atStart=>exact ⟨0,0,[],rfl,rfl,Nat.zero_le _,by omega,⟨rfl,okL_nil,by simp [valL]⟩,⟨by simp [digVals],.inl ⟨rfl,rfl⟩⟩,Upd.refl _ _⟩
 case round =>
  obtain ⟨k,cy,out,rfl,rfl,hk,hcy,HI,HR,HUP⟩:=hrel
  have hup0:Upd [] [] w wr:=HUP.out.mono (fun _ h=>h) (fun _ h=>absurd h (by simp))
  by_cases hlt:k<n
  · have hkx:k<(dg x).length:=by rw [← HN.out];exact hlt
    obtain ⟨a,ha⟩:∃ a,(dg x)[k]? =some a:=⟨_,List.getElem?_eq_getElem hkx⟩
    have ha2:a<16777216:=dg_ok x a (List.mem_of_getElem? ha)
    obtain ⟨g1,rfl,c1⟩:=(HU.out.upd hup0).get ha
    obtain ⟨s,hs⟩:∃ s,s=a * d+cy:=⟨_,rfl⟩
    obtain ⟨hc1,hc2⟩:=times_carry ha2 hd hcy
    have hst:=times_step ha HI.out.1 HI.out.2.2
    rw [← hs] at hc1 hc2 hst
    have hs1:(a:Int) * (d:Int)+(cy:Int)=(s:Int):=by rw [hs];simp
    have hs2:(a:Int) * (d:Int)≤281474976710656:=by have:=Int.natCast_nonneg cy;omega
    have hs0:0≤(a:Int) * (d:Int):=Int.mul_nonneg (by omega) (by omega)
    obtain ⟨r,hr⟩:∃ r,r=s % 16777216:=⟨_,rfl⟩
    obtain ⟨q,hq⟩:∃ q,q=s / 16777216:=⟨_,rfl⟩
    have hr1:(s:Int) % 16777216=(r:Int):=by omega
    have hq1:(s:Int) / 16777216=(q:Int):=by omega
    have hr2:r<16777216:=by omega
    rw [← hr,← hq] at hst
    rw [← hq] at hc1
    obtain ⟨v',w',hrun,hown',hup'⟩:=append_int wr _ k _ (r:Int) HR.out (by omega)
    rw [← digVals_snoc] at hown'
    have hl:(out ++ [r]).length=k+1:=by rw [List.length_append,HI.out.1];rfl
    have HRUN:=Lib.hid hrun
    have HOWN:=Lib.hid hown'
    have HUPP:=Lib.hid (HUP.out.trans hup')
    have HST:=Lib.hid (And.intro hl (And.intro (okL_snoc HI.out.2.1 hr2) hst))
    clear ha hkx hs hst hrun hown' hup' HUP HR hr hq hl
    go_wp2_with (refine wpList_append_run _ rfl _ _ _ _ rfl _ _ v' w' rfl rfl HRUN.out ?_)
    exact ⟨⟨k+1,q,out ++ [r],by go_num,rfl,by omega,hc1,HST.out,HOWN.out,HUPP.out⟩,by simp [intOf];omega⟩
  · obtain rfl:k=n:=by omega
    obtain ⟨v',w',hrun,hown',hup'⟩:=append_int wr _ k _ (cy:Int) HR.out (by omega)
    rw [← digVals_snoc] at hown'
    have hl:(out ++ [cy]).length=k+1:=by rw [List.length_append,HI.out.1];rfl
    have hv:valL (out ++ [cy])=x * d:=by
     rw [valL_snoc,HI.out.1,HI.out.2.2,HN.out,List.take_length,valL_dg]
    rw [← hl] at hown'
    have hsl:=Sl.of_row hown'
    have HSL:=Lib.hid hsl
    have HRUN:=Lib.hid hrun
    have HUPP:=Lib.hid (HUP.out.trans hup')
    have HV:=Lib.hid hv
    have HOK:=Lib.hid (okL_snoc HI.out.2.1 hcy)
    clear hrun hown' hup' HUP HR hl hv hsl hlt
    go_wp2_with (refine wpList_append_run _ rfl _ _ _ _ rfl _ _ v' w' rfl rfl HRUN.out ?_)
    refine (trim_any v' _ w' HSL.out HOK.out).mono ?_
    rintro e w2 ⟨v2,HV2,rfl,rfl⟩
    go_wp2_with fail
    go_ret
    refine ⟨v2,?_,rfl,HUPP.out.mono (fun _ h=>h) (fun _ h=>absurd h (by simp))⟩
    show Sl _ _ _
    rw [← HV.out]
    exact HV2.out
theorem getD_of {l:List Nat} {k d:Nat} (h:l[k]? =some d):l.getD k 0=d:=by rw [List.getD_eq_getElem?_getD,h];rfl
theorem getD_none {l:List Nat} {k:Nat} (h:l.length≤k):l.getD k 0=0:=by rw [List.getD_eq_getElem?_getD,List.getElem?_eq_none h];rfl
set_option maxHeartbeats 4000000 in
theorem minus_any (u v:Value) (x y:Nat) (w:World) (hu:Sl w u (dg x)) (hv:Sl w v (dg y)) (hxy:y≤x) (hx:(dg x).length≤1000000000):Calls Tryz.prog 178 #[u,v] w (fun e w'=>∃ v',Hid (Sl w' v' (dg (x - y)))∧e=.returned v'∧Upd [] [] w w'):=by
 obtain ⟨ao,cap,rfl,hu1,hu2⟩:=hu.form
 obtain ⟨bo,cbp,rfl,hv1,hv2⟩:=hv.form
 have hmn:=dg_len_mono hxy
 obtain ⟨n,hn⟩:∃ n,n=(dg x).length:=⟨_,rfl⟩
 obtain ⟨m,hm⟩:∃ m,m=(dg y).length:=⟨_,rfl⟩
 rw [← hn] at hu1 hu hx
 rw [← hm] at hv1 hv
 rw [← hn,← hm] at hmn
 rw [← hn,← hm]
 have HU:=Lib.hid hu
 have HVV:=Lib.hid hv
 have HN:=Lib.hid hn
 have HM:=Lib.hid hm
 clear hu hv hn hm
 go_enter Tryz.func178,Tryz.ntmps178
 go_wp2_with fail
 go_loopw [5,6,7] (fun o c i wr=>∃ (k b:Nat) (out:List Nat),i=.int .i64 (k:Int)∧c=.int .i64 (b:Int)∧k≤n∧b≤1∧Hid (out.length=k∧okL out∧valL out+valL ((dg y).take k)=valL ((dg x).take k)+16777216 ^ k * b)∧Hid (wr.ownsRow 0 3 1 o k (digVals out))∧Hid (Upd [] (foot o) w wr)) (fun _ _ i _=>n - (intOf i).toNat)
 case atStart=>exact ⟨0,0,[],rfl,rfl,Nat.zero_le _,by omega,⟨rfl,okL_nil,by simp [valL]⟩,⟨by simp [digVals],.inl ⟨rfl,rfl⟩⟩,Upd.refl _ _⟩
 case round =>
  obtain ⟨k,b,out,rfl,rfl,hk,hb,HI,HR,HUP⟩:=hrel
  have hup0:Upd [] [] w wr:=HUP.out.mono (fun _ h=>h) (fun _ h=>absurd h (by simp))
  by_cases hlt:k<n
  · have hkx:k<(dg x).length:=by rw [← HN.out];exact hlt
    obtain ⟨a,ha⟩:∃ a,(dg x)[k]? =some a:=⟨_,List.getElem?_eq_getElem hkx⟩
    have ha2:a<16777216:=dg_ok x a (List.mem_of_getElem? ha)
    obtain ⟨g1,rfl,c1⟩:=(HU.out.upd hup0).get ha
    have HA:=Lib.hid ha
    clear ha hkx
    by_cases hkm:k<m
    · have hky:k<(dg y).length:=by rw [← HM.out];exact hkm
      obtain ⟨c,hc⟩:∃ c,(dg y)[k]? =some c:=⟨_,List.getElem?_eq_getElem hky⟩
      have hc2:c<16777216:=dg_ok y c (List.mem_of_getElem? hc)
      obtain ⟨g2,rfl,c2⟩:=(HVV.out.upd hup0).get hc
      have HC:=Lib.hid (getD_of hc)
      clear hc hky
      by_cases hneg:(a:Int) - (b:Int) - (c:Int)<0
      · obtain ⟨r,hr⟩:∃ r:Nat,(a:Int) - (b:Int) - (c:Int)+16777216=(r:Int):=⟨a+16777216 - b - c,by omega⟩
        have hr2:r<16777216:=by omega
        have hst:=minus_step HA.out HI.out.1 HI.out.2.2 (r:=r) (b':=1) (by rw [HC.out];omega)
        obtain ⟨v',w',hrun,hown',hup'⟩:=append_int wr _ k _ (r:Int) HR.out (by omega)
        rw [← digVals_snoc] at hown'
        have hl:(out ++ [r]).length=k+1:=by rw [List.length_append,HI.out.1];rfl
        have HRUN:=Lib.hid hrun
        have HOWN:=Lib.hid hown'
        have HUPP:=Lib.hid (HUP.out.trans hup')
        have HST:=Lib.hid (And.intro hl (And.intro (okL_snoc HI.out.2.1 hr2) hst))
        clear hst hrun hown' hup' HUP HR hl
        go_wp2_with (refine wpList_append_run _ rfl _ _ _ _ rfl _ _ v' w' rfl rfl HRUN.out ?_)
        exact ⟨⟨k+1,1,out ++ [r],by go_num,rfl,by omega,by omega,HST.out,HOWN.out,HUPP.out⟩,by simp [intOf];omega⟩
      · obtain ⟨r,hr⟩:∃ r:Nat,(a:Int) - (b:Int) - (c:Int)=(r:Int):=⟨a - b - c,by omega⟩
        have hr2:r<16777216:=by omega
        have hst:=minus_step HA.out HI.out.1 HI.out.2.2 (r:=r) (b':=0) (by rw [HC.out];omega)
        obtain ⟨v',w',hrun,hown',hup'⟩:=append_int wr _ k _ (r:Int) HR.out (by omega)
        rw [← digVals_snoc] at hown'
        have hl:(out ++ [r]).length=k+1:=by rw [List.length_append,HI.out.1];rfl
        have HRUN:=Lib.hid hrun
        have HOWN:=Lib.hid hown'
        have HUPP:=Lib.hid (HUP.out.trans hup')
        have HST:=Lib.hid (And.intro hl (And.intro (okL_snoc HI.out.2.1 hr2) hst))
        clear hst hrun hown' hup' HUP HR hl hneg
        go_wp2_with (refine wpList_append_run _ rfl _ _ _ _ rfl _ _ v' w' rfl rfl HRUN.out ?_)
        exact ⟨⟨k+1,0,out ++ [r],by go_num,rfl,by omega,by omega,HST.out,HOWN.out,HUPP.out⟩,by simp [intOf];omega⟩
    · have HC:=Lib.hid (getD_none (l:=dg y) (k:=k) (by rw [← HM.out];omega))
      by_cases hneg:(a:Int) - (b:Int)<0
      · obtain ⟨r,hr⟩:∃ r:Nat,(a:Int) - (b:Int)+16777216=(r:Int):=⟨a+16777216 - b,by omega⟩
        have hr2:r<16777216:=by omega
        have hst:=minus_step HA.out HI.out.1 HI.out.2.2 (r:=r) (b':=1) (by rw [HC.out];omega)
        obtain ⟨v',w',hrun,hown',hup'⟩:=append_int wr _ k _ (r:Int) HR.out (by omega)
        rw [← digVals_snoc] at hown'
        have hl:(out ++ [r]).length=k+1:=by rw [List.length_append,HI.out.1];rfl
        have HRUN:=Lib.hid hrun
        have HOWN:=Lib.hid hown'
        have HUPP:=Lib.hid (HUP.out.trans hup')
        have HST:=Lib.hid (And.intro hl (And.intro (okL_snoc HI.out.2.1 hr2) hst))
        clear hst hrun hown' hup' HUP HR hl
        go_wp2_with (refine wpList_append_run _ rfl _ _ _ _ rfl _ _ v' w' rfl rfl HRUN.out ?_)
        exact ⟨⟨k+1,1,out ++ [r],by go_num,rfl,by omega,by omega,HST.out,HOWN.out,HUPP.out⟩,by simp [intOf];omega⟩
      · obtain ⟨r,hr⟩:∃ r:Nat,(a:Int) - (b:Int)=(r:Int):=⟨a - b,by omega⟩
        have hr2:r<16777216:=by omega
        have hst:=minus_step HA.out HI.out.1 HI.out.2.2 (r:=r) (b':=0) (by rw [HC.out];omega)
        obtain ⟨v',w',hrun,hown',hup'⟩:=append_int wr _ k _ (r:Int) HR.out (by omega)
        rw [← digVals_snoc] at hown'
        have hl:(out ++ [r]).length=k+1:=by rw [List.length_append,HI.out.1];rfl
        have HRUN:=Lib.hid hrun
        have HOWN:=Lib.hid hown'
        have HUPP:=Lib.hid (HUP.out.trans hup')
        have HST:=Lib.hid (And.intro hl (And.intro (okL_snoc HI.out.2.1 hr2) hst))
        clear hst hrun hown' hup' HUP HR hl hneg
        go_wp2_with (refine wpList_append_run _ rfl _ _ _ _ rfl _ _ v' w' rfl rfl HRUN.out ?_)
        exact ⟨⟨k+1,0,out ++ [r],by go_num,rfl,by omega,by omega,HST.out,HOWN.out,HUPP.out⟩,by simp [intOf];omega⟩
  · obtain rfl:k=n:=by omega
    have hv:valL out=x - y:=by
     have h:=HI.out.2.2
     rw [HN.out] at h
     have:=minus_end (by rw [HI.out.1,HN.out]) HI.out.2.1 (dg_len_mono hxy) (by rw [valL_dg,valL_dg];exact hxy) h
     rwa [valL_dg,valL_dg] at this
    have hown:=HR.out
    rw [← HI.out.1] at hown
    have HSL:=Lib.hid (Sl.of_row hown)
    have HV:=Lib.hid hv
    clear hown hv hlt
    go_wp2_with fail
    refine (trim_any _ _ _ HSL.out HI.out.2.1).mono ?_
    rintro e w2 ⟨v2,HV2,rfl,rfl⟩
    go_wp2_with fail
    go_ret
    refine ⟨v2,?_,rfl,hup0⟩
    show Sl _ _ _
    rw [← HV.out]
    exact HV2.out
set_option maxHeartbeats 1000000 in
theorem digit_any (u v:Value) (x y:Nat) (w:World) (hu:Sl w u (dg x)) (hv:Sl w v (dg y)) (hy:0<y) (hq:x / y<16777216) (hl:(dg y).length≤1000000000):Calls Tryz.prog 177 #[u,v] w (fun e w'=>∃ r:Nat,Hid (r=x / y)∧r<16777216∧e=.returned (.int .i64 (r:Int))∧Upd [] [] w w'):=by
 obtain ⟨q,hqq⟩:∃ q,q=x / y:=⟨_,rfl⟩
 rw [← hqq] at hq
 rw [← hqq]
 have HU:=Lib.hid hu
 have HV:=Lib.hid hv
 have HQ:=Lib.hid hqq
 have HL:=Lib.hid hl
 clear hu hv hqq hl
 go_enter Tryz.func177,Tryz.ntmps177
 go_wp2_with fail
 go_loopw [5,6] (fun a b wr=>∃ lo hi:Nat,a=.int .i64 (lo:Int)∧b=.int .i64 (hi:Int)∧lo≤q∧q≤hi∧hi≤16777215∧Hid (Upd [] [] w wr)) (fun a b _=>(intOf b).toNat - (intOf a).toNat)
 case atStart=>exact ⟨0,16777215,rfl,rfl,Nat.zero_le _,by omega,Nat.le_refl _,Upd.refl _ _⟩
 case round =>
  obtain ⟨lo,hi,rfl,rfl,h1,h2,h3,HUP⟩:=hrel
  by_cases hlt:lo<hi
  · obtain ⟨m,hm⟩:∃ m:Nat,((lo:Int)+(hi:Int)+1) / 2=(m:Int):=⟨(lo+hi+1) / 2,by omega⟩
    have hm1:lo<m:=by omega
    have hm2:m≤hi:=by omega
    go_wp2_with fail
    refine (times_any v y m wr (HV.out.upd HUP.out) (by omega) HL.out).mono ?_
    rintro e w2 ⟨v2,HV2,rfl,hu2⟩
    have HUP2:=Lib.hid (HUP.out.trans hu2)
    clear HUP hu2
    go_wp2_with fail
    refine (cmp_any v2 u (y * m) x w2 HV2.out (HU.out.upd HUP2.out)).mono ?_
    rintro e w3 ⟨r,HR,hr,rfl,hu3⟩
    have HUP3:=Lib.hid (HUP2.out.trans hu3)
    clear HUP2 hu3
    by_cases hr0:r≤0
    · have hle:y * m≤x:=by
       have:=HR.out.2
       omega
      have hmq:m≤q:=by rw [HQ.out];exact digit_low hy hle
      clear hle
      go_wp2_with fail
      exact ⟨⟨m,hi,rfl,rfl,hmq,h2,h3,HUP3.out⟩,by simp [intOf];omega⟩
    · have hgt:x<y * m:=HR.out.2.1 (by omega)
      have hmq:q<m:=by rw [HQ.out];exact digit_high hy hgt
      clear hgt
      go_wp2_with fail
      exact ⟨⟨lo,m - 1,rfl,by congr 1;omega,h1,by omega,by omega,HUP3.out⟩,by simp [intOf];omega⟩
  · obtain rfl:lo=hi:=by omega
    obtain rfl:q=lo:=by omega
    go_wp2_with fail
    go_ret
    exact ⟨_,rfl,hq,rfl,HUP.out⟩
end Go.Proofs.YtmjlkkbbnkanpaaGreatDoor
