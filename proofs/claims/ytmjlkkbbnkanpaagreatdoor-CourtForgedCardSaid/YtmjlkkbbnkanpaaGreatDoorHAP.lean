/- sortesref01: small at any bound, Int of a large number, Add and what follows. -/
import Derived.Test.YtmjlkkbbnkanpaaGreatDoorHAH
import Derived.Test.YtmjlkkbbnkanpaaGreatDoorHAJ
import Derived.Test.YtmjlkkbbnkanpaaGreatDoorHAE
import Derived.Test.YtmjlkkbbnkanpaaGreatDoorHAA
namespace Go.Proofs.YtmjlkkbbnkanpaaGreatDoor
open Go.RowKit
set_option maxRecDepth 100000
theorem pow7:(256:Nat) ^ 7=72057594037927936:=by decide
theorem be_le7 {x n:Nat} (hn:n≤7) (h:(be x).length≤n):x<72057594037927936:=by
 have:=be_small h
 have e:(256:Nat) ^ n≤256 ^ 7:=Nat.pow_le_pow_right (by omega) hn
 rw [pow7] at e
 omega
theorem smallN (s:ByteArray) (x n:Nat) (w:World) (hs:s.size≤1000000000000) (hx:x=natB (bs s)) (hn:n≤7) :
 Calls Tryz.prog 71 #[.string s,.int .i64 (n:Int)] w (fun e w'=>∃ (z:Int) (p:Bool),Hid ((p=true ↔ (be x).length≤n)∧(p=true→z=(x:Int)))∧(-9223372036854775808≤z∧z≤9223372036854775807)∧e=.returned (.tuple #[.int .i64 z,.bool p])∧w=w'):=by
 have HX:=Lib.hid hx
 clear hx
 by_cases hb:(be x).length≤n
 · have hlt:x<9223372036854775808:=by have:=be_le7 hn hb;omega
   go_enter Tryz.func71,Tryz.ntmps71
   go_wp2_with fail
   refine (canon_any s w hs).mono ?_
   rintro e w' ⟨r,HR,rfl,rfl⟩
   have hl:r.size≤n:=by
    have:=size_of_be HR.out
    rw [← HX.out] at this
    omega
   have HB:=Lib.hid hb
   clear hb
   go_wp2_with fail
   refine (int_any s x w hs HX.out hlt).mono ?_
   rintro e w' ⟨rfl,rfl⟩
   go_wp2_with fail
   go_ret2
   exact ⟨(x:Int),true,⟨⟨fun _=>HB.out,fun _=>rfl⟩,fun _=>rfl⟩,by omega,rfl,rfl⟩
 · go_enter Tryz.func71,Tryz.ntmps71
   go_wp2_with fail
   refine (canon_any s w hs).mono ?_
   rintro e w' ⟨r,HR,rfl,rfl⟩
   have hl:n<r.size:=by
    have:=size_of_be HR.out
    rw [← HX.out] at this
    omega
   have HB:=Lib.hid hb
   clear hb
   go_wp2_with fail
   go_ret2
   exact ⟨0,false,⟨⟨(fun h=>by cases h),fun h=>absurd h HB.out⟩,fun h=>by cases h⟩,by omega,rfl,rfl⟩
theorem take_getD (l:List Nat) (k:Nat):valL (l.take (k+1))=valL (l.take k)+16777216 ^ k * l.getD k 0:=by
 by_cases h:k<l.length
 · rw [valL_take_step (List.getElem?_eq_getElem h),getD_of (List.getElem?_eq_getElem h)]
 · rw [List.take_of_length_le (by omega),List.take_of_length_le (by omega),getD_none (by omega)]
   omega
theorem add_step {u v out:List Nat} {k a b r q c s:Nat} (ha:u.getD k 0=a) (hb:v.getD k 0=b) (hl:out.length=k) (h:valL out+16777216 ^ k * c=valL (u.take k)+valL (v.take k)) (hs:s=c+a+b) (hr:r=s % 16777216) (hq:q=s / 16777216) :
 valL (out ++ [r])+16777216 ^ (k+1) * q=valL (u.take (k+1))+valL (v.take (k+1)):=by
 have e:16777216 * q+r=c+a+b:=by omega
 have e2:16777216 ^ k * (16777216 * q+r)=16777216 ^ k * (c+a+b):=by rw [e]
 rw [valL_snoc,hl,take_getD,take_getD,ha,hb,Nat.pow_succ,Nat.mul_assoc]
 rw [Nat.mul_add,Nat.mul_add,Nat.mul_add] at e2
 omega
theorem dig_or (x k:Nat):(dg x).getD k 0<16777216:=by
 by_cases h:k<(dg x).length
 · rw [getD_of (List.getElem?_eq_getElem h)]
   exact dg_ok x _ (List.getElem_mem h)
 · rw [getD_none (by omega)]
   omega
set_option maxHeartbeats 4000000 in
theorem bigAdd_any (a b:ByteArray) (x y:Nat) (w:World) (ha:bs a=be x) (hb:bs b=be y) (lx:(be x).length≤2000000) (ly:(be y).length≤2000000) :
 Calls Tryz.prog 27 #[.string a,.string b] w (MkNat (x+y) w):=by
 have hx:x=natB (bs a):=by rw [ha,natB_be]
 have hy:y=natB (bs b):=by rw [hb,natB_be]
 have sa:a.size≤20000000:=by rw [size_of_be ha];omega
 have sb:b.size≤20000000:=by rw [size_of_be hb];omega
 have dx:(dg x).length≤2000000:=Nat.le_trans (dg_len_be x) lx
 have dy:(dg y).length≤2000000:=Nat.le_trans (dg_len_be y) ly
 have HX:=Lib.hid hx
 have HY:=Lib.hid hy
 have HD:=Lib.hid (And.intro dx dy)
 clear hx hy ha hb lx ly dx dy
 go_enter Tryz.func27,Tryz.ntmps27
 go_wp2_with fail
 refine (smallN a x 7 w (by omega) HX.out (by omega)).mono ?_
 rintro e w' ⟨z1,p1,HP1,hz1,rfl,rfl⟩
 go_wp2_with fail
 refine (smallN b y 7 w (by omega) HY.out (by omega)).mono ?_
 rintro e w' ⟨z2,p2,HP2,hz2,rfl,rfl⟩
 by_cases hpq:p1=true∧p2=true
 · obtain ⟨rfl,rfl⟩:=hpq
   have e1:z1=(x:Int):=HP1.out.2 rfl
   have e2:z2=(y:Int):=HP2.out.2 rfl
   have b1:=be_le7 (by omega) (HP1.out.1.1 rfl)
   have b2:=be_le7 (by omega) (HP2.out.1.1 rfl)
   subst e1
   subst e2
   have h1:(x:Int)+(y:Int)≤9223372036854775807:=by omega
   have h2:-9223372036854775808≤(x:Int)+(y:Int):=by omega
   clear HP1 HP2
   go_wp2_with fail
   rw [show (x:Int)+(y:Int)=((x+y:Nat):Int) by omega]
   refine (of_int (x+y) w (by omega)).mono ?_
   rintro e w1 ⟨r,HR,rfl,hu⟩
   go_wp2_with fail
   go_ret
   exact ⟨r,HR,rfl,hu⟩
 have HNP:Hid (p1=true→p2=false):=fun h=>by cases p2 with
  | false=>rfl
  | true=>exact absurd ⟨h,rfl⟩ hpq
 clear hpq HP1 HP2
 cases p1
 · clear HNP
   go_wp2_with fail
   refine (of_big a x w HX.out (by omega) (by have:=HD.out.1;omega)).mono ?_
   rintro e w1 ⟨u,SU,rfl,hq⟩
   have U1:=Lib.hid hq
   clear hq
   go_wp2_with fail
   refine (of_big b y w1 HY.out (by omega) (by have:=HD.out.2;omega)).mono ?_
   rintro e w2 ⟨v,SV,rfl,hq⟩
   have SU2:=Lib.hid (SU.out.upd hq)
   have U2:=Lib.hid (U1.out.trans hq)
   clear hq U1 SU
   obtain ⟨ao,cap,rfl,hu1,hu2⟩:=SU2.out.form
   obtain ⟨bo,cbp,rfl,hv1,hv2⟩:=SV.out.form
   obtain ⟨n,hn⟩:∃ n,n=(dg x).length:=⟨_,rfl⟩
   obtain ⟨m,hm⟩:∃ m,m=(dg y).length:=⟨_,rfl⟩
   obtain ⟨N,hN⟩:∃ N,N=max n m:=⟨_,rfl⟩
   have hn1:n≤2000000:=by have:=HD.out.1;omega
   have hm1:m≤2000000:=by have:=HD.out.2;omega
   rw [← hn] at hu1 SU2
   rw [← hm] at hv1 SV
   rw [← hn,← hm]
   have HN:=Lib.hid (And.intro hn hm)
   have hN1:n≤N:=by omega
   have hN2:m≤N:=by omega
   have hN3:N≤2000000:=by omega
   clear hn hm hN
   go_wp2_with fail
   go_loopw [11,12,13] (fun o c i wr=>∃ (k cy:Nat) (out:List Nat),i=.int .i64 (k:Int)∧c=.int .i64 (cy:Int)∧cy≤1∧(k≤N∨(k=N+1∧cy=0))∧Hid (out.length=k∧okL out∧valL out+16777216 ^ k * cy=valL ((dg x).take k)+valL ((dg y).take k))∧Hid (wr.ownsRow 0 3 1 o k (digVals out))∧Hid (Upd [] (foot o) w2 wr)) (fun _ _ i _=>N+2 - (intOf i).toNat)
   case atStart=>exact ⟨0,0,[],rfl,rfl,by omega,.inl (Nat.zero_le _),⟨rfl,okL_nil,by simp [valL]⟩,⟨by simp [digVals],.inl ⟨rfl,rfl⟩⟩,Upd.refl _ _⟩
   case round =>
    obtain ⟨k,cy,out,rfl,rfl,hcy,hkN,HI,HR,HUP⟩:=hrel
    have hup0:Upd [] [] w2 wr:=HUP.out.mono (fun _ h=>h) (fun _ h=>absurd h (by simp))
    have hkk:k≤2000001:=by omega
    obtain ⟨a1,hA⟩:∃ a1,(dg x).getD k 0=a1:=⟨_,rfl⟩
    obtain ⟨b1,hB⟩:∃ b1,(dg y).getD k 0=b1:=⟨_,rfl⟩
    have ha2:a1<16777216:=by rw [← hA];exact dig_or x k
    have hb2:b1<16777216:=by rw [← hB];exact dig_or y k
    obtain ⟨s,hs⟩:∃ s,s=cy+a1+b1:=⟨_,rfl⟩
    obtain ⟨r,hr⟩:∃ r,r=s % 16777216:=⟨_,rfl⟩
    obtain ⟨q,hq⟩:∃ q,q=s / 16777216:=⟨_,rfl⟩
    have hst:=add_step hA hB HI.out.1 HI.out.2.2 hs hr hq
    have hr1:(s:Int) % 16777216=(r:Int):=by omega
    have hq1:(s:Int) / 16777216=(q:Int):=by omega
    have hr2:r<16777216:=by omega
    have hq2:q≤1:=by omega
    obtain ⟨v',w',hrun,hown',hup'⟩:=append_int wr _ k _ (r:Int) HR.out (by omega)
    rw [← digVals_snoc] at hown'
    have hl:(out ++ [r]).length=k+1:=by rw [List.length_append,HI.out.1];rfl
    have HRUN:=Lib.hid hrun
    have HOWN:=Lib.hid hown'
    have HUPP:=Lib.hid (HUP.out.trans hup')
    have HST:=Lib.hid (And.intro hl (And.intro (okL_snoc HI.out.2.1 hr2) hst))
    clear hrun hown' hup' hst hr hq hl
    have hkc:((k+1:Nat):Int)=(k:Int)+1:=by omega
    by_cases hlt1:k<n
    · by_cases hlt2:k<m
      · skip
        obtain ⟨g1,rfl,c1⟩:=(SU2.out.upd hup0).get (show (dg x)[k]? =some a1 by rw [← hA,List.getD_eq_getElem?_getD,List.getElem?_eq_getElem (by rw [← HN.out.1];exact hlt1)];rfl)
        obtain ⟨g2,rfl,c2⟩:=(SV.out.upd hup0).get (show (dg y)[k]? =some b1 by rw [← hB,List.getD_eq_getElem?_getD,List.getElem?_eq_getElem (by rw [← HN.out.2];exact hlt2)];rfl)
        obtain ⟨t1,ht1⟩:∃ t1,t1=cy+a1:=⟨_,rfl⟩
        have hs1:(cy:Int)+(a1:Int)=(t1:Int):=by omega
        have hs2:(t1:Int)+(b1:Int)=(s:Int):=by omega
        have hs3:t1<33554432:=by omega
        clear ht1
        clear hA hB hs HUP HR hup0
        go_wp2_with (refine wpList_append_run _ rfl _ _ _ _ rfl _ _ v' w' rfl rfl HRUN.out ?_)
        exact ⟨⟨k+1,q,out ++ [r],by go_num,rfl,hq2,by omega,HST.out,HOWN.out,HUPP.out⟩,by simp [intOf];omega⟩
      · skip
        obtain ⟨g1,rfl,c1⟩:=(SU2.out.upd hup0).get (show (dg x)[k]? =some a1 by rw [← hA,List.getD_eq_getElem?_getD,List.getElem?_eq_getElem (by rw [← HN.out.1];exact hlt1)];rfl)
        have hb0:b1=0:=by rw [← hB];exact getD_none (by rw [← HN.out.2];omega)
        have hs1:(cy:Int)+(a1:Int)=(s:Int):=by omega
        clear hA hB hs HUP HR hup0
        go_wp2_with (refine wpList_append_run _ rfl _ _ _ _ rfl _ _ v' w' rfl rfl HRUN.out ?_)
        exact ⟨⟨k+1,q,out ++ [r],by go_num,rfl,hq2,by omega,HST.out,HOWN.out,HUPP.out⟩,by simp [intOf];omega⟩
    by_cases hlt2:k<m
    · skip
      obtain ⟨g2,rfl,c2⟩:=(SV.out.upd hup0).get (show (dg y)[k]? =some b1 by rw [← hB,List.getD_eq_getElem?_getD,List.getElem?_eq_getElem (by rw [← HN.out.2];exact hlt2)];rfl)
      have ha0:a1=0:=by rw [← hA];exact getD_none (by rw [← HN.out.1];omega)
      have hs1:(cy:Int)+(b1:Int)=(s:Int):=by omega
      clear hA hB hs HUP HR hup0
      go_wp2_with (refine wpList_append_run _ rfl _ _ _ _ rfl _ _ v' w' rfl rfl HRUN.out ?_)
      exact ⟨⟨k+1,q,out ++ [r],by go_num,rfl,hq2,by omega,HST.out,HOWN.out,HUPP.out⟩,by simp [intOf];omega⟩
    by_cases hc0:0<cy
    · skip
      have ha0:a1=0:=by rw [← hA];exact getD_none (by rw [← HN.out.1];omega)
      have hb0:b1=0:=by rw [← hB];exact getD_none (by rw [← HN.out.2];omega)
      obtain rfl:s=cy:=by omega
      clear hA hB hs HUP HR hup0
      go_wp2_with (refine wpList_append_run _ rfl _ _ _ _ rfl _ _ v' w' rfl rfl HRUN.out ?_)
      exact ⟨⟨k+1,q,out ++ [r],by go_num,rfl,hq2,by omega,HST.out,HOWN.out,HUPP.out⟩,by simp [intOf];omega⟩
    obtain rfl:cy=0:=by omega
    have hv:valL out=x+y:=by
     have h:=HI.out.2.2
     rw [List.take_of_length_le (by rw [← HN.out.1];omega),List.take_of_length_le (by rw [← HN.out.2];omega),valL_dg,valL_dg] at h
     omega
    have HV:=Lib.hid hv
    have hl:out.length=k:=HI.out.1
    rw [← hl] at HR
    have HSL:=Lib.hid (Sl.of_row HR.out)
    have HOK:=Lib.hid HI.out.2.1
    have HUU:=Lib.hid hup0
    clear HI HR HUP HRUN HOWN HUPP HST hA hB hs hv hup0
    go_wp2_with fail
    refine (number_big _ out wr HSL.out HOK.out (by omega)).mono ?_
    rintro e w3 ⟨z,HZ,rfl,hq⟩
    go_wp2_with fail
    go_ret
    exact ⟨z,by show _=_;rw [HZ.out,HV.out],rfl,(U2.out.trans HUU.out).trans hq⟩
 have hp2:=HNP.out rfl
 subst hp2
 clear HNP
 go_wp2_with fail
 refine (of_big a x w HX.out (by omega) (by have:=HD.out.1;omega)).mono ?_
 rintro e w1 ⟨u,SU,rfl,hq⟩
 have U1:=Lib.hid hq
 clear hq
 go_wp2_with fail
 refine (of_big b y w1 HY.out (by omega) (by have:=HD.out.2;omega)).mono ?_
 rintro e w2 ⟨v,SV,rfl,hq⟩
 have SU2:=Lib.hid (SU.out.upd hq)
 have U2:=Lib.hid (U1.out.trans hq)
 clear hq U1 SU
 obtain ⟨ao,cap,rfl,hu1,hu2⟩:=SU2.out.form
 obtain ⟨bo,cbp,rfl,hv1,hv2⟩:=SV.out.form
 obtain ⟨n,hn⟩:∃ n,n=(dg x).length:=⟨_,rfl⟩
 obtain ⟨m,hm⟩:∃ m,m=(dg y).length:=⟨_,rfl⟩
 obtain ⟨N,hN⟩:∃ N,N=max n m:=⟨_,rfl⟩
 have hn1:n≤2000000:=by have:=HD.out.1;omega
 have hm1:m≤2000000:=by have:=HD.out.2;omega
 rw [← hn] at hu1 SU2
 rw [← hm] at hv1 SV
 rw [← hn,← hm]
 have HN:=Lib.hid (And.intro hn hm)
 have hN1:n≤N:=by omega
 have hN2:m≤N:=by omega
 have hN3:N≤2000000:=by omega
 clear hn hm hN
 go_wp2_with fail
 go_loopw [11,12,13] (fun o c i wr=>∃ (k cy:Nat) (out:List Nat),i=.int .i64 (k:Int)∧c=.int .i64 (cy:Int)∧cy≤1∧(k≤N∨(k=N+1∧cy=0))∧Hid (out.length=k∧okL out∧valL out+16777216 ^ k * cy=valL ((dg x).take k)+valL ((dg y).take k))∧Hid (wr.ownsRow 0 3 1 o k (digVals out))∧Hid (Upd [] (foot o) w2 wr)) (fun _ _ i _=>N+2 - (intOf i).toNat)
 case atStart=>exact ⟨0,0,[],rfl,rfl,by omega,.inl (Nat.zero_le _),⟨rfl,okL_nil,by simp [valL]⟩,⟨by simp [digVals],.inl ⟨rfl,rfl⟩⟩,Upd.refl _ _⟩
 case round =>
  obtain ⟨k,cy,out,rfl,rfl,hcy,hkN,HI,HR,HUP⟩:=hrel
  have hup0:Upd [] [] w2 wr:=HUP.out.mono (fun _ h=>h) (fun _ h=>absurd h (by simp))
  have hkk:k≤2000001:=by omega
  obtain ⟨a1,hA⟩:∃ a1,(dg x).getD k 0=a1:=⟨_,rfl⟩
  obtain ⟨b1,hB⟩:∃ b1,(dg y).getD k 0=b1:=⟨_,rfl⟩
  have ha2:a1<16777216:=by rw [← hA];exact dig_or x k
  have hb2:b1<16777216:=by rw [← hB];exact dig_or y k
  obtain ⟨s,hs⟩:∃ s,s=cy+a1+b1:=⟨_,rfl⟩
  obtain ⟨r,hr⟩:∃ r,r=s % 16777216:=⟨_,rfl⟩
  obtain ⟨q,hq⟩:∃ q,q=s / 16777216:=⟨_,rfl⟩
  have hst:=add_step hA hB HI.out.1 HI.out.2.2 hs hr hq
  have hr1:(s:Int) % 16777216=(r:Int):=by omega
  have hq1:(s:Int) / 16777216=(q:Int):=by omega
  have hr2:r<16777216:=by omega
  have hq2:q≤1:=by omega
  obtain ⟨v',w',hrun,hown',hup'⟩:=append_int wr _ k _ (r:Int) HR.out (by omega)
  rw [← digVals_snoc] at hown'
  have hl:(out ++ [r]).length=k+1:=by rw [List.length_append,HI.out.1];rfl
  have HRUN:=Lib.hid hrun
  have HOWN:=Lib.hid hown'
  have HUPP:=Lib.hid (HUP.out.trans hup')
  have HST:=Lib.hid (And.intro hl (And.intro (okL_snoc HI.out.2.1 hr2) hst))
  clear hrun hown' hup' hst hr hq hl
  have hkc:((k+1:Nat):Int)=(k:Int)+1:=by omega
  by_cases hlt1:k<n
  · by_cases hlt2:k<m
    · skip
      obtain ⟨g1,rfl,c1⟩:=(SU2.out.upd hup0).get (show (dg x)[k]? =some a1 by rw [← hA,List.getD_eq_getElem?_getD,List.getElem?_eq_getElem (by rw [← HN.out.1];exact hlt1)];rfl)
      obtain ⟨g2,rfl,c2⟩:=(SV.out.upd hup0).get (show (dg y)[k]? =some b1 by rw [← hB,List.getD_eq_getElem?_getD,List.getElem?_eq_getElem (by rw [← HN.out.2];exact hlt2)];rfl)
      obtain ⟨t1,ht1⟩:∃ t1,t1=cy+a1:=⟨_,rfl⟩
      have hs1:(cy:Int)+(a1:Int)=(t1:Int):=by omega
      have hs2:(t1:Int)+(b1:Int)=(s:Int):=by omega
      have hs3:t1<33554432:=by omega
      clear ht1
      clear hA hB hs HUP HR hup0
      go_wp2_with (refine wpList_append_run _ rfl _ _ _ _ rfl _ _ v' w' rfl rfl HRUN.out ?_)
      exact ⟨⟨k+1,q,out ++ [r],by go_num,rfl,hq2,by omega,HST.out,HOWN.out,HUPP.out⟩,by simp [intOf];omega⟩
    · skip
      obtain ⟨g1,rfl,c1⟩:=(SU2.out.upd hup0).get (show (dg x)[k]? =some a1 by rw [← hA,List.getD_eq_getElem?_getD,List.getElem?_eq_getElem (by rw [← HN.out.1];exact hlt1)];rfl)
      have hb0:b1=0:=by rw [← hB];exact getD_none (by rw [← HN.out.2];omega)
      have hs1:(cy:Int)+(a1:Int)=(s:Int):=by omega
      clear hA hB hs HUP HR hup0
      go_wp2_with (refine wpList_append_run _ rfl _ _ _ _ rfl _ _ v' w' rfl rfl HRUN.out ?_)
      exact ⟨⟨k+1,q,out ++ [r],by go_num,rfl,hq2,by omega,HST.out,HOWN.out,HUPP.out⟩,by simp [intOf];omega⟩
  by_cases hlt2:k<m
  · skip
    obtain ⟨g2,rfl,c2⟩:=(SV.out.upd hup0).get (show (dg y)[k]? =some b1 by rw [← hB,List.getD_eq_getElem?_getD,List.getElem?_eq_getElem (by rw [← HN.out.2];exact hlt2)];rfl)
    have ha0:a1=0:=by rw [← hA];exact getD_none (by rw [← HN.out.1];omega)
    have hs1:(cy:Int)+(b1:Int)=(s:Int):=by omega
    clear hA hB hs HUP HR hup0
    go_wp2_with (refine wpList_append_run _ rfl _ _ _ _ rfl _ _ v' w' rfl rfl HRUN.out ?_)
    exact ⟨⟨k+1,q,out ++ [r],by go_num,rfl,hq2,by omega,HST.out,HOWN.out,HUPP.out⟩,by simp [intOf];omega⟩
  by_cases hc0:0<cy
  · skip
    have ha0:a1=0:=by rw [← hA];exact getD_none (by rw [← HN.out.1];omega)
    have hb0:b1=0:=by rw [← hB];exact getD_none (by rw [← HN.out.2];omega)
    obtain rfl:s=cy:=by omega
    clear hA hB hs HUP HR hup0
    go_wp2_with (refine wpList_append_run _ rfl _ _ _ _ rfl _ _ v' w' rfl rfl HRUN.out ?_)
    exact ⟨⟨k+1,q,out ++ [r],by go_num,rfl,hq2,by omega,HST.out,HOWN.out,HUPP.out⟩,by simp [intOf];omega⟩
  obtain rfl:cy=0:=by omega
  have hv:valL out=x+y:=by
   have h:=HI.out.2.2
   rw [List.take_of_length_le (by rw [← HN.out.1];omega),List.take_of_length_le (by rw [← HN.out.2];omega),valL_dg,valL_dg] at h
   omega
  have HV:=Lib.hid hv
  have hl:out.length=k:=HI.out.1
  rw [← hl] at HR
  have HSL:=Lib.hid (Sl.of_row HR.out)
  have HOK:=Lib.hid HI.out.2.1
  have HUU:=Lib.hid hup0
  clear HI HR HUP HRUN HOWN HUPP HST hA hB hs hv hup0
  go_wp2_with fail
  refine (number_big _ out wr HSL.out HOK.out (by omega)).mono ?_
  rintro e w3 ⟨z,HZ,rfl,hq⟩
  go_wp2_with fail
  go_ret
  exact ⟨z,by show _=_;rw [HZ.out,HV.out],rfl,(U2.out.trans HUU.out).trans hq⟩

def isDig (l:List UInt8):Prop:=∀ c∈l,48≤c.toNat∧c.toNat≤57
def ParR (l:List UInt8) (r:ByteArray) (ok:Bool):Prop:=(ok=true∧∃ x,bs r=be x∧l=Lib.decDigits x)∨(ok=false∧∀ x,l≠Lib.decDigits x)
theorem be_one:be 1=[1]:=by
 rw [be_pos (by omega),show 1 / 256=0 by rfl,be_zero]
 rfl
end Go.Proofs.YtmjlkkbbnkanpaaGreatDoor
