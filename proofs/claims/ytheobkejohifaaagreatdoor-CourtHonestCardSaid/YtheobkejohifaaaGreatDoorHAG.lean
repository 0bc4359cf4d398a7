/- sortesref03.Sum is SHA-256 and what follows. -/
import Derived.Test.YtheobkejohifaaaGreatDoorHAF
import Derived.Test.YtheobkejohifaaaGreatDoorHAC
import Derived.Test.YtheobkejohifaaaGreatDoorHAD
import Derived.Test.YtheobkejohifaaaGreatDoorRows
import Derived.Test.YtheobkejohifaaaGreatDoorHAE
import Derived.Test.YtheobkejohifaaaGreatDoorHAA
namespace Go.Proofs.YtheobkejohifaaaGreatDoor
open Go.RowKit
set_option maxRecDepth 100000
theorem ppI (A B C D E F G H:W32) (s:ByteArray) (w:World) (hs:s.size=64) :
 Calls Tryz.prog 164 #[.agg #[.int .u32 (A.toNat:Int),.int .u32 (B.toNat:Int),.int .u32 (C.toNat:Int),.int .u32 (D.toNat:Int),.int .u32 (E.toNat:Int),.int .u32 (F.toNat:Int),.int .u32 (G.toNat:Int),.int .u32 (H.toNat:Int)],.string s] w (fun e w'=>∃ A' B' C' D' E' F' G' H':W32,Hid (mixS ⟨A,B,C,D,E,F,G,H⟩ (bs s)=⟨A',B',C',D',E',F',G',H'⟩)∧e=.returned (.agg #[.int .u32 (A'.toNat:Int),.int .u32 (B'.toNat:Int),.int .u32 (C'.toNat:Int),.int .u32 (D'.toNat:Int),.int .u32 (E'.toNat:Int),.int .u32 (F'.toNat:Int),.int .u32 (G'.toNat:Int),.int .u32 (H'.toNat:Int)])∧Upd [] [] w w'):=by
 refine (pmd ⟨A,B,C,D,E,F,G,H⟩ s w hs).mono ?_
 rintro e w' ⟨rfl,hu⟩
 obtain ⟨V,hV⟩:∃ V,V=mixS ⟨A,B,C,D,E,F,G,H⟩ (bs s):=⟨_,rfl⟩
 obtain ⟨A',B',C',D',E',F',G',H'⟩:=V
 rw [← hV]
 exact ⟨A',B',C',D',E',F',G',H',rfl,rfl,hu⟩
set_option maxHeartbeats 2000000 in
theorem pgL (s:ByteArray) (w:World) (hs:s.size≤281474976710656) :
 Calls Tryz.prog 118 #[.string s] w (Mk (.agg (byteVals (sha (bs s))).toArray) w):=by
 obtain ⟨V,hV⟩:∃ V,V=pdy:=⟨_,rfl⟩
 have h0:=SumW.start w pdy
 have HVV:=Lib.hid hV
 clear hV
 obtain ⟨R,hR⟩:∃ R,R=Value.agg (byteVals (sha (bs s))).toArray:=⟨_,rfl⟩
 rw [← hR]
 have HRR:=Lib.hid hR
 clear hR
 go_enter Tryz.func118,Tryz.ntmps118
 go_wp2_with fail
 refine (pk1 s _ hs).mono ?_
 rintro e w3 ⟨T,HT,rfl,hu3⟩
 have hm3:=SumW.upd h0 hu3
 clear h0
 have hTl:T.size=(padS (bs s)).length:=by rw [← pac,HT.out]
 obtain ⟨m,hm0⟩:∃ m,T.size=64 * m:=by
  refine ⟨T.size / 64,?_⟩
  have:=pjG (bs s)
  omega
 have hT40:T.size≤281474976711000:=by
  rw [hTl,pcu,pac,pb4]
  omega
 have HTL:=Lib.hid hTl
 have HM0:=Lib.hid hm0
 clear hTl
 have hm1:(T.size:Int)=64 * (m:Int):=by omega
 clear hm0
 go_wp2_with fail
 go_loopw [5] (fun i wr=>∃ (k j:Nat) (x:St),i=.int .i64 (k:Int)∧k=64 * j∧j≤m∧SumW w wr x∧Hid (x=pee pdy (padS (bs s)) j)) (fun i _=>64 * m - (intOf i).toNat)
 case atStart=>exact ⟨0,0,_,rfl,rfl,Nat.zero_le _,hm3,rfl⟩
 case round =>
  clear hm3 hm1
  obtain ⟨k,j,⟨A,B,C,D,E,F,G,H⟩,rfl,hkj,hjm,hm,HX⟩:=hrel
  have hm1:T.size=64 * m:=HM0.out
  by_cases hlt:j<m
  · obtain ⟨c0,c1,c2,c3,c4,c5,c6,c7⟩:=hm.cells
    obtain ⟨k64,hk64⟩:∃ k64:Nat,k64=k+64:=⟨_,rfl⟩
    have i64:IntKind.i64.wrap ((k:Int)+64)=(k64:Int):=by rw [pap (by omega) (by omega)];omega
    have b1:(k64:Int)≤(T.size:Int):=by omega
    have b2:(k:Int)≤(k64:Int):=by omega
    have b3:k≤k64:=by omega
    have b4:k64≤T.size:=by omega
    have b5:k<T.size:=by omega
    have HKN:=Lib.hid (And.intro hkj hk64)
    have hsx:(T.extract k k64).size=64:=by simp [ByteArray.size_extract];omega
    clear hkj hk64 hm1
    have HSX:=Lib.hid hsx
    clear hsx
    go_wp2_with fail
    go_still_tail 6,(by kernel_rfl)
    go_wp2_with fail
    refine (ppI A B C D E F G H _ _ HSX.out).mono ?_
    rintro e w5 ⟨A',B',C',D',E',F',G',H',HM,rfl,hu5⟩
    have hm5:=hm.drew.upd hu5
    obtain ⟨d0,d1,d2,d3,d4,d5,d6,d7⟩:=hm5.cells
    have z0:=hm5.fz 0
    have z1:=hm5.fz 1
    have z2:=hm5.fz 2
    have z3:=hm5.fz 3
    have z4:=hm5.fz 4
    have z5:=hm5.fz 5
    have z6:=hm5.fz 6
    have z7:=hm5.fz 7
    go_wp2_with fail
    refine ⟨⟨k64,j+1,_,rfl,by have:=HKN.out.1;have:=HKN.out.2;omega,by omega,hm5.store,?_⟩,?_⟩
    · show _=_
      rw [pee,← HX.out,← HM.out,pa1,HKN.out.2,HKN.out.1,HT.out,show 64 * j+64 - 64 * j=64 by omega]
    · have:=HKN.out.1
      have:=HKN.out.2
      have:=HM0.out
      simp [intOf];omega
  · have hk64:(k:Int)=(T.size:Int):=by omega
    obtain rfl:j=m:=by omega
    rw [hk64]
    clear hlt hkj hk64 hjm hm1
    obtain ⟨X,hX⟩:∃ X:St,X=⟨A,B,C,D,E,F,G,H⟩:=⟨_,rfl⟩
    rw [← hX] at hm HX
    have h9:(wr.alloc (.cells (byteVals (List.replicate 32 0)).toArray 51)).heap[wr.heap.size]? =some (.cells (byteVals (List.replicate 32 0)).toArray 51 (0,0)):=heap_alloc_new _ _
    have hm9:=hm.upd ((Upd.refl [] wr).alloc (.cells (byteVals (List.replicate 32 0)).toArray 51))
    have hgt:w.heap.size+1<wr.heap.size:=(Array.getElem?_eq_some_iff.1 hm.hs).1
    have H9:=Lib.hid h9
    clear hX h9 hm
    generalize hg:wr.heap.size=g at *
    go_wp2_with fail
    go_loopw [7] (fun i wr=>∃ k:Nat,i=.int .i64 (k:Int)∧k≤32∧SumW w wr X∧Hid (wr.heap[g]? =some (.cells (byteVals ((outS X).take k ++ List.replicate (32 - k) 0)).toArray 51 (0,0)))) (fun i _=>32 - (intOf i).toNat)
    case atStart=>exact ⟨0,rfl,Nat.zero_le _,hm9,H9.out⟩
    case round =>
     clear hm9 H9 hg
     obtain ⟨k,rfl,hk,hm,HR9⟩:=hrel
     by_cases hlt:k<32
     · obtain ⟨j,hj⟩:∃ j,j=k / 4:=⟨_,rfl⟩
       obtain ⟨m4,hm4⟩:∃ m4,m4=k % 4:=⟨_,rfl⟩
       obtain ⟨m8,hm8⟩:∃ m8,m8=m4 * 8:=⟨_,rfl⟩
       obtain ⟨c8,hc8⟩:∃ c8,c8=8 * (3 - m4):=⟨_,rfl⟩
       have q1:=hm.st (k:=j) (by omega)
       obtain ⟨x,hx⟩:∃ x,x=X.l.getD j 0:=⟨_,rfl⟩
       rw [← hx] at q1
       have i1:IntKind.i64.wrap ((k:Int) / 4)=(j:Int):=by rw [pap (by omega) (by omega)];omega
       have i2:IntKind.i64.wrap ((k:Int) % 4)=(m4:Int):=by rw [pap (by omega) (by omega)];omega
       have i3:IntKind.i64.wrap ((m4:Int) * 8)=(m8:Int):=by rw [pap (by omega) (by omega)];omega
       have i4:IntKind.i64.wrap (24 - (m8:Int))=(c8:Int):=by rw [pap (by omega) (by omega)];omega
       have j8:(j:Int)<8:=by omega
       have k32:(k:Int)<32:=by omega
       have hk2:∃ v0,wr.cell? ⟨g,k,none⟩=some v0:=by
        rw [cell_of_row wr g k _ _ _ HR9.out]
        exact ⟨_,Array.getElem?_eq_getElem (by simp [byteVals,paR];omega)⟩
       obtain ⟨v0,hv0⟩:=hk2
       have hf0:wr.frozen? ⟨g,k,none⟩=false:=frozen_of_row wr g k _ _ HR9.out
       have h3:=heap_setCell_same wr g k _ _ (pbt (UInt8.ofNat (x.toNat / 2 ^ c8))) HR9.out
       rw [phl X k x c8 hlt (by rw [hx,hj]) (by rw [hc8,hm4])] at h3
       have H3:=Lib.hid h3
       have HK:=Lib.hid (And.intro hj (And.intro hm4 (And.intro hm8 hc8)))
       have HX9:=Lib.hid hx
       clear h3 hj hm4 hm8 hc8 hx
       go_wp2_with fail
       have hc9:8 * (3 - k % 4)=c8:=by have:=HK.out;omega
       rw [hc9]
       have hv9:Value.int .u8 ((x.toNat:Int) / 2 ^ c8 % 256)=pbt (UInt8.ofNat (x.toNat / 2 ^ c8)):=by
        show _=Value.int .u8 ((((UInt8.ofNat (x.toNat / 2 ^ c8)).toNat:Nat)):Int)
        have:(UInt8.ofNat (x.toNat / 2 ^ c8)).toNat=x.toNat / 2 ^ c8 % 256:=by simp
        rw [this]
        simp
       rw [hv9]
       have hnew:w.heap.size+1<g:=hgt
       refine ⟨⟨k+1,by go_num,by omega,⟨?_,?_,hm.up.setNew (by show w.heap.size≤g;omega) _⟩,H3.out⟩,by simp [intOf];omega⟩
       · rw [Below.heap_setCell _ _ _ _ (by show w.heap.size≠g;omega)];exact hm.hr
       · rw [Below.heap_setCell _ _ _ _ (by show w.heap.size+1≠g;omega)];exact hm.hs
     · have hk32:k=32:=by omega
       have hk33:(k:Int)=32:=by omega
       have hR9:=HR9.out
       rw [hk32,List.take_of_length_le (by rw [paR];omega),Nat.sub_self,List.replicate_zero,List.append_nil] at hR9
       have H10:=Lib.hid hR9
       rw [hk33]
       clear hlt hk hk32 hk33 hR9 HR9
       obtain ⟨cs,hcs⟩:∃ cs:Array Value,cs=(byteVals (outS X)).toArray:=⟨_,rfl⟩
       have hcz:cs.size=32:=by rw [hcs];simp [byteVals,paR]
       have hc1:cs.all (·.oneCell')=true:=by
        rw [Array.all_eq_true_iff_forall_mem]
        intro v hv
        rw [hcs] at hv
        exact paG _ v (by simpa using hv)
       have h10:=H10.out
       rw [← hcs] at h10
       have HCS:=Lib.hid hcs
       have HC1:=Lib.hid hc1
       have HCZ:=Lib.hid (And.intro hcz h10)
       have HHR:=Lib.hid hm.hr
       have HUP:=Lib.hid hm.up
       have HHR2:(wr.setRow w.heap.size cs).heap[w.heap.size]? =some (.cells cs 51 (0,0)):=setRow_heap wr w.heap.size _ _ _ _ hm.hr
       have HH2:=Lib.hid HHR2
       have hi32:(Tryz.prog.info? 51).map (·.size)=some cs.size:=by rw [hcz];kernel_rfl
       have HI:=Lib.hid hi32
       clear hcs hc1 hcz H10 h10 HHR2 hi32 hm
       go_wp2_with (first | (refine wpList_load_row rfl 51 _ rfl g rfl _ cs _ _ HCZ.out.2 Tryz.underlying51 rfl HI.out ?_) | (refine wpList_store_row rfl 51 _ _ rfl w.heap.size cs rfl rfl _ _ HHR.out HI.out (by rw [HCZ.out.1];simp [byteVals]) HC1.out ?_))
       refine bodyPost_ret (results_cell_row rfl _ _ w.heap.size _ cs _ _ rfl HH2.out Tryz.underlying51 rfl HI.out) rfl ⟨?_,HUP.out.setRowNew (Nat.le_refl _) cs⟩
       have hnj:(padS (bs s)).length / 64=j:=by
        have e1:=HTL.out
        have e2:=HM0.out
        omega
       rw [HRR.out,HCS.out,HX.out,sha,hnj]
theorem rResidue_any (a m:Int) (w:World) (_ha:-9223372036854775808≤a∧a≤9223372036854775807) (hm:1≤m∧m≤9223372036854775807) :
 Calls Tryz.prog 54 #[.int .i64 a,.int .i64 m] w (RetZ .i64 m (a % m) w):=by
 have e1:=Int.tmod_eq_emod (a:=a) (b:=m)
 have e3:=Int.emod_nonneg a (show m≠0 by omega)
 have e4:=Int.emod_lt_of_pos a (show 0<m by omega)
 have H1:=Lib.hid e1
 clear e1
 go_enter Tryz.func54,Tryz.ntmps54
 go_wp2_with fail
 · go_ret
   refine paP (by omega) ?_
   have h:=H1.out
   simp only [wrap64]
   split at h <;> omega
 · go_ret
   refine paP (by omega) ?_
   have h:=H1.out
   split at h <;> omega
theorem rplus_any (x y m:Int) (w:World) (hx:0≤x∧x<m) (hy:0≤y∧y<m) (hm:m≤9223372036854775807) :
 Calls Tryz.prog 112 #[.int .i64 x,.int .i64 y,.int .i64 m] w (RetZ .i64 m ((x+y) % m) w):=by
 go_enter Tryz.func112,Tryz.ntmps112
 go_wp2_with fail
 · go_ret
   refine paP (by omega) ?_
   rw [← Int.sub_emod_right (x+y) m,Int.emod_eq_of_lt (by omega) (by omega)]
   omega
 · go_ret
   refine paP (by omega) ?_
   rw [Int.emod_eq_of_lt (by omega) (by omega)]
theorem pjV (a b m:Int) (w:World) (ha:-9223372036854775808≤a∧a≤9223372036854775807) (hb:-9223372036854775808≤b∧b≤9223372036854775807) (hm:1≤m∧m≤9223372036854775807) :
 Calls Tryz.prog 49 #[.int .i64 a,.int .i64 b,.int .i64 m] w (RetZ .i64 m ((a+b) % m) w):=by
 go_enter Tryz.func49,Tryz.ntmps49
 go_wp2_with (first | (go_at_call 54;((with_reducible refine (rResidue_any a _ _ (by omega) (by omega)).mono ?_);rintro e w' ⟨x,HX,xa0,xa1,rfl,rfl⟩)) | (go_at_call 54;((with_reducible refine (rResidue_any b _ _ (by omega) (by omega)).mono ?_);rintro e w' ⟨y,HY,ya0,ya1,rfl,rfl⟩)) | (go_at_call 112;((with_reducible refine (rplus_any _ _ _ _ (by omega) (by omega) (by omega)).mono ?_);rintro e w' ⟨r,HR,r0,r1,rfl,rfl⟩)))
 go_ret
 refine paP (by omega) ?_
 rw [HR.out,HX.out,HY.out,← Int.add_emod]
theorem pme (x y:Int) (hx:0≤x∧x<2147483648) (hy:0≤y∧y<2147483648):0≤x * y∧x * y≤4611686018427387904:=by
 refine ⟨Int.mul_nonneg hx.1 hy.1,?_⟩
 have h1:x * y≤2147483648 * y:=Int.mul_le_mul_of_nonneg_right (by omega) hy.1
 omega
theorem pmf (o x m:Int) (j:Nat) (h:j % 2=1):((o+x) % m+(x+x) % m * ((j / 2:Nat):Int)) % m=(o+x * (j:Int)) % m:=by
 have e:(j:Int)=2 * ((j / 2:Nat):Int)+1:=by omega
 rw [Int.emod_add_emod,Int.add_emod,Int.mul_emod,Int.emod_emod,← Int.mul_emod,← Int.add_emod]
 congr 1
 conv=>rhs;rw [e]
 rw [Int.mul_add,Int.mul_one,← Int.two_mul,Int.mul_assoc,Int.mul_left_comm]
 omega
theorem pjW (o x m:Int) (j:Nat) (h:j % 2=0):(o+(x+x) % m * ((j / 2:Nat):Int)) % m=(o+x * (j:Int)) % m:=by
 have e:(j:Int)=2 * ((j / 2:Nat):Int):=by omega
 rw [Int.add_emod,Int.mul_emod,Int.emod_emod,← Int.mul_emod,← Int.add_emod]
 congr 1
 conv=>rhs;rw [e]
 rw [← Int.two_mul,Int.mul_assoc,Int.mul_left_comm]
theorem rMul_any (a b m:Int) (w:World) (ha:-9223372036854775808≤a∧a≤9223372036854775807) (hb:-9223372036854775808≤b∧b≤9223372036854775807) (hm:1≤m∧m≤9223372036854775807) :
 Calls Tryz.prog 55 #[.int .i64 a,.int .i64 b,.int .i64 m] w (RetZ .i64 m (a * b % m) w):=by
 go_enter Tryz.func55,Tryz.ntmps55
 go_upto_region 5 with (first | (go_at_call 54;((with_reducible refine (rResidue_any a _ _ (by omega) (by omega)).mono ?_);rintro e w' ⟨x,HX,xa0,xa1,rfl,rfl⟩)) | (go_at_call 54;((with_reducible refine (rResidue_any b _ _ (by omega) (by omega)).mono ?_);rintro e w' ⟨y,HY,ya0,ya1,rfl,rfl⟩)))
 have hmul:a * b % m=x * y % m:=by rw [HX.out,HY.out,← Int.mul_emod]
 have HM:=Lib.hid hmul
 clear hmul
 by_cases hs1:x<2147483648
 · by_cases hs2:y<2147483648
   · obtain ⟨p0,p1⟩:=pme x y ⟨xa0,hs1⟩ ⟨ya0,hs2⟩
     go_wp2_with fail
     go_ret
     refine paP (by omega) ?_
     rw [HM.out]
   · have hs3:2147483648≤y:=by omega
     clear hs2
     go_wp2_with fail
     obtain ⟨y,rfl⟩:∃ n:Nat,y=(n:Int):=⟨y.toNat,by omega⟩
     clear hs3
     go_loop [7,8,9] (fun u v r=>∃ (j:Nat) (x' o:Int),u=.int .i64 x'∧v=.int .i64 (j:Int)∧r=.int .i64 o∧(j:Int)<m∧(0≤x'∧x'<m)∧(0≤o∧o<m)∧Hid ((o+x' * (j:Int)) % m=x * (y:Int) % m)) (fun _ v _=>(intOf v).toNat)
     case atStart=>exact ⟨y,x,0,rfl,rfl,rfl,ya1,⟨xa0,xa1⟩,by omega,by show _=_;rw [Int.zero_add]⟩
     case round =>
      obtain ⟨j,x',o,rfl,rfl,rfl,hj,hx,ho,HP⟩:=hrel
      by_cases hlt:0<j
      · by_cases hb1:j % 2=1
        · have hbt:((j:Int) % 2 == 1)=true:=by rw [beq_iff_eq];omega
          have HB1:=Lib.hid hb1
          clear hb1
          go_wp2_with (go_at_call 112;first | ((with_reducible refine (rplus_any o x' _ _ (by omega) (by omega) (by omega)).mono ?_);rintro e w' ⟨r1,HR1,r10,r11,rfl,rfl⟩) | ((with_reducible refine (rplus_any x' x' _ _ (by omega) (by omega) (by omega)).mono ?_);rintro e w' ⟨r2,HR2,r20,r21,rfl,rfl⟩))
          refine ⟨⟨j / 2,r2,r1,rfl,by go_num,rfl,by omega,⟨r20,r21⟩,⟨r10,r11⟩,?_⟩,by simp [intOf];omega⟩
          show _=_
          rw [HR1.out,HR2.out,pmf o x' m j HB1.out,HP.out]
        · have hb0:j % 2=0:=by omega
          have hbt:((j:Int) % 2 == 1)=false:=by rw [beq_eq_false_iff_ne];omega
          have HB1:=Lib.hid hb0
          clear hb1 hb0
          go_wp2_with (go_at_call 112;((with_reducible refine (rplus_any x' x' _ _ (by omega) (by omega) (by omega)).mono ?_);rintro e w' ⟨r2,HR2,r20,r21,rfl,rfl⟩))
          refine ⟨⟨j / 2,r2,o,rfl,by go_num,rfl,by omega,⟨r20,r21⟩,ho,?_⟩,by simp [intOf];omega⟩
          show _=_
          rw [HR2.out,pjW o x' m j HB1.out,HP.out]
      · obtain rfl:j=0:=by omega
        go_wp2_with fail
        go_ret
        refine paP (by omega) ?_
        have h:=HP.out
        rw [Int.natCast_zero,Int.mul_zero,Int.add_zero,Int.emod_eq_of_lt ho.1 ho.2] at h
        rw [HM.out,h]
 · have hs3:2147483648≤x:=by omega
   clear hs1
   go_wp2_with fail
   obtain ⟨y,rfl⟩:∃ n:Nat,y=(n:Int):=⟨y.toNat,by omega⟩
   clear hs3
   go_loop [7,8,9] (fun u v r=>∃ (j:Nat) (x' o:Int),u=.int .i64 x'∧v=.int .i64 (j:Int)∧r=.int .i64 o∧(j:Int)<m∧(0≤x'∧x'<m)∧(0≤o∧o<m)∧Hid ((o+x' * (j:Int)) % m=x * (y:Int) % m)) (fun _ v _=>(intOf v).toNat)
   case atStart=>exact ⟨y,x,0,rfl,rfl,rfl,ya1,⟨xa0,xa1⟩,by omega,by show _=_;rw [Int.zero_add]⟩
   case round =>
    obtain ⟨j,x',o,rfl,rfl,rfl,hj,hx,ho,HP⟩:=hrel
    by_cases hlt:0<j
    · by_cases hb1:j % 2=1
      · have hbt:((j:Int) % 2 == 1)=true:=by rw [beq_iff_eq];omega
        have HB1:=Lib.hid hb1
        clear hb1
        go_wp2_with (go_at_call 112;first | ((with_reducible refine (rplus_any o x' _ _ (by omega) (by omega) (by omega)).mono ?_);rintro e w' ⟨r1,HR1,r10,r11,rfl,rfl⟩) | ((with_reducible refine (rplus_any x' x' _ _ (by omega) (by omega) (by omega)).mono ?_);rintro e w' ⟨r2,HR2,r20,r21,rfl,rfl⟩))
        refine ⟨⟨j / 2,r2,r1,rfl,by go_num,rfl,by omega,⟨r20,r21⟩,⟨r10,r11⟩,?_⟩,by simp [intOf];omega⟩
        show _=_
        rw [HR1.out,HR2.out,pmf o x' m j HB1.out,HP.out]
      · have hb0:j % 2=0:=by omega
        have hbt:((j:Int) % 2 == 1)=false:=by rw [beq_eq_false_iff_ne];omega
        have HB1:=Lib.hid hb0
        clear hb1 hb0
        go_wp2_with (go_at_call 112;((with_reducible refine (rplus_any x' x' _ _ (by omega) (by omega) (by omega)).mono ?_);rintro e w' ⟨r2,HR2,r20,r21,rfl,rfl⟩))
        refine ⟨⟨j / 2,r2,o,rfl,by go_num,rfl,by omega,⟨r20,r21⟩,ho,?_⟩,by simp [intOf];omega⟩
        show _=_
        rw [HR2.out,pjW o x' m j HB1.out,HP.out]
    · obtain rfl:j=0:=by omega
      go_wp2_with fail
      go_ret
      refine paP (by omega) ?_
      have h:=HP.out
      rw [Int.natCast_zero,Int.mul_zero,Int.add_zero,Int.emod_eq_of_lt ho.1 ho.2] at h
      rw [HM.out,h]
theorem pjX (a m:Int) (n:Nat) (w:World) (ha:-9223372036854775808≤a∧a≤9223372036854775807) (hn:n≤9223372036854775807) (hm:1≤m∧m≤9223372036854775807) :
 Calls Tryz.prog 22 #[.int .i64 a,.int .i64 (n:Int),.int .i64 m] w (RetZ .i64 m (powZ a n m) w):=by
 go_enter Tryz.func22,Tryz.ntmps22
 go_wp2_with (go_at_call 54;first | ((with_reducible refine (rResidue_any 1 _ _ (by omega) (by omega)).mono ?_);rintro e w' ⟨u,HU,u0,u1,rfl,rfl⟩) | ((with_reducible refine (rResidue_any _ _ _ (by omega) (by omega)).mono ?_);rintro e w' ⟨x,HX,xa0,xa1,rfl,rfl⟩))
 go_loop [7,8,1] (fun r b i=>∃ (j:Nat) (x p:Int),b=.int .i64 x∧i=.int .i64 (j:Int)∧r=.int .i64 p∧j≤9223372036854775807∧(0≤x∧x<m)∧0≤p∧p<m∧Hid (p * x ^ j % m=a ^ n % m)) (fun _ _ i=>(intOf i).toNat)
 case atStart=>exact ⟨n,x,u,rfl,rfl,rfl,hn,⟨xa0,xa1⟩,u0,u1,by show _=_;rw [HU.out,HX.out,Int.mul_emod,Int.emod_emod,peD,← Int.mul_emod,Int.one_mul]⟩
 case round =>
  obtain ⟨j,x,p,rfl,rfl,rfl,hj,hx,hp0,hp1,HP⟩:=hrel
  by_cases hlt:0<j
  · by_cases hb1:j % 2=1
    · have hbt:((j:Int) % 2 == 1)=true:=by rw [beq_iff_eq];omega
      have HB1:=Lib.hid hb1
      clear hb1
      go_wp2_with (go_at_call 55;first | ((with_reducible refine (rMul_any p x m _ (by omega) (by omega) (by omega)).mono ?_);rintro e w' ⟨r1,HR1,r10,r11,rfl,rfl⟩) | ((with_reducible refine (rMul_any x x m _ (by omega) (by omega) (by omega)).mono ?_);rintro e w' ⟨r2,HR2,r20,r21,rfl,rfl⟩))
      refine ⟨⟨j / 2,r2,r1,rfl,by go_num,rfl,by omega,⟨r20,r21⟩,r10,r11,?_⟩,by simp [intOf];omega⟩
      show _=_
      rw [HR2.out,HR1.out,pow_odd p x m j HB1.out,HP.out]
    · have hb0:j % 2=0:=by omega
      have hbt:((j:Int) % 2 == 1)=false:=by rw [beq_eq_false_iff_ne];omega
      have HB1:=Lib.hid hb0
      clear hb1 hb0
      go_wp2_with (go_at_call 55;((with_reducible refine (rMul_any x x m _ (by omega) (by omega) (by omega)).mono ?_);rintro e w' ⟨r2,HR2,r20,r21,rfl,rfl⟩))
      refine ⟨⟨j / 2,r2,p,rfl,by go_num,rfl,by omega,⟨r20,r21⟩,hp0,hp1,?_⟩,by simp [intOf];omega⟩
      show _=_
      rw [HR2.out,pow_even p x m j HB1.out,HP.out]
  · obtain rfl:j=0:=by omega
    go_wp2_with fail
    go_ret
    refine ⟨p,?_,hp0,hp1,rfl,rfl⟩
    have h:=HP.out
    rw [Int.pow_zero,Int.mul_one,Int.emod_eq_of_lt hp0 hp1] at h
    exact h
theorem poe (a b M:Nat) (hb:b<256) (hM:0<M):(a * 256+b) % (M * 256)=(a % M) * 256+b:=by
 have h1:=Nat.div_add_mod a M
 have h2:=Nat.mod_lt a hM
 have e:a * 256+b=(a % M * 256+b)+M * 256 * (a / M):=by
  have:a * 256=M * (a / M) * 256+a % M * 256:=by rw [← Nat.add_mul,h1]
  rw [this,Nat.mul_right_comm]
  omega
 rw [e,Nat.add_mul_mod_self_left,Nat.mod_eq_of_lt]
 have:(a % M+1) * 256≤M * 256:=Nat.mul_le_mul_right _ h2
 omega
def accR (h:List UInt8) (k:Nat):Nat:=acc8 h k % (128 * 256 ^ (k - 1))
theorem pmg (h:List UInt8) (k:Nat) (hk:1≤k):accR h (k+1)=accR h k * 256+(h.getD k 0).toNat:=by
 unfold accR
 have hb:=(h.getD k 0).toNat_lt
 have hM:0<128 * 256 ^ (k - 1):=Nat.mul_pos (by omega) (Nat.pow_pos (by omega))
 have e:128 * 256 ^ (k+1 - 1)=(128 * 256 ^ (k - 1)) * 256:=by
  rw [Nat.mul_assoc,← Nat.pow_succ]
  congr 2
  omega
 rw [e,acc8,poe _ _ _ (by omega) hM]
theorem pof (h:List UInt8):accR h 1=(h.getD 0 0).toNat % 128:=by
 unfold accR
 simp [acc8]
theorem pmh (h:List UInt8) (k:Nat):accR h k<128 * 256 ^ (k - 1):=Nat.mod_lt _ (Nat.mul_pos (by omega) (Nat.pow_pos (by omega)))
theorem pog (h:List UInt8):accR h 8=numN h:=rfl
set_option maxHeartbeats 1000000 in
theorem pfc (h:List UInt8) (hl:h.length=32) (w:World) :
 Calls Tryz.prog 117 #[.agg (byteVals h).toArray] w (MkN 9223372036854775808 (numN h) w):=by
 obtain ⟨cs,hcs⟩:∃ cs:Array Value,cs=(byteVals h).toArray:=⟨_,rfl⟩
 rw [← hcs]
 have hcell:∀ k,k<32→(w.alloc (.cells cs 51)).cell? ⟨w.heap.size,k,none⟩=some (.int .u8 ((h.getD k 0).toNat:Int)):=by
  intro k hk
  rw [cell_of_row _ w.heap.size k cs 51 (0,0) (heap_alloc_new _ _),hcs]
  simp [byteVals,pbt,List.getD,show k<h.length by omega]
 have HCELL:=Lib.hid hcell
 have HCS:=Lib.hid hcs
 have hu0:Upd [] [] w (w.alloc (.cells cs 51)):=(Upd.refl _ _).alloc _
 have c0:=hcell 0 (by omega)
 obtain ⟨B0,hB0⟩:∃ b,b=h.getD 0 0:=⟨_,rfl⟩
 rw [← hB0] at c0
 have b0:=B0.toNat_lt
 have HB0:=Lib.hid hB0
 clear hcell hcs hB0
 go_enter Tryz.func117,Tryz.ntmps117
 go_wp2_with fail
 generalize w.alloc (.cells cs 51)=W at *
 clear c0
 have hz1:B0.toNat % 128<128:=Nat.mod_lt _ (by omega)
 go_loop [3,4] (fun n i=>∃ (k z:Nat),i=.int .i64 (k:Int)∧1≤k∧k≤8∧n=.int .i64 (z:Int)∧Hid (z=accR h k)) (fun _ i=>8 - (intOf i).toNat)
 case atStart=>exact ⟨1,B0.toNat % 128,rfl,by omega,by omega,by first | rfl | simp,by show _=_;rw [pof h,HB0.out]⟩
 case round =>
  clear hz1 b0
  obtain ⟨k,z,rfl,hk1,hk,rfl,HZ⟩:=hrel
  by_cases hlt:k<8
  · have c:=HCELL.out k (by omega)
    have hst:=pmg h k hk1
    obtain ⟨b,hb⟩:∃ b,b=h.getD k 0:=⟨_,rfl⟩
    rw [← hb] at c hst
    have hb8:=b.toNat_lt
    have hz:z<36028797018963968:=by
     have h1:=pmh h k
     rw [← HZ.out] at h1
     have:256 ^ (k - 1)≤256 ^ 6:=Nat.pow_le_pow_right (by omega) (by omega)
     have e:(256:Nat) ^ 6=281474976710656:=by decide
     omega
    have HST:=Lib.hid hst
    clear hb hst
    have k8:(k:Int)<32:=by omega
    go_wp2_with fail
    exact ⟨⟨k+1,z * 256+b.toNat,by go_num,by omega,by omega,by go_num,by show _=_;rw [HST.out,HZ.out]⟩,by simp [intOf];omega⟩
  · have hk8:k=8:=by omega
    have hki:(k:Int)=8:=by omega
    rw [hk8] at HZ
    rw [hki]
    clear hlt hk hk1 hk8 hki
    have hzl:z<9223372036854775808:=by
     have h1:=pmh h 8
     rw [← HZ.out] at h1
     have e:(128:Nat) * 256 ^ (8 - 1)=9223372036854775808:=by decide
     omega
    go_wp2_with fail
    go_ret
    exact ⟨z,by show _=_;rw [HZ.out,pog],hzl,rfl,hu0⟩
theorem pcI (x:Int) (w:World) (_hx:-9223372036854775808≤x∧x≤9223372036854775807) :
 Calls Tryz.prog 116 #[.int .i64 x] w (fun e w'=>∃ r:Nat,Hid (r=expN x)∧r<1152921504606845789∧e=.returned (.int .i64 (r:Int))∧w=w'):=by
 have e1:=Int.tmod_eq_emod (a:=x) (b:=1152921504606845789)
 have e2:=pe2 x
 have H1:=Lib.hid (And.intro e1 e2)
 clear e1 e2
 have hlt:=pgC x
 go_enter Tryz.func116,Tryz.ntmps116
 go_wp2_with fail
 all_goals go_ret
 all_goals refine ⟨expN x,rfl,hlt,pgw ?_,rfl⟩
 all_goals have h:=H1.out
 all_goals obtain ⟨h1,h2⟩:=h
 all_goals first | simp only [wrap64] | skip
 all_goals split at h1 <;> omega
theorem pdE:∃ i,Tryz.prog.info? 5=some i∧i.zero=some (.int .u8 0)∧i.size=1∧i.bytes=1:=by
 have h:(Tryz.prog.info? 5).map (fun i=>(i.zero,i.size,i.bytes))=some (some (.int .u8 0),1,1):=by kernel_rfl
 obtain ⟨i,hi,he⟩:=Option.map_eq_some_iff.1 h
 simp only [Prod.mk.injEq] at he
 exact ⟨i,hi,he.1,he.2.1,he.2.2⟩
set_option maxHeartbeats 1000000 in
theorem pd0 (n:Nat) (w:World) (_hn:n≤9223372036854775807):Calls Tryz.prog 122 #[.int .i64 (n:Int)] w (MkS (len8 n) w):=by
 go_enter Tryz.func122,Tryz.ntmps122
 go_wp2_with fail
 go_loopw [3,4] (fun t i wr=>∃ (k:Nat) (z:Int),i=.int .i64 z∧z=7 - (k:Int)∧k≤8∧Hid (wr.ownsRow 0 5 1 t k (byteVals ((len8 n).take k)))∧Hid (Upd [] (foot t) w wr)) (fun _ i _=>(intOf i+1).toNat)
 case atStart=>exact ⟨0,7,rfl,rfl,Nat.zero_le _,⟨by simp [byteVals],.inl ⟨rfl,rfl⟩⟩,Upd.refl _ _⟩
 case round =>
  obtain ⟨k,z,rfl,hz,hk,HR,HU⟩:=hrel
  by_cases hlt:k<8
  · obtain ⟨m,rfl⟩:∃ m:Nat,z=(m:Int):=⟨7 - k,by omega⟩
    obtain ⟨b,hb⟩:∃ b,b=UInt8.ofNat (n / 2 ^ (8 * m)):=⟨_,rfl⟩
    have hb1:(n:Int) / 2 ^ (8 * m) % 256=(b.toNat:Int):=by
     have:(UInt8.ofNat (n / 2 ^ (8 * m))).toNat=n / 2 ^ (8 * m) % 256:=by simp
     rw [hb,this]
     simp
    have hm7:m≤7:=by omega
    have hl:(len8 n).take (k+1)=(len8 n).take k ++ [b]:=by
     rw [List.take_succ_eq_append_getElem (by rw [pas];omega)]
     congr 1
     rw [hb]
     have hm:m=7 - k:=by omega
     simp [len8,hm]
    have HL:=Lib.hid hl
    have HMZ:=Lib.hid hz
    have hown:=HR.out
    have hup:=HU.out
    have hrow:(wr.alloc (.cells #[.int .u8 (b.toNat:Int)] 5)).ownsRow 0 5 1 u3 k (byteVals ((len8 n).take k)):=pai hown (fun j hj=>Below.heap_alloc _ _ _ (paf hown j hj))
    have hw1:(wr.alloc (.cells #[.int .u8 (b.toNat:Int)] 5)).heap[wr.heap.size]? =some (.cells #[.int .u8 (b.toNat:Int)] 5 (0,0)):=heap_alloc_new _ _
    obtain ⟨iu,u1,u2,u3',u4⟩:=pdE
    obtain ⟨v',w',hrun,hown',hup'⟩:=paY (P:=Tryz.prog) (wr.alloc (.cells #[.int .u8 (b.toNat:Int)] 5)) 124 124 5 iu (.int .u8 0) 1 1 Tryz.underlying124 u1 u2 u3' u4 rfl (by omega) u3 k _ hrow ⟨wr.heap.size,0,none⟩ 1 1 [pbt b] rfl (by
     intro j u hj
     have:j=0:=by
      cases j with
      | zero=>rfl
      | succ j=>simp at hj
     subst this
     simp only [List.getElem?_cons_zero,Option.some.injEq] at hj
     subst hj
     have e:(⟨wr.heap.size,0,none⟩:Addr).add 0=⟨wr.heap.size,0,none⟩:=by simp [Addr.add]
     rw [e,cell_of_row _ _ _ _ _ _ hw1]
     rfl) (paG [b]) (by omega) (by simp only [maxLen];omega)
    have HRUN:=Lib.hid hrun
    have HOWN:=Lib.hid hown'
    have HUP:=Lib.hid ((hup.alloc (.cells #[.int .u8 (b.toNat:Int)] 5)).trans hup')
    clear u1 u2 u3' u4
    clear hb hz hl hown hup hrow hw1 hrun hown' hup' HR HU
    go_wp2_with (refine wpList_append_run _ rfl _ _ _ _ rfl _ _ v' w' rfl rfl HRUN.out ?_)
    refine ⟨⟨k+1,_,rfl,?_,by omega,?_,HUP.out⟩,?_⟩
    · have:=HMZ.out;omega
    · show World.ownsRow _ _ _ _ _ _ _
      rw [HL.out,pa8]
      exact HOWN.out
    · first | (simp [intOf];done) | (simp [intOf];omega)
  · obtain rfl:z=-1:=by omega
    have hk8:k=8:=by omega
    have hown:=HR.out
    rw [hk8,List.take_of_length_le (by rw [pas];omega)] at hown
    have hcv:=pdx (P:=Tryz.prog) wr 124 9 5 Tryz.underlying124 Tryz.underlying5 Tryz.underlying9 u3 (len8 n) (by rw [pas];exact hown)
    have HCV:=Lib.hid hcv
    clear hlt hz hk hk8 hown hcv HR
    go_wp2_with fail
    rw [HCV.out]
    go_wp2_with fail
    go_ret
    exact ⟨⟨(len8 n).toArray⟩,rfl,Nat.le_refl _,rfl,HU.out.mono (fun _ h=>h) (fun _ h=>absurd h (by simp))⟩
theorem pbD (s:ByteArray) (w:World) (hs:s.size≤281474976710000) :
 Calls Tryz.prog 57 #[.string s] w (MkN 1152921504606845789 (pc9 (bs s)) w):=by
 go_enter Tryz.func57,Tryz.ntmps57
 go_wp2_with fail
 refine (pgL _ w (by have:(ByteArray.mk #[115,47]).size=2:=rfl;simp [ByteArray.size_append];omega)).mono ?_
 rintro e w1 ⟨rfl,hu1⟩
 have hb:bs (⟨#[115,47]⟩ ++ s)=[115,47] ++ bs s:=by rw [pae];rfl
 rw [hb]
 clear hb
 obtain ⟨h,hh⟩:∃ h,h=sha ([115,47] ++ bs s):=⟨_,rfl⟩
 have hl:h.length=32:=by rw [hh,pcf]
 rw [← hh]
 obtain ⟨cs,hcs⟩:∃ cs:Array Value,cs=(byteVals h).toArray:=⟨_,rfl⟩
 rw [← hcs]
 have HH:=Lib.hid hh
 have HL:=Lib.hid hl
 have HCS:=Lib.hid hcs
 clear hh hl hcs
 go_wp2_with fail
 rw [HCS.out]
 refine (pfc h HL.out w1).mono ?_
 rintro e w2 ⟨r,HR,hr,rfl,hu2⟩
 go_wp2_with fail
 go_ret
 refine ⟨r % 1152921504606845789,?_,Nat.mod_lt _ (by omega),?_,hu1.trans hu2⟩
 · show _=_
   rw [pc9,HR.out,HH.out]
 · first | rfl | simp
theorem pdF (s:ByteArray) (w:World) (hs:s.size≤281474976710000) :
 Calls Tryz.prog 51 #[.string s] w (fun e w'=>∃ r:Nat,Hid (r=posN (pc9 (bs s)))∧0<r∧r<1152921504606845789∧e=.returned (.int .i64 (r:Int))∧Upd [] [] w w'):=by
 go_enter Tryz.func51,Tryz.ntmps51
 go_wp2_with fail
 refine (pbD s w hs).mono ?_
 rintro e w1 ⟨r,HR,hr,rfl,hu⟩
 go_wp2_with fail
 go_ret
 have hp:posN r=max r 1:=by unfold posN;split <;> omega
 refine ⟨posN r,by show _=_;rw [HR.out],pjM r,piN hr,?_,hu⟩
 exact pgw (by rw [hp];omega)
theorem pcJ (a n:Nat) (m:Int) (w:World) (ha:a≤9223372036854775807) (hn:n≤9223372036854775807) (hm:m=2305843009213691579) :
 Calls Tryz.prog 22 #[.int .i64 (a:Int),.int .i64 (n:Int),.int .i64 m] w (fun e w'=>∃ r:Nat,Hid (r=a ^ n % Pn)∧r<2305843009213691579∧e=.returned (.int .i64 (r:Int))∧w=w'):=by
 subst hm
 refine (pjX a 2305843009213691579 n w (by omega) hn (by omega)).mono ?_
 rintro e w1 ⟨r,HR,r0,r1,rfl,rfl⟩
 obtain ⟨m,rfl⟩:∃ m:Nat,r=(m:Int):=⟨r.toNat,by omega⟩
 refine ⟨m,?_,by omega,rfl,rfl⟩
 show _=_
 have h:=HR.out
 rw [pbW] at h
 omega
theorem pf3 (x:Int) (w:World) (hx:-9223372036854775808≤x∧x≤9223372036854775807) :
 Calls Tryz.prog 52 #[.int .i64 x] w (fun e w'=>∃ r:Nat,Hid (r=gP (expN x))∧r<2305843009213691579∧e=.returned (.int .i64 (r:Int))∧w=w'):=by
 go_enter Tryz.func52,Tryz.ntmps52
 go_wp2_with fail
 refine (pcI x w hx).mono ?_
 rintro e w1 ⟨n,HN,hn,rfl,rfl⟩
 go_wp2_with fail
 refine (pcJ 4 n _ w (by omega) (by omega) rfl).mono ?_
 rintro e w1 ⟨r,HR,hr,rfl,rfl⟩
 go_wp2_with fail
 go_ret
 exact ⟨r,by show _=_;rw [HR.out,HN.out,gP],hr,rfl,rfl⟩
theorem pjY (s:ByteArray) (w:World) (hs:s.size≤140737488355000) :
 Calls Tryz.prog 20 #[.string s] w (pqE 1152921504606845789 2305843009213691579 (keyN (bs s)) (gP (keyN (bs s))) w):=by
 go_enter Tryz.func20,Tryz.ntmps20
 go_wp2_with fail
 refine (pdF _ w (by have:(ByteArray.mk #[107]).size=1:=rfl;simp [ByteArray.size_append];omega)).mono ?_
 rintro e w1 ⟨r,HR,hr0,hr,rfl,hu1⟩
 have e1:r=keyN (bs s):=by
  rw [HR.out,pae,keyN]
  rfl
 have HE:=Lib.hid e1
 clear e1
 go_wp2_with fail
 refine (pf3 r w1 (by omega)).mono ?_
 rintro e w2 ⟨y,HY,hy,rfl,rfl⟩
 go_wp2_with fail
 go_ret2
 have e2:expN (r:Int)=r:=pgD hr
 exact ⟨r,y,HE.out,by show _=_;rw [HY.out,e2,HE.out],hr,hy,rfl,hu1⟩
theorem pfE (r p:Nat) (t:ByteArray) (w:World) (hr:r≤9223372036854775807) (hp:p≤9223372036854775807) (ht:t.size≤140737488355000) :
 Calls Tryz.prog 165 #[.int .i64 (r:Int),.int .i64 (p:Int),.string t] w (MkN 1152921504606845789 (pcF r p (bs t)) w):=by
 have h99:(ByteArray.mk #[99]).size=1:=rfl
 go_enter Tryz.func165,Tryz.ntmps165
 go_wp2_with fail
 refine (pd0 r w hr).mono ?_
 rintro e w1 ⟨b1,HB1,b1l,rfl,hu1⟩
 rw [pas] at b1l
 go_wp2_with fail
 refine (pd0 p w1 hp).mono ?_
 rintro e w2 ⟨b2,HB2,b2l,rfl,hu2⟩
 rw [pas] at b2l
 have hu:=hu1.trans hu2
 go_wp2_with fail
 refine (pbD _ w2 (by simp [ByteArray.size_append];omega)).mono ?_
 rintro e w3 ⟨c,HC,hc,rfl,hu3⟩
 go_wp2_with fail
 go_ret
 refine ⟨c,?_,hc,rfl,hu.trans hu3⟩
 show _=_
 rw [HC.out,pae,pae,pae,HB1.out,HB2.out,pcF]
 rfl
def phC (n:Nat) (w:World) (e:Ending) (w':World):Prop:=∃ r:ByteArray,Hid (bs r=be n)∧e=.returned (.string r)∧w=w'
def pdb (n:Nat) (w:World) (e:Ending) (w':World):Prop:=∃ r:ByteArray,Hid (bs r=be n)∧e=.returned (.string r)∧Upd [] [] w w'
theorem piT {b:UInt8} (h:(b.toNat:Int)=0):b=0:=UInt8.toNat_inj.1 (by have:(0:UInt8).toNat=0:=rfl;omega)
theorem pf4 (s:ByteArray) (k:Nat) (h:k<s.size):(bs s)[k]? =some s[k]:=by
 have:k<(bs s).length:=h
 rw [List.getElem?_eq_getElem this];rfl
theorem pjZ (s:ByteArray) (h:0<s.size):bs s=s[0] :: (bs s).drop 1:=by
 have h2:0<(bs s).length:=h
 exact List.drop_eq_getElem_cons h2
theorem paU (s:ByteArray) (w:World) (hs:s.size≤1000000000000):Calls Tryz.prog 65 #[.string s] w (phC (natB (bs s)) w):=by
 go_enter Tryz.func65,Tryz.ntmps65
 go_wp2_with fail
 go_loop [3] (fun i=>∃ k:Nat,i=.int .i64 (k:Int)∧k≤s.size∧Hid (pbR ((bs s).drop k)=pbR (bs s))) (fun i=>s.size - (intOf i).toNat)
 case atStart=>exact ⟨0,rfl,Nat.zero_le _,rfl⟩
 case round =>
  obtain ⟨k,rfl,hk,HK⟩:=hrel
  by_cases hlt:k<s.size
  · by_cases h0:(s[k].toNat:Int)=0
    · have hb:((s[k].toNat:Int) == 0)=true:=by rw [beq_iff_eq];exact h0
      have hst:pbR ((bs s).drop (k+1))=pbR (bs s):=by
       rw [← pfZ (by rw [pf4 s k hlt,piT h0]),HK.out]
      have HST:=Lib.hid hst
      clear hst h0
      go_wp2_with fail
      exact ⟨⟨k+1,by go_num,by omega,HST.out⟩,by simp [intOf];omega⟩
    · have hb:((s[k].toNat:Int) == 0)=false:=by rw [beq_eq_false_iff_ne];exact h0
      have hst:(bs s).drop k=be (natB (bs s)):=by
       rw [← peI,← HK.out,pf0 (pf4 s k hlt) (fun e=>h0 (by rw [e];rfl))]
      have HST:=Lib.hid hst
      clear hst h0
      go_wp2_with fail
      go_ret
      refine ⟨s.extract k s.size,?_,rfl,rfl⟩
      show _=_
      rw [pa1,HST.out,← HST.out,List.take_of_length_le (by simp [pac])]
  · obtain rfl:k=s.size:=by omega
    have hst:be (natB (bs s))=[]:=by
     rw [← peI,← HK.out,List.drop_of_length_le (by simp [pac])]
     rfl
    have HST:=Lib.hid hst
    clear hst
    go_wp2_with fail
    go_ret
    refine ⟨ByteArray.empty,?_,rfl,rfl⟩
    show _=_
    rw [HST.out]
    rfl
theorem paq {r:ByteArray} {x:Nat} (h:bs r=be x):r.size=(be x).length:=by rw [← h,pac]
set_option maxHeartbeats 1000000 in
theorem piU (s:ByteArray) (x:Nat) (w:World) (hs:s.size≤1000000000000) (hx:x=natB (bs s)) (hb:x<9223372036854775808) :
 Calls Tryz.prog 67 #[.string s] w (fun e w'=>e=.returned (.tuple #[.int .i64 (x:Int),.bool true])∧w=w'):=by
 have HX:=Lib.hid hx
 clear hx
 go_enter Tryz.func67,Tryz.ntmps67
 go_wp2_with fail
 refine (paU s w hs).mono ?_
 rintro e w' ⟨r,HR,rfl,rfl⟩
 have hr:bs r=be x:=by rw [HR.out,HX.out]
 have hl:r.size≤8:=by
  rw [paq hr]
  exact paE 8 x (Nat.lt_trans hb (by decide))
 have HRR:=Lib.hid hr
 clear HR
 have hnat:natB (bs r)=x:=by rw [hr,paK]
 have HN:=Lib.hid hnat
 clear hr
 by_cases h8:r.size=8
 case' pos =>
  have hg:0<r.size:=by omega
  have h0:(r[0]'hg).toNat≤127:=by
   have h1:=pe7 (r[0]'hg) ((bs r).drop 1)
   have h2:=pjZ r hg
   have h3:(bs r).length=8:=h8
   rw [← h2,hnat,List.length_drop,h3] at h1
   have e:(256:Nat) ^ (8 - 1)=72057594037927936:=by decide
   rw [e] at h1
   omega
  have hb8:((r.size:Int) == 8)=true:=by rw [beq_iff_eq];omega
 case' neg =>
  have hb8:((r.size:Int) == 8)=false:=by rw [beq_eq_false_iff_ne];omega
 all_goals
  clear hnat h8
  go_wp2_with fail
  go_loop [4,5] (fun n i=>∃ k m:Nat,n=.int .i64 (m:Int)∧i=.int .i64 (k:Int)∧k≤r.size∧m≤x∧Hid (m=natB ((bs r).take k))) (fun _ i=>r.size - (intOf i).toNat)
  case atStart=>exact ⟨0,0,rfl,rfl,Nat.zero_le _,Nat.zero_le _,rfl⟩
  case round =>
   obtain ⟨k,m,rfl,rfl,hk,hm,HM⟩:=hrel
   by_cases hlt:k<r.size
   · have hst:natB ((bs r).take (k+1))=m * 256+r[k].toNat:=by
      rw [pdD (pf4 r k hlt),pbk,← HM.out]
     have hle:m * 256+r[k].toNat≤x:=by
      rw [← hst,← HN.out]
      exact phy _ _
     have HST:=Lib.hid hst
     have h1:(m:Int) * 256≤9223372036854775807:=by omega
     have h2:(m:Int) * 256+(r[k].toNat:Int)≤9223372036854775807:=by omega
     clear hst
     go_wp2_with fail
     exact ⟨⟨k+1,m * 256+r[k].toNat,by go_num,by go_num,by omega,hle,HST.out.symm⟩,by simp [intOf];omega⟩
   · obtain rfl:k=r.size:=by omega
     have hmx:m=x:=by rw [HM.out,List.take_of_length_le (by simp [pac]),HN.out]
     have HMX:=Lib.hid hmx
     clear hmx
     go_wp2_with fail
     go_ret2
     refine ⟨?_,rfl⟩
     rw [HMX.out]
     rfl
theorem pgM (s:ByteArray) (x:Nat) (w:World) (hs:s.size≤1000000000000) (hx:x=natB (bs s)) (hb:(be x).length≤7) :
 Calls Tryz.prog 68 #[.string s,.int .i64 7] w (fun e w'=>e=.returned (.tuple #[.int .i64 (x:Int),.bool true])∧w=w'):=by
 have HX:=Lib.hid hx
 clear hx
 have hlt:x<9223372036854775808:=by
  have:=pcW hb
  have e:(256:Nat) ^ 7=72057594037927936:=by decide
  omega
 go_enter Tryz.func68,Tryz.ntmps68
 go_wp2_with fail
 refine (paU s w hs).mono ?_
 rintro e w' ⟨r,HR,rfl,rfl⟩
 have hl:r.size≤7:=by
  have:=paq HR.out
  rw [← HX.out] at this
  omega
 clear hb
 go_wp2_with fail
 refine (piU s x w hs HX.out hlt).mono ?_
 rintro e w' ⟨rfl,rfl⟩
 go_wp2_with fail
 go_ret2
 exact ⟨rfl,rfl⟩
theorem pmi (s:ByteArray) (x:Nat) (w:World) (hs:s.size≤1000000000000) (hx:x=natB (bs s)) (hb:7<(be x).length) :
 Calls Tryz.prog 68 #[.string s,.int .i64 7] w (fun e w'=>e=.returned (.tuple #[.int .i64 0,.bool false])∧w=w'):=by
 have HX:=Lib.hid hx
 clear hx
 go_enter Tryz.func68,Tryz.ntmps68
 go_wp2_with fail
 refine (paU s w hs).mono ?_
 rintro e w' ⟨r,HR,rfl,rfl⟩
 have hl:7<r.size:=by
  have:=paq HR.out
  rw [← HX.out] at this
  omega
 clear hb
 go_wp2_with fail
 go_ret2
 exact ⟨rfl,rfl⟩
set_option maxHeartbeats 1000000 in
theorem of_int (n:Nat) (w:World) (hn:n<9223372036854775808):Calls Tryz.prog 28 #[.int .i64 (n:Int)] w (pdb n w):=by
 by_cases h0:0<n
 case neg =>
  obtain rfl:n=0:=by omega
  go_enter Tryz.func28,Tryz.ntmps28
  go_wp2_with fail
  go_loop [3,4] (fun t i=>t=.slice none 0 0∧i=.int .i64 56) (fun _ _=>0)
  case atStart=>exact ⟨rfl,rfl⟩
  case round =>
   obtain ⟨rfl,rfl⟩:=hrel
   have hcv:=pdx (P:=Tryz.prog) w 124 57 5 Tryz.underlying124 Tryz.underlying5 Tryz.underlying57 (.slice none 0 0) [] (World.ownsRow_nil _ _ _ _)
   have HCV:=Lib.hid hcv
   clear hcv
   go_wp2_with fail
   rw [HCV.out]
   go_wp2_with fail
   refine (paU _ w (by decide)).mono ?_
   rintro e w' ⟨r,HR,rfl,rfl⟩
   go_wp2_with fail
   go_ret
   exact ⟨r,HR,rfl,Upd.refl _ _⟩
 go_enter Tryz.func28,Tryz.ntmps28
 go_wp2_with fail
 go_loopw [3,4] (fun t i wr=>∃ (k:Nat) (z:Int),i=.int .i64 z∧z=56 - 8 * (k:Int)∧k≤8∧Hid (wr.ownsRow 0 5 1 t k (byteVals ((len8 n).take k)))∧Hid (Upd [] (foot t) w wr)) (fun _ i _=>(intOf i+8).toNat)
 case atStart=>exact ⟨0,56,rfl,rfl,Nat.zero_le _,⟨by simp [byteVals],.inl ⟨rfl,rfl⟩⟩,Upd.refl _ _⟩
 case round =>
  obtain ⟨k,z,rfl,hz,hk,HR,HU⟩:=hrel
  by_cases hlt:k<8
  · obtain ⟨m,rfl⟩:∃ m:Nat,z=(m:Int):=⟨(56 - 8 * k),by omega⟩
    obtain ⟨b,hb⟩:∃ b,b=UInt8.ofNat (n / 2 ^ m):=⟨_,rfl⟩
    have hb1:(n:Int) / 2 ^ m % 256=(b.toNat:Int):=by
     have:(UInt8.ofNat (n / 2 ^ m)).toNat=n / 2 ^ m % 256:=by simp
     rw [hb,this]
     simp
    have hm7:m≤56:=by omega
    have hl:(len8 n).take (k+1)=(len8 n).take k ++ [b]:=by
     rw [List.take_succ_eq_append_getElem (by rw [pas];omega)]
     congr 1
     rw [hb]
     have hm:m=8 * (7 - k):=by omega
     simp [len8,hm]
    have HL:=Lib.hid hl
    have HMZ:=Lib.hid hz
    have hown:=HR.out
    have hup:=HU.out
    have hrow:(wr.alloc (.cells #[.int .u8 (b.toNat:Int)] 5)).ownsRow 0 5 1 u3 k (byteVals ((len8 n).take k)):=pai hown (fun j hj=>Below.heap_alloc _ _ _ (paf hown j hj))
    have hw1:(wr.alloc (.cells #[.int .u8 (b.toNat:Int)] 5)).heap[wr.heap.size]? =some (.cells #[.int .u8 (b.toNat:Int)] 5 (0,0)):=heap_alloc_new _ _
    obtain ⟨iu,u1,u2,u3',u4⟩:=pdE
    obtain ⟨v',w',hrun,hown',hup'⟩:=paY (P:=Tryz.prog) (wr.alloc (.cells #[.int .u8 (b.toNat:Int)] 5)) 124 124 5 iu (.int .u8 0) 1 1 Tryz.underlying124 u1 u2 u3' u4 rfl (by omega) u3 k _ hrow ⟨wr.heap.size,0,none⟩ 1 1 [pbt b] rfl (by
     intro j u hj
     have:j=0:=by
      cases j with
      | zero=>rfl
      | succ j=>simp at hj
     subst this
     simp only [List.getElem?_cons_zero,Option.some.injEq] at hj
     subst hj
     have e:(⟨wr.heap.size,0,none⟩:Addr).add 0=⟨wr.heap.size,0,none⟩:=by simp [Addr.add]
     rw [e,cell_of_row _ _ _ _ _ _ hw1]
     rfl) (paG [b]) (by omega) (by simp only [maxLen];omega)
    have HRUN:=Lib.hid hrun
    have HOWN:=Lib.hid hown'
    have HUP:=Lib.hid ((hup.alloc (.cells #[.int .u8 (b.toNat:Int)] 5)).trans hup')
    clear u1 u2 u3' u4
    clear hb hz hl hown hup hrow hw1 hrun hown' hup' HR HU
    go_wp2_with (refine wpList_append_run _ rfl _ _ _ _ rfl _ _ v' w' rfl rfl HRUN.out ?_)
    refine ⟨⟨k+1,_,rfl,?_,by omega,?_,HUP.out⟩,?_⟩
    · have:=HMZ.out;omega
    · show World.ownsRow _ _ _ _ _ _ _
      rw [HL.out,pa8]
      exact HOWN.out
    · first | (simp [intOf];done) | (simp [intOf];omega)
  · obtain rfl:z=-8:=by omega
    have hk8:k=8:=by omega
    have hown:=HR.out
    rw [hk8,List.take_of_length_le (by rw [pas];omega)] at hown
    have hcv:=pdx (P:=Tryz.prog) wr 124 57 5 Tryz.underlying124 Tryz.underlying5 Tryz.underlying57 u3 (len8 n) (by rw [pas];exact hown)
    have HCV:=Lib.hid hcv
    clear hlt hz hk hk8 hown hcv HR
    go_wp2_with fail
    rw [HCV.out]
    go_wp2_with fail
    refine (paU _ wr (by show (len8 n).length≤_;rw [pas];omega)).mono ?_
    rintro e w' ⟨r,HR,rfl,rfl⟩
    go_wp2_with fail
    go_ret
    refine ⟨r,?_,rfl,HU.out.mono (fun _ h=>h) (fun _ h=>absurd h (by simp))⟩
    show _=_
    rw [HR.out,pc8,pl4 n (by omega)]
end Go.Proofs.YtheobkejohifaaaGreatDoor
