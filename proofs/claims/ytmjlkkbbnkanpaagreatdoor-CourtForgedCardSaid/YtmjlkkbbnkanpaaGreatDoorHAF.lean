/- sortesref03.block and what follows. -/
import Derived.Test.YtmjlkkbbnkanpaaGreatDoorHAE
import Derived.Test.YtmjlkkbbnkanpaaGreatDoorHAC
namespace Go.Proofs.YtmjlkkbbnkanpaaGreatDoor
open Go.RowKit
set_option maxRecDepth 100000
theorem keepE {wr:World} {n G k i j:Nat} {y u v:Value} (h1:wr.cell? ⟨G,i,none⟩=some u) (h2:wr.cell? ⟨G,j,none⟩=some v) (n1:k≠i) (n2:k≠j) :
 ((wr.drewN n).setCell ⟨G,k,none⟩ y).cell? ⟨G,i,none⟩=some u∧((wr.drewN n).setCell ⟨G,k,none⟩ y).cell? ⟨G,j,none⟩=some v :=
 ⟨(World.cell?_setCell_other _ _ _ _ (fun e=>n1 (Addr.mk.inj e).2.1)).trans h1,(World.cell?_setCell_other _ _ _ _ (fun e=>n2 (Addr.mk.inj e).2.1)).trans h2⟩
set_option maxHeartbeats 2000000 in
theorem block_any (v:St) (s:ByteArray) (w:World) (hs:s.size=64) :
 Calls Tryz.prog 186 #[stV v,.string s] w (Mk (stV (mixS v (bs s))) w):=by
 obtain ⟨V,hv⟩:∃ V,V=v:=⟨_,rfl⟩
 obtain ⟨a,b,c,d,e,f,g,h⟩:=v
 show Calls Tryz.prog 186 #[.agg #[.int .u32 (a.toNat:Int),.int .u32 (b.toNat:Int),.int .u32 (c.toNat:Int),.int .u32 (d.toNat:Int),.int .u32 (e.toNat:Int),.int .u32 (f.toNat:Int),.int .u32 (g.toNat:Int),.int .u32 (h.toNat:Int)],.string s] w _
 obtain ⟨V',hV⟩:∃ V',V'=stV (mixS ⟨a,b,c,d,e,f,g,h⟩ (bs s)):=⟨_,rfl⟩
 rw [← hV]
 have HV:=Lib.hid hV
 clear hV
 have HVV:=Lib.hid hv
 clear hv
 have hs1:(s.size:Int)=64:=by omega
 have hs0:64≤s.size:=by omega
 have HS:=Lib.hid hs
 clear hs
 go_enter Tryz.func186,Tryz.ntmps186
 go_wp2_with fail
 refine (rounds_any _).mono ?_
 rintro e1 w2 ⟨cs,HCS,rfl,hu2⟩
 have hlt:w.heap.size+1<w2.heap.size:=by have:=hu2.size;simp at this;omega
 have h0:(w2.alloc (.cells (wordVals (List.replicate 64 0)).toArray 258)).heap[w2.heap.size]? =some (.cells (wordVals (List.replicate 64 0)).toArray 258 (0,0)):=heap_alloc_new _ _
 have H0:=Lib.hid h0
 have HI:Hid ((Tryz.prog.info? 258).map (·.size)=some cs.size):=by show _=_;rw [HCS.out,i64w];simp [wordVals,kL]
 have HC1:Hid (cs.all (·.oneCell')=true):=by show _=_;rw [HCS.out];exact wordVals_one _
 have HCZ:Hid ((wordVals (List.replicate 64 0)).toArray.size=cs.size):=by show _=_;rw [HCS.out];simp [wordVals,kL]
 clear h0
 go_wp2_with (refine wpList_store_row rfl 258 _ _ rfl w2.heap.size cs rfl rfl _ _ H0.out HI.out HCZ.out HC1.out ?_)
 have hm0:=BlkW.start w w2 V cs HCS.out (by rw [HVV.out];exact hu2)
 generalize w2.heap.size=G at *
 go_loopw [7] (fun i wr=>∃ k:Nat,i=.int .i64 (k:Int)∧k≤64∧BlkW w wr G V (rowsW (bs s) k)) (fun i _=>64 - (intOf i).toNat)
 case atStart=>exact ⟨0,rfl,Nat.zero_le _,hm0⟩
 case round =>
  clear hm0 H0 hu2
  obtain ⟨k,rfl,hk,hm⟩:=hrel
  by_cases hlt64:k<64
  · by_cases hlt16:k<16
    · obtain ⟨k0,hk0⟩:∃ k0,k0=4 * k:=⟨_,rfl⟩
      obtain ⟨k1,hk1⟩:∃ k1,k1=4 * k+1:=⟨_,rfl⟩
      obtain ⟨k2,hk2⟩:∃ k2,k2=4 * k+2:=⟨_,rfl⟩
      obtain ⟨k3,hk3⟩:∃ k3,k3=4 * k+3:=⟨_,rfl⟩
      have i0:IntKind.i64.wrap (4 * (k:Int))=(k0:Int):=by rw [wrap_in (by omega) (by omega)];omega
      have i1:IntKind.i64.wrap ((k0:Int)+1)=(k1:Int):=by rw [wrap_in (by omega) (by omega)];omega
      have i2:IntKind.i64.wrap ((k0:Int)+2)=(k2:Int):=by rw [wrap_in (by omega) (by omega)];omega
      have i3:IntKind.i64.wrap ((k0:Int)+3)=(k3:Int):=by rw [wrap_in (by omega) (by omega)];omega
      have l0:k0<s.size:=by omega
      have l1:k1<s.size:=by omega
      have l2:k2<s.size:=by omega
      have l3:k3<s.size:=by omega
      have m0:(k0:Int)<s.size:=by omega
      have m1:(k1:Int)<s.size:=by omega
      have m2:(k2:Int)<s.size:=by omega
      have m3:(k3:Int)<s.size:=by omega
      have kk:(k:Int)<64:=by omega
      have n0:(k0:Int)<64:=by omega
      have o0:k0<64:=by omega
      have n1:(k1:Int)<64:=by omega
      have o1:k1<64:=by omega
      have n2:(k2:Int)<64:=by omega
      have o2:k2<64:=by omega
      have n3:(k3:Int)<64:=by omega
      have o3:k3<64:=by omega
      have q0:=hm.word (k:=k) (by rw [rowsW_length _ _ hk];omega)
      have qf:=hm.fz k
      have hwd:wordAt (bs s) k=word4 s[k0] s[k1] s[k2] s[k3]:=by
       rw [wordAt,← hk1,← hk2,← hk3,← hk0,bs_at s k0 l0,bs_at s k1 l1,bs_at s k2 l2,bs_at s k3 l3]
      have HWD:=Lib.hid hwd
      have HKK:=Lib.hid (And.intro hk0 (And.intro hk1 (And.intro hk2 hk3)))
      clear hk0 hk1 hk2 hk3 hwd
      go_wp2_with fail
      go_still_tail 31,(by kernel_rfl)
      go_wp2_with fail
      refine ⟨⟨k+1,by go_num,by omega,?_⟩,by simp [intOf];omega⟩
      rw [word_or,← HWD.out,← rowsW_low _ _ hlt16]
      exact (hm.set k _).drew
    · obtain ⟨k16,hk16⟩:∃ k16,k=k16+16:=⟨k - 16,by omega⟩
      obtain ⟨k15,hk15⟩:∃ k15,k15=k16+1:=⟨_,rfl⟩
      obtain ⟨k7,hk7⟩:∃ k7,k7=k16+9:=⟨_,rfl⟩
      obtain ⟨k2,hk2⟩:∃ k2,k2=k16+14:=⟨_,rfl⟩
      have hrow:rowsW (bs s) k=rowW (bs s) k16:=by unfold rowsW;rw [if_neg hlt16];congr 1;omega
      have hrow1:rowsW (bs s) (k+1)=rowW (bs s) (k16+1):=by unfold rowsW;rw [if_neg (by omega)];congr 1;omega
      rw [hrow] at hm
      have HROW:=Lib.hid hrow1
      clear hrow hrow1
      have hll:=rowW_length (bs s) k16 (by omega)
      have q0:=hm.word (k:=k) (by omega)
      have q16:=hm.word (k:=k16) (by omega)
      have q15:=hm.word (k:=k15) (by omega)
      have q7:=hm.word (k:=k7) (by omega)
      have q2:=hm.word (k:=k2) (by omega)
      have qf:=hm.fz k
      rw [rowW_get _ _ _ (by omega)] at q16 q15 q7 q2
      obtain ⟨x16,hx16⟩:∃ x,x=(schedW (bs s) k16).getD k16 0:=⟨_,rfl⟩
      obtain ⟨x15,hx15⟩:∃ x,x=(schedW (bs s) k16).getD k15 0:=⟨_,rfl⟩
      obtain ⟨x7,hx7⟩:∃ x,x=(schedW (bs s) k16).getD k7 0:=⟨_,rfl⟩
      obtain ⟨x2,hx2⟩:∃ x,x=(schedW (bs s) k16).getD k2 0:=⟨_,rfl⟩
      rw [← hx16] at q16
      rw [← hx15] at q15
      rw [← hx7] at q7
      rw [← hx2] at q2
      have i16:IntKind.i64.wrap ((k:Int) - 16)=(k16:Int):=by rw [wrap_in (by omega) (by omega)];omega
      have i15:IntKind.i64.wrap ((k:Int) - 15)=(k15:Int):=by rw [wrap_in (by omega) (by omega)];omega
      have i7:IntKind.i64.wrap ((k:Int) - 7)=(k7:Int):=by rw [wrap_in (by omega) (by omega)];omega
      have i2:IntKind.i64.wrap ((k:Int) - 2)=(k2:Int):=by rw [wrap_in (by omega) (by omega)];omega
      have j15:(k:Int) - 15=(k15:Int):=by omega
      have j2:(k:Int) - 2=(k2:Int):=by omega
      have b16:(k16:Int)<64:=by omega
      have b15:(k15:Int)<64:=by omega
      have b7:(k7:Int)<64:=by omega
      have b2:(k2:Int)<64:=by omega
      have b0:(k:Int)<64:=by omega
      have HX:=Lib.hid (And.intro hx16 (And.intro hx15 (And.intro hx7 hx2)))
      have HK:=Lib.hid (And.intro hk16 (And.intro hk15 (And.intro hk7 hk2)))
      have hnx:nextW (schedW (bs s) k16)=x16+sig0 x15+x7+sig1 x2:=by
       rw [nextW,schedW_length,hx16,hx15,hx7,hx2,hk15,hk7,hk2,show 16+k16 - 16=k16 by omega,show 16+k16 - 15=k16+1 by omega,show 16+k16 - 7=k16+9 by omega,show 16+k16 - 2=k16+14 by omega]
      have hrs:=rowW_set (bs s) k16 (by omega)
      rw [show 16+k16=k by omega,hnx] at hrs
      have HR:=Lib.hid hrs
      have hlt16':16≤k:=by omega
      have ne1:k16≠k:=by omega
      have ne2:k7≠k:=by omega
      have ne3:k≠k16:=by omega
      have ne4:k≠k7:=by omega
      clear hx16 hx15 hx7 hx2 hk16 hk15 hk7 hk2 hll hnx hrs hlt16
      obtain ⟨l1,el1,dl1⟩:∃ l:W32,bits .xor .u32 ((rotR x15 7).toNat:Int) ((rotR x15 18).toNat:Int)=(l.toNat:Int)∧Hid (l=rotR x15 7 ^^^ rotR x15 18):=⟨_,xor_w _ _,rfl⟩
      obtain ⟨l2,el2,dl2⟩:∃ l:W32,(x15.toNat:Int) / 8=(l.toNat:Int)∧Hid (l=x15 >>> 3):=⟨_,shr_w x15 3,rfl⟩
      obtain ⟨l3,el3,dl3⟩:∃ l:W32,bits .xor .u32 (l1.toNat:Int) (l2.toNat:Int)=(l.toNat:Int)∧Hid (l=l1 ^^^ l2):=⟨_,xor_w _ _,rfl⟩
      obtain ⟨l4,el4,dl4⟩:∃ l:W32,IntKind.u32.wrap ((x16.toNat:Int)+(l3.toNat:Int))=(l.toNat:Int)∧Hid (l=x16+l3):=⟨_,addW _ _,rfl⟩
      obtain ⟨l5,el5,dl5⟩:∃ l:W32,IntKind.u32.wrap ((l4.toNat:Int)+(x7.toNat:Int))=(l.toNat:Int)∧Hid (l=l4+x7):=⟨_,addW _ _,rfl⟩
      obtain ⟨m1,em1,dm1⟩:∃ l:W32,bits .xor .u32 ((rotR x2 17).toNat:Int) ((rotR x2 19).toNat:Int)=(l.toNat:Int)∧Hid (l=rotR x2 17 ^^^ rotR x2 19):=⟨_,xor_w _ _,rfl⟩
      obtain ⟨m2,em2,dm2⟩:∃ l:W32,(x2.toNat:Int) / 1024=(l.toNat:Int)∧Hid (l=x2 >>> 10):=⟨_,shr_w x2 10,rfl⟩
      obtain ⟨m3,em3,dm3⟩:∃ l:W32,bits .xor .u32 (m1.toNat:Int) (m2.toNat:Int)=(l.toNat:Int)∧Hid (l=m1 ^^^ m2):=⟨_,xor_w _ _,rfl⟩
      obtain ⟨y3,ey3,dy3⟩:∃ l:W32,IntKind.u32.wrap ((l5.toNat:Int)+(m3.toNat:Int))=(l.toNat:Int)∧Hid (l=l5+m3):=⟨_,addW _ _,rfl⟩
      go_wp2_with fail
      have g0:=hm.drew
      have kq0:wr.drew.cell? ⟨G+1,k16,none⟩=some (.int .u32 (x16.toNat:Int))∧wr.drew.cell? ⟨G+1,k7,none⟩=some (.int .u32 (x7.toNat:Int)):=⟨q16,q7⟩
      go_region_held3 (fun wp=>wp.cell? ⟨G+1,k16,none⟩=some (.int .u32 (x16.toNat:Int))∧wp.cell? ⟨G+1,k7,none⟩=some (.int .u32 (x7.toNat:Int))) (first | exact kq0 | assumption | exact keepE q16 q7 ne3 ne4)
       ((go_at_call 226;((with_reducible refine (rrot_i _ _ _ (by omega)).mono ?_);rintro e wq ⟨nq,rfl,rfl⟩;have kq:=kq0)))
      go_wp2_with fail
      refine ⟨⟨k+1,by go_num,by omega,?_⟩,by simp [intOf];omega⟩
      have hy:y3=x16+sig0 x15+x7+sig1 x2:=by rw [dy3.out,dl5.out,dl4.out,dl3.out,dl2.out,dl1.out,dm3.out,dm2.out,dm1.out];rfl
      have hR:=HR.out
      rw [← hy] at hR
      rw [HROW.out,← hR]
      exact (hm.drewN _).set k y3
  · have hk64:(k:Int)=64:=by omega
    have hk65:k=64:=by omega
    have hrow:rowsW (bs s) k=schedW (bs s) 48:=by rw [hk65];show rowW (bs s) 48=_;simp [rowW]
    rw [hrow] at hm
    rw [hk64]
    clear hlt64 hk hk64 hk65 hrow HI HC1 HCZ
    obtain ⟨ws,hws⟩:∃ ws,ws=schedW (bs s) 48:=⟨_,rfl⟩
    have hwl:ws.length=64:=by rw [hws,schedW_length]
    rw [← hws] at hm
    have HWS:=Lib.hid hws
    have HWL:=Lib.hid hwl
    clear hws hwl
    have p0:wr.cell? ⟨w.heap.size,0,none⟩=some (.int .u32 (a.toNat:Int)):=by have:=hm.st (k:=0) (by omega);rw [HVV.out] at this;exact this
    have p1:wr.cell? ⟨w.heap.size,1,none⟩=some (.int .u32 (b.toNat:Int)):=by have:=hm.st (k:=1) (by omega);rw [HVV.out] at this;exact this
    have p2:wr.cell? ⟨w.heap.size,2,none⟩=some (.int .u32 (c.toNat:Int)):=by have:=hm.st (k:=2) (by omega);rw [HVV.out] at this;exact this
    have p3:wr.cell? ⟨w.heap.size,3,none⟩=some (.int .u32 (d.toNat:Int)):=by have:=hm.st (k:=3) (by omega);rw [HVV.out] at this;exact this
    have p4:wr.cell? ⟨w.heap.size,4,none⟩=some (.int .u32 (e.toNat:Int)):=by have:=hm.st (k:=4) (by omega);rw [HVV.out] at this;exact this
    have p5:wr.cell? ⟨w.heap.size,5,none⟩=some (.int .u32 (f.toNat:Int)):=by have:=hm.st (k:=5) (by omega);rw [HVV.out] at this;exact this
    have p6:wr.cell? ⟨w.heap.size,6,none⟩=some (.int .u32 (g.toNat:Int)):=by have:=hm.st (k:=6) (by omega);rw [HVV.out] at this;exact this
    have p7:wr.cell? ⟨w.heap.size,7,none⟩=some (.int .u32 (h.toNat:Int)):=by have:=hm.st (k:=7) (by omega);rw [HVV.out] at this;exact this
    have hv0:=BlkV.start hm V
    have hst0:stepsS V ws 0=V:=rfl
    rw [HVV.out] at hv0
    go_wp2_with fail
    clear p0 p1 p2 p3 p4 p5 p6 p7
    generalize wr.heap.size=Gv at *
    have hv1:BlkV w (wr.alloc (Obj.cells #[Value.int IntKind.u32 ↑(BitVec.toNat a),Value.int IntKind.u32 ↑(BitVec.toNat b),Value.int IntKind.u32 ↑(BitVec.toNat c),Value.int IntKind.u32 ↑(BitVec.toNat d),Value.int IntKind.u32 ↑(BitVec.toNat e),Value.int IntKind.u32 ↑(BitVec.toNat f),Value.int IntKind.u32 ↑(BitVec.toNat g),Value.int IntKind.u32 ↑(BitVec.toNat h)] 217)) G Gv V ws V:=by rw [HVV.out];exact hv0
    clear hv0 hm hst0
    go_loopw [11] (fun i wr=>∃ (k:Nat) (A B C D E F Gg H:W32),i=.int .i64 (k:Int)∧k≤64∧BlkV w wr G Gv V ws ⟨A,B,C,D,E,F,Gg,H⟩∧Hid (stepsS V ws k=⟨A,B,C,D,E,F,Gg,H⟩)) (fun i _=>64 - (intOf i).toNat)
    case atStart=>exact ⟨0,a,b,c,d,e,f,g,h,rfl,by omega,(by rw [HVV.out] at hv1 ⊢;exact hv1),HVV.out⟩
    case round =>
     clear hv1
     obtain ⟨k,A,B,C,D,E,F,Gg,H,rfl,hk,hm,HSt⟩:=hrel
     by_cases hlt:k<64
     · obtain ⟨c0,c1,c2,c3,c4,c5,c6,c7⟩:=hm.cells
       have q1:=hm.blk.word (k:=k) (by rw [HWL.out];exact hlt)
       have q2:=hm.blk.kon (k:=k) hlt
       obtain ⟨K,hK⟩:∃ K,K=kW k:=⟨_,rfl⟩
       obtain ⟨Wd,hWd⟩:∃ Wd,Wd=ws.getD k 0:=⟨_,rfl⟩
       rw [← hWd] at q1
       rw [← hK] at q2
       have HKW:=Lib.hid (And.intro hK hWd)
       clear hK hWd
       have hk64:(k:Int)<64:=by omega
       obtain ⟨l1,el1,dl1⟩:∃ l:W32,bits .xor .u32 ((rotR E 6).toNat:Int) ((rotR E 11).toNat:Int)=(l.toNat:Int)∧Hid (l=(rotR E 6) ^^^ (rotR E 11)):=⟨_,xor_w _ _,rfl⟩
       obtain ⟨l2,el2,dl2⟩:∃ l:W32,bits .xor .u32 (l1.toNat:Int) ((rotR E 25).toNat:Int)=(l.toNat:Int)∧Hid (l=l1 ^^^ (rotR E 25)):=⟨_,xor_w _ _,rfl⟩
       obtain ⟨l3,el3,dl3⟩:∃ l:W32,IntKind.u32.wrap ((H.toNat:Int)+(l2.toNat:Int))=(l.toNat:Int)∧Hid (l=H+l2):=⟨_,addW _ _,rfl⟩
       obtain ⟨l4,el4,dl4⟩:∃ l:W32,bits .and .u32 (E.toNat:Int) (F.toNat:Int)=(l.toNat:Int)∧Hid (l=E &&& F):=⟨_,and_w _ _,rfl⟩
       obtain ⟨l5,el5,dl5⟩:∃ l:W32,bits .xor .u32 (if IntKind.u32.signed=true then -1 else IntKind.u32.max) (E.toNat:Int)=(l.toNat:Int)∧Hid (l = ~~~E):=⟨_,not_w _,rfl⟩
       obtain ⟨l6,el6,dl6⟩:∃ l:W32,bits .and .u32 (l5.toNat:Int) (Gg.toNat:Int)=(l.toNat:Int)∧Hid (l=l5 &&& Gg):=⟨_,and_w _ _,rfl⟩
       obtain ⟨l7,el7,dl7⟩:∃ l:W32,bits .xor .u32 (l4.toNat:Int) (l6.toNat:Int)=(l.toNat:Int)∧Hid (l=l4 ^^^ l6):=⟨_,xor_w _ _,rfl⟩
       obtain ⟨l8,el8,dl8⟩:∃ l:W32,IntKind.u32.wrap ((l3.toNat:Int)+(l7.toNat:Int))=(l.toNat:Int)∧Hid (l=l3+l7):=⟨_,addW _ _,rfl⟩
       obtain ⟨l9,el9,dl9⟩:∃ l:W32,IntKind.u32.wrap ((l8.toNat:Int)+(K.toNat:Int))=(l.toNat:Int)∧Hid (l=l8+K):=⟨_,addW _ _,rfl⟩
       obtain ⟨l10,el10,dl10⟩:∃ l:W32,IntKind.u32.wrap ((l9.toNat:Int)+(Wd.toNat:Int))=(l.toNat:Int)∧Hid (l=l9+Wd):=⟨_,addW _ _,rfl⟩
       obtain ⟨m1,em1,dm1⟩:∃ l:W32,bits .xor .u32 ((rotR A 2).toNat:Int) ((rotR A 13).toNat:Int)=(l.toNat:Int)∧Hid (l=(rotR A 2) ^^^ (rotR A 13)):=⟨_,xor_w _ _,rfl⟩
       obtain ⟨m2,em2,dm2⟩:∃ l:W32,bits .xor .u32 (m1.toNat:Int) ((rotR A 22).toNat:Int)=(l.toNat:Int)∧Hid (l=m1 ^^^ (rotR A 22)):=⟨_,xor_w _ _,rfl⟩
       obtain ⟨m3,em3,dm3⟩:∃ l:W32,bits .and .u32 (A.toNat:Int) (B.toNat:Int)=(l.toNat:Int)∧Hid (l=A &&& B):=⟨_,and_w _ _,rfl⟩
       obtain ⟨m4,em4,dm4⟩:∃ l:W32,bits .and .u32 (A.toNat:Int) (C.toNat:Int)=(l.toNat:Int)∧Hid (l=A &&& C):=⟨_,and_w _ _,rfl⟩
       obtain ⟨m5,em5,dm5⟩:∃ l:W32,bits .xor .u32 (m3.toNat:Int) (m4.toNat:Int)=(l.toNat:Int)∧Hid (l=m3 ^^^ m4):=⟨_,xor_w _ _,rfl⟩
       obtain ⟨m6,em6,dm6⟩:∃ l:W32,bits .and .u32 (B.toNat:Int) (C.toNat:Int)=(l.toNat:Int)∧Hid (l=B &&& C):=⟨_,and_w _ _,rfl⟩
       obtain ⟨m7,em7,dm7⟩:∃ l:W32,bits .xor .u32 (m5.toNat:Int) (m6.toNat:Int)=(l.toNat:Int)∧Hid (l=m5 ^^^ m6):=⟨_,xor_w _ _,rfl⟩
       obtain ⟨m8,em8,dm8⟩:∃ l:W32,((m2.toNat:Int)+(m7.toNat:Int)) % 4294967296=(l.toNat:Int)∧Hid (l=m2+m7):=⟨_,add_w _ _,rfl⟩
       obtain ⟨n1,en1,dn1⟩:∃ l:W32,((D.toNat:Int)+(l10.toNat:Int)) % 4294967296=(l.toNat:Int)∧Hid (l=D+l10):=⟨_,add_w _ _,rfl⟩
       obtain ⟨n2,en2,dn2⟩:∃ l:W32,((l10.toNat:Int)+(m8.toNat:Int)) % 4294967296=(l.toNat:Int)∧Hid (l=l10+m8):=⟨_,add_w _ _,rfl⟩
       go_wp2_with fail
       go_quiet ((go_at_call 226;exact quiet_drawn (rrot_i _ _ _ (by omega))))
       have hm2:=hm.drewN nq
       clear hm c0 c1 c2 c3 c4 c5 c6 c7 q1 q2
       obtain ⟨c0,c1,c2,c3,c4,c5,c6,c7⟩:=hm2.cells
       generalize wr.drewN nq=wr2 at *
       go_wp2_with fail
       go_quiet ((go_at_call 226;exact quiet_drawn (rrot_i _ _ _ (by omega))))
       have hm3:=hm2.drewN nq
       clear hm2 c0 c1 c2 c3 c4 c5 c6 c7
       obtain ⟨c0,c1,c2,c3,c4,c5,c6,c7⟩:=hm3.cells
       have z0:=hm3.fz 0
       have z1:=hm3.fz 1
       have z2:=hm3.fz 2
       have z3:=hm3.fz 3
       have z4:=hm3.fz 4
       have z5:=hm3.fz 5
       have z6:=hm3.fz 6
       have z7:=hm3.fz 7
       generalize wr2.drewN nq=wr3 at *
       go_wp2_with fail
       refine ⟨⟨k+1,n2,A,B,C,n1,E,F,Gg,by go_num,by omega,hm3.store,?_⟩,by simp [intOf];omega⟩
       show _=_
       rw [stepsS,HSt.out,← HKW.out.1,← HKW.out.2]
       simp only [stepS,St.mk.injEq,and_true,true_and]
       have g1:l10=H+big1 E+chW E F Gg+K+Wd:=by rw [dl10.out,dl9.out,dl8.out,dl7.out,dl6.out,dl5.out,dl4.out,dl3.out,dl2.out,dl1.out];rfl
       have g2:m8=big0 A+majW A B C:=by rw [dm8.out,dm7.out,dm6.out,dm5.out,dm4.out,dm3.out,dm2.out,dm1.out];rfl
       exact ⟨by rw [dn2.out,g1,g2],by rw [dn1.out,g1]⟩
     · have hk64:(k:Int)=64:=by omega
       have hk65:k=64:=by omega
       rw [hk65] at HSt
       rw [hk64]
       clear hlt hk hk64 hk65
       obtain ⟨X,hX⟩:∃ X:St,X=⟨A,B,C,D,E,F,Gg,H⟩:=⟨_,rfl⟩
       rw [← hX] at hm HSt
       have ht:=BlkT.start hm
       clear hm hX
       go_wp2_with fail
       go_loopw [16] (fun i wr=>∃ k:Nat,i=.int .i64 (k:Int)∧k≤8∧BlkT w wr Gv V X k) (fun i _=>8 - (intOf i).toNat)
       case atStart=>exact ⟨0,rfl,Nat.zero_le _,ht⟩
       case round =>
        clear ht
        obtain ⟨k,rfl,hk,hm⟩:=hrel
        by_cases hlt:k<8
        · have q1:wr.cell? ⟨w.heap.size,k,none⟩=some (.int .u32 ((V.l.getD k 0).toNat:Int)):=by
           have:=word_cell _ _ k _ _ hm.hs (by rw [addL_length];exact hlt)
           rw [addL_at _ _ _ hlt] at this
           exact this
          have q2:wr.cell? ⟨Gv,k,none⟩=some (.int .u32 ((X.l.getD k 0).toNat:Int)):=word_cell _ _ k _ _ hm.hv (by simp [St.l];omega)
          have qf:wr.frozen? ⟨w.heap.size,k,none⟩=false:=frozen_of_row _ _ _ _ _ hm.hs
          obtain ⟨x1,hx1⟩:∃ x,x=V.l.getD k 0:=⟨_,rfl⟩
          obtain ⟨x2,hx2⟩:∃ x,x=X.l.getD k 0:=⟨_,rfl⟩
          rw [← hx1] at q1
          rw [← hx2] at q2
          obtain ⟨y,ey,dy⟩:∃ l:W32,IntKind.u32.wrap ((x1.toNat:Int)+(x2.toNat:Int))=(l.toNat:Int)∧Hid (l=x1+x2):=⟨_,addW _ _,rfl⟩
          have HY:Hid (y=V.l.getD k 0+X.l.getD k 0):=by show _=_;rw [dy.out,hx1,hx2]
          clear hx1 hx2 dy
          have k8:(k:Int)<8:=by omega
          go_wp2_with fail
          go_still_tail 9,(by kernel_rfl)
          go_wp2_with fail
          exact ⟨⟨k+1,by go_num,by omega,hm.set hlt y HY.out⟩,by simp [intOf];omega⟩
        · have hk8:(k:Int)=8:=by omega
          have hk9:k=8:=by omega
          rw [hk9] at hm
          rw [hk8]
          clear hlt hk hk8 hk9
          obtain ⟨o0,ho0⟩:∃ o,o=(addS V X).l.getD 0 0:=⟨_,rfl⟩
          obtain ⟨o1,ho1⟩:∃ o,o=(addS V X).l.getD 1 0:=⟨_,rfl⟩
          obtain ⟨o2,ho2⟩:∃ o,o=(addS V X).l.getD 2 0:=⟨_,rfl⟩
          obtain ⟨o3,ho3⟩:∃ o,o=(addS V X).l.getD 3 0:=⟨_,rfl⟩
          obtain ⟨o4,ho4⟩:∃ o,o=(addS V X).l.getD 4 0:=⟨_,rfl⟩
          obtain ⟨o5,ho5⟩:∃ o,o=(addS V X).l.getD 5 0:=⟨_,rfl⟩
          obtain ⟨o6,ho6⟩:∃ o,o=(addS V X).l.getD 6 0:=⟨_,rfl⟩
          obtain ⟨o7,ho7⟩:∃ o,o=(addS V X).l.getD 7 0:=⟨_,rfl⟩
          have s0:wr.cell? ⟨w.heap.size,0,none⟩=some (.int .u32 (o0.toNat:Int)):=by rw [ho0];exact word_cell _ _ 0 _ _ hm.hs (by simp [St.l])
          have s1:wr.cell? ⟨w.heap.size,1,none⟩=some (.int .u32 (o1.toNat:Int)):=by rw [ho1];exact word_cell _ _ 1 _ _ hm.hs (by simp [St.l])
          have s2:wr.cell? ⟨w.heap.size,2,none⟩=some (.int .u32 (o2.toNat:Int)):=by rw [ho2];exact word_cell _ _ 2 _ _ hm.hs (by simp [St.l])
          have s3:wr.cell? ⟨w.heap.size,3,none⟩=some (.int .u32 (o3.toNat:Int)):=by rw [ho3];exact word_cell _ _ 3 _ _ hm.hs (by simp [St.l])
          have s4:wr.cell? ⟨w.heap.size,4,none⟩=some (.int .u32 (o4.toNat:Int)):=by rw [ho4];exact word_cell _ _ 4 _ _ hm.hs (by simp [St.l])
          have s5:wr.cell? ⟨w.heap.size,5,none⟩=some (.int .u32 (o5.toNat:Int)):=by rw [ho5];exact word_cell _ _ 5 _ _ hm.hs (by simp [St.l])
          have s6:wr.cell? ⟨w.heap.size,6,none⟩=some (.int .u32 (o6.toNat:Int)):=by rw [ho6];exact word_cell _ _ 6 _ _ hm.hs (by simp [St.l])
          have s7:wr.cell? ⟨w.heap.size,7,none⟩=some (.int .u32 (o7.toNat:Int)):=by rw [ho7];exact word_cell _ _ 7 _ _ hm.hs (by simp [St.l])
          have z0:wr.cell? ⟨w.heap.size+1,0,none⟩=some (.int .u32 0):=word_cell _ _ 0 _ _ hm.hr (by simp)
          have f0:wr.frozen? ⟨w.heap.size+1,0,none⟩=false:=frozen_of_row _ _ _ _ _ hm.hr
          have z1:wr.cell? ⟨w.heap.size+1,1,none⟩=some (.int .u32 0):=word_cell _ _ 1 _ _ hm.hr (by simp)
          have f1:wr.frozen? ⟨w.heap.size+1,1,none⟩=false:=frozen_of_row _ _ _ _ _ hm.hr
          have z2:wr.cell? ⟨w.heap.size+1,2,none⟩=some (.int .u32 0):=word_cell _ _ 2 _ _ hm.hr (by simp)
          have f2:wr.frozen? ⟨w.heap.size+1,2,none⟩=false:=frozen_of_row _ _ _ _ _ hm.hr
          have z3:wr.cell? ⟨w.heap.size+1,3,none⟩=some (.int .u32 0):=word_cell _ _ 3 _ _ hm.hr (by simp)
          have f3:wr.frozen? ⟨w.heap.size+1,3,none⟩=false:=frozen_of_row _ _ _ _ _ hm.hr
          have z4:wr.cell? ⟨w.heap.size+1,4,none⟩=some (.int .u32 0):=word_cell _ _ 4 _ _ hm.hr (by simp)
          have f4:wr.frozen? ⟨w.heap.size+1,4,none⟩=false:=frozen_of_row _ _ _ _ _ hm.hr
          have z5:wr.cell? ⟨w.heap.size+1,5,none⟩=some (.int .u32 0):=word_cell _ _ 5 _ _ hm.hr (by simp)
          have f5:wr.frozen? ⟨w.heap.size+1,5,none⟩=false:=frozen_of_row _ _ _ _ _ hm.hr
          have z6:wr.cell? ⟨w.heap.size+1,6,none⟩=some (.int .u32 0):=word_cell _ _ 6 _ _ hm.hr (by simp)
          have f6:wr.frozen? ⟨w.heap.size+1,6,none⟩=false:=frozen_of_row _ _ _ _ _ hm.hr
          have z7:wr.cell? ⟨w.heap.size+1,7,none⟩=some (.int .u32 0):=word_cell _ _ 7 _ _ hm.hr (by simp)
          have f7:wr.frozen? ⟨w.heap.size+1,7,none⟩=false:=frozen_of_row _ _ _ _ _ hm.hr
          have HO:Hid (addS V X=⟨o0,o1,o2,o3,o4,o5,o6,o7⟩):=by show _=_;rw [ho0,ho1,ho2,ho3,ho4,ho5,ho6,ho7];rfl
          clear ho0 ho1 ho2 ho3 ho4 ho5 ho6 ho7
          go_wp2_with fail
          refine bodyPost_ret (v:=.agg #[.int .u32 (o0.toNat:Int),.int .u32 (o1.toNat:Int),.int .u32 (o2.toNat:Int),.int .u32 (o3.toNat:Int),.int .u32 (o4.toNat:Int),.int .u32 (o5.toNat:Int),.int .u32 (o6.toNat:Int),.int .u32 (o7.toNat:Int)]) (by simp [results,Tryz.results186,go_sem,z0,z1,z2,z3,z4,z5,z6,z7]) rfl ⟨?_,?_⟩
          · rw [HV.out,mixS,← HWS.out,← HVV.out,HSt.out,HO.out]
            rfl
          · have hn:w.heap.size≤w.heap.size+1:=by omega
            exact (((((((hm.up.setNew (p:=⟨_,_,none⟩) hn _).setNew (p:=⟨_,_,none⟩) hn _).setNew (p:=⟨_,_,none⟩) hn _).setNew (p:=⟨_,_,none⟩) hn _).setNew (p:=⟨_,_,none⟩) hn _).setNew (p:=⟨_,_,none⟩) hn _).setNew (p:=⟨_,_,none⟩) hn _).setNew (p:=⟨_,_,none⟩) hn _
theorem block_w (A B C D E F G H:W32) (s:ByteArray) (w:World) (hs:s.size=64) :
 Calls Tryz.prog 186 #[.agg #[.int .u32 (A.toNat:Int),.int .u32 (B.toNat:Int),.int .u32 (C.toNat:Int),.int .u32 (D.toNat:Int),.int .u32 (E.toNat:Int),.int .u32 (F.toNat:Int),.int .u32 (G.toNat:Int),.int .u32 (H.toNat:Int)],.string s] w (fun e w'=>∃ A' B' C' D' E' F' G' H':W32,Hid (mixS ⟨A,B,C,D,E,F,G,H⟩ (bs s)=⟨A',B',C',D',E',F',G',H'⟩)∧e=.returned (.agg #[.int .u32 (A'.toNat:Int),.int .u32 (B'.toNat:Int),.int .u32 (C'.toNat:Int),.int .u32 (D'.toNat:Int),.int .u32 (E'.toNat:Int),.int .u32 (F'.toNat:Int),.int .u32 (G'.toNat:Int),.int .u32 (H'.toNat:Int)])∧Upd [] [] w w'):=by
 refine (block_any ⟨A,B,C,D,E,F,G,H⟩ s w hs).mono ?_
 rintro e w' ⟨rfl,hu⟩
 obtain ⟨V,hV⟩:∃ V,V=mixS ⟨A,B,C,D,E,F,G,H⟩ (bs s):=⟨_,rfl⟩
 obtain ⟨A',B',C',D',E',F',G',H'⟩:=V
 rw [← hV]
 exact ⟨A',B',C',D',E',F',G',H',rfl,rfl,hu⟩
set_option maxHeartbeats 2000000 in
theorem rsum_any (s:ByteArray) (w:World) (hs:s.size≤281474976710656) :
 Calls Tryz.prog 142 #[.string s] w (Mk (.agg (byteVals (sha (bs s))).toArray) w):=by
 obtain ⟨V,hV⟩:∃ V,V=firstS:=⟨_,rfl⟩
 have h0:=SumW.start w firstS
 have HVV:=Lib.hid hV
 clear hV
 obtain ⟨R,hR⟩:∃ R,R=Value.agg (byteVals (sha (bs s))).toArray:=⟨_,rfl⟩
 rw [← hR]
 have HRR:=Lib.hid hR
 clear hR
 go_enter Tryz.func142,Tryz.ntmps142
 go_wp2_with fail
 refine (padded_any s _ hs).mono ?_
 rintro e w3 ⟨T,HT,rfl,hu3⟩
 have hm3:=SumW.upd h0 hu3
 clear h0
 have hTl:T.size=(padS (bs s)).length:=by rw [← bs_length,HT.out]
 obtain ⟨m,hm0⟩:∃ m,T.size=64 * m:=by
  refine ⟨T.size / 64,?_⟩
  have:=padS_mod (bs s)
  omega
 have hT40:T.size≤281474976711000:=by
  rw [hTl,padS_length,bs_length,zerosN]
  omega
 have HTL:=Lib.hid hTl
 have HM0:=Lib.hid hm0
 clear hTl
 have hm1:(T.size:Int)=64 * (m:Int):=by omega
 clear hm0
 go_wp2_with fail
 go_loopw [5] (fun i wr=>∃ (k j:Nat) (x:St),i=.int .i64 (k:Int)∧k=64 * j∧j≤m∧SumW w wr x∧Hid (x=mixesS firstS (padS (bs s)) j)) (fun i _=>64 * m - (intOf i).toNat)
 case atStart=>exact ⟨0,0,_,rfl,rfl,Nat.zero_le _,hm3,rfl⟩
 case round =>
  clear hm3 hm1
  obtain ⟨k,j,⟨A,B,C,D,E,F,G,H⟩,rfl,hkj,hjm,hm,HX⟩:=hrel
  have hm1:T.size=64 * m:=HM0.out
  by_cases hlt:j<m
  · obtain ⟨c0,c1,c2,c3,c4,c5,c6,c7⟩:=hm.cells
    obtain ⟨k64,hk64⟩:∃ k64:Nat,k64=k+64:=⟨_,rfl⟩
    have i64:IntKind.i64.wrap ((k:Int)+64)=(k64:Int):=by rw [wrap_in (by omega) (by omega)];omega
    have b1:(k64:Int)≤(T.size:Int):=by omega
    have b2:(k:Int)≤(k64:Int):=by omega
    have b3:k≤k64:=by omega
    have b4:k64≤T.size:=by omega
    have b5:k<T.size:=by omega
    have HKN:=Lib.hid (And.intro hkj hk64)
    have hsx:(T.extract k k64).size=64:=by simp [ByteArray.size_extract];omega
    clear hkj hk64 hm1
    have HSX:=Lib.hid hsx
    clear hsx
    go_wp2_with fail
    go_still_tail 6,(by kernel_rfl)
    go_wp2_with fail
    refine (block_w A B C D E F G H _ _ HSX.out).mono ?_
    rintro e w5 ⟨A',B',C',D',E',F',G',H',HM,rfl,hu5⟩
    have hm5:=hm.drew.upd hu5
    obtain ⟨d0,d1,d2,d3,d4,d5,d6,d7⟩:=hm5.cells
    have z0:=hm5.fz 0
    have z1:=hm5.fz 1
    have z2:=hm5.fz 2
    have z3:=hm5.fz 3
    have z4:=hm5.fz 4
    have z5:=hm5.fz 5
    have z6:=hm5.fz 6
    have z7:=hm5.fz 7
    go_wp2_with fail
    refine ⟨⟨k64,j+1,_,rfl,by have:=HKN.out.1;have:=HKN.out.2;omega,by omega,hm5.store,?_⟩,?_⟩
    · show _=_
      rw [mixesS,← HX.out,← HM.out,bs_extract,HKN.out.2,HKN.out.1,HT.out,show 64 * j+64 - 64 * j=64 by omega]
    · have:=HKN.out.1
      have:=HKN.out.2
      have:=HM0.out
      simp [intOf];omega
  · have hk64:(k:Int)=(T.size:Int):=by omega
    obtain rfl:j=m:=by omega
    rw [hk64]
    clear hlt hkj hk64 hjm hm1
    obtain ⟨X,hX⟩:∃ X:St,X=⟨A,B,C,D,E,F,G,H⟩:=⟨_,rfl⟩
    rw [← hX] at hm HX
    have h9:(wr.alloc (.cells (byteVals (List.replicate 32 0)).toArray 64)).heap[wr.heap.size]? =some (.cells (byteVals (List.replicate 32 0)).toArray 64 (0,0)):=heap_alloc_new _ _
    have hm9:=hm.upd ((Upd.refl [] wr).alloc (.cells (byteVals (List.replicate 32 0)).toArray 64))
    have hgt:w.heap.size+1<wr.heap.size:=(Array.getElem?_eq_some_iff.1 hm.hs).1
    have H9:=Lib.hid h9
    clear hX h9 hm
    generalize hg:wr.heap.size=g at *
    go_wp2_with fail
    go_loopw [7] (fun i wr=>∃ k:Nat,i=.int .i64 (k:Int)∧k≤32∧SumW w wr X∧Hid (wr.heap[g]? =some (.cells (byteVals ((outS X).take k ++ List.replicate (32 - k) 0)).toArray 64 (0,0)))) (fun i _=>32 - (intOf i).toNat)
    case atStart=>exact ⟨0,rfl,Nat.zero_le _,hm9,H9.out⟩
    case round =>
     clear hm9 H9 hg
     obtain ⟨k,rfl,hk,hm,HR9⟩:=hrel
     by_cases hlt:k<32
     · obtain ⟨j,hj⟩:∃ j,j=k / 4:=⟨_,rfl⟩
       obtain ⟨m4,hm4⟩:∃ m4,m4=k % 4:=⟨_,rfl⟩
       obtain ⟨m8,hm8⟩:∃ m8,m8=m4 * 8:=⟨_,rfl⟩
       obtain ⟨c8,hc8⟩:∃ c8,c8=8 * (3 - m4):=⟨_,rfl⟩
       have q1:=hm.st (k:=j) (by omega)
       obtain ⟨x,hx⟩:∃ x,x=X.l.getD j 0:=⟨_,rfl⟩
       rw [← hx] at q1
       have i1:IntKind.i64.wrap ((k:Int) / 4)=(j:Int):=by rw [wrap_in (by omega) (by omega)];omega
       have i2:IntKind.i64.wrap ((k:Int) % 4)=(m4:Int):=by rw [wrap_in (by omega) (by omega)];omega
       have i3:IntKind.i64.wrap ((m4:Int) * 8)=(m8:Int):=by rw [wrap_in (by omega) (by omega)];omega
       have i4:IntKind.i64.wrap (24 - (m8:Int))=(c8:Int):=by rw [wrap_in (by omega) (by omega)];omega
       have j8:(j:Int)<8:=by omega
       have k32:(k:Int)<32:=by omega
       have hk2:∃ v0,wr.cell? ⟨g,k,none⟩=some v0:=by
        rw [cell_of_row wr g k _ _ _ HR9.out]
        exact ⟨_,Array.getElem?_eq_getElem (by simp [byteVals,outS_length];omega)⟩
       obtain ⟨v0,hv0⟩:=hk2
       have hf0:wr.frozen? ⟨g,k,none⟩=false:=frozen_of_row wr g k _ _ HR9.out
       have h3:=heap_setCell_same wr g k _ _ (byteV (UInt8.ofNat (x.toNat / 2 ^ c8))) HR9.out
       rw [outS_step X k x c8 hlt (by rw [hx,hj]) (by rw [hc8,hm4])] at h3
       have H3:=Lib.hid h3
       have HK:=Lib.hid (And.intro hj (And.intro hm4 (And.intro hm8 hc8)))
       have HX9:=Lib.hid hx
       clear h3 hj hm4 hm8 hc8 hx
       go_wp2_with fail
       have hc9:8 * (3 - k % 4)=c8:=by have:=HK.out;omega
       rw [hc9]
       have hv9:Value.int .u8 ((x.toNat:Int) / 2 ^ c8 % 256)=byteV (UInt8.ofNat (x.toNat / 2 ^ c8)):=by
        show _=Value.int .u8 ((((UInt8.ofNat (x.toNat / 2 ^ c8)).toNat:Nat)):Int)
        have:(UInt8.ofNat (x.toNat / 2 ^ c8)).toNat=x.toNat / 2 ^ c8 % 256:=by simp
        rw [this]
        simp
       rw [hv9]
       have hnew:w.heap.size+1<g:=hgt
       refine ⟨⟨k+1,by go_num,by omega,⟨?_,?_,hm.up.setNew (by show w.heap.size≤g;omega) _⟩,H3.out⟩,by simp [intOf];omega⟩
       · rw [Below.heap_setCell _ _ _ _ (by show w.heap.size≠g;omega)];exact hm.hr
       · rw [Below.heap_setCell _ _ _ _ (by show w.heap.size+1≠g;omega)];exact hm.hs
     · have hk32:k=32:=by omega
       have hk33:(k:Int)=32:=by omega
       have hR9:=HR9.out
       rw [hk32,List.take_of_length_le (by rw [outS_length];omega),Nat.sub_self,List.replicate_zero,List.append_nil] at hR9
       have H10:=Lib.hid hR9
       rw [hk33]
       clear hlt hk hk32 hk33 hR9 HR9
       obtain ⟨cs,hcs⟩:∃ cs:Array Value,cs=(byteVals (outS X)).toArray:=⟨_,rfl⟩
       have hcz:cs.size=32:=by rw [hcs];simp [byteVals,outS_length]
       have hc1:cs.all (·.oneCell')=true:=by
        rw [Array.all_eq_true_iff_forall_mem]
        intro v hv
        rw [hcs] at hv
        exact byteVals_one _ v (by simpa using hv)
       have h10:=H10.out
       rw [← hcs] at h10
       have HCS:=Lib.hid hcs
       have HC1:=Lib.hid hc1
       have HCZ:=Lib.hid (And.intro hcz h10)
       have HHR:=Lib.hid hm.hr
       have HUP:=Lib.hid hm.up
       have HHR2:(wr.setRow w.heap.size cs).heap[w.heap.size]? =some (.cells cs 64 (0,0)):=setRow_heap wr w.heap.size _ _ _ _ hm.hr
       have HH2:=Lib.hid HHR2
       have hi32:(Tryz.prog.info? 64).map (·.size)=some cs.size:=by rw [hcz];kernel_rfl
       have HI:=Lib.hid hi32
       clear hcs hc1 hcz H10 h10 HHR2 hi32 hm
       go_wp2_with (first | (refine wpList_load_row rfl 64 _ rfl g rfl _ cs _ _ HCZ.out.2 Tryz.underlying64 rfl HI.out ?_) | (refine wpList_store_row rfl 64 _ _ rfl w.heap.size cs rfl rfl _ _ HHR.out HI.out (by rw [HCZ.out.1];simp [byteVals]) HC1.out ?_))
       refine bodyPost_ret (results_cell_row rfl _ _ w.heap.size _ cs _ _ rfl HH2.out Tryz.underlying64 rfl HI.out) rfl ⟨?_,HUP.out.setRowNew (Nat.le_refl _) cs⟩
       have hnj:(padS (bs s)).length / 64=j:=by
        have e1:=HTL.out
        have e2:=HM0.out
        omega
       rw [HRR.out,HCS.out,HX.out,sha,hnj]
theorem rResidue_any (a m:Int) (w:World) (_ha:-9223372036854775808≤a∧a≤9223372036854775807) (hm:1≤m∧m≤9223372036854775807) :
 Calls Tryz.prog 79 #[.int .i64 a,.int .i64 m] w (RetZ .i64 m (a % m) w):=by
 have e1:=Int.tmod_eq_emod (a:=a) (b:=m)
 have e3:=Int.emod_nonneg a (show m≠0 by omega)
 have e4:=Int.emod_lt_of_pos a (show 0<m by omega)
 have H1:=Lib.hid e1
 clear e1
 go_enter Tryz.func79,Tryz.ntmps79
 go_wp2_with fail
 · go_ret
   refine retZ_mod (by omega) ?_
   have h:=H1.out
   simp only [wrap64]
   split at h <;> omega
 · go_ret
   refine retZ_mod (by omega) ?_
   have h:=H1.out
   split at h <;> omega
theorem rplus_any (x y m:Int) (w:World) (hx:0≤x∧x<m) (hy:0≤y∧y<m) (hm:m≤9223372036854775807) :
 Calls Tryz.prog 80 #[.int .i64 x,.int .i64 y,.int .i64 m] w (RetZ .i64 m ((x+y) % m) w):=by
 go_enter Tryz.func80,Tryz.ntmps80
 go_wp2_with fail
 · go_ret
   refine retZ_mod (by omega) ?_
   rw [← Int.sub_emod_right (x+y) m,Int.emod_eq_of_lt (by omega) (by omega)]
   omega
 · go_ret
   refine retZ_mod (by omega) ?_
   rw [Int.emod_eq_of_lt (by omega) (by omega)]
theorem rAdd_any (a b m:Int) (w:World) (ha:-9223372036854775808≤a∧a≤9223372036854775807) (hb:-9223372036854775808≤b∧b≤9223372036854775807) (hm:1≤m∧m≤9223372036854775807) :
 Calls Tryz.prog 59 #[.int .i64 a,.int .i64 b,.int .i64 m] w (RetZ .i64 m ((a+b) % m) w):=by
 go_enter Tryz.func59,Tryz.ntmps59
 go_wp2_with (first | (go_at_call 79;((with_reducible refine (rResidue_any a _ _ (by omega) (by omega)).mono ?_);rintro e w' ⟨x,HX,xa0,xa1,rfl,rfl⟩)) | (go_at_call 79;((with_reducible refine (rResidue_any b _ _ (by omega) (by omega)).mono ?_);rintro e w' ⟨y,HY,ya0,ya1,rfl,rfl⟩)) | (go_at_call 80;((with_reducible refine (rplus_any _ _ _ _ (by omega) (by omega) (by omega)).mono ?_);rintro e w' ⟨r,HR,r0,r1,rfl,rfl⟩)))
 go_ret
 refine retZ_mod (by omega) ?_
 rw [HR.out,HX.out,HY.out,← Int.add_emod]
theorem small_mul (x y:Int) (hx:0≤x∧x<2147483648) (hy:0≤y∧y<2147483648):0≤x * y∧x * y≤4611686018427387904:=by
 refine ⟨Int.mul_nonneg hx.1 hy.1,?_⟩
 have h1:x * y≤2147483648 * y:=Int.mul_le_mul_of_nonneg_right (by omega) hy.1
 omega
theorem dbl_odd (o x m:Int) (j:Nat) (h:j % 2=1):((o+x) % m+(x+x) % m * ((j / 2:Nat):Int)) % m=(o+x * (j:Int)) % m:=by
 have e:(j:Int)=2 * ((j / 2:Nat):Int)+1:=by omega
 rw [Int.emod_add_emod,Int.add_emod,Int.mul_emod,Int.emod_emod,← Int.mul_emod,← Int.add_emod]
 congr 1
 conv=>rhs;rw [e]
 rw [Int.mul_add,Int.mul_one,← Int.two_mul,Int.mul_assoc,Int.mul_left_comm]
 omega
theorem dbl_even (o x m:Int) (j:Nat) (h:j % 2=0):(o+(x+x) % m * ((j / 2:Nat):Int)) % m=(o+x * (j:Int)) % m:=by
 have e:(j:Int)=2 * ((j / 2:Nat):Int):=by omega
 rw [Int.add_emod,Int.mul_emod,Int.emod_emod,← Int.mul_emod,← Int.add_emod]
 congr 1
 conv=>rhs;rw [e]
 rw [← Int.two_mul,Int.mul_assoc,Int.mul_left_comm]
theorem rMul_any (a b m:Int) (w:World) (ha:-9223372036854775808≤a∧a≤9223372036854775807) (hb:-9223372036854775808≤b∧b≤9223372036854775807) (hm:1≤m∧m≤9223372036854775807) :
 Calls Tryz.prog 41 #[.int .i64 a,.int .i64 b,.int .i64 m] w (RetZ .i64 m (a * b % m) w):=by
 go_enter Tryz.func41,Tryz.ntmps41
 go_upto_region 5 with (first | (go_at_call 79;((with_reducible refine (rResidue_any a _ _ (by omega) (by omega)).mono ?_);rintro e w' ⟨x,HX,xa0,xa1,rfl,rfl⟩)) | (go_at_call 79;((with_reducible refine (rResidue_any b _ _ (by omega) (by omega)).mono ?_);rintro e w' ⟨y,HY,ya0,ya1,rfl,rfl⟩)))
 have hmul:a * b % m=x * y % m:=by rw [HX.out,HY.out,← Int.mul_emod]
 have HM:=Lib.hid hmul
 clear hmul
 by_cases hs1:x<2147483648
 · by_cases hs2:y<2147483648
   · obtain ⟨p0,p1⟩:=small_mul x y ⟨xa0,hs1⟩ ⟨ya0,hs2⟩
     go_wp2_with fail
     go_ret
     refine retZ_mod (by omega) ?_
     rw [HM.out]
   · have hs3:2147483648≤y:=by omega
     clear hs2
     go_wp2_with fail
     obtain ⟨y,rfl⟩:∃ n:Nat,y=(n:Int):=⟨y.toNat,by omega⟩
     clear hs3
     go_loop [7,8,9] (fun u v r=>∃ (j:Nat) (x' o:Int),u=.int .i64 x'∧v=.int .i64 (j:Int)∧r=.int .i64 o∧(j:Int)<m∧(0≤x'∧x'<m)∧(0≤o∧o<m)∧Hid ((o+x' * (j:Int)) % m=x * (y:Int) % m)) (fun _ v _=>(intOf v).toNat)
     case atStart=>exact ⟨y,x,0,rfl,rfl,rfl,ya1,⟨xa0,xa1⟩,by omega,by show _=_;rw [Int.zero_add]⟩
     case round =>
      obtain ⟨j,x',o,rfl,rfl,rfl,hj,hx,ho,HP⟩:=hrel
      by_cases hlt:0<j
      · by_cases hb1:j % 2=1
        · have hbt:((j:Int) % 2 == 1)=true:=by rw [beq_iff_eq];omega
          have HB1:=Lib.hid hb1
          clear hb1
          go_wp2_with (go_at_call 80;first | ((with_reducible refine (rplus_any o x' _ _ (by omega) (by omega) (by omega)).mono ?_);rintro e w' ⟨r1,HR1,r10,r11,rfl,rfl⟩) | ((with_reducible refine (rplus_any x' x' _ _ (by omega) (by omega) (by omega)).mono ?_);rintro e w' ⟨r2,HR2,r20,r21,rfl,rfl⟩))
          refine ⟨⟨j / 2,r2,r1,rfl,by go_num,rfl,by omega,⟨r20,r21⟩,⟨r10,r11⟩,?_⟩,by simp [intOf];omega⟩
          show _=_
          rw [HR1.out,HR2.out,dbl_odd o x' m j HB1.out,HP.out]
        · have hb0:j % 2=0:=by omega
          have hbt:((j:Int) % 2 == 1)=false:=by rw [beq_eq_false_iff_ne];omega
          have HB1:=Lib.hid hb0
          clear hb1 hb0
          go_wp2_with (go_at_call 80;((with_reducible refine (rplus_any x' x' _ _ (by omega) (by omega) (by omega)).mono ?_);rintro e w' ⟨r2,HR2,r20,r21,rfl,rfl⟩))
          refine ⟨⟨j / 2,r2,o,rfl,by go_num,rfl,by omega,⟨r20,r21⟩,ho,?_⟩,by simp [intOf];omega⟩
          show _=_
          rw [HR2.out,dbl_even o x' m j HB1.out,HP.out]
      · obtain rfl:j=0:=by omega
        go_wp2_with fail
        go_ret
        refine retZ_mod (by omega) ?_
        have h:=HP.out
        rw [Int.natCast_zero,Int.mul_zero,Int.add_zero,Int.emod_eq_of_lt ho.1 ho.2] at h
        rw [HM.out,h]
 · have hs3:2147483648≤x:=by omega
   clear hs1
   go_wp2_with fail
   obtain ⟨y,rfl⟩:∃ n:Nat,y=(n:Int):=⟨y.toNat,by omega⟩
   clear hs3
   go_loop [7,8,9] (fun u v r=>∃ (j:Nat) (x' o:Int),u=.int .i64 x'∧v=.int .i64 (j:Int)∧r=.int .i64 o∧(j:Int)<m∧(0≤x'∧x'<m)∧(0≤o∧o<m)∧Hid ((o+x' * (j:Int)) % m=x * (y:Int) % m)) (fun _ v _=>(intOf v).toNat)
   case atStart=>exact ⟨y,x,0,rfl,rfl,rfl,ya1,⟨xa0,xa1⟩,by omega,by show _=_;rw [Int.zero_add]⟩
   case round =>
    obtain ⟨j,x',o,rfl,rfl,rfl,hj,hx,ho,HP⟩:=hrel
    by_cases hlt:0<j
    · by_cases hb1:j % 2=1
      · have hbt:((j:Int) % 2 == 1)=true:=by rw [beq_iff_eq];omega
        have HB1:=Lib.hid hb1
        clear hb1
        go_wp2_with (go_at_call 80;first | ((with_reducible refine (rplus_any o x' _ _ (by omega) (by omega) (by omega)).mono ?_);rintro e w' ⟨r1,HR1,r10,r11,rfl,rfl⟩) | ((with_reducible refine (rplus_any x' x' _ _ (by omega) (by omega) (by omega)).mono ?_);rintro e w' ⟨r2,HR2,r20,r21,rfl,rfl⟩))
        refine ⟨⟨j / 2,r2,r1,rfl,by go_num,rfl,by omega,⟨r20,r21⟩,⟨r10,r11⟩,?_⟩,by simp [intOf];omega⟩
        show _=_
        rw [HR1.out,HR2.out,dbl_odd o x' m j HB1.out,HP.out]
      · have hb0:j % 2=0:=by omega
        have hbt:((j:Int) % 2 == 1)=false:=by rw [beq_eq_false_iff_ne];omega
        have HB1:=Lib.hid hb0
        clear hb1 hb0
        go_wp2_with (go_at_call 80;((with_reducible refine (rplus_any x' x' _ _ (by omega) (by omega) (by omega)).mono ?_);rintro e w' ⟨r2,HR2,r20,r21,rfl,rfl⟩))
        refine ⟨⟨j / 2,r2,o,rfl,by go_num,rfl,by omega,⟨r20,r21⟩,ho,?_⟩,by simp [intOf];omega⟩
        show _=_
        rw [HR2.out,dbl_even o x' m j HB1.out,HP.out]
    · obtain rfl:j=0:=by omega
      go_wp2_with fail
      go_ret
      refine retZ_mod (by omega) ?_
      have h:=HP.out
      rw [Int.natCast_zero,Int.mul_zero,Int.add_zero,Int.emod_eq_of_lt ho.1 ho.2] at h
      rw [HM.out,h]
theorem rPow_any (a m:Int) (n:Nat) (w:World) (ha:-9223372036854775808≤a∧a≤9223372036854775807) (hn:n≤9223372036854775807) (hm:1≤m∧m≤9223372036854775807) :
 Calls Tryz.prog 40 #[.int .i64 a,.int .i64 (n:Int),.int .i64 m] w (RetZ .i64 m (powZ a n m) w):=by
 go_enter Tryz.func40,Tryz.ntmps40
 go_wp2_with (go_at_call 79;first | ((with_reducible refine (rResidue_any 1 _ _ (by omega) (by omega)).mono ?_);rintro e w' ⟨u,HU,u0,u1,rfl,rfl⟩) | ((with_reducible refine (rResidue_any _ _ _ (by omega) (by omega)).mono ?_);rintro e w' ⟨x,HX,xa0,xa1,rfl,rfl⟩))
 go_loop [7,8,1] (fun r b i=>∃ (j:Nat) (x p:Int),b=.int .i64 x∧i=.int .i64 (j:Int)∧r=.int .i64 p∧j≤9223372036854775807∧(0≤x∧x<m)∧0≤p∧p<m∧Hid (p * x ^ j % m=a ^ n % m)) (fun _ _ i=>(intOf i).toNat)
 case atStart=>exact ⟨n,x,u,rfl,rfl,rfl,hn,⟨xa0,xa1⟩,u0,u1,by show _=_;rw [HU.out,HX.out,Int.mul_emod,Int.emod_emod,pow_emod,← Int.mul_emod,Int.one_mul]⟩
 case round =>
  obtain ⟨j,x,p,rfl,rfl,rfl,hj,hx,hp0,hp1,HP⟩:=hrel
  by_cases hlt:0<j
  · by_cases hb1:j % 2=1
    · have hbt:((j:Int) % 2 == 1)=true:=by rw [beq_iff_eq];omega
      have HB1:=Lib.hid hb1
      clear hb1
      go_wp2_with (go_at_call 41;first | ((with_reducible refine (rMul_any p x m _ (by omega) (by omega) (by omega)).mono ?_);rintro e w' ⟨r1,HR1,r10,r11,rfl,rfl⟩) | ((with_reducible refine (rMul_any x x m _ (by omega) (by omega) (by omega)).mono ?_);rintro e w' ⟨r2,HR2,r20,r21,rfl,rfl⟩))
      refine ⟨⟨j / 2,r2,r1,rfl,by go_num,rfl,by omega,⟨r20,r21⟩,r10,r11,?_⟩,by simp [intOf];omega⟩
      show _=_
      rw [HR2.out,HR1.out,pow_odd p x m j HB1.out,HP.out]
    · have hb0:j % 2=0:=by omega
      have hbt:((j:Int) % 2 == 1)=false:=by rw [beq_eq_false_iff_ne];omega
      have HB1:=Lib.hid hb0
      clear hb1 hb0
      go_wp2_with (go_at_call 41;((with_reducible refine (rMul_any x x m _ (by omega) (by omega) (by omega)).mono ?_);rintro e w' ⟨r2,HR2,r20,r21,rfl,rfl⟩))
      refine ⟨⟨j / 2,r2,p,rfl,by go_num,rfl,by omega,⟨r20,r21⟩,hp0,hp1,?_⟩,by simp [intOf];omega⟩
      show _=_
      rw [HR2.out,pow_even p x m j HB1.out,HP.out]
  · obtain rfl:j=0:=by omega
    go_wp2_with fail
    go_ret
    refine ⟨p,?_,hp0,hp1,rfl,rfl⟩
    have h:=HP.out
    rw [Int.pow_zero,Int.mul_one,Int.emod_eq_of_lt hp0 hp1] at h
    exact h
end Go.Proofs.YtmjlkkbbnkanpaaGreatDoor
