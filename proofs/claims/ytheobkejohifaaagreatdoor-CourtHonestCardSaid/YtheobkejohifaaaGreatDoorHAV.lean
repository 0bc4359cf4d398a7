/- day.Decode at any text and what follows. -/
import Derived.Test.YtheobkejohifaaaGreatDoorHAU
import Derived.Test.YtheobkejohifaaaGreatDoorHAS
import Derived.Test.YtheobkejohifaaaGreatDoorHAD
import Derived.Test.YtheobkejohifaaaGreatDoorHAA
namespace Go.Proofs.YtheobkejohifaaaGreatDoor
open Go.RowKit
set_option maxRecDepth 100000
theorem pd9:∀ (V A B C:List Value),V.length=B.length→pdN (A ++ (B ++ C)).toArray A.length V=(A ++ (V ++ C)).toArray
 | [],A,[],C,_=>rfl
 | v :: r,A,b :: B,C,h=>by
  have e:(A ++ (b :: B ++ C)).toArray.setIfInBounds A.length v=((A ++ [v]) ++ (B ++ C)).toArray:=by
   rw [List.setIfInBounds_toArray,List.set_append_right _ _ (Nat.le_refl _),Nat.sub_self]
   simp
  have l:A.length+1=(A ++ [v]).length:=by simp
  rw [pdN,e,l,pd9 r (A ++ [v]) B C (by simpa using h)]
  simp
def pp6 (l:List UInt8) (w:World) (e:Ending) (w':World):Prop :=
 (∃ ev:EvG,Hid (pan l ev)∧e=.returned (.tuple #[.agg ev.V.toArray,.int .i64 0])∧Upd [] [] w w')∨(∃ Z:Array Value,Hid (Z=evZ.toArray)∧Hid (∀ ev,¬ pan l ev)∧e=.returned (.tuple #[.agg Z,.int .i64 11])∧Upd [] [] w w')
set_option maxHeartbeats 16000000 in
theorem poI (s:ByteArray) (hs:s.size≤1000000000) (w:World) (htab:Tabs w):Calls Tryz.prog 186 #[.string s] w (pp6 (bs s) w):=by
 obtain ⟨ZE,hZE⟩:∃ ZE,ZE=evZ.toArray:=⟨_,rfl⟩
 have HZB:Hid (Tryz.prog.built 53 []=some ZE):=by rw [hZE];exact ph0
 have HZEI:Hid ((Tryz.prog.info? 53).map (·.size)=some ZE.size):=by rw [hZE];exact pfp
 have HZEO:Hid (ZE.all (·.oneCell')=true):=by rw [hZE];exact pge
 have HZEZ:Hid (evZ.toArray.size=ZE.size):=by rw [hZE];rfl
 have HZEE:=Lib.hid hZE
 clear hZE
 obtain ⟨g2,hg2⟩:∃ g,w.heap.size=g:=⟨_,rfl⟩
 obtain ⟨w1,hw1⟩:∃ W,w.alloc (.cells #[.int .i64 0,.int .i64 0,.int .i64 0,.int .i64 0,.int .i64 0,.string ⟨#[]⟩,.int .u8 0,.int .u8 0,.int .u8 0,.int .u8 0,.int .u8 0,.int .u8 0,.int .u8 0,.int .u8 0,.int .u8 0,.int .u8 0,.int .u8 0,.int .u8 0,.int .u8 0,.int .u8 0,.int .u8 0,.int .u8 0,.int .u8 0,.int .u8 0,.int .u8 0,.int .u8 0,.int .u8 0,.int .u8 0,.int .u8 0,.int .u8 0,.int .u8 0,.int .u8 0,.int .u8 0,.int .u8 0,.int .u8 0,.int .u8 0,.int .u8 0,.int .u8 0,.int .i64 0,.int .i64 0] 53)=W:=⟨_,rfl⟩
 have r1:w1.heap[g2]? =some (.cells evZ.toArray 53 (0,0)):=by rw [← hg2,← hw1,paz];exact heap_alloc_new _ _
 have u1:Upd [] [] w w1:=by rw [← hw1];exact (Upd.refl _ _).alloc _
 have HSp:=Lib.hid (poH s (by omega) w1 (htab.upd u1))
 have HW:=Lib.hid hg2
 have HG2:Hid (w.heap.size≤g2):=Nat.le_of_eq hg2
 go_enter Tryz.func186,Tryz.ntmps186
 go_wp2_with fail
 refine HSp.out.mono ?_
 rintro e w2 ⟨P,cap,HP,hpc,hc10,rfl,hw2⟩
 clear HSp
 obtain ⟨gP,hgP⟩:∃ g,w1.heap.size=g:=⟨_,rfl⟩
 have u2:Upd [] [] w1 w2:=by rw [hw2];exact (Upd.refl _ _).alloc _
 have r2:w2.heap[gP]? =some (.cells (Lib.cellsOf P cap) 9 (0,0)):=by rw [← hgP,hw2];exact heap_alloc_new _ _
 rw [hgP]
 have n1:g2<gP:=by rw [← hgP,← hg2];exact pag (by rw [hg2];exact r1)
 have R1:=Lib.hid (paa r1 u2)
 have UD:=Lib.hid (u1.trans u2)
 have HW2:=Lib.hid hw2
 have N1:=Lib.hid n1
 clear hw2 u1 u2 r1 n1 hw1
 by_cases h10:P.length=10
 case neg =>
  have h10i:¬ (P.length:Int)=10:=by omega
  clear hpc hc10 r2
  have HNO:Hid (∀ ev,¬ pan (bs s) ev):=by
   intro ev h
   exact h10 (by rw [← List.length_map (f:=bs),HP.out.1 ev h];rfl)
  obtain ⟨X,HX,RX,UX⟩:=pcE w g2 ZE w2 HG2.out R1.out UD.out
  go_wp2_with (first | (refine wpList_buildTo rfl 53 #[] rfl _ rfl ZE (Eq.trans (congrArg (fun z=>Tryz.prog.built 53 z) (by kernel_rfl)) HZB.out) ?_) | (refine wpList_store_rowAs rfl 53 _ _ rfl g2 ZE rfl rfl _ _ R1.out HZEI.out HZEZ.out HZEO.out X HX.out ?_))
  refine bodyPost_ret (results_row_tmp rfl _ _ g2 _ ZE _ _ rfl RX.out Tryz.underlying53 rfl HZEI.out) rfl ?_
  exact .inr ⟨ZE,HZEE,HNO,rfl,UX.out⟩
 obtain rfl:cap=10:=by omega
 obtain ⟨p0,p1,p2,p3,p4,p5,p6,p7,p8,p9,hP⟩:=pq1 h10
 have HSZ:Hid (p0.size≤s.size∧p1.size≤s.size∧p3.size≤s.size∧p4.size≤s.size∧p5.size≤s.size∧p6.size≤s.size∧p7.size≤s.size∧p9.size≤s.size):=by
  have h:=HP.out.2
  rw [hP] at h
  exact ⟨h _ (by simp),h _ (by simp),h _ (by simp),h _ (by simp),h _ (by simp),h _ (by simp),h _ (by simp),h _ (by simp)⟩
 have HC:Hid (∀ ev,pan (bs s) ev→bs p0=Lib.itoa ev.r∧bs p1=Lib.itoa ev.s∧bs p3=Lib.itoa ev.q∧bs p4=Lib.itoa ev.k∧bs p5=Lib.itoa ev.h∧bs p6=Lib.itoa ev.t∧bs p7=Lib.itoa ev.n∧bs p8=hexL ev.p∧bs p9=pa4 (bs ev.x)):=by
  intro ev h
  have e:=HP.out.1 ev h
  rw [hP] at e
  simp only [List.map_cons,List.map_nil,EvG.parts,List.cons.injEq,and_true] at e
  obtain ⟨a1,a2,_,a3,a4,a5,a6,a7,a8,a9⟩:=e
  exact ⟨a1,a2,a3,a4,a5,a6,a7,a8,a9⟩
 have RP:Hid (w2.heap[gP]? =some (.cells #[.string p0,.string p1,.string p2,.string p3,.string p4,.string p5,.string p6,.string p7,.string p8,.string p9] 9 (0,0))):=by
  have h:=r2
  rw [hP] at h
  exact h
 have hl10:(P.length:Int)=10:=by omega
 have HPC:=Lib.hid hpc
 subst hP
 clear r2 HP h10 hpc hc10
 obtain ⟨gE,hgE⟩:∃ g,w2.heap.size=g:=⟨_,rfl⟩
 obtain ⟨w3,hw3⟩:∃ W,w2.alloc (.cells #[.int .i64 0,.int .i64 0,.int .i64 0,.int .i64 0,.int .i64 0,.string ⟨#[]⟩,.int .u8 0,.int .u8 0,.int .u8 0,.int .u8 0,.int .u8 0,.int .u8 0,.int .u8 0,.int .u8 0,.int .u8 0,.int .u8 0,.int .u8 0,.int .u8 0,.int .u8 0,.int .u8 0,.int .u8 0,.int .u8 0,.int .u8 0,.int .u8 0,.int .u8 0,.int .u8 0,.int .u8 0,.int .u8 0,.int .u8 0,.int .u8 0,.int .u8 0,.int .u8 0,.int .u8 0,.int .u8 0,.int .u8 0,.int .u8 0,.int .u8 0,.int .u8 0,.int .i64 0,.int .i64 0] 53)=W:=⟨_,rfl⟩
 have r3:w3.heap[gE]? =some (.cells evZ.toArray 53 (0,0)):=by rw [← hgE,← hw3,paz];exact heap_alloc_new _ _
 have u3:Upd [] [] w2 w3:=by rw [← hw3];exact (Upd.refl _ _).alloc _
 obtain ⟨gN,hgN⟩:∃ g,w3.heap.size=g:=⟨_,rfl⟩
 obtain ⟨w4,hw4⟩:∃ W,w3.alloc (.cells #[.pointer (some ⟨gE,38,none⟩),.pointer (some ⟨gE,39,none⟩),.pointer none,.pointer (some ⟨gE,0,none⟩),.pointer (some ⟨gE,1,none⟩),.pointer (some ⟨gE,2,none⟩),.pointer (some ⟨gE,3,none⟩),.pointer (some ⟨gE,4,none⟩)] 262)=W:=⟨_,rfl⟩
 have r4:w4.heap[gN]? =some (.cells #[.pointer (some ⟨gE,38,none⟩),.pointer (some ⟨gE,39,none⟩),.pointer none,.pointer (some ⟨gE,0,none⟩),.pointer (some ⟨gE,1,none⟩),.pointer (some ⟨gE,2,none⟩),.pointer (some ⟨gE,3,none⟩),.pointer (some ⟨gE,4,none⟩)] 262 (0,0)):=by rw [← hgN,← hw4];exact heap_alloc_new _ _
 have u4:Upd [] [] w3 w4:=by rw [← hw4];exact (Upd.refl _ _).alloc _
 have n2:gP<gE:=by rw [← hgE];exact pag RP.out
 have n3:gE<gN:=by rw [← hgN];exact pag r3
 have n1:=N1.out
 have HN:=Lib.hid (And.intro n1 (And.intro n2 n3))
 have R2:=Lib.hid (paa (paa RP.out u3) u4)
 have R10:=Lib.hid (paa (paa R1.out u3) u4)
 have E0:=Lib.hid (paa r3 u4)
 have R4:=Lib.hid r4
 have UD0:=Lib.hid ((UD.out.trans u3).trans u4)
 have e2:gE≠gP:=by omega
 have e3:gE≠gN:=by omega
 have e1:gE≠g2:=by omega
 clear r3 r4 u3 u4 n1 n2 n3 RP R1 UD N1
 go_wp2_with fail
 refine wp_loop_rounds 9 ?_
 rw [rounds_succ]
 have cn:=(cell_of_row _ gN 0 _ _ _ R4.out).trans (show _=some (Value.pointer (some ⟨gE,38,none⟩)) from rfl)
 have cp:=(cell_of_row _ gP 0 _ _ _ R2.out).trans (show _=some (Value.string p0) from rfl)
 go_wp2_with fail
 refine (pca p0 _ (by have:=HSZ.out.1;omega) (htab.upd UD0.out)).mono ?_
 rintro e y0 ⟨m0,ok,HO,hm0,rfl,hq⟩
 have I0:=Lib.hid hm0
 obtain ⟨hm0a,hm0b⟩:=hm0
 cases ok
 · have F1:=Lib.hid (paa R10.out hq)
   have F2:=Lib.hid (UD0.out.trans hq)
   clear hq cn cp
   have HNO:Hid (∀ ev,¬ pan (bs s) ev):=fun ev h=>HO.out.2.2 rfl ⟨_,h.1.2.2.2.2.2.2.1,(HC.out ev h).1⟩
   obtain ⟨X,HX,RX,UX⟩:=pcE w g2 ZE y0 HG2.out F1.out F2.out
   go_wp2_with (first | (refine wpList_buildTo rfl 53 #[] rfl _ rfl ZE (Eq.trans (congrArg (fun z=>Tryz.prog.built 53 z) (by kernel_rfl)) HZB.out) ?_) | (refine wpList_store_rowAs rfl 53 _ _ rfl g2 ZE rfl rfl _ _ F1.out HZEI.out HZEZ.out HZEO.out X HX.out ?_))
   refine bodyPost_ret (results_row_tmp rfl _ _ g2 _ ZE _ _ rfl RX.out Tryz.underlying53 rfl HZEI.out) rfl ?_
   exact .inr ⟨ZE,HZEE,HNO,rfl,UX.out⟩
 have M0:Hid (bs p0=Lib.itoa m0):=HO.out.2.1 rfl
 have cE:=(cell_of_row _ gE 38 _ _ _ (paa E0.out hq)).trans (show _=some (Value.int .i64 0) from rfl)
 have fE:=frozen_of_row _ gE 38 _ _ (paa E0.out hq)
 obtain ⟨z0,hz⟩:∃ Z,y0.setCell ⟨gE,38,none⟩ (.int .i64 m0)=Z:=⟨_,rfl⟩
 have uS:Upd [gE] [gE] y0 z0:=by rw [← hz];exact (Upd.refl _ _).setCell (p:=⟨gE,38,none⟩) (by simp) _
 have E1:=Lib.hid ((congrArg (fun W:World=>W.heap[gE]?) hz.symm).trans (heap_setCell_same y0 gE 38 _ _ (.int .i64 m0) (paa E0.out hq)))
 have R2_1:=Lib.hid ((uS.block gP (pag (paa R2.out hq)) (by simp;exact fun e=>e2 e.symm)).trans (paa R2.out hq))
 have R4_1:=Lib.hid ((uS.block gN (pag (paa R4.out hq)) (by simp;exact fun e=>e3 e.symm)).trans (paa R4.out hq))
 have R1_1:=Lib.hid ((uS.block g2 (pag (paa R10.out hq)) (by simp;exact fun e=>e1 e.symm)).trans (paa R10.out hq))
 have UD1:Hid (Upd [] [] w z0):=by have h:=(UD0.out.trans hq).setNew (p:=⟨gE,38,none⟩) (show w.heap.size≤gE by have:=HW.out;have:=HN.out;omega) (.int .i64 m0);rw [hz] at h;exact h
 clear cn cp hq uS HO E0 R2 R4 R10 UD0
 go_wp2_with fail
 clear cE fE hz hm0a hm0b
 rw [rounds_succ]
 have cn:=(cell_of_row _ gN 1 _ _ _ R4_1.out).trans (show _=some (Value.pointer (some ⟨gE,39,none⟩)) from rfl)
 have cp:=(cell_of_row _ gP 1 _ _ _ R2_1.out).trans (show _=some (Value.string p1) from rfl)
 go_wp2_with fail
 refine (pca p1 _ (by have:=HSZ.out.2.1;omega) (htab.upd UD1.out)).mono ?_
 rintro e y1 ⟨m1,ok,HO,hm1,rfl,hq⟩
 have I1:=Lib.hid hm1
 obtain ⟨hm1a,hm1b⟩:=hm1
 cases ok
 · have F1:=Lib.hid (paa R1_1.out hq)
   have F2:=Lib.hid (UD1.out.trans hq)
   clear hq cn cp
   have HNO:Hid (∀ ev,¬ pan (bs s) ev):=fun ev h=>HO.out.2.2 rfl ⟨_,h.1.2.2.2.2.2.2.2,(HC.out ev h).2.1⟩
   obtain ⟨X,HX,RX,UX⟩:=pcE w g2 ZE y1 HG2.out F1.out F2.out
   go_wp2_with (first | (refine wpList_buildTo rfl 53 #[] rfl _ rfl ZE (Eq.trans (congrArg (fun z=>Tryz.prog.built 53 z) (by kernel_rfl)) HZB.out) ?_) | (refine wpList_store_rowAs rfl 53 _ _ rfl g2 ZE rfl rfl _ _ F1.out HZEI.out HZEZ.out HZEO.out X HX.out ?_))
   refine bodyPost_ret (results_row_tmp rfl _ _ g2 _ ZE _ _ rfl RX.out Tryz.underlying53 rfl HZEI.out) rfl ?_
   exact .inr ⟨ZE,HZEE,HNO,rfl,UX.out⟩
 have M1:Hid (bs p1=Lib.itoa m1):=HO.out.2.1 rfl
 have cE:=(cell_of_row _ gE 39 _ _ _ (paa E1.out hq)).trans (show _=some (Value.int .i64 0) from rfl)
 have fE:=frozen_of_row _ gE 39 _ _ (paa E1.out hq)
 obtain ⟨z1,hz⟩:∃ Z,y1.setCell ⟨gE,39,none⟩ (.int .i64 m1)=Z:=⟨_,rfl⟩
 have uS:Upd [gE] [gE] y1 z1:=by rw [← hz];exact (Upd.refl _ _).setCell (p:=⟨gE,39,none⟩) (by simp) _
 have E2:=Lib.hid ((congrArg (fun W:World=>W.heap[gE]?) hz.symm).trans (heap_setCell_same y1 gE 39 _ _ (.int .i64 m1) (paa E1.out hq)))
 have R2_2:=Lib.hid ((uS.block gP (pag (paa R2_1.out hq)) (by simp;exact fun e=>e2 e.symm)).trans (paa R2_1.out hq))
 have R4_2:=Lib.hid ((uS.block gN (pag (paa R4_1.out hq)) (by simp;exact fun e=>e3 e.symm)).trans (paa R4_1.out hq))
 have R1_2:=Lib.hid ((uS.block g2 (pag (paa R1_1.out hq)) (by simp;exact fun e=>e1 e.symm)).trans (paa R1_1.out hq))
 have UD2:Hid (Upd [] [] w z1):=by have h:=(UD1.out.trans hq).setNew (p:=⟨gE,39,none⟩) (show w.heap.size≤gE by have:=HW.out;have:=HN.out;omega) (.int .i64 m1);rw [hz] at h;exact h
 clear cn cp hq uS HO E1 R2_1 R4_1 R1_1 UD1
 go_wp2_with fail
 clear cE fE hz hm1a hm1b
 rw [rounds_succ]
 have cn:=(cell_of_row _ gN 2 _ _ _ R4_2.out).trans (show _=some (Value.pointer none) from rfl)
 go_wp2_with fail
 clear cn
 rw [rounds_succ]
 have cn:=(cell_of_row _ gN 3 _ _ _ R4_2.out).trans (show _=some (Value.pointer (some ⟨gE,0,none⟩)) from rfl)
 have cp:=(cell_of_row _ gP 3 _ _ _ R2_2.out).trans (show _=some (Value.string p3) from rfl)
 go_wp2_with fail
 refine (pca p3 _ (by have:=HSZ.out.2.2.1;omega) (htab.upd UD2.out)).mono ?_
 rintro e y3 ⟨m3,ok,HO,hm3,rfl,hq⟩
 have I3:=Lib.hid hm3
 obtain ⟨hm3a,hm3b⟩:=hm3
 cases ok
 · have F1:=Lib.hid (paa R1_2.out hq)
   have F2:=Lib.hid (UD2.out.trans hq)
   clear hq cn cp
   have HNO:Hid (∀ ev,¬ pan (bs s) ev):=fun ev h=>HO.out.2.2 rfl ⟨_,h.1.1,(HC.out ev h).2.2.1⟩
   obtain ⟨X,HX,RX,UX⟩:=pcE w g2 ZE y3 HG2.out F1.out F2.out
   go_wp2_with (first | (refine wpList_buildTo rfl 53 #[] rfl _ rfl ZE (Eq.trans (congrArg (fun z=>Tryz.prog.built 53 z) (by kernel_rfl)) HZB.out) ?_) | (refine wpList_store_rowAs rfl 53 _ _ rfl g2 ZE rfl rfl _ _ F1.out HZEI.out HZEZ.out HZEO.out X HX.out ?_))
   refine bodyPost_ret (results_row_tmp rfl _ _ g2 _ ZE _ _ rfl RX.out Tryz.underlying53 rfl HZEI.out) rfl ?_
   exact .inr ⟨ZE,HZEE,HNO,rfl,UX.out⟩
 have M3:Hid (bs p3=Lib.itoa m3):=HO.out.2.1 rfl
 have cE:=(cell_of_row _ gE 0 _ _ _ (paa E2.out hq)).trans (show _=some (Value.int .i64 0) from rfl)
 have fE:=frozen_of_row _ gE 0 _ _ (paa E2.out hq)
 obtain ⟨z3,hz⟩:∃ Z,y3.setCell ⟨gE,0,none⟩ (.int .i64 m3)=Z:=⟨_,rfl⟩
 have uS:Upd [gE] [gE] y3 z3:=by rw [← hz];exact (Upd.refl _ _).setCell (p:=⟨gE,0,none⟩) (by simp) _
 have E4:=Lib.hid ((congrArg (fun W:World=>W.heap[gE]?) hz.symm).trans (heap_setCell_same y3 gE 0 _ _ (.int .i64 m3) (paa E2.out hq)))
 have R2_4:=Lib.hid ((uS.block gP (pag (paa R2_2.out hq)) (by simp;exact fun e=>e2 e.symm)).trans (paa R2_2.out hq))
 have R4_4:=Lib.hid ((uS.block gN (pag (paa R4_2.out hq)) (by simp;exact fun e=>e3 e.symm)).trans (paa R4_2.out hq))
 have R1_4:=Lib.hid ((uS.block g2 (pag (paa R1_2.out hq)) (by simp;exact fun e=>e1 e.symm)).trans (paa R1_2.out hq))
 have UD4:Hid (Upd [] [] w z3):=by have h:=(UD2.out.trans hq).setNew (p:=⟨gE,0,none⟩) (show w.heap.size≤gE by have:=HW.out;have:=HN.out;omega) (.int .i64 m3);rw [hz] at h;exact h
 clear cn cp hq uS HO E2 R2_2 R4_2 R1_2 UD2
 go_wp2_with fail
 clear cE fE hz hm3a hm3b
 rw [rounds_succ]
 have cn:=(cell_of_row _ gN 4 _ _ _ R4_4.out).trans (show _=some (Value.pointer (some ⟨gE,1,none⟩)) from rfl)
 have cp:=(cell_of_row _ gP 4 _ _ _ R2_4.out).trans (show _=some (Value.string p4) from rfl)
 go_wp2_with fail
 refine (pca p4 _ (by have:=HSZ.out.2.2.2.1;omega) (htab.upd UD4.out)).mono ?_
 rintro e y4 ⟨m4,ok,HO,hm4,rfl,hq⟩
 have I4:=Lib.hid hm4
 obtain ⟨hm4a,hm4b⟩:=hm4
 cases ok
 · have F1:=Lib.hid (paa R1_4.out hq)
   have F2:=Lib.hid (UD4.out.trans hq)
   clear hq cn cp
   have HNO:Hid (∀ ev,¬ pan (bs s) ev):=fun ev h=>HO.out.2.2 rfl ⟨_,h.1.2.1,(HC.out ev h).2.2.2.1⟩
   obtain ⟨X,HX,RX,UX⟩:=pcE w g2 ZE y4 HG2.out F1.out F2.out
   go_wp2_with (first | (refine wpList_buildTo rfl 53 #[] rfl _ rfl ZE (Eq.trans (congrArg (fun z=>Tryz.prog.built 53 z) (by kernel_rfl)) HZB.out) ?_) | (refine wpList_store_rowAs rfl 53 _ _ rfl g2 ZE rfl rfl _ _ F1.out HZEI.out HZEZ.out HZEO.out X HX.out ?_))
   refine bodyPost_ret (results_row_tmp rfl _ _ g2 _ ZE _ _ rfl RX.out Tryz.underlying53 rfl HZEI.out) rfl ?_
   exact .inr ⟨ZE,HZEE,HNO,rfl,UX.out⟩
 have M4:Hid (bs p4=Lib.itoa m4):=HO.out.2.1 rfl
 have cE:=(cell_of_row _ gE 1 _ _ _ (paa E4.out hq)).trans (show _=some (Value.int .i64 0) from rfl)
 have fE:=frozen_of_row _ gE 1 _ _ (paa E4.out hq)
 obtain ⟨z4,hz⟩:∃ Z,y4.setCell ⟨gE,1,none⟩ (.int .i64 m4)=Z:=⟨_,rfl⟩
 have uS:Upd [gE] [gE] y4 z4:=by rw [← hz];exact (Upd.refl _ _).setCell (p:=⟨gE,1,none⟩) (by simp) _
 have E5:=Lib.hid ((congrArg (fun W:World=>W.heap[gE]?) hz.symm).trans (heap_setCell_same y4 gE 1 _ _ (.int .i64 m4) (paa E4.out hq)))
 have R2_5:=Lib.hid ((uS.block gP (pag (paa R2_4.out hq)) (by simp;exact fun e=>e2 e.symm)).trans (paa R2_4.out hq))
 have R4_5:=Lib.hid ((uS.block gN (pag (paa R4_4.out hq)) (by simp;exact fun e=>e3 e.symm)).trans (paa R4_4.out hq))
 have R1_5:=Lib.hid ((uS.block g2 (pag (paa R1_4.out hq)) (by simp;exact fun e=>e1 e.symm)).trans (paa R1_4.out hq))
 have UD5:Hid (Upd [] [] w z4):=by have h:=(UD4.out.trans hq).setNew (p:=⟨gE,1,none⟩) (show w.heap.size≤gE by have:=HW.out;have:=HN.out;omega) (.int .i64 m4);rw [hz] at h;exact h
 clear cn cp hq uS HO E4 R2_4 R4_4 R1_4 UD4
 go_wp2_with fail
 clear cE fE hz hm4a hm4b
 rw [rounds_succ]
 have cn:=(cell_of_row _ gN 5 _ _ _ R4_5.out).trans (show _=some (Value.pointer (some ⟨gE,2,none⟩)) from rfl)
 have cp:=(cell_of_row _ gP 5 _ _ _ R2_5.out).trans (show _=some (Value.string p5) from rfl)
 go_wp2_with fail
 refine (pca p5 _ (by have:=HSZ.out.2.2.2.2.1;omega) (htab.upd UD5.out)).mono ?_
 rintro e y5 ⟨m5,ok,HO,hm5,rfl,hq⟩
 have I5:=Lib.hid hm5
 obtain ⟨hm5a,hm5b⟩:=hm5
 cases ok
 · have F1:=Lib.hid (paa R1_5.out hq)
   have F2:=Lib.hid (UD5.out.trans hq)
   clear hq cn cp
   have HNO:Hid (∀ ev,¬ pan (bs s) ev):=fun ev h=>HO.out.2.2 rfl ⟨_,h.1.2.2.1,(HC.out ev h).2.2.2.2.1⟩
   obtain ⟨X,HX,RX,UX⟩:=pcE w g2 ZE y5 HG2.out F1.out F2.out
   go_wp2_with (first | (refine wpList_buildTo rfl 53 #[] rfl _ rfl ZE (Eq.trans (congrArg (fun z=>Tryz.prog.built 53 z) (by kernel_rfl)) HZB.out) ?_) | (refine wpList_store_rowAs rfl 53 _ _ rfl g2 ZE rfl rfl _ _ F1.out HZEI.out HZEZ.out HZEO.out X HX.out ?_))
   refine bodyPost_ret (results_row_tmp rfl _ _ g2 _ ZE _ _ rfl RX.out Tryz.underlying53 rfl HZEI.out) rfl ?_
   exact .inr ⟨ZE,HZEE,HNO,rfl,UX.out⟩
 have M5:Hid (bs p5=Lib.itoa m5):=HO.out.2.1 rfl
 have cE:=(cell_of_row _ gE 2 _ _ _ (paa E5.out hq)).trans (show _=some (Value.int .i64 0) from rfl)
 have fE:=frozen_of_row _ gE 2 _ _ (paa E5.out hq)
 obtain ⟨z5,hz⟩:∃ Z,y5.setCell ⟨gE,2,none⟩ (.int .i64 m5)=Z:=⟨_,rfl⟩
 have uS:Upd [gE] [gE] y5 z5:=by rw [← hz];exact (Upd.refl _ _).setCell (p:=⟨gE,2,none⟩) (by simp) _
 have E6:=Lib.hid ((congrArg (fun W:World=>W.heap[gE]?) hz.symm).trans (heap_setCell_same y5 gE 2 _ _ (.int .i64 m5) (paa E5.out hq)))
 have R2_6:=Lib.hid ((uS.block gP (pag (paa R2_5.out hq)) (by simp;exact fun e=>e2 e.symm)).trans (paa R2_5.out hq))
 have R4_6:=Lib.hid ((uS.block gN (pag (paa R4_5.out hq)) (by simp;exact fun e=>e3 e.symm)).trans (paa R4_5.out hq))
 have R1_6:=Lib.hid ((uS.block g2 (pag (paa R1_5.out hq)) (by simp;exact fun e=>e1 e.symm)).trans (paa R1_5.out hq))
 have UD6:Hid (Upd [] [] w z5):=by have h:=(UD5.out.trans hq).setNew (p:=⟨gE,2,none⟩) (show w.heap.size≤gE by have:=HW.out;have:=HN.out;omega) (.int .i64 m5);rw [hz] at h;exact h
 clear cn cp hq uS HO E5 R2_5 R4_5 R1_5 UD5
 go_wp2_with fail
 clear cE fE hz hm5a hm5b
 rw [rounds_succ]
 have cn:=(cell_of_row _ gN 6 _ _ _ R4_6.out).trans (show _=some (Value.pointer (some ⟨gE,3,none⟩)) from rfl)
 have cp:=(cell_of_row _ gP 6 _ _ _ R2_6.out).trans (show _=some (Value.string p6) from rfl)
 go_wp2_with fail
 refine (pca p6 _ (by have:=HSZ.out.2.2.2.2.2.1;omega) (htab.upd UD6.out)).mono ?_
 rintro e y6 ⟨m6,ok,HO,hm6,rfl,hq⟩
 have I6:=Lib.hid hm6
 obtain ⟨hm6a,hm6b⟩:=hm6
 cases ok
 · have F1:=Lib.hid (paa R1_6.out hq)
   have F2:=Lib.hid (UD6.out.trans hq)
   clear hq cn cp
   have HNO:Hid (∀ ev,¬ pan (bs s) ev):=fun ev h=>HO.out.2.2 rfl ⟨_,h.1.2.2.2.1,(HC.out ev h).2.2.2.2.2.1⟩
   obtain ⟨X,HX,RX,UX⟩:=pcE w g2 ZE y6 HG2.out F1.out F2.out
   go_wp2_with (first | (refine wpList_buildTo rfl 53 #[] rfl _ rfl ZE (Eq.trans (congrArg (fun z=>Tryz.prog.built 53 z) (by kernel_rfl)) HZB.out) ?_) | (refine wpList_store_rowAs rfl 53 _ _ rfl g2 ZE rfl rfl _ _ F1.out HZEI.out HZEZ.out HZEO.out X HX.out ?_))
   refine bodyPost_ret (results_row_tmp rfl _ _ g2 _ ZE _ _ rfl RX.out Tryz.underlying53 rfl HZEI.out) rfl ?_
   exact .inr ⟨ZE,HZEE,HNO,rfl,UX.out⟩
 have M6:Hid (bs p6=Lib.itoa m6):=HO.out.2.1 rfl
 have cE:=(cell_of_row _ gE 3 _ _ _ (paa E6.out hq)).trans (show _=some (Value.int .i64 0) from rfl)
 have fE:=frozen_of_row _ gE 3 _ _ (paa E6.out hq)
 obtain ⟨z6,hz⟩:∃ Z,y6.setCell ⟨gE,3,none⟩ (.int .i64 m6)=Z:=⟨_,rfl⟩
 have uS:Upd [gE] [gE] y6 z6:=by rw [← hz];exact (Upd.refl _ _).setCell (p:=⟨gE,3,none⟩) (by simp) _
 have E7:=Lib.hid ((congrArg (fun W:World=>W.heap[gE]?) hz.symm).trans (heap_setCell_same y6 gE 3 _ _ (.int .i64 m6) (paa E6.out hq)))
 have R2_7:=Lib.hid ((uS.block gP (pag (paa R2_6.out hq)) (by simp;exact fun e=>e2 e.symm)).trans (paa R2_6.out hq))
 have R4_7:=Lib.hid ((uS.block gN (pag (paa R4_6.out hq)) (by simp;exact fun e=>e3 e.symm)).trans (paa R4_6.out hq))
 have R1_7:=Lib.hid ((uS.block g2 (pag (paa R1_6.out hq)) (by simp;exact fun e=>e1 e.symm)).trans (paa R1_6.out hq))
 have UD7:Hid (Upd [] [] w z6):=by have h:=(UD6.out.trans hq).setNew (p:=⟨gE,3,none⟩) (show w.heap.size≤gE by have:=HW.out;have:=HN.out;omega) (.int .i64 m6);rw [hz] at h;exact h
 clear cn cp hq uS HO E6 R2_6 R4_6 R1_6 UD6
 go_wp2_with fail
 clear cE fE hz hm6a hm6b
 rw [rounds_succ]
 have cn:=(cell_of_row _ gN 7 _ _ _ R4_7.out).trans (show _=some (Value.pointer (some ⟨gE,4,none⟩)) from rfl)
 have cp:=(cell_of_row _ gP 7 _ _ _ R2_7.out).trans (show _=some (Value.string p7) from rfl)
 go_wp2_with fail
 refine (pca p7 _ (by have:=HSZ.out.2.2.2.2.2.2.1;omega) (htab.upd UD7.out)).mono ?_
 rintro e y7 ⟨m7,ok,HO,hm7,rfl,hq⟩
 have I7:=Lib.hid hm7
 obtain ⟨hm7a,hm7b⟩:=hm7
 cases ok
 · have F1:=Lib.hid (paa R1_7.out hq)
   have F2:=Lib.hid (UD7.out.trans hq)
   clear hq cn cp
   have HNO:Hid (∀ ev,¬ pan (bs s) ev):=fun ev h=>HO.out.2.2 rfl ⟨_,h.1.2.2.2.2.1,(HC.out ev h).2.2.2.2.2.2.1⟩
   obtain ⟨X,HX,RX,UX⟩:=pcE w g2 ZE y7 HG2.out F1.out F2.out
   go_wp2_with (first | (refine wpList_buildTo rfl 53 #[] rfl _ rfl ZE (Eq.trans (congrArg (fun z=>Tryz.prog.built 53 z) (by kernel_rfl)) HZB.out) ?_) | (refine wpList_store_rowAs rfl 53 _ _ rfl g2 ZE rfl rfl _ _ F1.out HZEI.out HZEZ.out HZEO.out X HX.out ?_))
   refine bodyPost_ret (results_row_tmp rfl _ _ g2 _ ZE _ _ rfl RX.out Tryz.underlying53 rfl HZEI.out) rfl ?_
   exact .inr ⟨ZE,HZEE,HNO,rfl,UX.out⟩
 have M7:Hid (bs p7=Lib.itoa m7):=HO.out.2.1 rfl
 have cE:=(cell_of_row _ gE 4 _ _ _ (paa E7.out hq)).trans (show _=some (Value.int .i64 0) from rfl)
 have fE:=frozen_of_row _ gE 4 _ _ (paa E7.out hq)
 obtain ⟨z7,hz⟩:∃ Z,y7.setCell ⟨gE,4,none⟩ (.int .i64 m7)=Z:=⟨_,rfl⟩
 have uS:Upd [gE] [gE] y7 z7:=by rw [← hz];exact (Upd.refl _ _).setCell (p:=⟨gE,4,none⟩) (by simp) _
 have E8:=Lib.hid ((congrArg (fun W:World=>W.heap[gE]?) hz.symm).trans (heap_setCell_same y7 gE 4 _ _ (.int .i64 m7) (paa E7.out hq)))
 have R2_8:=Lib.hid ((uS.block gP (pag (paa R2_7.out hq)) (by simp;exact fun e=>e2 e.symm)).trans (paa R2_7.out hq))
 have R4_8:=Lib.hid ((uS.block gN (pag (paa R4_7.out hq)) (by simp;exact fun e=>e3 e.symm)).trans (paa R4_7.out hq))
 have R1_8:=Lib.hid ((uS.block g2 (pag (paa R1_7.out hq)) (by simp;exact fun e=>e1 e.symm)).trans (paa R1_7.out hq))
 have UD8:Hid (Upd [] [] w z7):=by have h:=(UD7.out.trans hq).setNew (p:=⟨gE,4,none⟩) (show w.heap.size≤gE by have:=HW.out;have:=HN.out;omega) (.int .i64 m7);rw [hz] at h;exact h
 clear cn cp hq uS HO E7 R2_7 R4_7 R1_7 UD7
 go_wp2_with fail
 clear cE fE hz hm7a hm7b
 obtain ⟨EN,hEN⟩:∃ EN,EN=([.int .i64 m3,.int .i64 m4,.int .i64 m5,.int .i64 m6,.int .i64 m7,.string ⟨#[]⟩] ++ (byteVals zero32 ++ [.int .i64 m0,.int .i64 m1]):List Value).toArray:=⟨_,rfl⟩
 have EE:Hid (z7.heap[gE]? =some (.cells EN 53 (0,0))):=by rw [hEN];have h:=E8.out;exact h
 have RP:=R2_8
 have RR:=R1_8
 have UDN:=UD8
 clear E8 R2_8 R4_8 R1_8 UD8
 rw [rounds_succ]
 have cp8:=(cell_of_row _ gP 8 _ _ _ RP.out).trans (show _=some (Value.string p8) from rfl)
 go_wp2_with fail
 have HEN:=Lib.hid hEN
 clear hEN
 refine (pi4 p8 z7).mono ?_
 rintro e y8 ⟨h',ok,HO,rfl,hq⟩
 obtain ⟨ZH,hZH⟩:∃ ZH,ZH=(byteVals h').toArray:=⟨_,rfl⟩
 rw [← hZH]
 have hl32:h'.length=32:=HO.out.1
 have HZI:Hid ((Tryz.prog.info? 51).map (·.size)=some ZH.size):=by rw [hZH];exact hashInfo hl32
 have HZO:Hid (ZH.all (·.oneCell')=true):=by rw [hZH];exact hashOne _
 have HZS:Hid (ZH.size=32):=by show _=_;rw [hZH];simp [byteVals,hl32]
 have HZE:=Lib.hid hZH
 have HL32:=Lib.hid hl32
 clear hl32 hZH
 obtain ⟨y9,Z9,W9,R9,hq9⟩:=paC y8 51 (#[.int .u8 0,.int .u8 0,.int .u8 0,.int .u8 0,.int .u8 0,.int .u8 0,.int .u8 0,.int .u8 0,.int .u8 0,.int .u8 0,.int .u8 0,.int .u8 0,.int .u8 0,.int .u8 0,.int .u8 0,.int .u8 0,.int .u8 0,.int .u8 0,.int .u8 0,.int .u8 0,.int .u8 0,.int .u8 0,.int .u8 0,.int .u8 0,.int .u8 0,.int .u8 0,.int .u8 0,.int .u8 0,.int .u8 0,.int .u8 0,.int .u8 0,.int .u8 0]:Array Value) ZH
 have HZZ:Hid (((#[.int .u8 0,.int .u8 0,.int .u8 0,.int .u8 0,.int .u8 0,.int .u8 0,.int .u8 0,.int .u8 0,.int .u8 0,.int .u8 0,.int .u8 0,.int .u8 0,.int .u8 0,.int .u8 0,.int .u8 0,.int .u8 0,.int .u8 0,.int .u8 0,.int .u8 0,.int .u8 0,.int .u8 0,.int .u8 0,.int .u8 0,.int .u8 0,.int .u8 0,.int .u8 0,.int .u8 0,.int .u8 0,.int .u8 0,.int .u8 0,.int .u8 0,.int .u8 0]:Array Value):Array Value).size=ZH.size):=by show _=_;rw [HZS.out];rfl
 obtain ⟨gH,hgH⟩:∃ g,y8.heap.size=g:=⟨_,rfl⟩
 have hl8:gE<y8.heap.size:=Nat.lt_of_lt_of_le (pag EE.out) hq.size
 have hgw:w.heap.size≤gE:=by have:=HW.out;have:=HN.out;omega
 have hgH2:gE<gH:=by omega
 rw [hgH] at R9 Z9 W9
 have E9:=Lib.hid (paa (paa EE.out hq) hq9)
 have P9:=Lib.hid (paa (paa RP.out hq) hq9)
 have Q9:=Lib.hid (paa (paa RR.out hq) hq9)
 have UD9:=Lib.hid ((UDN.out.trans hq).trans hq9)
 have HGE:=Lib.hid (And.intro hgw hgH2)
 clear cp8 hq hq9 EE RP RR UDN hl8 hgw hgH2
 have M8:Hid (ok=true→bs p8=hexL h'):=HO.out.2.1
 have G8:Hid (ok=false→∀ ev,¬ pan (bs s) ev):=fun hf ev h=>(HO.out.2.2 hf).2 ev.p h.1.2.2.2.2.2.1 (HC.out ev h).2.2.2.2.2.2.2.1
 clear HO
 cases ok
 · clear R9
   have HNO:Hid (∀ ev,¬ pan (bs s) ev):=G8.out rfl
   obtain ⟨X,HX,RX,UX⟩:=pcE w g2 ZE y9 HG2.out Q9.out UD9.out
   go_wp2_with (first | (refine wpList_store_rowAs rfl 51 _ _ rfl gH ZH rfl rfl _ _ Z9.out HZI.out HZZ.out HZO.out y9 W9.out ?_) | (refine wpList_buildTo rfl 53 #[] rfl _ rfl ZE (Eq.trans (congrArg (fun z=>Tryz.prog.built 53 z) (by kernel_rfl)) HZB.out) ?_) | (refine wpList_store_rowAs rfl 53 _ _ rfl g2 ZE rfl rfl _ _ Q9.out HZEI.out HZEZ.out HZEO.out X HX.out ?_))
   refine bodyPost_ret (results_row_tmp rfl _ _ g2 _ ZE _ _ rfl RX.out Tryz.underlying53 rfl HZEI.out) rfl ?_
   exact .inr ⟨ZE,HZEE,HNO,rfl,UX.out⟩
 have cp9:=(cell_of_row _ gP 9 _ _ _ P9.out).trans (show _=some (Value.string p9) from rfl)
 go_wp2_with (first | (refine wpList_store_rowAs rfl 51 _ _ rfl gH ZH rfl rfl _ _ Z9.out HZI.out HZZ.out HZO.out y9 W9.out ?_))
 refine (pry p9 y9 (by have:=HSZ.out.2.2.2.2.2.2.2;omega) (htab.upd UD9.out)).mono ?_
 rintro e x1 ⟨t,r,ok,HO,ht,hr,rfl,hq⟩
 have Q1:=Lib.hid (paa Q9.out hq)
 have UX1:=Lib.hid (UD9.out.trans hq)
 have E1:=Lib.hid (paa E9.out hq)
 have H1:=Lib.hid (paa R9.out hq)
 clear hq cp9 E9 Q9 UD9 R9 Z9 W9 P9
 cases ok
 · clear E1 H1
   have HNO:Hid (∀ ev,¬ pan (bs s) ev):=fun ev h=>HO.out.2 rfl (bs ev.x) [] (by have:=h.size;rw [pac] at this ⊢;omega) (by rw [List.append_nil];exact (HC.out ev h).2.2.2.2.2.2.2.2)
   obtain ⟨X,HX,RX,UX⟩:=pcE w g2 ZE x1 HG2.out Q1.out UX1.out
   go_wp2_with (first | (refine wpList_buildTo rfl 53 #[] rfl _ rfl ZE (Eq.trans (congrArg (fun z=>Tryz.prog.built 53 z) (by kernel_rfl)) HZB.out) ?_) | (refine wpList_store_rowAs rfl 53 _ _ rfl g2 ZE rfl rfl _ _ Q1.out HZEI.out HZEZ.out HZEO.out X HX.out ?_))
   refine bodyPost_ret (results_row_tmp rfl _ _ g2 _ ZE _ _ rfl RX.out Tryz.underlying53 rfl HZEI.out) rfl ?_
   exact .inr ⟨ZE,HZEE,HNO,rfl,UX.out⟩
 by_cases hr0:r=⟨#[]⟩
 case neg =>
  have g1:(r.toList == (ByteArray.mk #[]).toList)=false:=by rw [← Bool.not_eq_true];exact fun h=>hr0 (paM (pbA.1 h))
  have hl0:¬ r.toList=[]:=fun e=>hr0 (paM (by rw [ByteArray.toList_eq] at e;exact e))
  have hb4:(r.toList == [])=false:=beq_eq_false_iff_ne.2 hl0
  have hb5:r.toList.isEmpty=false:=by simpa using hl0
  have hrl:(bs r).length≠0:=fun h=>hr0 (paM (by rw [List.length_eq_zero_iff.1 h];rfl))
  clear E1 H1
  have HNO:Hid (∀ ev,¬ pan (bs s) ev):=by
   intro ev h
   have e:=HO.out.1 rfl
   rw [(HC.out ev h).2.2.2.2.2.2.2.2] at e
   have e2:=word_inj (a:=bs ev.x) (b:=bs t) (A:=[]) (B:=bs r) (by have:=h.size;rw [pac] at this ⊢;omega) (by have:=HSZ.out.2.2.2.2.2.2.2;rw [pac];omega) (by rw [List.append_nil];exact e)
   exact hrl (congrArg List.length e2.2.symm)
  obtain ⟨X,HX,RX,UX⟩:=pcE w g2 ZE x1 HG2.out Q1.out UX1.out
  go_wp2_with (first | (refine wpList_buildTo rfl 53 #[] rfl _ rfl ZE (Eq.trans (congrArg (fun z=>Tryz.prog.built 53 z) (by kernel_rfl)) HZB.out) ?_) | (refine wpList_store_rowAs rfl 53 _ _ rfl g2 ZE rfl rfl _ _ Q1.out HZEI.out HZEZ.out HZEO.out X HX.out ?_))
  refine bodyPost_ret (results_row_tmp rfl _ _ g2 _ ZE _ _ rfl RX.out Tryz.underlying53 rfl HZEI.out) rfl ?_
  exact .inr ⟨ZE,HZEE,HNO,rfl,UX.out⟩
 subst hr0
 have M9:Hid (bs p9=pa4 (bs t)):=by show _=_;rw [HO.out.1 rfl];simp [bs]
 have g1:((ByteArray.mk #[]).toList == (ByteArray.mk #[]).toList)=true:=beq_self_eq_true _
 clear HO hr
 obtain ⟨ev,hev⟩:∃ ev:EvG,ev=⟨m3,m4,m5,m6,m7,t,h',m0,m1⟩:=⟨_,rfl⟩
 have HOKV:Hid (ev.ok):=by rw [hev];exact ⟨I3.out,I4.out,I5.out,I6.out,I7.out,HL32.out,I0.out,I1.out⟩
 have HXS:Hid (ev.x.size≤1000000000):=by rw [hev];exact Nat.le_trans ht (Nat.le_trans HSZ.out.2.2.2.2.2.2.2 hs)
 have hp32:ev.p.length=32:=HOKV.out.2.2.2.2.2.1
 have HCODE:Hid (∀ ev',pan (bs s) ev'→bs s=ev.code):=by
  intro ev' h
  rw [hev]
  obtain ⟨c0,c1,c3,c4,c5,c6,c7,c8,c9⟩:=HC.out ev' h
  exact h.2.trans (pnk (c0.symm.trans M0.out) (c1.symm.trans M1.out) (c3.symm.trans M3.out) (c4.symm.trans M4.out) (c5.symm.trans M5.out) (c6.symm.trans M6.out) (c7.symm.trans M7.out) (c8.symm.trans (M8.out (by first | rfl | trivial))) (c9.symm.trans M9.out))
 obtain ⟨EV,hEV⟩:∃ EV,EV=ev.V.toArray:=⟨_,rfl⟩
 have HEVI:Hid ((Tryz.prog.info? 53).map (·.size)=some EV.size):=by rw [hEV];exact EvG.info hp32
 have HEVO:Hid (EV.all (·.oneCell')=true):=by rw [hEV];exact ev.one
 have HEVZ:Hid (evZ.toArray.size=EV.size):=by show _=_;rw [hEV,pce];exact (EvG.V_len hp32).symm
 have HZL:Hid (ZH.toList=byteVals h'):=by show _=_;rw [HZE.out]
 have hset:pdN EN 6 ZH.toList=([.int .i64 m3,.int .i64 m4,.int .i64 m5,.int .i64 m6,.int .i64 m7,.string ⟨#[]⟩] ++ (byteVals h' ++ [.int .i64 m0,.int .i64 m1]):List Value).toArray:=by
  rw [HEN.out,HZL.out]
  exact pd9 (byteVals h') [.int .i64 m3,.int .i64 m4,.int .i64 m5,.int .i64 m6,.int .i64 m7,.string ⟨#[]⟩] (byteVals zero32) [.int .i64 m0,.int .i64 m1] (by rw [pcG,pcG,HL32.out];rfl)
 have TH:Hid (x1.there gE 6 ZH.size):=pbq E1.out (by rw [HZS.out,HEN.out];simp [byteVals,zero32])
 obtain ⟨x2,hx2⟩:∃ X,x1.setCells gE 6 ZH.toList=X:=⟨_,rfl⟩
 have E2:=pbd gE _ ZH.toList 6 x1 _ E1.out
 rw [hx2,hset] at E2
 have c5:x2.cell? ⟨gE,5,none⟩=some (.string ⟨#[]⟩):=(cell_of_row _ gE 5 _ _ _ E2).trans rfl
 have f5:=frozen_of_row _ gE 5 _ _ E2
 obtain ⟨x3,hx3⟩:∃ X,x2.setCell ⟨gE,5,none⟩ (.string t)=X:=⟨_,rfl⟩
 have E3:=heap_setCell_same x2 gE 5 _ _ (.string t) E2
 rw [hx3] at E3
 have hfin:(([.int .i64 m3,.int .i64 m4,.int .i64 m5,.int .i64 m6,.int .i64 m7,.string ⟨#[]⟩] ++ (byteVals h' ++ [.int .i64 m0,.int .i64 m1]):List Value).toArray).setIfInBounds 5 (.string t)=EV:=by
  rw [hEV,hev,List.setIfInBounds_toArray]
  rfl
 rw [hfin] at E3
 have UX3:Hid (Upd [] [] w x3):=by
  have h:=(Upd.setCellsNew HGE.out.1 ZH.toList 6 _ UX1.out).setNew (p:=⟨gE,5,none⟩) HGE.out.1 (.string t)
  rw [hx2,hx3] at h
  exact h
 have uS:Upd [gE] [gE] x1 x3:=by
  have h:=(Upd.setCellsIn (g:=gE) (S:=[gE]) (S':=[gE]) (by simp) ZH.toList 6 _ (Upd.refl [gE] x1)).setCell (p:=⟨gE,5,none⟩) (by simp) (.string t)
  rw [hx2,hx3] at h
  exact h
 have Q3:Hid (x3.heap[g2]? =some (.cells evZ.toArray 53 (0,0))):=(uS.block g2 (pag Q1.out) (by simp;exact fun e=>e1 e.symm)).trans Q1.out
 have HX2:=Lib.hid hx2
 have E3H:=Lib.hid E3
 have HEVE:=Lib.hid hEV
 have HT:=Lib.hid (fun W (u:Upd [] [] w W)=>poG ev HOKV.out HXS.out W (htab.upd u))
 clear E1 E2 hfin uS UX1 hx2 E3 hEV hgH hset hev HEN HZL hp32 M0 M1 M3 M4 M5 M6 M7 M8 M9 HC Q1
 go_wp2_with (first | (refine wpList_load_row rfl 51 _ rfl gH rfl _ ZH _ _ H1.out Tryz.underlying51 rfl HZI.out ?_) | (refine wpList_store_midAs rfl 51 _ _ rfl gE 6 ZH rfl rfl TH.out HZI.out HZO.out x2 HX2.out ?_) | (refine wpList_load_row rfl 53 _ rfl gE rfl _ EV _ _ E3H.out Tryz.underlying53 rfl HEVI.out ?_))
 rw [HEVE.out]
 refine (HT.out x3 UX3.out).mono ?_
 rintro e x4 ⟨y,HY,_,rfl,hq⟩
 have E4:=Lib.hid (paa E3H.out hq)
 have Q4:=Lib.hid (paa Q3.out hq)
 have UX4:=Lib.hid (UX3.out.trans hq)
 clear hq E3H Q3 UX3 H1 TH HX2 hx3 c5 f5
 by_cases hys:y=s
 case neg =>
  have g1:(y.toList == s.toList)=false:=by rw [← Bool.not_eq_true];exact fun h=>hys (paM (pbA.1 h))
  clear E4
  have HNO:Hid (∀ ev,¬ pan (bs s) ev):=fun ev' h=>hys (paM (HY.out.trans (HCODE.out ev' h).symm))
  obtain ⟨X,HX,RX,UX⟩:=pcE w g2 ZE x4 HG2.out Q4.out UX4.out
  go_wp2_with (first | (refine wpList_buildTo rfl 53 #[] rfl _ rfl ZE (Eq.trans (congrArg (fun z=>Tryz.prog.built 53 z) (by kernel_rfl)) HZB.out) ?_) | (refine wpList_store_rowAs rfl 53 _ _ rfl g2 ZE rfl rfl _ _ Q4.out HZEI.out HZEZ.out HZEO.out X HX.out ?_))
  refine bodyPost_ret (results_row_tmp rfl _ _ g2 _ ZE _ _ rfl RX.out Tryz.underlying53 rfl HZEI.out) rfl ?_
  exact .inr ⟨ZE,HZEE,HNO,rfl,UX.out⟩
 have g1:(y.toList == s.toList)=true:=pbA.2 (by rw [hys])
 have HIS:Hid (pan (bs s) ev):=⟨HOKV.out,by rw [← hys];exact HY.out⟩
 obtain ⟨x5,hx5⟩:∃ X,x4.setRow g2 EV=X:=⟨_,rfl⟩
 have R5:(x4.setRow g2 EV).heap[g2]? =some (.cells EV 53 (0,0)):=setRow_heap _ _ _ _ _ _ Q4.out
 rw [hx5] at R5
 have UX5:=UX4.out.setRowNew (show w.heap.size≤g2 from Nat.le_of_eq HW.out) EV
 rw [hx5] at UX5
 have HX5:=Lib.hid hx5
 have HR5:=Lib.hid R5
 have HUX5:=Lib.hid UX5
 clear HY UX4 hx5 R5 UX5 hys
 go_wp2_with (first | (refine wpList_load_row rfl 53 _ rfl gE rfl _ EV _ _ E4.out Tryz.underlying53 rfl HEVI.out ?_) | (refine wpList_store_rowAs rfl 53 _ _ rfl g2 EV rfl rfl _ _ Q4.out HEVI.out HEVZ.out HEVO.out x5 HX5.out ?_))
 refine bodyPost_ret (results_row_tmp rfl _ _ g2 _ EV _ _ rfl HR5.out Tryz.underlying53 rfl HEVI.out) rfl ?_
 exact .inl ⟨ev,HIS,by rw [HEVE.out];rfl,HUX5.out⟩
def EvR (l:List UInt8) (EV:Array Value) (b:Bool):Prop:=(b=true∧∃ ev:EvG,pan l ev∧EV=ev.V.toArray)∨(b=false∧(∀ ev,¬ pan l ev)∧EV=evZ.toArray)
theorem EvR.info {l:List UInt8} {EV:Array Value} {b:Bool} (h:EvR l EV b):(Tryz.prog.info? 53).map (·.size)=some EV.size∧EV.all (·.oneCell')=true∧evZ.toArray.size=EV.size:=by
 rcases h with ⟨_,ev,h,rfl⟩ | ⟨_,_,rfl⟩
 · have hp:=h.1.2.2.2.2.2.1
   exact ⟨EvG.info hp,ev.one,by rw [pce];exact (EvG.V_len hp).symm⟩
 · exact ⟨pfp,pge,rfl⟩
theorem EvR.seq {l:List UInt8} {EV:Array Value} {b:Bool} (h:EvR l EV b) (hl:l.length≤1000000000):∃ q:Int,pab q∧EV[0]? =some (.int .i64 q)∧(∀ ev,pan l ev→b=true∧q=ev.q)∧((∀ ev,¬ pan l ev)→b=false):=by
 rcases h with ⟨rfl,ev,h,rfl⟩ | ⟨rfl,hn,rfl⟩
 · refine ⟨ev.q,h.1.1,rfl,fun ev' h'=>⟨rfl,?_⟩,fun hn=>absurd h (hn ev)⟩
   rw [pcn h h' (by have:=h.size;omega) (by have:=h'.size;omega)]
 · exact ⟨0,⟨by omega,by omega⟩,rfl,fun ev' h'=>absurd h' (hn ev'),fun _=>rfl⟩
theorem pp6.out {l:List UInt8} {w w':World} {e:Ending} (h:pp6 l w e w'):∃ (EV:Array Value) (b:Bool),Hid (EvR l EV b)∧e=.returned (.tuple #[.agg EV,.int .i64 (if b=true then 0 else 11)])∧Upd [] [] w w':=by
 rcases h with ⟨ev,h,e,u⟩ | ⟨Z,hz,hn,e,u⟩
 · exact ⟨_,true,.inl ⟨rfl,ev,h.out,rfl⟩,e,u⟩
 · exact ⟨Z,false,.inr ⟨rfl,hn.out,hz.out⟩,e,u⟩
def prA (l:List UInt8) (w:World) (e:Ending) (w':World):Prop:=∃ (EV:Array Value) (b:Bool),Hid (EvR l EV b)∧e=.returned (.tuple #[.agg EV,.bool b])∧Upd [] [] w w'
def preE:List UInt8:=[48,32,48,32]
set_option maxHeartbeats 4000000 in
theorem ph1 (T:ByteArray) (hT:T.size≤900000000) (w:World) (htab:Tabs w):Calls Tryz.prog 145 #[.string T] w (prA (preE ++ bs T) w):=by
 obtain ⟨g,hg⟩:∃ g,w.heap.size=g:=⟨_,rfl⟩
 obtain ⟨w0,hw0⟩:∃ W,w.alloc (.cells #[.int .i64 0,.int .i64 0,.int .i64 0,.int .i64 0,.int .i64 0,.string ⟨#[]⟩,.int .u8 0,.int .u8 0,.int .u8 0,.int .u8 0,.int .u8 0,.int .u8 0,.int .u8 0,.int .u8 0,.int .u8 0,.int .u8 0,.int .u8 0,.int .u8 0,.int .u8 0,.int .u8 0,.int .u8 0,.int .u8 0,.int .u8 0,.int .u8 0,.int .u8 0,.int .u8 0,.int .u8 0,.int .u8 0,.int .u8 0,.int .u8 0,.int .u8 0,.int .u8 0,.int .u8 0,.int .u8 0,.int .u8 0,.int .u8 0,.int .u8 0,.int .u8 0,.int .i64 0,.int .i64 0] 53)=W:=⟨_,rfl⟩
 have r0:=Lib.hid (show w0.heap[g]? =some (.cells evZ.toArray 53 (0,0)) by rw [← hg,← hw0,paz];exact heap_alloc_new _ _)
 have HU0:=Lib.hid (show Upd [] [] w w0 by rw [← hw0];exact (Upd.refl _ _).alloc _)
 have s1:¬ 9223372036854775807<4+T.size:=by omega
 obtain ⟨s,hs⟩:∃ s:ByteArray,ByteArray.mk #[48,32,48,32] ++ T=s:=⟨_,rfl⟩
 have hb:bs s=preE ++ bs T:=by rw [← hs,pae];rfl
 have hsz:s.size≤1000000000:=by
  have:=congrArg List.length hb
  rw [pac,List.length_append,pac] at this
  have:preE.length=4:=rfl
  omega
 have HD:=Lib.hid (poI s hsz w0 (htab.upd HU0.out))
 rw [hb] at HD
 have HG:Hid (w.heap.size≤g):=Nat.le_of_eq hg
 obtain ⟨l,hl⟩:∃ l,preE ++ bs T=l:=⟨_,rfl⟩
 rw [hl] at HD ⊢
 clear hT hb hsz hl
 go_enter Tryz.func145,Tryz.ntmps145
 go_wp2_with fail
 refine HD.out.mono ?_
 intro e w1 hd
 obtain ⟨EV,b,HE,rfl,hq⟩:=hd.out
 clear hd
 have HEVI:=Lib.hid HE.out.info.1
 have HEVO:=Lib.hid HE.out.info.2.1
 have HEVZ:=Lib.hid HE.out.info.2.2
 have r1:=Lib.hid (paa r0.out hq)
 have HU1:=Lib.hid (HU0.out.trans hq)
 obtain ⟨w2,Z2,W2,R2,hq2⟩:=paC w1 53 evZ.toArray EV
 rw [← paz] at Z2 W2
 obtain ⟨gE,hgE⟩:∃ g,w1.heap.size=g:=⟨_,rfl⟩
 have hlt:g<gE:=by rw [← hgE];exact pag r1.out
 rw [hgE] at Z2 W2 R2
 have HZZ:Hid ((#[.int .i64 0,.int .i64 0,.int .i64 0,.int .i64 0,.int .i64 0,.string ⟨#[]⟩,.int .u8 0,.int .u8 0,.int .u8 0,.int .u8 0,.int .u8 0,.int .u8 0,.int .u8 0,.int .u8 0,.int .u8 0,.int .u8 0,.int .u8 0,.int .u8 0,.int .u8 0,.int .u8 0,.int .u8 0,.int .u8 0,.int .u8 0,.int .u8 0,.int .u8 0,.int .u8 0,.int .u8 0,.int .u8 0,.int .u8 0,.int .u8 0,.int .u8 0,.int .u8 0,.int .u8 0,.int .u8 0,.int .u8 0,.int .u8 0,.int .u8 0,.int .u8 0,.int .i64 0,.int .i64 0]:Array Value).size=EV.size):=by show _=_;rw [paz];exact HEVZ.out
 have r2:=Lib.hid (paa r1.out hq2)
 have HU2:=Lib.hid (HU1.out.trans hq2)
 obtain ⟨w3,hw3⟩:∃ W,w2.setRow g EV=W:=⟨_,rfl⟩
 have r3:(w2.setRow g EV).heap[g]? =some (.cells EV 53 (0,0)):=setRow_heap _ _ _ _ _ _ r2.out
 have U3:=HU2.out.setRowNew HG.out EV
 rw [hw3] at r3 U3
 have HW3:=Lib.hid hw3
 have R3:=Lib.hid r3
 have HU3:=Lib.hid U3
 clear hq hq2 HD r0 r1 HU0 HU1 hw3 r3 U3 hs s1
 cases b
 · go_wp2_with (first | (refine wpList_store_rowAs rfl 53 _ _ rfl gE EV rfl rfl _ _ Z2.out HEVI.out HZZ.out HEVO.out w2 W2.out ?_) | (refine wpList_load_row rfl 53 _ rfl gE rfl _ EV _ _ R2.out Tryz.underlying53 rfl HEVI.out ?_) | (refine wpList_store_rowAs rfl 53 _ _ rfl g EV rfl rfl _ _ r2.out HEVI.out HEVZ.out HEVO.out w3 HW3.out ?_))
   refine bodyPost_ret (results_row_tmp rfl _ _ g _ EV _ _ rfl R3.out Tryz.underlying53 rfl HEVI.out) rfl ?_
   exact ⟨EV,false,HE,rfl,HU3.out⟩
 · go_wp2_with (first | (refine wpList_store_rowAs rfl 53 _ _ rfl gE EV rfl rfl _ _ Z2.out HEVI.out HZZ.out HEVO.out w2 W2.out ?_) | (refine wpList_load_row rfl 53 _ rfl gE rfl _ EV _ _ R2.out Tryz.underlying53 rfl HEVI.out ?_) | (refine wpList_store_rowAs rfl 53 _ _ rfl g EV rfl rfl _ _ r2.out HEVI.out HEVZ.out HEVO.out w3 HW3.out ?_))
   refine bodyPost_ret (results_row_tmp rfl _ _ g _ EV _ _ rfl R3.out Tryz.underlying53 rfl HEVI.out) rfl ?_
   exact ⟨EV,true,HE,rfl,HU3.out⟩
def evX (c:UInt8) (r s:Int):EvG:=⟨5,4,3,0,0,⟨#[c]⟩,zero32,r,s⟩
theorem prB (c:UInt8) (r s:Int):(evX c r s).V=evV c r s:=rfl
theorem pkr (c:UInt8) (r s:Int):(evX c r s).text=tOf c:=by
 rw [← EvG.text_join,← poE]
 show Lib.join [wEv,Lib.itoa 5,Lib.itoa 4,Lib.itoa 3,Lib.itoa 0,Lib.itoa 0,hexL zero32,Lib.itoa 1 ++ 58 :: [c]] [32]=_
 rw [pqT,pqU,phV,pqV,poD,show Lib.itoa 3=[51] from pfn 3 (by omega)]
 rfl
theorem ppl (c:UInt8) {r s:Int} (hr:pab r) (hs:pab s):(evX c r s).ok:=⟨by unfold pab;simp [evX],by unfold pab;simp [evX],by unfold pab;simp [evX],by unfold pab;simp [evX],by unfold pab;simp [evX],rfl,hr,hs⟩
theorem ph2 (c:UInt8) (r s:Int) (hr:pab r) (hs:pab s) (w:World) (htab:Tabs w):Calls Tryz.prog 25 #[.agg (evV c r s).toArray] w (MkS (tOf c) w):=by
 rw [← pkr c r s,← prB c r s]
 exact pni (evX c r s) (ppl c hr hs) (by show 1≤_;omega) w htab
theorem ph3 (c:UInt8) (T:ByteArray) (hT:bs T=tOf c) (w:World) (htab:Tabs w):Calls Tryz.prog 145 #[.string T] w (Mk (.tuple #[.agg (evV c 0 0).toArray,.bool true]) w):=by
 have hts:T.size=84:=by rw [← pac,hT,pgW]
 have hz:pab 0:=by unfold pab;omega
 have hc:pan (preE ++ bs T) (evX c 0 0):=⟨ppl c hz hz,by
  show _=Lib.itoa 0 ++ 32 :: (Lib.itoa 0 ++ 32 :: (evX c 0 0).text)
  rw [hT,pkr,phV]
  rfl⟩
 refine (ph1 T (by omega) w htab).mono ?_
 rintro e w' ⟨EV,b,HE,rfl,hu⟩
 rcases HE.out with ⟨rfl,ev,h,rfl⟩ | ⟨_,hn,_⟩
 · have hl:(preE ++ bs T).length=88:=by rw [List.length_append,pac,hts];rfl
   have e:=pcn h hc (by have:=h.size;omega) (by have:=hc.size;omega)
   rw [e]
   exact ⟨rfl,hu⟩
 · exact absurd hc (hn _)
theorem pea (a b:Int):(Tryz.prog.info? 46).map (·.size)=some (#[.int .i64 a,.int .i64 b]:Array Value).size:=by
 show _=some 2
 kernel_rfl
theorem pnl (a b:Int):(#[.int .i64 a,.int .i64 b]:Array Value).all (·.oneCell')=true:=by simp [Value.oneCell']
def MkEv (c:UInt8) (x:Nat) (w:World) (e:Ending) (w':World):Prop :=
 ∃ a b:Nat,Hid (a=gP (nonceN x (tOf c)))∧Hid (b=sWith x (nonceN x (tOf c)) (tOf c))∧a<2305843009213691579∧b<1152921504606845789∧e=.returned (.agg (evV c a b).toArray)∧Upd [] [] w w'
set_option maxHeartbeats 4000000 in
theorem ph4 (c:UInt8) (x:Nat) (hx:x<1152921504606845789) (w:World) (htab:Tabs w):Calls Tryz.prog 18 #[.int .i64 (x:Int),.agg (evV c 0 0).toArray] w (MkEv c x w):=by
 obtain ⟨EV,hEV⟩:∃ EV,EV=(evV c 0 0).toArray:=⟨_,rfl⟩
 have HEV:=Lib.hid hEV
 have HEVI:Hid ((Tryz.prog.info? 53).map (·.size)=some EV.size):=by rw [hEV];exact pgd c 0 0
 obtain ⟨g,hg⟩:∃ g,w.heap.size=g:=⟨_,rfl⟩
 obtain ⟨w0,hw0⟩:∃ w0,w.alloc (.cells EV 53)=w0:=⟨_,rfl⟩
 have r0:w0.heap[g]? =some (.cells EV 53 (0,0)):=by rw [← hg,← hw0];exact heap_alloc_new _ _
 have u0:Upd [] [] w w0:=by rw [← hw0];exact (Upd.refl _ _).alloc _
 obtain ⟨gR,hgR⟩:∃ g,w0.heap.size=g:=⟨_,rfl⟩
 obtain ⟨w1,hw1⟩:∃ W,w0.alloc (.cells #[.int .i64 0,.int .i64 0,.int .i64 0,.int .i64 0,.int .i64 0,.string ⟨#[]⟩,.int .u8 0,.int .u8 0,.int .u8 0,.int .u8 0,.int .u8 0,.int .u8 0,.int .u8 0,.int .u8 0,.int .u8 0,.int .u8 0,.int .u8 0,.int .u8 0,.int .u8 0,.int .u8 0,.int .u8 0,.int .u8 0,.int .u8 0,.int .u8 0,.int .u8 0,.int .u8 0,.int .u8 0,.int .u8 0,.int .u8 0,.int .u8 0,.int .u8 0,.int .u8 0,.int .u8 0,.int .u8 0,.int .u8 0,.int .u8 0,.int .u8 0,.int .u8 0,.int .i64 0,.int .i64 0] 53)=W:=⟨_,rfl⟩
 have r1:w1.heap[gR]? =some (.cells evZ.toArray 53 (0,0)):=by rw [← hgR,← hw1,paz];exact heap_alloc_new _ _
 have u1:Upd [] [] w0 w1:=by rw [← hw1];exact (Upd.refl _ _).alloc _
 have hne:g<gR:=by rw [← hgR];exact pag r0
 have R0:=Lib.hid (paa r0 u1)
 have R1:=Lib.hid r1
 have U1:=Lib.hid (u0.trans u1)
 have HG:=Lib.hid hg
 rw [← hEV]
 clear hEV r0 u0 r1 u1
 go_enter Tryz.func18,Tryz.ntmps18
 go_wp2_with (first | (refine wpList_load_row rfl 53 _ rfl g rfl _ EV _ _ R0.out Tryz.underlying53 rfl HEVI.out ?_))
 rw [HEV.out]
 refine (ph2 c 0 0 (by unfold pab;omega) (by unfold pab;omega) w1 (htab.upd U1.out)).mono ?_
 rintro e w2 ⟨T,HT,_,rfl,hq⟩
 have R2:=Lib.hid (paa R0.out hq)
 have Q2:=Lib.hid (paa R1.out hq)
 have U2:=Lib.hid (U1.out.trans hq)
 have hts:T.size≤140737488355000:=by rw [← pac,HT.out,pgW];omega
 clear hq R0 R1 U1
 rw [← HEV.out]
 go_wp2_with fail
 refine (pgE (x:Int) T w2 ⟨by omega,by omega⟩ hts (htab.upd U2.out)).mono ?_
 rintro e w3 ⟨a,b,HA,HB,ha,hb,rfl,hq⟩
 rw [HT.out,show expN (x:Int)=x from pgD hx] at HA HB
 have R3:=Lib.hid (paa R2.out hq)
 have Q3:=Lib.hid (paa Q2.out hq)
 have U3:=Lib.hid (U2.out.trans hq)
 obtain ⟨SG,hSG⟩:∃ SG:Array Value,SG=#[.int .i64 (a:Int),.int .i64 (b:Int)]:=⟨_,rfl⟩
 rw [← hSG]
 have HSI:Hid ((Tryz.prog.info? 46).map (·.size)=some SG.size):=by rw [hSG];exact pea _ _
 have HSO:Hid (SG.all (·.oneCell')=true):=by rw [hSG];exact pnl _ _
 have TH:Hid (w3.there g 38 SG.size):=pbq R3.out (by rw [HEV.out,hSG,show (evV c 0 0).toArray.size=40 from pcN c 0 0];exact (by decide:38+2≤40))
 obtain ⟨w4,hw4⟩:∃ X,w3.setCells g 38 SG.toList=X:=⟨_,rfl⟩
 have E4:=pbd g _ SG.toList 38 w3 _ R3.out
 rw [hw4] at E4
 obtain ⟨EW,hEW⟩:∃ EW,EW=(evV c a b).toArray:=⟨_,rfl⟩
 have hfin:pdN EV 38 SG.toList=EW:=by rw [HEV.out,hSG,hEW];rfl
 rw [hfin] at E4
 have HEWI:Hid ((Tryz.prog.info? 53).map (·.size)=some EW.size):=by rw [hEW];exact pgd c _ _
 have HEWO:Hid (EW.all (·.oneCell')=true):=by rw [hEW];exact pnb c _ _
 have HEWZ:Hid (evZ.toArray.size=EW.size):=by show _=_;rw [hEW,pce];exact (pcN c _ _).symm
 have hgw:w.heap.size≤g:=Nat.le_of_eq HG.out
 have UX:=Upd.setCellsNew hgw SG.toList 38 _ U3.out
 rw [hw4] at UX
 have uS:Upd [g] [g] w3 w4:=by
  have h:=(Upd.setCellsIn (g:=g) (S:=[g]) (S':=[g]) (by simp) SG.toList 38 _ (Upd.refl [g] w3))
  rw [hw4] at h
  exact h
 have Q4:Hid (w4.heap[gR]? =some (.cells evZ.toArray 53 (0,0))):=(uS.block gR (pag Q3.out) (by simp;omega)).trans Q3.out
 obtain ⟨w5,hw5⟩:∃ X,w4.setRow gR EW=X:=⟨_,rfl⟩
 have R5:(w4.setRow gR EW).heap[gR]? =some (.cells EW 53 (0,0)):=setRow_heap _ _ _ _ _ _ Q4.out
 rw [hw5] at R5
 have U5:=UX.setRowNew (show w.heap.size≤gR by omega) EW
 rw [hw5] at U5
 have HW4:=Lib.hid hw4
 have HW5:=Lib.hid hw5
 have E4H:=Lib.hid E4
 have HR5:=Lib.hid R5
 have HU5:=Lib.hid U5
 have HEWE:=Lib.hid hEW
 clear hq R2 Q2 U2 R3 Q3 hSG hw4 E4 hEW hfin UX uS hw5 R5 U5 hts
 go_wp2_with (first | (refine wpList_store_midAs rfl 46 _ _ rfl g 38 SG rfl rfl TH.out HSI.out HSO.out w4 HW4.out ?_) | (refine wpList_load_row rfl 53 _ rfl g rfl _ EW _ _ E4H.out Tryz.underlying53 rfl HEWI.out ?_) | (refine wpList_store_rowAs rfl 53 _ _ rfl gR EW rfl rfl _ _ Q4.out HEWI.out HEWZ.out HEWO.out w5 HW5.out ?_))
 refine bodyPost_ret (results_cell_row rfl _ _ gR _ EW _ _ rfl HR5.out Tryz.underlying53 rfl HEWI.out) rfl ⟨a,b,HA,HB,ha,hb,?_,HU5.out⟩
 rw [HEWE.out]
def voteV (T:ByteArray) (r s:Int):Array Value:=#[.int .i64 3,.string T,.int .i64 r,.int .i64 s]
theorem peP (T:ByteArray) (r s:Int):(Tryz.prog.info? 48).map (·.size)=some (voteV T r s).size:=by
 show _=some 4
 kernel_rfl
theorem pjk (T:ByteArray) (r s:Int):(voteV T r s).all (·.oneCell')=true:=by simp [voteV,Value.oneCell']
def pq2 (c:UInt8) (r s:Int) (w:World) (e:Ending) (w':World):Prop:=∃ T:ByteArray,Hid (bs T=tOf c)∧e=.returned (.agg (voteV T r s))∧Upd [] [] w w'
set_option maxHeartbeats 4000000 in
theorem pgf (c:UInt8) (r s:Int) (hr:pab r) (hs:pab s) (w:World) (htab:Tabs w):Calls Tryz.prog 8 #[.agg (evV c r s).toArray] w (pq2 c r s w):=by
 obtain ⟨EV,hEV⟩:∃ EV,EV=(evV c r s).toArray:=⟨_,rfl⟩
 have HEV:=Lib.hid hEV
 obtain ⟨g,hg⟩:∃ g,w.heap.size=g:=⟨_,rfl⟩
 obtain ⟨w0,hw0⟩:∃ w0,w.alloc (.cells EV 53)=w0:=⟨_,rfl⟩
 have r0:EvA w0 g c r s:=by rw [← hg,← hw0,hEV];exact heap_alloc_new _ _
 have u0:Upd [] [] w w0:=by rw [← hw0];exact (Upd.refl _ _).alloc _
 obtain ⟨gR,hgR⟩:∃ g,w0.heap.size=g:=⟨_,rfl⟩
 obtain ⟨w1,hw1⟩:∃ W,w0.alloc (.cells #[.int .i64 0,.string ⟨#[]⟩,.int .i64 0,.int .i64 0] 48)=W:=⟨_,rfl⟩
 have r1:w1.heap[gR]? =some (.cells #[.int .i64 0,.string ⟨#[]⟩,.int .i64 0,.int .i64 0] 48 (0,0)):=by rw [← hgR,← hw1];exact heap_alloc_new _ _
 have u1:Upd [] [] w0 w1:=by rw [← hw1];exact (Upd.refl _ _).alloc _
 have HU:=Lib.hid (u0.trans u1)
 have e0:=r0.upd u1
 have HK:Hid (∀ W,EvA W g c r s→W.cell? ⟨g,2,none⟩=some (.int .i64 3)∧(Instr.loadAt 53 (.pointer (some ⟨g,0,none⟩))).run Tryz.prog W=.ok (.agg EV) W∧(Instr.loadAt 46 (.pointer (some ⟨g,38,none⟩))).run Tryz.prog W=.ok (.agg #[.int .i64 r,.int .i64 s]) W):=by
  intro W e
  refine ⟨e.cell 2,pgX hEV e,?_⟩
  refine run_loadAt_mid W g 38 46 [.int .i64 r,.int .i64 s] _ (fun j v hv=>?_) Tryz.underlying46 rfl (pea r s)
  match j,hv with
  | 0,hv=>simp at hv;subst hv;exact (e.cell 38).trans (ppZ _ _ _)
  | 1,hv=>simp at hv;subst hv;exact (e.cell 39).trans (pp0 _ _ _)
 have R1:=Lib.hid r1
 have E1:=Lib.hid e0
 have hne:g≠gR:=by have:=pag r0;omega
 have HG:Hid (w.heap.size≤gR):=by have:=pag r0;show _≤_;omega
 have ud0:Upd [] [] w1 w1.drew:=(Upd.refl _ _).drew
 rw [← hEV]
 clear hEV r0 u0 r1 u1 e0
 go_enter Tryz.func8,Tryz.ntmps8
 go_upto_region 1 with (fail)
 refine wp_region_noPanic ?_
 refine wp_region_held_drew (S:=fun wp=>wp.cell? ⟨g,2,none⟩=some (.int .i64 3)∧(Instr.loadAt 53 (.pointer (some ⟨g,0,none⟩))).run Tryz.prog wp=.ok (.agg EV) wp∧(Instr.loadAt 46 (.pointer (some ⟨g,38,none⟩))).run Tryz.prog wp=.ok (.agg #[.int .i64 r,.int .i64 s]) wp) (by kernel_rfl) ?_ (fun hHeld=>?_)
 · exact HK.out _ (E1.out.upd ud0)
 refine tkY 0 hHeld ?_
 refine tkY 1 hHeld ?_
 refine tkL 2 hHeld EV (fun w hSw=>hSw.2.1) ?_
 refine tkY 4 hHeld ?_
 refine wpAnyH_take (i:=5) (v:=.agg (#[.int .i64 r,.int .i64 s]:Array Value)) (by simp only [List.getElem?_toArray,List.getElem?_cons_succ,List.getElem?_cons_zero] <;> rfl) (by kernel_rfl) (by kernel_rfl) (by kernel_rfl) (fun _ _ _ h=>h) (pau (by rfl) _ _ rfl _ rfl (#[.int .i64 r,.int .i64 s]:Array Value) (fun w hSw=>hSw.2.2)) hHeld ?_
 try simp only [Act.put,List.setIfInBounds_toArray,List.set_cons_zero,List.set_cons_succ]
 refine tk1 3 fun K hK=>?_
 go_simp;rw [HEV.out];refine (ph2 c r s hr hs _ (htab.upd (HU.out.trans ud0))).mono ?_;rintro e wv1 ⟨T,HT,_,rfl,hq⟩;have ud1:=ud0.trans hq;clear hq;have hvi:=Lib.hid (peP T r s);go_wp2_with fail
 refine tkK hK (HK.out _ (E1.out.upd ud1)) fun hHeld=>?_
 clear hK K
 refine tkY 6 hHeld ?_
 refine tk1 7 fun K hK=>?_
 rw [if_pos (by rfl)];refine wp_store_row 48 _ _ rfl gR (voteV T r s) rfl rfl _ _ (paa R1.out ud1) hvi.out rfl (pjk T r s) ?_;obtain ⟨wv2,hwx⟩:∃ W':World,W'=wv1.setRow gR (voteV T r s):=⟨_,rfl⟩;have z2:Hid (wv2.heap[gR]? =some (.cells (voteV T r s) 48 (0,0))):=(by show _=_;rw [hwx];exact setRow_heap _ _ _ _ _ _ (paa R1.out ud1));have uw2:=(HU.out.trans ud1).setRowNew HG.out (voteV T r s);have e2:EvA wv2 g c r s:=(by rw [hwx];exact pal (E1.out.upd ud1) hne _);rw [← hwx] at uw2 ⊢
 refine tkK hK (HK.out _ e2) fun hHeld=>?_
 clear hK K
 refine wpAnyH_done (by kernel_rfl) ?_ _
 refine NoPanic.normal ?_
 go_wp2_with fail
 refine bodyPost_ret (results_cell_row rfl _ _ gR _ (voteV T r s) _ _ rfl z2.out Tryz.underlying48 rfl hvi.out) rfl ⟨T,HT,rfl,uw2⟩
end Go.Proofs.YtheobkejohifaaaGreatDoor
