/- sortesref33.Case.Guilty: the evidence of the kinds 1 to 5. -/
import Derived.Test.YtmjlkkbbnkanpaaGreatDoorHAA
import Derived.Test.YtmjlkkbbnkanpaaGreatDoorHAY
import Derived.Test.YtmjlkkbbnkanpaaGreatDoorHAQ
import Derived.Test.YtmjlkkbbnkanpaaGreatDoorHAP
import Derived.Test.YtmjlkkbbnkanpaaGreatDoorHBA
import Derived.Test.YtmjlkkbbnkanpaaGreatDoorHBC
namespace Go.Proofs.YtmjlkkbbnkanpaaGreatDoor
open Go.RowKit
set_option maxRecDepth 100000
def GuPair (l:List Int) (kind at':Int) (ea eb:EvG) (X:EvdG):Prop:=∃ (k:Nat) (F1 F2:EvG) (T1 T2:ByteArray),k<manyN l∧(k:Int)=at' % (manyN l:Int)∧F1=(ea.from ((k+1:Nat):Int)).signed (secN k)∧F2=(eb.from ((k+1:Nat):Int)).signed (secN k)∧bs T1=F1.text∧bs T2=F2.text ∧
 X={ evd0 with kind:=kind,who:=((k+1:Nat):Int),aw:=F1.h,aT:=T1,ar:=F1.r,as':=F1.s,bw:=F2.h,bT:=T2,br:=F2.r,bs':=F2.s }
def wrongL (d:Int) (x v c z:Int):List UInt8:=Lib.itoa d ++ 32 :: partL x v c z
def ptN (l:List Int) (k:Nat):Nat:=startN (wsN l (manyN l)) k+1
theorem CaseRd.point {l:List Int} {w:World} {L K P KM S C KS:Value} (h:CaseRd l w L K P KM S C KS) {k:Nat} (hk:k<manyN l):∃ gp pc gx xn xc,P=.slice (some ⟨gp,0,none⟩) (manyN l) pc∧gp<w.heap.size∧w.cell? ⟨gp,k,none⟩=some (.slice (some ⟨gx,0,none⟩) xn xc)∧1≤xn∧gx<w.heap.size∧w.cell? ⟨gx,0,none⟩=some (.int .i64 (ptN l k:Int))∧1≤ptN l k∧ptN l k≤60:=by
 obtain ⟨ao,cap,e,h1,h2,h3⟩:=h.made.pts
 have hg:(wsN l (manyN l)).length=manyN l:=by simp [wsN]
 have hok:=wsN_ok l
 obtain ⟨x,hx⟩:∃ x,(wsN l (manyN l))[k]? =some x:=⟨_,List.getElem?_eq_getElem (by omega)⟩
 have hx1:=hok.2.2 x (List.mem_of_getElem? hx)
 obtain ⟨g,u,ea,hgs,hc,hs⟩:=h3 k _ (ptsOf_get hx)
 rw [ptsOf_len,hg,ea] at e
 obtain ⟨ao2,cap2,rfl,q1,q2,q3⟩:=hs
 have hl:=ptPre_len (wsN l (manyN l)) k x
 rcases q3 with q3 | ⟨b,rfl,hb,hcc⟩
 · omega
 · have hs12:=hok.sum
   have hst:startN (wsN l (manyN l)) k≤(wsN l (manyN l)).sum:=sum_take_le _ _
   refine ⟨g,cap,b,_,cap2,e,hgs,hc,by omega,hb,hcc 0 _ ?_,by unfold ptN;omega,by unfold ptN;omega⟩
   unfold ptPre
   rw [List.getElem?_map,List.getElem?_range (by omega)]
   rfl
def GuWrong (l:List Int) (at' q0 q1 q2:Int) (X:EvdG):Prop:=∃ (TX:ByteArray) (k y:Nat),k<manyN l∧(k:Int)=at' % (manyN l:Int)∧(y:Int)=q2 % 1152921504606845789∧bs TX=wrongL (q2 % 8 / 7) (ptN l k) (prtV y (1+q1 % 9)) (prtC y (1+q1 % 9)) (prtZ y (1+q1 % 9))∧TX.size≤200∧GuPair l 2 at' { evCs (q0 % 50) (1+q1 % 9) TX with k:=5 } (evCs (q0 % 50) (1+q1 % 9) ⟨#[116,119,111]⟩) X
theorem pt_load {x v c z:Int} {W:World} {g:Nat} (h:W.heap[g]? =some (.cells #[.int .i64 x,.int .i64 v,.int .i64 c,.int .i64 z] 82 (0,0))):(Instr.loadAt 82 (.pointer (some ⟨g,0,none⟩))).run Tryz.prog W=.ok (.agg #[.int .i64 x,.int .i64 v,.int .i64 c,.int .i64 z]) W :=
 run_loadAt_mid W g 0 82 [.int .i64 x,.int .i64 v,.int .i64 c,.int .i64 z] _ (fun j u hu=>by rw [cell_of_row _ _ _ _ _ _ h,Nat.zero_add];simpa using hu) Tryz.underlying82 rfl (by show _=some 4;kernel_rfl)
def GuFalse (l:List Int) (at' q0 q1 q2:Int) (X:EvdG):Prop:=∃ (k fx ax ay r s:Nat) (F A T:ByteArray),k<manyN l∧(k:Int)=at' % (manyN l:Int)∧(fx:Int)=q1 % 1000∧(ax:Int)=q2 % 1000∧ay=(if fx * fx=ax then ax+1 else ax)∧bs F=be fx∧bs A=be ay∧bs T=claimGL (q0 % 100) (q0 % 100+1) fx ay ∧
 r=gP (nonceN (secN k) (bs T))∧s=sWith (secN k) (nonceN (secN k) (bs T)) (bs T) ∧
 X={ evd0 with kind:=3,who:=((k+1:Nat):Int),aw:=((k+1:Nat):Int),aT:=T,ar:=(r:Int),as':=(s:Int),low:=q0 % 100,high:=q0 % 100+1,F:=F,A:=A }
theorem dspInfo (lo hi:Int) (F A B:ByteArray):(Tryz.prog.info? 42).map (·.size)=some (dspG lo hi F A B).size:=by
 show _=some 5
 kernel_rfl
theorem dspOne (lo hi:Int) (F A B:ByteArray):(dspG lo hi F A B).all (·.oneCell')=true:=by simp [dspG,Value.oneCell']
theorem dsp_load {D:Array Value} {lo hi:Int} {F A B:ByteArray} (hD:D=dspG lo hi F A B) {W:World} {g:Nat} (h:W.heap[g]? =some (.cells D 42 (0,0))):(Instr.loadAt 42 (.pointer (some ⟨g,0,none⟩))).run Tryz.prog W=.ok (.agg D) W:=by
 subst hD
 exact run_loadAt_mid W g 0 42 (dspG lo hi F A B).toList _ (fun j u hu=>by rw [cell_of_row _ _ _ _ _ _ h,Nat.zero_add];simpa using hu) Tryz.underlying42 rfl (by show _=some 5;kernel_rfl)
theorem q3Info (a b c:Int):(Tryz.prog.info? 50).map (·.size)=some (#[.int .i64 a,.int .i64 b,.int .i64 c]:Array Value).size:=by
 show _=some 3
 kernel_rfl
def GuAll (l:List Int) (kd at' q0 q1 q2:Int) (X:EvdG):Prop :=
 (kd=1∧GuPair l 1 at' (evCs (q0 % 50) (1+q1 % 9) ⟨#[111,110,101]⟩) (evCs (q0 % 50) (1+q1 % 9) ⟨#[116,119,111]⟩) X)∨(kd=2∧GuWrong l at' q0 q1 q2 X)∨(kd=3∧GuFalse l at' q0 q1 q2 X) ∨
 (kd=4∧GuPair l 4 at' (evCs (q0 % 50) (1+q1 % 9) ⟨#[111,110,101]⟩) (evCs (q0 % 50+q2 % 3) (1+q1 % 9) ⟨#[116,119,111]⟩) X)∨(kd=5∧∃ k:Nat,k<manyN l∧(k:Int)=at' % (manyN l:Int)∧GuCheat l k q0 q1 q2 X)
set_option maxHeartbeats 8000000 in
theorem guilty15_any (kd:Int) (hkd:kd=1∨kd=2∨kd=3∨kd=4∨kd=5) (l:List Int) (L K P KM S C KS:Value) (w:World) (hC:CaseRd l w L K P KM S C KS) (at' q0 q1 q2:Int) (hat:i64in at') (hq0:i64in q0) (hq1:i64in q1) (hq2:i64in q2) :
 Calls Tryz.prog 6 #[.agg (csV L K P KM S C KS),.int .i64 kd,.int .i64 at',.agg #[.int .i64 q0,.int .i64 q1,.int .i64 q2]] w (fun e w'=>∃ X:EvdG,Hid (GuAll l kd at' q0 q1 q2 X)∧e=.returned (.agg X.V)∧Upd [] [] w w'):=by
 have HKD:=Lib.hid hkd
 have g6:(kd == 6)=false:=by rw [beq_eq_false_iff_ne];omega
 have g7:(kd == 7)=false:=by rw [beq_eq_false_iff_ne];omega
 clear hkd
 have HCR:=Lib.hid hC
 have hn4:=manyN_le l
 obtain ⟨n,hn⟩:∃ n,n=manyN l:=⟨_,rfl⟩
 obtain ⟨gm0,mc,hL,_,_,_⟩:=hC.memb (k:=0) (by omega)
 obtain ⟨gs0,sc,hS,_,_⟩:=hC.sec (k:=0) (by omega)
 rw [← hn] at hL hS hn4
 have HN:=Lib.hid hn
 obtain ⟨CA,hCA⟩:∃ A,A=csV L K P KM S C KS:=⟨_,rfl⟩
 have HCA:=Lib.hid hCA
 have HLS:Hid (L=.slice (some ⟨gm0,0,none⟩) n mc∧S=.slice (some ⟨gs0,0,none⟩) n sc):=⟨hL,hS⟩
 obtain ⟨gC,hgC⟩:∃ g,w.heap.size=g:=⟨_,rfl⟩
 obtain ⟨w0,hw0⟩:∃ W,w.alloc (.cells CA 34)=W:=⟨_,rfl⟩
 have r0:w0.heap[gC]? =some (.cells CA 34 (0,0)):=by rw [← hgC,← hw0];exact heap_alloc_new _ _
 have u0:Upd [] [] w w0:=by rw [← hw0];exact (Upd.refl _ _).alloc _
 obtain ⟨gQ,hgQ⟩:∃ g,w0.heap.size=g:=⟨_,rfl⟩
 obtain ⟨w1,hw1⟩:∃ W,w0.alloc (.cells #[.int .i64 q0,.int .i64 q1,.int .i64 q2] 50)=W:=⟨_,rfl⟩
 have r1:w1.heap[gQ]? =some (.cells #[.int .i64 q0,.int .i64 q1,.int .i64 q2] 50 (0,0)):=by rw [← hgQ,← hw1];exact heap_alloc_new _ _
 have u1:Upd [] [] w0 w1:=by rw [← hw1];exact (Upd.refl _ _).alloc _
 obtain ⟨gR,hgR⟩:∃ g,w1.heap.size=g:=⟨_,rfl⟩
 obtain ⟨w2,hw2⟩:∃ W,w1.alloc (.cells #[.int .i64 0,.int .i64 0,.int .i64 0,.string ⟨#[]⟩,.int .i64 0,.int .i64 0,.int .i64 0,.string ⟨#[]⟩,.int .i64 0,.int .i64 0,.int .i64 0,.int .i64 0,.string ⟨#[]⟩,.string ⟨#[]⟩,.string ⟨#[]⟩,.int .i64 0,.int .i64 0,.int .i64 0,.int .i64 0] 48)=W:=⟨_,rfl⟩
 have r2:w2.heap[gR]? =some (.cells evd0.V 48 (0,0)):=by rw [← hgR,← hw2];exact heap_alloc_new _ _
 have u2:Upd [] [] w1 w2:=by rw [← hw2];exact (Upd.refl _ _).alloc _
 have lCQ:gC<gQ:=by rw [← hgQ];exact blk_lt r0
 have lQR:gQ<gR:=by rw [← hgR];exact blk_lt r1
 have HB1:Hid (w.heap.size≤gC∧gC<gQ∧gQ<gR):=⟨Nat.le_of_eq hgC,lCQ,lQR⟩
 have RC2:=Lib.hid (row_updH r0 (u1.trans u2))
 have RQ2:=Lib.hid (row_updH r1 u2)
 have RR2:=Lib.hid r2
 have U2:=Lib.hid ((u0.trans u1).trans u2)
 have HQI:=Lib.hid (And.intro hat (And.intro hq0 (And.intro hq1 hq2)))
 have cL:w2.cell? ⟨gC,0,none⟩=some (.slice (some ⟨gm0,0,none⟩) n mc):=by rw [cell_of_row _ gC 0 _ _ _ RC2.out,hCA,← hL];rfl
 have n0:(0:Int)<(n:Int):=by omega
 have HMD:=Lib.hid (fun W=>mod33_any at' (n:Int) W hat (by omega))
 rw [← hCA]
 clear hC hn hCA hL hS hat hq0 hq1 hq2 r0 u0 r1 u1 r2 u2 lCQ lQR
 go_enter Tryz.func6,Tryz.ntmps6
 go_upto_region 9 with (fail)
 go_wp2_with fail
 refine (HMD.out w2).mono ?_
 rintro e w3 ⟨at9,HAT,ha0,ha1,rfl,rfl⟩
 obtain ⟨k,rfl⟩:∃ k:Nat,at9=(k:Int):=⟨at9.toNat,by omega⟩
 have hk:k<n:=by omega
 have HKN:Hid (k<manyN l):=by rw [← HN.out];exact hk
 obtain ⟨gm,mc',hL2,hgm,hm0,_⟩:=HCR.out.memb HKN.out
 rw [HLS.out.1,← HN.out] at hL2
 obtain ⟨rfl,rfl⟩:gm0=gm∧mc=mc':=by simp at hL2;exact hL2
 obtain ⟨id,hid⟩:∃ id:Int,id=((k+1:Nat):Int):=⟨_,rfl⟩
 rw [← hid] at hm0
 have HID:=Lib.hid hid
 have cM:w2.cell? ⟨gm0,k * 3,none⟩=some (.int .i64 id):=(U2.out.cell (p:=⟨gm0,k * 3,none⟩) hgm (by simp)).trans hm0
 obtain ⟨X0,hX0⟩:∃ X:EvdG,X={ evd0 with kind:=kd,who:=id }:=⟨_,rfl⟩
 obtain ⟨EV,hEV⟩:∃ V:Array Value,V=X0.V:=⟨_,rfl⟩
 obtain ⟨gV,hgV⟩:∃ g,w2.heap.size=g:=⟨_,rfl⟩
 obtain ⟨w3,hw3⟩:∃ W,w2.alloc (.cells #[.int .i64 0,.int .i64 0,.int .i64 0,.string ⟨#[]⟩,.int .i64 0,.int .i64 0,.int .i64 0,.string ⟨#[]⟩,.int .i64 0,.int .i64 0,.int .i64 0,.int .i64 0,.string ⟨#[]⟩,.string ⟨#[]⟩,.string ⟨#[]⟩,.int .i64 0,.int .i64 0,.int .i64 0,.int .i64 0] 48)=W:=⟨_,rfl⟩
 have r3:Hid (w3.heap[gV]? =some (.cells evd0.V 48 (0,0))):=by show _=_;rw [← hgV,← hw3];exact heap_alloc_new _ _
 have u3:Upd [] [] w2 w3:=by rw [← hw3];exact (Upd.refl _ _).alloc _
 obtain ⟨w4,hw4⟩:∃ W,w3.setRow gV EV=W:=⟨_,rfl⟩
 have u4:Upd [] [] w2 w4:=by rw [← hw4];exact u3.setRowNew (by omega) _
 have RV4:Hid (w4.heap[gV]? =some (.cells EV 48 (0,0))):=by show _=_;rw [← hw4];exact setRow_heap _ _ _ _ _ _ r3.out
 have HBU:Hid (Tryz.prog.built 48 [(0,.int .i64 kd),(1,.int .i64 id)]=some EV):=by rw [hEV,hX0];exact EvdG.built _ _
 have HVI:Hid ((Tryz.prog.info? 48).map (·.size)=some EV.size):=by rw [hEV];exact X0.info
 have HVZ:Hid (evd0.V.size=EV.size):=by show _=_;rw [hEV];rfl
 have HVO:Hid (EV.all (·.oneCell')=true):=by rw [hEV];exact X0.one
 have lRV:gR<gV:=by rw [← hgV];exact blk_lt RR2.out
 have i0:(0:Int)≤(k:Int):=by omega
 have i1:(k:Int)<(n:Int):=by omega
 have HW4:=Lib.hid hw4
 have HEV:=Lib.hid hEV
 have HIDI:Hid (i64in id):=by show i64in id;rw [hid];unfold i64in;omega
 have HX0:=Lib.hid hX0
 clear hw4 hEV hX0 hid hm0 hgm
 go_wp2_with (first | (refine wpList_buildTo rfl 48 _ rfl _ rfl EV (Eq.trans (congrArg (fun z=>Tryz.prog.built 48 z) (by kernel_rfl)) HBU.out) ?_) | (refine wpList_store_rowAs rfl 48 _ _ rfl gV EV rfl rfl _ _ r3.out HVI.out HVZ.out HVO.out w4 HW4.out ?_))
 have HKQ:Hid (∀ W,Upd [] [] w4 W→W.cell? ⟨gQ,0,none⟩=some (.int .i64 q0)∧W.cell? ⟨gQ,1,none⟩=some (.int .i64 q1)):=fun W u=>by
  have h:=row_updH RQ2.out (u4.trans u)
  exact ⟨cell_of_row _ gQ 0 _ _ _ h,cell_of_row _ gQ 1 _ _ _ h⟩
 have ud0:Upd [] [] w4 w4.drew:=(Upd.refl _ _).drew
 refine @_root_.id ((∀ (qa nb:Int) (gA:Nat) (W:World),Hid (qa=q0 % 50)→Hid (nb=q1 % 9)→Hid (0≤qa∧qa<50∧0≤nb∧nb<9)→Hid (W.heap[gA]? =some (.cells ((evCs qa (1+nb) ⟨#[111,110,101]⟩).V.toArray) 66 (0,0)))→Hid (Upd [] [] w4 W)→Hid (w4.heap.size≤gA)→(?pj1:Int→Int→Nat→World→Prop) qa nb gA W)→_) (fun hJ=>?mj1) ?jj1
 case mj1 =>
  refine wp_region_noPanic ?_
  refine wp_region_held_drew (S:=fun wp=>wp.cell? ⟨gQ,0,none⟩=some (.int .i64 q0)∧wp.cell? ⟨gQ,1,none⟩=some (.int .i64 q1)) (by kernel_rfl) ?_ (fun hHeld=>?_)
  · exact HKQ.out _ ud0
  refine tkY 0 hHeld ?_
  refine tkY 1 hHeld ?_
  refine tkY 3 hHeld ?_
  refine tkY 4 hHeld ?_
  refine tkA [2,8] ?_
  refine tkC (fun K hK=>?_) ?_
  · go_simp;refine (mod33_any q0 50 _ HQI.out.2.1 (by omega)).mono ?_;rintro e wq ⟨qa,HQA,qa0,qa1,rfl,rfl⟩;go_wp2_with fail
    refine tkK hK (HKQ.out _ ud0) fun hHeld=>?_
    clear hK K
    refine tkA [5,8] ?_
    refine tkC (fun K hK=>?_) ?_
    · go_simp;refine (mod33_any q1 9 _ HQI.out.2.2.1 (by omega)).mono ?_;rintro e wq ⟨nb,HNB,nb0,nb1,rfl,rfl⟩;have hwn:IntKind.i64.wrap (1+nb)=1+nb:=wrap_in (by omega) (by omega);go_wp2_with fail
      refine tkK hK (HKQ.out _ ud0) fun hHeld=>?_
      clear hK K
      refine tkY 6 hHeld ?_
      refine tkA [7,8] ?_
      refine tkC (fun K hK=>?_) ?_
      · rw [if_pos (by rfl)];refine wp_buildTo 66 _ rfl ((evCs qa (1+nb) ⟨#[111,110,101]⟩).V.toArray) (Eq.trans (congrArg (fun z=>Tryz.prog.built 66 z) (by kernel_rfl)) (evCs_built qa (1+nb) ⟨#[111,110,101]⟩)) ?_
        refine tkK hK (HKQ.out _ ud0) fun hHeld=>?_
        clear hK K
        refine tk1 8 fun K hK=>?_
        go_simp;obtain ⟨gA,wv1,hgx,hwx,fA_1,hq⟩:=alloc_letD w4 (.cells #[.int .i64 0,.int .i64 0,.int .i64 0,.int .i64 0,.int .i64 0,.string ⟨#[]⟩,.int .u8 0,.int .u8 0,.int .u8 0,.int .u8 0,.int .u8 0,.int .u8 0,.int .u8 0,.int .u8 0,.int .u8 0,.int .u8 0,.int .u8 0,.int .u8 0,.int .u8 0,.int .u8 0,.int .u8 0,.int .u8 0,.int .u8 0,.int .u8 0,.int .u8 0,.int .u8 0,.int .u8 0,.int .u8 0,.int .u8 0,.int .u8 0,.int .u8 0,.int .u8 0,.int .u8 0,.int .u8 0,.int .u8 0,.int .u8 0,.int .u8 0,.int .u8 0,.int .i64 0,.int .i64 0] 66);rw [← hgx,← hwx];have bA:w4.heap.size≤gA:=(by omega);have ud1:=hq;clear hgx hwx hq
        refine tkK hK (HKQ.out _ ud1) fun hHeld=>?_
        clear hK K
        refine tk1 9 fun K hK=>?_
        rw [if_pos (by rfl)];refine wp_store_row 66 _ _ rfl gA ((evCs qa (1+nb) ⟨#[111,110,101]⟩).V.toArray) rfl rfl _ _ fA_1.out (EvG.info rfl) rfl (EvG.one _) ?_;obtain ⟨wv2,hwx⟩:∃ W':World,W'=wv1.setRow gA ((evCs qa (1+nb) ⟨#[111,110,101]⟩).V.toArray):=⟨_,rfl⟩;have fA_2:Hid (wv2.heap[gA]? =some (.cells ((evCs qa (1+nb) ⟨#[111,110,101]⟩).V.toArray) 66 (0,0))):=(by show _=_;rw [hwx];exact setRow_heap _ _ _ _ _ _ fA_1.out);have ud2:=ud1.setRowNew bA ((evCs qa (1+nb) ⟨#[111,110,101]⟩).V.toArray);rw [← hwx] at ud2 ⊢;clear hwx
        refine tkK hK (HKQ.out _ ud2) fun hHeld=>?_
        clear hK K
        refine wpAnyH_done (by kernel_rfl) ?_ _
        refine NoPanic.normal ?_
        exact hJ qa nb gA wv2 HQA HNB (Lib.hid ⟨qa0,qa1,nb0,nb1⟩) fA_2 (Lib.hid ud2) (Lib.hid bA)
      refine tkZ fun K hK=>?_
      go_simp;obtain ⟨gA,wv1,hgx,hwx,fA_1,hq⟩:=alloc_letD w4 (.cells #[.int .i64 0,.int .i64 0,.int .i64 0,.int .i64 0,.int .i64 0,.string ⟨#[]⟩,.int .u8 0,.int .u8 0,.int .u8 0,.int .u8 0,.int .u8 0,.int .u8 0,.int .u8 0,.int .u8 0,.int .u8 0,.int .u8 0,.int .u8 0,.int .u8 0,.int .u8 0,.int .u8 0,.int .u8 0,.int .u8 0,.int .u8 0,.int .u8 0,.int .u8 0,.int .u8 0,.int .u8 0,.int .u8 0,.int .u8 0,.int .u8 0,.int .u8 0,.int .u8 0,.int .u8 0,.int .u8 0,.int .u8 0,.int .u8 0,.int .u8 0,.int .u8 0,.int .i64 0,.int .i64 0] 66);rw [← hgx,← hwx];have bA:w4.heap.size≤gA:=(by omega);have ud1:=hq;clear hgx hwx hq
      refine tkK hK (HKQ.out _ ud1) fun hHeld=>?_
      clear hK K
      refine tk1 7 fun K hK=>?_
      rw [if_pos (by rfl)];refine wp_buildTo 66 _ rfl ((evCs qa (1+nb) ⟨#[111,110,101]⟩).V.toArray) (Eq.trans (congrArg (fun z=>Tryz.prog.built 66 z) (by kernel_rfl)) (evCs_built qa (1+nb) ⟨#[111,110,101]⟩)) ?_
      refine tkK hK (HKQ.out _ ud1) fun hHeld=>?_
      clear hK K
      refine tk1 9 fun K hK=>?_
      rw [if_pos (by rfl)];refine wp_store_row 66 _ _ rfl gA ((evCs qa (1+nb) ⟨#[111,110,101]⟩).V.toArray) rfl rfl _ _ fA_1.out (EvG.info rfl) rfl (EvG.one _) ?_;obtain ⟨wv2,hwx⟩:∃ W':World,W'=wv1.setRow gA ((evCs qa (1+nb) ⟨#[111,110,101]⟩).V.toArray):=⟨_,rfl⟩;have fA_2:Hid (wv2.heap[gA]? =some (.cells ((evCs qa (1+nb) ⟨#[111,110,101]⟩).V.toArray) 66 (0,0))):=(by show _=_;rw [hwx];exact setRow_heap _ _ _ _ _ _ fA_1.out);have ud2:=ud1.setRowNew bA ((evCs qa (1+nb) ⟨#[111,110,101]⟩).V.toArray);rw [← hwx] at ud2 ⊢;clear hwx
      refine tkK hK (HKQ.out _ ud2) fun hHeld=>?_
      clear hK K
      refine wpAnyH_done (by kernel_rfl) ?_ _
      refine NoPanic.normal ?_
      exact hJ qa nb gA wv2 HQA HNB (Lib.hid ⟨qa0,qa1,nb0,nb1⟩) fA_2 (Lib.hid ud2) (Lib.hid bA)
    refine tkZ fun K hK=>?_
    go_simp;obtain ⟨gA,wv1,hgx,hwx,fA_1,hq⟩:=alloc_letD w4 (.cells #[.int .i64 0,.int .i64 0,.int .i64 0,.int .i64 0,.int .i64 0,.string ⟨#[]⟩,.int .u8 0,.int .u8 0,.int .u8 0,.int .u8 0,.int .u8 0,.int .u8 0,.int .u8 0,.int .u8 0,.int .u8 0,.int .u8 0,.int .u8 0,.int .u8 0,.int .u8 0,.int .u8 0,.int .u8 0,.int .u8 0,.int .u8 0,.int .u8 0,.int .u8 0,.int .u8 0,.int .u8 0,.int .u8 0,.int .u8 0,.int .u8 0,.int .u8 0,.int .u8 0,.int .u8 0,.int .u8 0,.int .u8 0,.int .u8 0,.int .u8 0,.int .u8 0,.int .i64 0,.int .i64 0] 66);rw [← hgx,← hwx];have bA:w4.heap.size≤gA:=(by omega);have ud1:=hq;clear hgx hwx hq
    refine tkK hK (HKQ.out _ ud1) fun hHeld=>?_
    clear hK K
    refine tk1 5 fun K hK=>?_
    go_simp;refine (mod33_any q1 9 _ HQI.out.2.2.1 (by omega)).mono ?_;rintro e wq ⟨nb,HNB,nb0,nb1,rfl,rfl⟩;have hwn:IntKind.i64.wrap (1+nb)=1+nb:=wrap_in (by omega) (by omega);go_wp2_with fail
    refine tkK hK (HKQ.out _ ud1) fun hHeld=>?_
    clear hK K
    refine tkY 6 hHeld ?_
    refine tk1 7 fun K hK=>?_
    rw [if_pos (by rfl)];refine wp_buildTo 66 _ rfl ((evCs qa (1+nb) ⟨#[111,110,101]⟩).V.toArray) (Eq.trans (congrArg (fun z=>Tryz.prog.built 66 z) (by kernel_rfl)) (evCs_built qa (1+nb) ⟨#[111,110,101]⟩)) ?_
    refine tkK hK (HKQ.out _ ud1) fun hHeld=>?_
    clear hK K
    refine tk1 9 fun K hK=>?_
    rw [if_pos (by rfl)];refine wp_store_row 66 _ _ rfl gA ((evCs qa (1+nb) ⟨#[111,110,101]⟩).V.toArray) rfl rfl _ _ fA_1.out (EvG.info rfl) rfl (EvG.one _) ?_;obtain ⟨wv2,hwx⟩:∃ W':World,W'=wv1.setRow gA ((evCs qa (1+nb) ⟨#[111,110,101]⟩).V.toArray):=⟨_,rfl⟩;have fA_2:Hid (wv2.heap[gA]? =some (.cells ((evCs qa (1+nb) ⟨#[111,110,101]⟩).V.toArray) 66 (0,0))):=(by show _=_;rw [hwx];exact setRow_heap _ _ _ _ _ _ fA_1.out);have ud2:=ud1.setRowNew bA ((evCs qa (1+nb) ⟨#[111,110,101]⟩).V.toArray);rw [← hwx] at ud2 ⊢;clear hwx
    refine tkK hK (HKQ.out _ ud2) fun hHeld=>?_
    clear hK K
    refine wpAnyH_done (by kernel_rfl) ?_ _
    refine NoPanic.normal ?_
    exact hJ qa nb gA wv2 HQA HNB (Lib.hid ⟨qa0,qa1,nb0,nb1⟩) fA_2 (Lib.hid ud2) (Lib.hid bA)
  refine tkZ fun K hK=>?_
  go_simp;obtain ⟨gA,wv1,hgx,hwx,fA_1,hq⟩:=alloc_letD w4 (.cells #[.int .i64 0,.int .i64 0,.int .i64 0,.int .i64 0,.int .i64 0,.string ⟨#[]⟩,.int .u8 0,.int .u8 0,.int .u8 0,.int .u8 0,.int .u8 0,.int .u8 0,.int .u8 0,.int .u8 0,.int .u8 0,.int .u8 0,.int .u8 0,.int .u8 0,.int .u8 0,.int .u8 0,.int .u8 0,.int .u8 0,.int .u8 0,.int .u8 0,.int .u8 0,.int .u8 0,.int .u8 0,.int .u8 0,.int .u8 0,.int .u8 0,.int .u8 0,.int .u8 0,.int .u8 0,.int .u8 0,.int .u8 0,.int .u8 0,.int .u8 0,.int .u8 0,.int .i64 0,.int .i64 0] 66);rw [← hgx,← hwx];have bA:w4.heap.size≤gA:=(by omega);have ud1:=hq;clear hgx hwx hq
  refine tkK hK (HKQ.out _ ud1) fun hHeld=>?_
  clear hK K
  refine tk1 2 fun K hK=>?_
  go_simp;refine (mod33_any q0 50 _ HQI.out.2.1 (by omega)).mono ?_;rintro e wq ⟨qa,HQA,qa0,qa1,rfl,rfl⟩;go_wp2_with fail
  refine tkK hK (HKQ.out _ ud1) fun hHeld=>?_
  clear hK K
  refine tk1 5 fun K hK=>?_
  go_simp;refine (mod33_any q1 9 _ HQI.out.2.2.1 (by omega)).mono ?_;rintro e wq ⟨nb,HNB,nb0,nb1,rfl,rfl⟩;have hwn:IntKind.i64.wrap (1+nb)=1+nb:=wrap_in (by omega) (by omega);go_wp2_with fail
  refine tkK hK (HKQ.out _ ud1) fun hHeld=>?_
  clear hK K
  refine tkY 6 hHeld ?_
  refine tk1 7 fun K hK=>?_
  rw [if_pos (by rfl)];refine wp_buildTo 66 _ rfl ((evCs qa (1+nb) ⟨#[111,110,101]⟩).V.toArray) (Eq.trans (congrArg (fun z=>Tryz.prog.built 66 z) (by kernel_rfl)) (evCs_built qa (1+nb) ⟨#[111,110,101]⟩)) ?_
  refine tkK hK (HKQ.out _ ud1) fun hHeld=>?_
  clear hK K
  refine tk1 9 fun K hK=>?_
  rw [if_pos (by rfl)];refine wp_store_row 66 _ _ rfl gA ((evCs qa (1+nb) ⟨#[111,110,101]⟩).V.toArray) rfl rfl _ _ fA_1.out (EvG.info rfl) rfl (EvG.one _) ?_;obtain ⟨wv2,hwx⟩:∃ W':World,W'=wv1.setRow gA ((evCs qa (1+nb) ⟨#[111,110,101]⟩).V.toArray):=⟨_,rfl⟩;have fA_2:Hid (wv2.heap[gA]? =some (.cells ((evCs qa (1+nb) ⟨#[111,110,101]⟩).V.toArray) 66 (0,0))):=(by show _=_;rw [hwx];exact setRow_heap _ _ _ _ _ _ fA_1.out);have ud2:=ud1.setRowNew bA ((evCs qa (1+nb) ⟨#[111,110,101]⟩).V.toArray);rw [← hwx] at ud2 ⊢;clear hwx
  refine tkK hK (HKQ.out _ ud2) fun hHeld=>?_
  clear hK K
  refine wpAnyH_done (by kernel_rfl) ?_ _
  refine NoPanic.normal ?_
  exact hJ qa nb gA wv2 HQA HNB (Lib.hid ⟨qa0,qa1,nb0,nb1⟩) fA_2 (Lib.hid ud2) (Lib.hid bA)
 intro qa nb gA w5 HQA HNB HQN HA5 HU5 HGA
 skip
 obtain ⟨EA,hEA⟩:∃ E,E=evCs qa (1+nb) ⟨#[111,110,101]⟩:=⟨_,rfl⟩
 obtain ⟨AV,hAV⟩:∃ A:Array Value,A=EA.V.toArray:=⟨_,rfl⟩
 rw [← hEA,← hAV] at HA5 ⊢
 have HEA:=Lib.hid hEA
 have HAV:=Lib.hid hAV
 have eap:EA.p.length=32:=by rw [hEA];rfl
 have HAI:Hid ((Tryz.prog.info? 66).map (·.size)=some AV.size):=by rw [hAV];exact EvG.info eap
 have HAZ:Hid (evZ.toArray.size=AV.size):=by show _=_;rw [hAV,evZ_len];exact (EvG.V_len eap).symm
 have HAO:Hid (AV.all (·.oneCell')=true):=by rw [hAV];exact EvG.one _
 obtain ⟨gB,hgB⟩:∃ g,w5.heap.size=g:=⟨_,rfl⟩
 obtain ⟨w6,hw6⟩:∃ W,w5.alloc (.cells #[.int .i64 0,.int .i64 0,.int .i64 0,.int .i64 0,.int .i64 0,.string ⟨#[]⟩,.int .u8 0,.int .u8 0,.int .u8 0,.int .u8 0,.int .u8 0,.int .u8 0,.int .u8 0,.int .u8 0,.int .u8 0,.int .u8 0,.int .u8 0,.int .u8 0,.int .u8 0,.int .u8 0,.int .u8 0,.int .u8 0,.int .u8 0,.int .u8 0,.int .u8 0,.int .u8 0,.int .u8 0,.int .u8 0,.int .u8 0,.int .u8 0,.int .u8 0,.int .u8 0,.int .u8 0,.int .u8 0,.int .u8 0,.int .u8 0,.int .u8 0,.int .u8 0,.int .i64 0,.int .i64 0] 66)=W:=⟨_,rfl⟩
 have r6:Hid (w6.heap[gB]? =some (.cells evZ.toArray 66 (0,0))):=by show _=_;rw [← hgB,← hw6,zero_ev];exact heap_alloc_new _ _
 have u6:Upd [] [] w5 w6:=by rw [← hw6];exact (Upd.refl _ _).alloc _
 obtain ⟨w7,hw7⟩:∃ W,w6.setRow gB AV=W:=⟨_,rfl⟩
 have u7:Upd [] [] w5 w7:=by rw [← hw7];exact u6.setRowNew (by omega) _
 have RB7:Hid (w7.heap[gB]? =some (.cells AV 66 (0,0))):=by show _=_;rw [← hw7];exact setRow_heap _ _ _ _ _ _ r6.out
 have HW7:=Lib.hid hw7
 have lAB:gA<gB:=by rw [← hgB];exact blk_lt HA5.out
 have lVA:gV<gA:=by have:=blk_lt RV4.out;have:=HGA.out;omega
 have hb1:=HB1.out
 have S7:Hid (GuSt w w7 gC gQ gR gV gA gB CA EV AV AV q0 q1 q2):=by
  have ua:=HU5.out.trans u7
  have ub:=u4.trans ua
  exact ⟨row_updH RC2.out ub,row_updH RQ2.out ub,row_updH RR2.out ub,row_updH RV4.out ua,row_updH HA5.out u7,RB7.out,U2.out.trans ub,⟨hb1.1,hb1.2.1,hb1.2.2,lRV,lVA,lAB⟩⟩
 have S8':=S7.out.setB 5 (.string ⟨#[116,119,111]⟩)
 obtain ⟨w8,hw8⟩:∃ W,w7.setCell ⟨gB,5,none⟩ (.string ⟨#[116,119,111]⟩)=W:=⟨_,rfl⟩
 rw [hw8] at S8'
 obtain ⟨EB,hEB⟩:∃ E,E=evCs qa (1+nb) ⟨#[116,119,111]⟩:=⟨_,rfl⟩
 obtain ⟨BV,hBV⟩:∃ A:Array Value,A=EB.V.toArray:=⟨_,rfl⟩
 have hset:AV.setIfInBounds 5 (.string ⟨#[116,119,111]⟩)=BV:=by rw [hAV,hBV,hEA,hEB];simp [EvG.V,evCs]
 rw [hset] at S8'
 have S8:=Lib.hid S8'
 have f5:w7.frozen? ⟨gB,5,none⟩=false:=frozen_of_row _ _ _ _ _ RB7.out
 have k5:w7.cell? ⟨gB,5,none⟩=some (.string ⟨#[111,110,101]⟩):=by rw [cell_of_row _ gB 5 _ _ _ RB7.out,hAV,hEA];rfl
 have HEB:=Lib.hid hEB
 have HBV:=Lib.hid hBV
 have HW8:=Lib.hid hw8
 have HCI:Hid ((Tryz.prog.info? 34).map (·.size)=some CA.size):=by rw [HCA.out];exact csInfo _ _ _ _ _ _ _
 clear S8' hset hEA hAV hEB hBV hw7 hw8 u6 u7 u4 u3 lRV lVA lAB hb1 cL cM ud0 i0 i1 eap
 go_upto_region 14 with (first | (refine wpList_load_row rfl 66 _ rfl gA rfl _ AV _ _ HA5.out Tryz.underlying66 rfl HAI.out ?_) | (refine wpList_store_rowAs rfl 66 _ _ rfl gB AV rfl rfl _ _ r6.out HAI.out HAZ.out HAO.out w7 HW7.out ?_))
 rw [HW8.out]
 clear g6 g7
 have hkd0:=HKD.out
 clear HKD
 rcases hkd0 with hkd | hkd | hkd | hkd | hkd <;> subst hkd
 · skip
   have HOEA:Hid (EA.ok∧EA.x.size≤1000000):=by rw [HEA.out];have:=HQN.out;exact ⟨evCs_ok _ (by unfold i64in;omega) (by unfold i64in;omega),(by decide:(ByteArray.mk #[111,110,101]).size≤1000000)⟩
   have HOEB:Hid (EB.ok∧EB.x.size≤1000000):=by rw [HEB.out];have:=HQN.out;exact ⟨evCs_ok _ (by unfold i64in;omega) (by unfold i64in;omega),(by decide:(ByteArray.mk #[116,119,111]).size≤1000000)⟩
   have HEV0:Hid (EV=X0.V):=HEV
   obtain ⟨EV0,hEV0⟩:∃ V:Array Value,V=EV:=⟨_,rfl⟩
   rw [← hEV0] at HEV0 S8
   obtain ⟨F1,hF1⟩:∃ E,E=(EA.from id).signed (secN k):=⟨_,rfl⟩
   have HEC1:Hid (∀ W,Upd [] [] w W→Calls Tryz.prog 32 #[.agg CA,.int .i64 (k:Int),.agg AV] W (MkEvR F1 W)):=fun W u=>by
    rw [HCA.out,HAV.out,hF1,HID.out]
    exact event33_any l L K P KM S C KS W (HCR.out.upd u) k HKN.out EA HOEA.out.1 HOEA.out.2
   have hok1:F1.ok:=by rw [hF1];exact EvG.signed_ok (EvG.from_ok HOEA.out.1 HIDI.out) _
   have hsz1:F1.x.size≤1000000:=by rw [hF1];exact HOEA.out.2
   have HVT1:Hid (∀ (EW:Array Value) W,EW=F1.V.toArray→Calls Tryz.prog 31 #[.agg EW] W (MkVt F1 W)):=fun EW W h=>by
    rw [h]
    exact rVote33_any F1 hok1 hsz1 W
   have HF1:Hid (F1=(EA.from id).signed (secN k)∧F1.ok∧F1.x.size≤1000000):=⟨hF1,hok1,hsz1⟩
   clear hF1 hok1 hsz1
   obtain ⟨F2,hF2⟩:∃ E,E=(EB.from id).signed (secN k):=⟨_,rfl⟩
   have HEC2:Hid (∀ W,Upd [] [] w W→Calls Tryz.prog 32 #[.agg CA,.int .i64 (k:Int),.agg BV] W (MkEvR F2 W)):=fun W u=>by
    rw [HCA.out,HBV.out,hF2,HID.out]
    exact event33_any l L K P KM S C KS W (HCR.out.upd u) k HKN.out EB HOEB.out.1 HOEB.out.2
   have hok2:F2.ok:=by rw [hF2];exact EvG.signed_ok (EvG.from_ok HOEB.out.1 HIDI.out) _
   have hsz2:F2.x.size≤1000000:=by rw [hF2];exact HOEB.out.2
   have HVT2:Hid (∀ (EW:Array Value) W,EW=F2.V.toArray→Calls Tryz.prog 31 #[.agg EW] W (MkVt F2 W)):=fun EW W h=>by
    rw [h]
    exact rVote33_any F2 hok2 hsz2 W
   have HF2:Hid (F2=(EB.from id).signed (secN k)∧F2.ok∧F2.x.size≤1000000):=⟨hF2,hok2,hsz2⟩
   clear hF2 hok2 hsz2
   go_wp2_with (first | (refine wpList_load_row rfl 34 _ rfl gC rfl _ CA _ _ S8.out.c Tryz.underlying34 rfl HCI.out ?_) | (refine wpList_load_row rfl 66 _ rfl gA rfl _ AV _ _ S8.out.a Tryz.underlying66 rfl HAI.out ?_))
   have hW1:=S8.out.up
   refine (HEC1.out _ hW1).mono ?_
   rintro e v1 ⟨EW1,HEW1,rfl,hq⟩
   have R1:=Lib.hid (S8.out.quiet hq)
   clear hq hW1
   go_wp2_with fail
   refine (HVT1.out EW1 _ HEW1.out).mono ?_
   rintro e x1 ⟨T1,HT1,rfl,hq⟩
   have P1:=Lib.hid (R1.out.quiet hq)
   obtain ⟨V1,hV1⟩:∃ V:Array Value,V=#[.int .i64 F1.h,.string T1,.int .i64 F1.r,.int .i64 F1.s]:=⟨_,rfl⟩
   rw [← hV1]
   have TH1:Hid (x1.there gV 2 V1.size):=there_of_row P1.out.v (by rw [hV1,HEV0.out];exact (by decide:2+4≤19))
   have HI1:Hid ((Tryz.prog.info? 39).map (·.size)=some V1.size):=by rw [hV1];exact vt4_info _ _ _ _
   have HV1:Hid (V1.all (·.oneCell')=true):=by rw [hV1];exact vt4_one _ _ _ _
   obtain ⟨y1,hy1⟩:∃ W,x1.setCells gV 2 V1.toList=W:=⟨_,rfl⟩
   have hS1:=P1.out.setV 2 V1.toList
   rw [hy1] at hS1
   obtain ⟨X1,hX1⟩:∃ X:EvdG,X={ X0 with aw:=F1.h,aT:=T1,ar:=F1.r,as':=F1.s }:=⟨_,rfl⟩
   obtain ⟨EV1,hEV1⟩:∃ V:Array Value,V=X1.V:=⟨_,rfl⟩
   have hse1:setAll EV0 2 V1.toList=EV1:=by rw [HEV0.out,hEV1,hX1,hV1];rfl
   rw [hse1] at hS1
   have S9:=Lib.hid hS1
   have HY1:=Lib.hid hy1
   have HXE1:=Lib.hid hX1
   have HEV1:=Lib.hid hEV1
   clear hq hS1 hse1 hX1 hEV1 hy1 hV1 R1 P1 HVT1 HEC1
   have HBI:Hid ((Tryz.prog.info? 66).map (·.size)=some BV.size):=by rw [HBV.out];exact EvG.info HOEB.out.1.2.2.2.2.2.1
   go_wp2_with (first | (refine wpList_store_midAs rfl 39 _ _ rfl gV 2 V1 rfl rfl TH1.out HI1.out HV1.out y1 HY1.out ?_) | (refine wpList_load_row rfl 34 _ rfl gC rfl _ CA _ _ S9.out.c Tryz.underlying34 rfl HCI.out ?_) | (refine wpList_load_row rfl 66 _ rfl gB rfl _ BV _ _ S9.out.b Tryz.underlying66 rfl HBI.out ?_))
   have hW2:=S9.out.up
   refine (HEC2.out _ hW2).mono ?_
   rintro e v2 ⟨EW2,HEW2,rfl,hq⟩
   have R2:=Lib.hid (S9.out.quiet hq)
   clear hq hW2
   go_wp2_with fail
   refine (HVT2.out EW2 _ HEW2.out).mono ?_
   rintro e x2 ⟨T2,HT2,rfl,hq⟩
   have P2:=Lib.hid (R2.out.quiet hq)
   obtain ⟨V2,hV2⟩:∃ V:Array Value,V=#[.int .i64 F2.h,.string T2,.int .i64 F2.r,.int .i64 F2.s]:=⟨_,rfl⟩
   rw [← hV2]
   have TH2:Hid (x2.there gV 6 V2.size):=there_of_row P2.out.v (by rw [hV2,HEV1.out];exact (by decide:6+4≤19))
   have HI2:Hid ((Tryz.prog.info? 39).map (·.size)=some V2.size):=by rw [hV2];exact vt4_info _ _ _ _
   have HV2:Hid (V2.all (·.oneCell')=true):=by rw [hV2];exact vt4_one _ _ _ _
   obtain ⟨y2,hy2⟩:∃ W,x2.setCells gV 6 V2.toList=W:=⟨_,rfl⟩
   have hS2:=P2.out.setV 6 V2.toList
   rw [hy2] at hS2
   obtain ⟨X2,hX2⟩:∃ X:EvdG,X={ X1 with bw:=F2.h,bT:=T2,br:=F2.r,bs':=F2.s }:=⟨_,rfl⟩
   obtain ⟨EV2,hEV2⟩:∃ V:Array Value,V=X2.V:=⟨_,rfl⟩
   have hse2:setAll EV1 6 V2.toList=EV2:=by rw [HEV1.out,hEV2,hX2,hV2];rfl
   rw [hse2] at hS2
   have S10:=Lib.hid hS2
   have HY2:=Lib.hid hy2
   have HXE2:=Lib.hid hX2
   have HEV2:=Lib.hid hEV2
   clear hq hS2 hse2 hX2 hEV2 hy2 hV2 R2 P2 HVT2 HEC2
   obtain ⟨z9,hz9⟩:∃ W,y2.setRow gR EV2=W:=⟨_,rfl⟩
   have HZ9:=Lib.hid hz9
   have HRI:Hid ((Tryz.prog.info? 48).map (·.size)=some EV2.size):=by rw [HEV2.out];exact X2.info
   have HRZ:Hid (evd0.V.size=EV2.size):=by show _=_;rw [HEV2.out];rfl
   have HRO:Hid (EV2.all (·.oneCell')=true):=by rw [HEV2.out];exact X2.one
   have HR9:Hid (z9.heap[gR]? =some (.cells EV2 48 (0,0))):=by show _=_;rw [← hz9];exact setRow_heap _ _ _ _ _ _ S10.out.r
   have HU9:Hid (Upd [] [] w z9):=by show Upd _ _ _ _;rw [← hz9];exact S10.out.up.setRowNew (by have:=S10.out.base;omega) _
   clear hz9
   go_wp2_with (first | (refine wpList_store_midAs rfl 39 _ _ rfl gV 6 V2 rfl rfl TH2.out HI2.out HV2.out y2 HY2.out ?_) | (refine wpList_load_row rfl 48 _ rfl gV rfl _ EV2 _ _ S10.out.v Tryz.underlying48 rfl HRI.out ?_) | (refine wpList_store_rowAs rfl 48 _ _ rfl gR EV2 rfl rfl _ _ S10.out.r HRI.out HRZ.out HRO.out z9 HZ9.out ?_))
   refine bodyPost_ret (results_cell_row rfl _ _ gR _ EV2 _ _ rfl HR9.out Tryz.underlying48 rfl HRI.out) rfl ⟨X2,?_,?_,HU9.out⟩
   · refine .inl ⟨rfl,?_⟩
     have hAT:=HAT.out
     rw [HN.out] at hAT
     refine ⟨k,F1,F2,T1,T2,HKN.out,hAT,?_,?_,HT1.out,HT2.out,?_⟩
     · rw [HF1.out.1,HEA.out,HID.out,HQA.out,HNB.out]
     · rw [HF2.out.1,HEB.out,HID.out,HQA.out,HNB.out]
     · rw [HXE2.out,HXE1.out,HX0.out,HID.out]
   · rw [HEV2.out]
 · skip
   have HOEA:Hid (EA.ok∧EA.x.size≤1000000):=by rw [HEA.out];have:=HQN.out;exact ⟨evCs_ok _ (by unfold i64in;omega) (by unfold i64in;omega),(by decide:(ByteArray.mk #[111,110,101]).size≤1000000)⟩
   have HOEB:Hid (EB.ok∧EB.x.size≤1000000):=by rw [HEB.out];have:=HQN.out;exact ⟨evCs_ok _ (by unfold i64in;omega) (by unfold i64in;omega),(by decide:(ByteArray.mk #[116,119,111]).size≤1000000)⟩
   have HEV0:Hid (EV=X0.V):=HEV
   obtain ⟨EV0,hEV0⟩:∃ V:Array Value,V=EV:=⟨_,rfl⟩
   rw [← hEV0] at HEV0 S8
   obtain ⟨gp,pc,gx,xn,xc,hP,hgp,hpk,hxn,hgx,hx0,hx1,hx2⟩:=HCR.out.point HKN.out
   obtain ⟨x,hx⟩:∃ x,x=ptN l k:=⟨_,rfl⟩
   rw [← hx] at hx0 hx1 hx2
   rw [← HN.out] at hP
   have HXB:Hid (1≤x∧x≤60):=⟨hx1,hx2⟩
   have HX:=Lib.hid hx
   have HNI:Hid (i64in (1+nb)):=by have:=HQN.out;show i64in _;unfold i64in;omega
   have HK8:Hid (∀ W,Upd [] [] w8 W→W.cell? ⟨gC,2,none⟩=some (.slice (some ⟨gp,0,none⟩) n pc)∧W.cell? ⟨gp,k,none⟩=some (.slice (some ⟨gx,0,none⟩) xn xc)∧W.cell? ⟨gx,0,none⟩=some (.int .i64 (x:Int))∧W.cell? ⟨gQ,2,none⟩=some (.int .i64 q2)∧W.cell? ⟨gA,4,none⟩=some (.int .i64 (1+nb))):=fun W u=>by
    have q:=S8.out.quiet u
    refine ⟨?_,(q.up.cell (p:=⟨gp,k,none⟩) hgp (by simp)).trans hpk,(q.up.cell (p:=⟨gx,0,none⟩) hgx (by simp)).trans hx0,cell_of_row _ gQ 2 _ _ _ q.q,?_⟩
    · rw [cell_of_row _ gC 2 _ _ _ q.c,HCA.out,← hP];rfl
    · rw [cell_of_row _ gA 4 _ _ _ q.a,HAV.out,HEA.out];rfl
   have i0:(0:Int)≤(k:Int):=by omega
   have i1:(k:Int)<(n:Int):=by have:=HKN.out;have:=HN.out;omega
   have i2:(0:Int)<(xn:Int):=by omega
   have i3:0<xn:=by omega
   have ud0:Upd [] [] w8 w8.drew:=(Upd.refl _ _).drew
   have HGA8:Hid (gA<w8.heap.size):=blk_lt S8.out.a
   clear hP hgp hpk hgx hx0 hx1 hx2 hx
   go_upto_region 16 with (fail)
   refine @_root_.id ((∀ (y v c z gP:Nat) (W:World),Hid ((y:Int)=q2 % 1152921504606845789)→Hid (v=prtV y (1+nb)∧c=prtC y (1+nb)∧z=prtZ y (1+nb))→Hid ((y:Int)<1152921504606845789∧v<2305843009213691579∧c<1152921504606845789∧z<1152921504606845789)→Hid (W.heap[gP]? =some (.cells #[.int .i64 (x:Int),.int .i64 (v:Int),.int .i64 (c:Int),.int .i64 (z:Int)] 82 (0,0)))→Hid (Upd [] [] w8 W)→Hid (w8.heap.size≤gP)→(?pj9:Nat→Nat→Nat→Nat→Nat→World→Prop) y v c z gP W)→_) (fun hJ=>?mj9) ?jj9
   case mj9 =>
    refine wp_region_noPanic ?_
    refine wp_region_held_drew (S:=fun wp=>wp.cell? ⟨gC,2,none⟩=some (.slice (some ⟨gp,0,none⟩) n pc)∧wp.cell? ⟨gp,k,none⟩=some (.slice (some ⟨gx,0,none⟩) xn xc)∧wp.cell? ⟨gx,0,none⟩=some (.int .i64 (x:Int))∧wp.cell? ⟨gQ,2,none⟩=some (.int .i64 q2)∧wp.cell? ⟨gA,4,none⟩=some (.int .i64 (1+nb))) (by kernel_rfl) ?_ (fun hHeld=>?_)
    · exact HK8.out _ ud0
    refine tkY 0 hHeld ?_
    refine tkY 1 hHeld ?_
    refine tkY 2 hHeld ?_
    refine tkY 3 hHeld ?_
    refine tkY 4 hHeld ?_
    refine tkY 5 hHeld ?_
    refine tkY 6 hHeld ?_
    refine tkY 7 hHeld ?_
    refine tkY 8 hHeld ?_
    refine tkY 9 hHeld ?_
    refine tkY 10 hHeld ?_
    refine tkY 13 hHeld ?_
    refine tkY 14 hHeld ?_
    refine tkA [11,16] ?_
    refine tkC (fun K hK=>?_) ?_
    · go_simp;refine (mod33_any q2 1152921504606845789 _ HQI.out.2.2.2 (by omega)).mono ?_;rintro e wq ⟨y',HY,y0,y1,rfl,rfl⟩;obtain ⟨y,rfl⟩:∃ y:Nat,y'=(y:Int):=⟨y'.toNat,(by omega)⟩;go_wp2_with fail
      refine tkK hK (HK8.out _ ud0) fun hHeld=>?_
      clear hK K
      refine tkY 12 hHeld ?_
      refine tkA [15,16] ?_
      refine tkC (fun K hK=>?_) ?_
      · go_simp;refine (eval09_any x y (1+nb) _ HXB.out (by omega) HNI.out).mono ?_;rintro e wv1 ⟨v,c,z,HVCZ,hv,hc,hz,rfl,hq⟩;have ud1:=ud0.trans hq;clear hq;go_wp2_with fail
        refine tkK hK (HK8.out _ ud1) fun hHeld=>?_
        clear hK K
        refine tk1 16 fun K hK=>?_
        go_simp;obtain ⟨gP,wv2,hgx,hwx,fP_2,hq⟩:=alloc_let wv1 (.cells ptZ 82);have hgx':=hgx;simp only [ptZ] at hwx;rw [← hgx,← hwx];have bP:w8.heap.size≤gP:=(by have:=ud1.size;omega);have ud2:=ud1.trans hq;clear hgx hgx' hwx hq
        refine tkK hK (HK8.out _ ud2) fun hHeld=>?_
        clear hK K
        refine tk1 17 fun K hK=>?_
        rw [if_pos (by rfl)];refine wp_store_row 82 _ _ rfl gP #[.int .i64 (x:Int),.int .i64 (v:Int),.int .i64 (c:Int),.int .i64 (z:Int)] rfl rfl _ _ fP_2.out (ptInfo _ _ _ _) rfl (by simp [Value.oneCell']) ?_;obtain ⟨wv3,hwx⟩:∃ W':World,W'=wv2.setRow gP #[.int .i64 (x:Int),.int .i64 (v:Int),.int .i64 (c:Int),.int .i64 (z:Int)]:=⟨_,rfl⟩;have fP_3:Hid (wv3.heap[gP]? =some (.cells #[.int .i64 (x:Int),.int .i64 (v:Int),.int .i64 (c:Int),.int .i64 (z:Int)] 82 (0,0))):=(by show _=_;rw [hwx];exact setRow_heap _ _ _ _ _ _ fP_2.out);have ud3:=ud2.setRowNew bP #[.int .i64 (x:Int),.int .i64 (v:Int),.int .i64 (c:Int),.int .i64 (z:Int)];rw [← hwx] at ud3 ⊢;clear hwx
        refine tkK hK (HK8.out _ ud3) fun hHeld=>?_
        clear hK K
        refine wpAnyH_done (by kernel_rfl) ?_ _
        refine NoPanic.normal ?_
        exact hJ y v c z gP wv3 HY HVCZ (Lib.hid ⟨y1,hv,hc,hz⟩) fP_3 (Lib.hid ud3) (Lib.hid bP)
      refine tkZ fun K hK=>?_
      go_simp;obtain ⟨gP,wv1,hgx,hwx,fP_1,hq⟩:=alloc_letD w8 (.cells ptZ 82);have hgx':=hgx;simp only [ptZ] at hwx;rw [← hgx,← hwx];have bP:w8.heap.size≤gP:=(by omega);have ud1:=hq;clear hgx hgx' hwx hq
      refine tkK hK (HK8.out _ ud1) fun hHeld=>?_
      clear hK K
      refine tk1 15 fun K hK=>?_
      go_simp;refine (eval09_any x y (1+nb) _ HXB.out (by omega) HNI.out).mono ?_;rintro e wv2 ⟨v,c,z,HVCZ,hv,hc,hz,rfl,hq⟩;have ud2:=ud1.trans hq;have fP_2:=Lib.hid (row_updH fP_1.out hq);clear hq;go_wp2_with fail
      refine tkK hK (HK8.out _ ud2) fun hHeld=>?_
      clear hK K
      refine tk1 17 fun K hK=>?_
      rw [if_pos (by rfl)];refine wp_store_row 82 _ _ rfl gP #[.int .i64 (x:Int),.int .i64 (v:Int),.int .i64 (c:Int),.int .i64 (z:Int)] rfl rfl _ _ fP_2.out (ptInfo _ _ _ _) rfl (by simp [Value.oneCell']) ?_;obtain ⟨wv3,hwx⟩:∃ W':World,W'=wv2.setRow gP #[.int .i64 (x:Int),.int .i64 (v:Int),.int .i64 (c:Int),.int .i64 (z:Int)]:=⟨_,rfl⟩;have fP_3:Hid (wv3.heap[gP]? =some (.cells #[.int .i64 (x:Int),.int .i64 (v:Int),.int .i64 (c:Int),.int .i64 (z:Int)] 82 (0,0))):=(by show _=_;rw [hwx];exact setRow_heap _ _ _ _ _ _ fP_2.out);have ud3:=ud2.setRowNew bP #[.int .i64 (x:Int),.int .i64 (v:Int),.int .i64 (c:Int),.int .i64 (z:Int)];rw [← hwx] at ud3 ⊢;clear hwx
      refine tkK hK (HK8.out _ ud3) fun hHeld=>?_
      clear hK K
      refine wpAnyH_done (by kernel_rfl) ?_ _
      refine NoPanic.normal ?_
      exact hJ y v c z gP wv3 HY HVCZ (Lib.hid ⟨y1,hv,hc,hz⟩) fP_3 (Lib.hid ud3) (Lib.hid bP)
    refine tkZ fun K hK=>?_
    go_simp;obtain ⟨gP,wv1,hgx,hwx,fP_1,hq⟩:=alloc_letD w8 (.cells ptZ 82);have hgx':=hgx;simp only [ptZ] at hwx;rw [← hgx,← hwx];have bP:w8.heap.size≤gP:=(by omega);have ud1:=hq;clear hgx hgx' hwx hq
    refine tkK hK (HK8.out _ ud1) fun hHeld=>?_
    clear hK K
    refine tk1 11 fun K hK=>?_
    go_simp;refine (mod33_any q2 1152921504606845789 _ HQI.out.2.2.2 (by omega)).mono ?_;rintro e wq ⟨y',HY,y0,y1,rfl,rfl⟩;obtain ⟨y,rfl⟩:∃ y:Nat,y'=(y:Int):=⟨y'.toNat,(by omega)⟩;go_wp2_with fail
    refine tkK hK (HK8.out _ ud1) fun hHeld=>?_
    clear hK K
    refine tkY 12 hHeld ?_
    refine tk1 15 fun K hK=>?_
    go_simp;refine (eval09_any x y (1+nb) _ HXB.out (by omega) HNI.out).mono ?_;rintro e wv2 ⟨v,c,z,HVCZ,hv,hc,hz,rfl,hq⟩;have ud2:=ud1.trans hq;have fP_2:=Lib.hid (row_updH fP_1.out hq);clear hq;go_wp2_with fail
    refine tkK hK (HK8.out _ ud2) fun hHeld=>?_
    clear hK K
    refine tk1 17 fun K hK=>?_
    rw [if_pos (by rfl)];refine wp_store_row 82 _ _ rfl gP #[.int .i64 (x:Int),.int .i64 (v:Int),.int .i64 (c:Int),.int .i64 (z:Int)] rfl rfl _ _ fP_2.out (ptInfo _ _ _ _) rfl (by simp [Value.oneCell']) ?_;obtain ⟨wv3,hwx⟩:∃ W':World,W'=wv2.setRow gP #[.int .i64 (x:Int),.int .i64 (v:Int),.int .i64 (c:Int),.int .i64 (z:Int)]:=⟨_,rfl⟩;have fP_3:Hid (wv3.heap[gP]? =some (.cells #[.int .i64 (x:Int),.int .i64 (v:Int),.int .i64 (c:Int),.int .i64 (z:Int)] 82 (0,0))):=(by show _=_;rw [hwx];exact setRow_heap _ _ _ _ _ _ fP_2.out);have ud3:=ud2.setRowNew bP #[.int .i64 (x:Int),.int .i64 (v:Int),.int .i64 (c:Int),.int .i64 (z:Int)];rw [← hwx] at ud3 ⊢;clear hwx
    refine tkK hK (HK8.out _ ud3) fun hHeld=>?_
    clear hK K
    refine wpAnyH_done (by kernel_rfl) ?_ _
    refine NoPanic.normal ?_
    exact hJ y v c z gP wv3 HY HVCZ (Lib.hid ⟨y1,hv,hc,hz⟩) fP_3 (Lib.hid ud3) (Lib.hid bP)
   intro y v c z gP w9 HY HVCZ HVN fP9 U9 HGP
   skip
   have S9:=Lib.hid (S8.out.quiet U9.out)
   have cK:w9.cell? ⟨gA,1,none⟩=some (.int .i64 4):=by rw [cell_of_row _ gA 1 _ _ _ S9.out.a,HAV.out,HEA.out];rfl
   have fK:w9.frozen? ⟨gA,1,none⟩=false:=frozen_of_row _ _ _ _ _ S9.out.a
   obtain ⟨w10,hw10⟩:∃ W,w9.setCell ⟨gA,1,none⟩ (.int .i64 5)=W:=⟨_,rfl⟩
   have hS10:=S9.out.setA 1 (.int .i64 5)
   have hP10:w10.heap[gP]? =some (.cells #[.int .i64 (x:Int),.int .i64 (v:Int),.int .i64 (c:Int),.int .i64 (z:Int)] 82 (0,0)):=by rw [← hw10];exact row_setCellO fP9.out (by have:=HGP.out;have:=HGA8.out;omega)
   rw [hw10] at hS10
   obtain ⟨EA1,hEA1⟩:∃ E,E={ evCs qa (1+nb) ⟨#[111,110,101]⟩ with k:=5 }:=⟨_,rfl⟩
   obtain ⟨AV1,hAV1⟩:∃ A:Array Value,A=EA1.V.toArray:=⟨_,rfl⟩
   have hset:AV.setIfInBounds 1 (.int .i64 5)=AV1:=by rw [HAV.out,HEA.out,hAV1,hEA1];simp [EvG.V,evCs]
   rw [hset] at hS10
   have S10':=Lib.hid hS10
   have HP10:=Lib.hid hP10
   have HW10:=Lib.hid hw10
   have HAV1:=Lib.hid (And.intro hAV1 hEA1)
   have HK10:Hid (∀ W A',GuSt w W gC gQ gR gV gA gB CA EV0 A' BV q0 q1 q2→W.heap[gP]? =some (.cells #[.int .i64 (x:Int),.int .i64 (v:Int),.int .i64 (c:Int),.int .i64 (z:Int)] 82 (0,0))→W.cell? ⟨gQ,2,none⟩=some (.int .i64 q2)∧(Instr.loadAt 82 (.pointer (some ⟨gP,0,none⟩))).run Tryz.prog W=.ok (.agg #[.int .i64 (x:Int),.int .i64 (v:Int),.int .i64 (c:Int),.int .i64 (z:Int)]) W):=fun W A' h hp=>⟨cell_of_row _ gQ 2 _ _ _ h.q,pt_load hp⟩
   have ud0:Upd [] [] w10 w10.drew:=(Upd.refl _ _).drew
   clear hset hS10 hP10 hw10 hAV1 hEA1 HK8 fP9
   go_upto_region 18 with (fail)
   rw [HW10.out]
   refine @_root_.id ((∀ (m8 dd:Int) (s1 s2 TX:ByteArray) (W:World),Hid (m8=q2 % 8∧m8 / 7=dd)→Hid (bs s1=Lib.itoa dd∧bs s2=partL x v c z∧s1.size+1+s2.size≤200)→Hid (TX=s1 ++ ByteArray.mk #[32] ++ s2)→Hid (GuSt w W gC gQ gR gV gA gB CA EV0 (AV1.setIfInBounds 5 (.string TX)) BV q0 q1 q2)→(?pj25:Int→Int→ByteArray→ByteArray→ByteArray→World→Prop) m8 dd s1 s2 TX W)→_) (fun hJ=>?mj25) ?jj25
   case mj25 =>
    refine wp_region_noPanic ?_
    refine wp_region_held_drew (S:=fun wp=>wp.cell? ⟨gQ,2,none⟩=some (.int .i64 q2)∧(Instr.loadAt 82 (.pointer (some ⟨gP,0,none⟩))).run Tryz.prog wp=.ok (.agg #[.int .i64 (x:Int),.int .i64 (v:Int),.int .i64 (c:Int),.int .i64 (z:Int)]) wp) (by kernel_rfl) ?_ (fun hHeld=>?_)
    · exact HK10.out _ _ (S10'.out.quiet ud0) (row_updH HP10.out ud0)
    refine tkY 0 hHeld ?_
    refine tkY 1 hHeld ?_
    refine wpAnyH_take (i:=6) (v:=.agg (#[.int .i64 (x:Int),.int .i64 (v:Int),.int .i64 (c:Int),.int .i64 (z:Int)]:Array Value)) (by simp only [List.getElem?_toArray,List.getElem?_cons_succ,List.getElem?_cons_zero] <;> rfl) (by kernel_rfl) (by kernel_rfl) (by kernel_rfl) (fun _ _ _ h=>h) (yieldsIf_loadW (by rfl) _ _ rfl _ rfl (#[.int .i64 (x:Int),.int .i64 (v:Int),.int .i64 (c:Int),.int .i64 (z:Int)]:Array Value) (fun w hSw=>hSw.2)) hHeld ?_
    try simp only [Act.put,List.setIfInBounds_toArray,List.set_cons_zero,List.set_cons_succ]
    refine tk1 2 fun K hK=>?_
    go_simp;refine (mod33_any q2 8 _ HQI.out.2.2.2 (by omega)).mono ?_;rintro e wq ⟨m8,HM8,m80,m81,rfl,rfl⟩;obtain ⟨dd,hdd⟩:∃ d:Int,m8.tdiv 7=d:=⟨_,rfl⟩;have hdi:m8 / 7=dd:=(by rw [← hdd,Int.tdiv_eq_ediv_of_nonneg m80]);have hd0:0≤dd∧dd≤1:=(by omega);have hwd:IntKind.i64.wrap dd=dd:=wrap_in (by omega) (by omega);have HDI:=Lib.hid hdi;clear hdi;go_wp2_with fail
    refine tkK hK (HK10.out _ _ (S10'.out.quiet ud0) (row_updH HP10.out ud0)) fun hHeld=>?_
    clear hK K
    refine tkY 3 hHeld ?_
    refine tk1 4 fun K hK=>?_
    go_simp;refine (decimal11_any dd _ (by unfold i64in;omega)).mono ?_;rintro e wv1 ⟨s1,HS1,hs1,rfl,hq⟩;have ud1:=ud0.trans hq;clear hq;have hl1:=itoa_len dd (by unfold i64in;omega);have t1:¬ 9223372036854775807<s1.size+1:=(by omega);go_wp2_with fail
    refine tkK hK (HK10.out _ _ (S10'.out.quiet ud1) (row_updH HP10.out ud1)) fun hHeld=>?_
    clear hK K
    refine tkY 5 hHeld ?_
    refine tk1 7 fun K hK=>?_
    go_simp;have hvn:=HVN.out;have hxb:=HXB.out;have HI4:=Lib.hid (show i64in (x:Int)∧i64in (v:Int)∧i64in (c:Int)∧i64in (z:Int) by unfold i64in;omega);clear hvn hxb;refine (text09_any (x:Int) v c z HI4.out.1 HI4.out.2.1 HI4.out.2.2.1 HI4.out.2.2.2 _).mono ?_;rintro e wv2 ⟨s2,HS2,hs2,rfl,hq⟩;have ud2:=ud1.trans hq;clear hq;have hl2:=partL_len (x:Int) v c z HI4.out.1 HI4.out.2.1 HI4.out.2.2.1 HI4.out.2.2.2;have t2:¬ 9223372036854775807<s1.size+1+s2.size:=(by omega);have HSZ:Hid (s1.size+1+s2.size≤200):=(by show _≤_;omega);have q2':=S10'.out.quiet ud2;have cx:wv2.cell? ⟨gA,5,none⟩=some (.string ⟨#[111,110,101]⟩):=(by rw [cell_of_row _ gA 5 _ _ _ q2'.a,HAV1.out.1,HAV1.out.2];rfl);have fx:wv2.frozen? ⟨gA,5,none⟩=false:=frozen_of_row _ _ _ _ _ q2'.a;have HP12:=Lib.hid (row_updH HP10.out ud2);have HQ2:=Lib.hid q2';clear hs1 hs2 hl1 hl2 q2';go_wp2_with fail
    refine tkK hK (HK10.out _ _ (S10'.out.quiet ud2) (row_updH HP10.out ud2)) fun hHeld=>?_
    clear hK K
    refine tkY 8 hHeld ?_
    refine tkY 9 hHeld ?_
    refine tk1 10 fun K hK=>?_
    go_simp;obtain ⟨TX,hTX⟩:∃ T:ByteArray,T=s1 ++ ByteArray.mk #[32] ++ s2:=⟨_,rfl⟩;rw [← hTX];have HTX:=Lib.hid hTX;have HS12:=Lib.hid (HQ2.out.setA 5 (.string TX));have HP13:=Lib.hid (row_setCellO (g:=gA) (i:=5) (v:=.string TX) HP12.out (by have:=HGP.out;have:=HGA8.out;omega));obtain ⟨W3,hW3⟩:∃ W:World,W=wv2.setCell ⟨gA,5,none⟩ (.string TX):=⟨_,rfl⟩;rw [← hW3] at HS12 HP13 ⊢;clear hW3
    refine tkK hK (HK10.out _ _ HS12.out HP13.out) fun hHeld=>?_
    clear hK K
    refine wpAnyH_done (by kernel_rfl) ?_ _
    refine NoPanic.normal ?_
    exact hJ m8 dd s1 s2 TX W3 (Lib.hid ⟨HM8.out,HDI.out⟩) (Lib.hid ⟨HS1.out,HS2.out,HSZ.out⟩) HTX HS12
   intro m8 dd s1 s2 TX w12 HMD8 HS12 HTX S8
   obtain ⟨EC,hEC⟩:∃ E,E={ evCs qa (1+nb) TX with k:=5 }:=⟨_,rfl⟩
   obtain ⟨CV,hCV⟩:∃ A:Array Value,A=EC.V.toArray:=⟨_,rfl⟩
   have hset:AV1.setIfInBounds 5 (.string TX)=CV:=by rw [HAV1.out.1,HAV1.out.2,hCV,hEC];simp [EvG.V,evCs]
   rw [hset] at S8
   have HTL:Hid (bs TX=wrongL dd x v c z∧TX.size≤200):=by
    refine ⟨?_,?_⟩
    · rw [HTX.out,bs_append,bs_append,HS12.out.1,HS12.out.2.1,wrongL]
      simp [bs]
    · rw [HTX.out]
      have:=HS12.out.2.2
      have e32:(ByteArray.mk #[32]).size=1:=rfl
      simp only [ByteArray.size_append,e32]
      exact this
   have HEC:=Lib.hid hEC
   have HCV:=Lib.hid hCV
   have HOEC:Hid (EC.ok∧EC.x.size≤1000000):=by
    have h1:=HQN.out
    have h2:(evCs qa (1+nb) TX).ok:=evCs_ok _ (by unfold i64in;omega) (by unfold i64in;omega)
    have h3:=HTL.out.2
    rw [hEC]
    exact ⟨⟨h2.1,by unfold i64in;simp,h2.2.2⟩,by show TX.size≤1000000;omega⟩
   have HAI:Hid ((Tryz.prog.info? 66).map (·.size)=some CV.size):=by rw [hCV];exact EvG.info HOEC.out.1.2.2.2.2.2.1
   clear hset hCV hEC HK10 S9 S10'
   obtain ⟨F1,hF1⟩:∃ E,E=(EC.from id).signed (secN k):=⟨_,rfl⟩
   have HEC1:Hid (∀ W,Upd [] [] w W→Calls Tryz.prog 32 #[.agg CA,.int .i64 (k:Int),.agg CV] W (MkEvR F1 W)):=fun W u=>by
    rw [HCA.out,HCV.out,hF1,HID.out]
    exact event33_any l L K P KM S C KS W (HCR.out.upd u) k HKN.out EC HOEC.out.1 HOEC.out.2
   have hok1:F1.ok:=by rw [hF1];exact EvG.signed_ok (EvG.from_ok HOEC.out.1 HIDI.out) _
   have hsz1:F1.x.size≤1000000:=by rw [hF1];exact HOEC.out.2
   have HVT1:Hid (∀ (EW:Array Value) W,EW=F1.V.toArray→Calls Tryz.prog 31 #[.agg EW] W (MkVt F1 W)):=fun EW W h=>by
    rw [h]
    exact rVote33_any F1 hok1 hsz1 W
   have HF1:Hid (F1=(EC.from id).signed (secN k)∧F1.ok∧F1.x.size≤1000000):=⟨hF1,hok1,hsz1⟩
   clear hF1 hok1 hsz1
   obtain ⟨F2,hF2⟩:∃ E,E=(EB.from id).signed (secN k):=⟨_,rfl⟩
   have HEC2:Hid (∀ W,Upd [] [] w W→Calls Tryz.prog 32 #[.agg CA,.int .i64 (k:Int),.agg BV] W (MkEvR F2 W)):=fun W u=>by
    rw [HCA.out,HBV.out,hF2,HID.out]
    exact event33_any l L K P KM S C KS W (HCR.out.upd u) k HKN.out EB HOEB.out.1 HOEB.out.2
   have hok2:F2.ok:=by rw [hF2];exact EvG.signed_ok (EvG.from_ok HOEB.out.1 HIDI.out) _
   have hsz2:F2.x.size≤1000000:=by rw [hF2];exact HOEB.out.2
   have HVT2:Hid (∀ (EW:Array Value) W,EW=F2.V.toArray→Calls Tryz.prog 31 #[.agg EW] W (MkVt F2 W)):=fun EW W h=>by
    rw [h]
    exact rVote33_any F2 hok2 hsz2 W
   have HF2:Hid (F2=(EB.from id).signed (secN k)∧F2.ok∧F2.x.size≤1000000):=⟨hF2,hok2,hsz2⟩
   clear hF2 hok2 hsz2
   go_wp2_with (first | (refine wpList_load_row rfl 34 _ rfl gC rfl _ CA _ _ S8.out.c Tryz.underlying34 rfl HCI.out ?_) | (refine wpList_load_row rfl 66 _ rfl gA rfl _ CV _ _ S8.out.a Tryz.underlying66 rfl HAI.out ?_))
   have hW1:=S8.out.up
   refine (HEC1.out _ hW1).mono ?_
   rintro e v1 ⟨EW1,HEW1,rfl,hq⟩
   have R1:=Lib.hid (S8.out.quiet hq)
   clear hq hW1
   go_wp2_with fail
   refine (HVT1.out EW1 _ HEW1.out).mono ?_
   rintro e x1 ⟨T1,HT1,rfl,hq⟩
   have P1:=Lib.hid (R1.out.quiet hq)
   obtain ⟨V1,hV1⟩:∃ V:Array Value,V=#[.int .i64 F1.h,.string T1,.int .i64 F1.r,.int .i64 F1.s]:=⟨_,rfl⟩
   rw [← hV1]
   have TH1:Hid (x1.there gV 2 V1.size):=there_of_row P1.out.v (by rw [hV1,HEV0.out];exact (by decide:2+4≤19))
   have HI1:Hid ((Tryz.prog.info? 39).map (·.size)=some V1.size):=by rw [hV1];exact vt4_info _ _ _ _
   have HV1:Hid (V1.all (·.oneCell')=true):=by rw [hV1];exact vt4_one _ _ _ _
   obtain ⟨y1,hy1⟩:∃ W,x1.setCells gV 2 V1.toList=W:=⟨_,rfl⟩
   have hS1:=P1.out.setV 2 V1.toList
   rw [hy1] at hS1
   obtain ⟨X1,hX1⟩:∃ X:EvdG,X={ X0 with aw:=F1.h,aT:=T1,ar:=F1.r,as':=F1.s }:=⟨_,rfl⟩
   obtain ⟨EV1,hEV1⟩:∃ V:Array Value,V=X1.V:=⟨_,rfl⟩
   have hse1:setAll EV0 2 V1.toList=EV1:=by rw [HEV0.out,hEV1,hX1,hV1];rfl
   rw [hse1] at hS1
   have S9:=Lib.hid hS1
   have HY1:=Lib.hid hy1
   have HXE1:=Lib.hid hX1
   have HEV1:=Lib.hid hEV1
   clear hq hS1 hse1 hX1 hEV1 hy1 hV1 R1 P1 HVT1 HEC1
   have HBI:Hid ((Tryz.prog.info? 66).map (·.size)=some BV.size):=by rw [HBV.out];exact EvG.info HOEB.out.1.2.2.2.2.2.1
   go_wp2_with (first | (refine wpList_store_midAs rfl 39 _ _ rfl gV 2 V1 rfl rfl TH1.out HI1.out HV1.out y1 HY1.out ?_) | (refine wpList_load_row rfl 34 _ rfl gC rfl _ CA _ _ S9.out.c Tryz.underlying34 rfl HCI.out ?_) | (refine wpList_load_row rfl 66 _ rfl gB rfl _ BV _ _ S9.out.b Tryz.underlying66 rfl HBI.out ?_))
   have hW2:=S9.out.up
   refine (HEC2.out _ hW2).mono ?_
   rintro e v2 ⟨EW2,HEW2,rfl,hq⟩
   have R2:=Lib.hid (S9.out.quiet hq)
   clear hq hW2
   go_wp2_with fail
   refine (HVT2.out EW2 _ HEW2.out).mono ?_
   rintro e x2 ⟨T2,HT2,rfl,hq⟩
   have P2:=Lib.hid (R2.out.quiet hq)
   obtain ⟨V2,hV2⟩:∃ V:Array Value,V=#[.int .i64 F2.h,.string T2,.int .i64 F2.r,.int .i64 F2.s]:=⟨_,rfl⟩
   rw [← hV2]
   have TH2:Hid (x2.there gV 6 V2.size):=there_of_row P2.out.v (by rw [hV2,HEV1.out];exact (by decide:6+4≤19))
   have HI2:Hid ((Tryz.prog.info? 39).map (·.size)=some V2.size):=by rw [hV2];exact vt4_info _ _ _ _
   have HV2:Hid (V2.all (·.oneCell')=true):=by rw [hV2];exact vt4_one _ _ _ _
   obtain ⟨y2,hy2⟩:∃ W,x2.setCells gV 6 V2.toList=W:=⟨_,rfl⟩
   have hS2:=P2.out.setV 6 V2.toList
   rw [hy2] at hS2
   obtain ⟨X2,hX2⟩:∃ X:EvdG,X={ X1 with bw:=F2.h,bT:=T2,br:=F2.r,bs':=F2.s }:=⟨_,rfl⟩
   obtain ⟨EV2,hEV2⟩:∃ V:Array Value,V=X2.V:=⟨_,rfl⟩
   have hse2:setAll EV1 6 V2.toList=EV2:=by rw [HEV1.out,hEV2,hX2,hV2];rfl
   rw [hse2] at hS2
   have S10:=Lib.hid hS2
   have HY2:=Lib.hid hy2
   have HXE2:=Lib.hid hX2
   have HEV2:=Lib.hid hEV2
   clear hq hS2 hse2 hX2 hEV2 hy2 hV2 R2 P2 HVT2 HEC2
   obtain ⟨z9,hz9⟩:∃ W,y2.setRow gR EV2=W:=⟨_,rfl⟩
   have HZ9:=Lib.hid hz9
   have HRI:Hid ((Tryz.prog.info? 48).map (·.size)=some EV2.size):=by rw [HEV2.out];exact X2.info
   have HRZ:Hid (evd0.V.size=EV2.size):=by show _=_;rw [HEV2.out];rfl
   have HRO:Hid (EV2.all (·.oneCell')=true):=by rw [HEV2.out];exact X2.one
   have HR9:Hid (z9.heap[gR]? =some (.cells EV2 48 (0,0))):=by show _=_;rw [← hz9];exact setRow_heap _ _ _ _ _ _ S10.out.r
   have HU9:Hid (Upd [] [] w z9):=by show Upd _ _ _ _;rw [← hz9];exact S10.out.up.setRowNew (by have:=S10.out.base;omega) _
   clear hz9
   go_wp2_with (first | (refine wpList_store_midAs rfl 39 _ _ rfl gV 6 V2 rfl rfl TH2.out HI2.out HV2.out y2 HY2.out ?_) | (refine wpList_load_row rfl 48 _ rfl gV rfl _ EV2 _ _ S10.out.v Tryz.underlying48 rfl HRI.out ?_) | (refine wpList_store_rowAs rfl 48 _ _ rfl gR EV2 rfl rfl _ _ S10.out.r HRI.out HRZ.out HRO.out z9 HZ9.out ?_))
   refine bodyPost_ret (results_cell_row rfl _ _ gR _ EV2 _ _ rfl HR9.out Tryz.underlying48 rfl HRI.out) rfl ⟨X2,?_,?_,HU9.out⟩
   · refine .inr (.inl ⟨rfl,?_⟩)
     have hAT:=HAT.out
     rw [HN.out] at hAT
     refine ⟨TX,k,y,HKN.out,hAT,HY.out,?_,HTL.out.2,⟨k,F1,F2,T1,T2,HKN.out,hAT,?_,?_,HT1.out,HT2.out,?_⟩⟩
     · rw [HTL.out.1,HX.out,HVCZ.out.1,HVCZ.out.2.1,HVCZ.out.2.2,← HMD8.out.2,HMD8.out.1,HNB.out]
     · rw [HF1.out.1,HEC.out,HID.out,HQA.out,HNB.out]
     · rw [HF2.out.1,HEB.out,HID.out,HQA.out,HNB.out]
     · rw [HXE2.out,HXE1.out,HX0.out,HID.out]
   · rw [HEV2.out]
 · skip
   have HEV0:Hid (EV=X0.V):=HEV
   obtain ⟨EV0,hEV0⟩:∃ V:Array Value,V=EV:=⟨_,rfl⟩
   rw [← hEV0] at HEV0 S8
   have HK8:Hid (∀ W,Upd [] [] w8 W→W.cell? ⟨gQ,0,none⟩=some (.int .i64 q0)∧W.cell? ⟨gQ,1,none⟩=some (.int .i64 q1)∧W.cell? ⟨gQ,2,none⟩=some (.int .i64 q2)):=fun W u=>by
    have q:=(S8.out.quiet u).q
    exact ⟨cell_of_row _ gQ 0 _ _ _ q,cell_of_row _ gQ 1 _ _ _ q,cell_of_row _ gQ 2 _ _ _ q⟩
   have ud0:Upd [] [] w8 w8.drew:=(Upd.refl _ _).drew
   have HGB8:Hid (gB<w8.heap.size):=blk_lt S8.out.b
   go_upto_region 20 with (fail)
   refine @_root_.id ((∀ (lw:Int) (fx ax:Nat) (F A:ByteArray) (gD:Nat) (W:World),Hid (lw=q0 % 100∧(fx:Int)=q1 % 1000∧(ax:Int)=q2 % 1000)→Hid (0≤lw∧lw<100∧(fx:Int)<1000∧(ax:Int)<1000)→Hid (bs F=be fx∧bs A=be ax)→Hid (W.heap[gD]? =some (.cells #[.int .i64 lw,.int .i64 0,.string F,.string A,.string ⟨#[]⟩] 42 (0,0)))→Hid (Upd [] [] w8 W)→Hid (w8.heap.size≤gD)→(?pj32:Int→Nat→Nat→ByteArray→ByteArray→Nat→World→Prop) lw fx ax F A gD W)→_) (fun hJ=>?mj32) ?jj32
   case mj32 =>
    refine wp_region_noPanic ?_
    refine wp_region_held_drew (S:=fun wp=>wp.cell? ⟨gQ,0,none⟩=some (.int .i64 q0)∧wp.cell? ⟨gQ,1,none⟩=some (.int .i64 q1)∧wp.cell? ⟨gQ,2,none⟩=some (.int .i64 q2)) (by kernel_rfl) ?_ (fun hHeld=>?_)
    · exact HK8.out _ ud0
    refine tkY 0 hHeld ?_
    refine tkY 1 hHeld ?_
    refine tkY 3 hHeld ?_
    refine tkY 4 hHeld ?_
    refine tkY 7 hHeld ?_
    refine tkY 8 hHeld ?_
    refine tkA [2,12] ?_
    refine tkC (fun K hK=>?_) ?_
    · go_simp;refine (mod33_any q0 100 _ HQI.out.2.1 (by omega)).mono ?_;rintro e wq ⟨lw,HLW,lw0,lw1,rfl,rfl⟩;go_wp2_with fail
      refine tkK hK (HK8.out _ ud0) fun hHeld=>?_
      clear hK K
      refine tkA [5,12] ?_
      refine tkC (fun K hK=>?_) ?_
      · go_simp;refine (mod33_any q1 1000 _ HQI.out.2.2.1 (by omega)).mono ?_;rintro e wq ⟨f',HFX,f0,f1,rfl,rfl⟩;obtain ⟨fx,rfl⟩:∃ y:Nat,f'=(y:Int):=⟨f'.toNat,(by omega)⟩;go_wp2_with fail
        refine tkK hK (HK8.out _ ud0) fun hHeld=>?_
        clear hK K
        refine tkA [6,12] ?_
        refine tkC (fun K hK=>?_) ?_
        · go_simp;refine (of_int fx _ (by omega)).mono ?_;rintro e wv1 ⟨F,HF,rfl,hq⟩;have ud1:=ud0.trans hq;clear hq;go_wp2_with fail
          refine tkK hK (HK8.out _ ud1) fun hHeld=>?_
          clear hK K
          refine tkA [9,12] ?_
          refine tkC (fun K hK=>?_) ?_
          · go_simp;refine (mod33_any q2 1000 _ HQI.out.2.2.2 (by omega)).mono ?_;rintro e wq ⟨a',HAX,a0,a1,rfl,rfl⟩;obtain ⟨ax,rfl⟩:∃ y:Nat,a'=(y:Int):=⟨a'.toNat,(by omega)⟩;go_wp2_with fail
            refine tkK hK (HK8.out _ ud1) fun hHeld=>?_
            clear hK K
            refine tkA [10,12] ?_
            refine tkC (fun K hK=>?_) ?_
            · go_simp;refine (of_int ax _ (by omega)).mono ?_;rintro e wv2 ⟨A,HA,rfl,hq⟩;have ud2:=ud1.trans hq;clear hq;go_wp2_with fail
              refine tkK hK (HK8.out _ ud2) fun hHeld=>?_
              clear hK K
              refine tkY 11 hHeld ?_
              refine tk1 12 fun K hK=>?_
              go_simp;obtain ⟨gD,wv3,hgx,hwx,fD_3,hq⟩:=alloc_let wv2 (.cells #[.int .i64 0,.int .i64 0,.string ⟨#[]⟩,.string ⟨#[]⟩,.string ⟨#[]⟩] 42);rw [← hgx,← hwx];have bD:w8.heap.size≤gD:=(by have:=ud2.size;omega);have ud3:=ud2.trans hq;clear hgx hwx hq
              refine tkK hK (HK8.out _ ud3) fun hHeld=>?_
              clear hK K
              refine tk1 13 fun K hK=>?_
              rw [if_pos (by rfl)];refine wp_store_row 42 _ _ rfl gD #[.int .i64 lw,.int .i64 0,.string F,.string A,.string ⟨#[]⟩] rfl rfl _ _ fD_3.out (dspInfo _ _ _ _ _) rfl (dspOne _ _ _ _ _) ?_;obtain ⟨wv4,hwx⟩:∃ W':World,W'=wv3.setRow gD #[.int .i64 lw,.int .i64 0,.string F,.string A,.string ⟨#[]⟩]:=⟨_,rfl⟩;have fD_4:Hid (wv4.heap[gD]? =some (.cells #[.int .i64 lw,.int .i64 0,.string F,.string A,.string ⟨#[]⟩] 42 (0,0))):=(by show _=_;rw [hwx];exact setRow_heap _ _ _ _ _ _ fD_3.out);have ud4:=ud3.setRowNew bD #[.int .i64 lw,.int .i64 0,.string F,.string A,.string ⟨#[]⟩];rw [← hwx] at ud4 ⊢;clear hwx
              refine tkK hK (HK8.out _ ud4) fun hHeld=>?_
              clear hK K
              refine wpAnyH_done (by kernel_rfl) ?_ _
              refine NoPanic.normal ?_
              exact hJ lw fx ax F A gD wv4 (Lib.hid ⟨HLW.out,HFX.out,HAX.out⟩) (Lib.hid ⟨lw0,lw1,f1,a1⟩) (Lib.hid ⟨HF.out,HA.out⟩) fD_4 (Lib.hid ud4) (Lib.hid bD)
            refine tkZ fun K hK=>?_
            go_simp;obtain ⟨gD,wv2,hgx,hwx,fD_2,hq⟩:=alloc_let wv1 (.cells #[.int .i64 0,.int .i64 0,.string ⟨#[]⟩,.string ⟨#[]⟩,.string ⟨#[]⟩] 42);rw [← hgx,← hwx];have bD:w8.heap.size≤gD:=(by have:=ud1.size;omega);have ud2:=ud1.trans hq;clear hgx hwx hq
            refine tkK hK (HK8.out _ ud2) fun hHeld=>?_
            clear hK K
            refine tk1 10 fun K hK=>?_
            go_simp;refine (of_int ax _ (by omega)).mono ?_;rintro e wv3 ⟨A,HA,rfl,hq⟩;have ud3:=ud2.trans hq;have fD_3:=Lib.hid (row_updH fD_2.out hq);clear hq;go_wp2_with fail
            refine tkK hK (HK8.out _ ud3) fun hHeld=>?_
            clear hK K
            refine tkY 11 hHeld ?_
            refine tk1 13 fun K hK=>?_
            rw [if_pos (by rfl)];refine wp_store_row 42 _ _ rfl gD #[.int .i64 lw,.int .i64 0,.string F,.string A,.string ⟨#[]⟩] rfl rfl _ _ fD_3.out (dspInfo _ _ _ _ _) rfl (dspOne _ _ _ _ _) ?_;obtain ⟨wv4,hwx⟩:∃ W':World,W'=wv3.setRow gD #[.int .i64 lw,.int .i64 0,.string F,.string A,.string ⟨#[]⟩]:=⟨_,rfl⟩;have fD_4:Hid (wv4.heap[gD]? =some (.cells #[.int .i64 lw,.int .i64 0,.string F,.string A,.string ⟨#[]⟩] 42 (0,0))):=(by show _=_;rw [hwx];exact setRow_heap _ _ _ _ _ _ fD_3.out);have ud4:=ud3.setRowNew bD #[.int .i64 lw,.int .i64 0,.string F,.string A,.string ⟨#[]⟩];rw [← hwx] at ud4 ⊢;clear hwx
            refine tkK hK (HK8.out _ ud4) fun hHeld=>?_
            clear hK K
            refine wpAnyH_done (by kernel_rfl) ?_ _
            refine NoPanic.normal ?_
            exact hJ lw fx ax F A gD wv4 (Lib.hid ⟨HLW.out,HFX.out,HAX.out⟩) (Lib.hid ⟨lw0,lw1,f1,a1⟩) (Lib.hid ⟨HF.out,HA.out⟩) fD_4 (Lib.hid ud4) (Lib.hid bD)
          refine tkZ fun K hK=>?_
          go_simp;obtain ⟨gD,wv2,hgx,hwx,fD_2,hq⟩:=alloc_let wv1 (.cells #[.int .i64 0,.int .i64 0,.string ⟨#[]⟩,.string ⟨#[]⟩,.string ⟨#[]⟩] 42);rw [← hgx,← hwx];have bD:w8.heap.size≤gD:=(by have:=ud1.size;omega);have ud2:=ud1.trans hq;clear hgx hwx hq
          refine tkK hK (HK8.out _ ud2) fun hHeld=>?_
          clear hK K
          refine tk1 9 fun K hK=>?_
          go_simp;refine (mod33_any q2 1000 _ HQI.out.2.2.2 (by omega)).mono ?_;rintro e wq ⟨a',HAX,a0,a1,rfl,rfl⟩;obtain ⟨ax,rfl⟩:∃ y:Nat,a'=(y:Int):=⟨a'.toNat,(by omega)⟩;go_wp2_with fail
          refine tkK hK (HK8.out _ ud2) fun hHeld=>?_
          clear hK K
          refine tk1 10 fun K hK=>?_
          go_simp;refine (of_int ax _ (by omega)).mono ?_;rintro e wv3 ⟨A,HA,rfl,hq⟩;have ud3:=ud2.trans hq;have fD_3:=Lib.hid (row_updH fD_2.out hq);clear hq;go_wp2_with fail
          refine tkK hK (HK8.out _ ud3) fun hHeld=>?_
          clear hK K
          refine tkY 11 hHeld ?_
          refine tk1 13 fun K hK=>?_
          rw [if_pos (by rfl)];refine wp_store_row 42 _ _ rfl gD #[.int .i64 lw,.int .i64 0,.string F,.string A,.string ⟨#[]⟩] rfl rfl _ _ fD_3.out (dspInfo _ _ _ _ _) rfl (dspOne _ _ _ _ _) ?_;obtain ⟨wv4,hwx⟩:∃ W':World,W'=wv3.setRow gD #[.int .i64 lw,.int .i64 0,.string F,.string A,.string ⟨#[]⟩]:=⟨_,rfl⟩;have fD_4:Hid (wv4.heap[gD]? =some (.cells #[.int .i64 lw,.int .i64 0,.string F,.string A,.string ⟨#[]⟩] 42 (0,0))):=(by show _=_;rw [hwx];exact setRow_heap _ _ _ _ _ _ fD_3.out);have ud4:=ud3.setRowNew bD #[.int .i64 lw,.int .i64 0,.string F,.string A,.string ⟨#[]⟩];rw [← hwx] at ud4 ⊢;clear hwx
          refine tkK hK (HK8.out _ ud4) fun hHeld=>?_
          clear hK K
          refine wpAnyH_done (by kernel_rfl) ?_ _
          refine NoPanic.normal ?_
          exact hJ lw fx ax F A gD wv4 (Lib.hid ⟨HLW.out,HFX.out,HAX.out⟩) (Lib.hid ⟨lw0,lw1,f1,a1⟩) (Lib.hid ⟨HF.out,HA.out⟩) fD_4 (Lib.hid ud4) (Lib.hid bD)
        refine tkZ fun K hK=>?_
        go_simp;obtain ⟨gD,wv1,hgx,hwx,fD_1,hq⟩:=alloc_letD w8 (.cells #[.int .i64 0,.int .i64 0,.string ⟨#[]⟩,.string ⟨#[]⟩,.string ⟨#[]⟩] 42);rw [← hgx,← hwx];have bD:w8.heap.size≤gD:=(by omega);have ud1:=hq;clear hgx hwx hq
        refine tkK hK (HK8.out _ ud1) fun hHeld=>?_
        clear hK K
        refine tk1 6 fun K hK=>?_
        go_simp;refine (of_int fx _ (by omega)).mono ?_;rintro e wv2 ⟨F,HF,rfl,hq⟩;have ud2:=ud1.trans hq;have fD_2:=Lib.hid (row_updH fD_1.out hq);clear hq;go_wp2_with fail
        refine tkK hK (HK8.out _ ud2) fun hHeld=>?_
        clear hK K
        refine tk1 9 fun K hK=>?_
        go_simp;refine (mod33_any q2 1000 _ HQI.out.2.2.2 (by omega)).mono ?_;rintro e wq ⟨a',HAX,a0,a1,rfl,rfl⟩;obtain ⟨ax,rfl⟩:∃ y:Nat,a'=(y:Int):=⟨a'.toNat,(by omega)⟩;go_wp2_with fail
        refine tkK hK (HK8.out _ ud2) fun hHeld=>?_
        clear hK K
        refine tk1 10 fun K hK=>?_
        go_simp;refine (of_int ax _ (by omega)).mono ?_;rintro e wv3 ⟨A,HA,rfl,hq⟩;have ud3:=ud2.trans hq;have fD_3:=Lib.hid (row_updH fD_2.out hq);clear hq;go_wp2_with fail
        refine tkK hK (HK8.out _ ud3) fun hHeld=>?_
        clear hK K
        refine tkY 11 hHeld ?_
        refine tk1 13 fun K hK=>?_
        rw [if_pos (by rfl)];refine wp_store_row 42 _ _ rfl gD #[.int .i64 lw,.int .i64 0,.string F,.string A,.string ⟨#[]⟩] rfl rfl _ _ fD_3.out (dspInfo _ _ _ _ _) rfl (dspOne _ _ _ _ _) ?_;obtain ⟨wv4,hwx⟩:∃ W':World,W'=wv3.setRow gD #[.int .i64 lw,.int .i64 0,.string F,.string A,.string ⟨#[]⟩]:=⟨_,rfl⟩;have fD_4:Hid (wv4.heap[gD]? =some (.cells #[.int .i64 lw,.int .i64 0,.string F,.string A,.string ⟨#[]⟩] 42 (0,0))):=(by show _=_;rw [hwx];exact setRow_heap _ _ _ _ _ _ fD_3.out);have ud4:=ud3.setRowNew bD #[.int .i64 lw,.int .i64 0,.string F,.string A,.string ⟨#[]⟩];rw [← hwx] at ud4 ⊢;clear hwx
        refine tkK hK (HK8.out _ ud4) fun hHeld=>?_
        clear hK K
        refine wpAnyH_done (by kernel_rfl) ?_ _
        refine NoPanic.normal ?_
        exact hJ lw fx ax F A gD wv4 (Lib.hid ⟨HLW.out,HFX.out,HAX.out⟩) (Lib.hid ⟨lw0,lw1,f1,a1⟩) (Lib.hid ⟨HF.out,HA.out⟩) fD_4 (Lib.hid ud4) (Lib.hid bD)
      refine tkZ fun K hK=>?_
      go_simp;obtain ⟨gD,wv1,hgx,hwx,fD_1,hq⟩:=alloc_letD w8 (.cells #[.int .i64 0,.int .i64 0,.string ⟨#[]⟩,.string ⟨#[]⟩,.string ⟨#[]⟩] 42);rw [← hgx,← hwx];have bD:w8.heap.size≤gD:=(by omega);have ud1:=hq;clear hgx hwx hq
      refine tkK hK (HK8.out _ ud1) fun hHeld=>?_
      clear hK K
      refine tk1 5 fun K hK=>?_
      go_simp;refine (mod33_any q1 1000 _ HQI.out.2.2.1 (by omega)).mono ?_;rintro e wq ⟨f',HFX,f0,f1,rfl,rfl⟩;obtain ⟨fx,rfl⟩:∃ y:Nat,f'=(y:Int):=⟨f'.toNat,(by omega)⟩;go_wp2_with fail
      refine tkK hK (HK8.out _ ud1) fun hHeld=>?_
      clear hK K
      refine tk1 6 fun K hK=>?_
      go_simp;refine (of_int fx _ (by omega)).mono ?_;rintro e wv2 ⟨F,HF,rfl,hq⟩;have ud2:=ud1.trans hq;have fD_2:=Lib.hid (row_updH fD_1.out hq);clear hq;go_wp2_with fail
      refine tkK hK (HK8.out _ ud2) fun hHeld=>?_
      clear hK K
      refine tk1 9 fun K hK=>?_
      go_simp;refine (mod33_any q2 1000 _ HQI.out.2.2.2 (by omega)).mono ?_;rintro e wq ⟨a',HAX,a0,a1,rfl,rfl⟩;obtain ⟨ax,rfl⟩:∃ y:Nat,a'=(y:Int):=⟨a'.toNat,(by omega)⟩;go_wp2_with fail
      refine tkK hK (HK8.out _ ud2) fun hHeld=>?_
      clear hK K
      refine tk1 10 fun K hK=>?_
      go_simp;refine (of_int ax _ (by omega)).mono ?_;rintro e wv3 ⟨A,HA,rfl,hq⟩;have ud3:=ud2.trans hq;have fD_3:=Lib.hid (row_updH fD_2.out hq);clear hq;go_wp2_with fail
      refine tkK hK (HK8.out _ ud3) fun hHeld=>?_
      clear hK K
      refine tkY 11 hHeld ?_
      refine tk1 13 fun K hK=>?_
      rw [if_pos (by rfl)];refine wp_store_row 42 _ _ rfl gD #[.int .i64 lw,.int .i64 0,.string F,.string A,.string ⟨#[]⟩] rfl rfl _ _ fD_3.out (dspInfo _ _ _ _ _) rfl (dspOne _ _ _ _ _) ?_;obtain ⟨wv4,hwx⟩:∃ W':World,W'=wv3.setRow gD #[.int .i64 lw,.int .i64 0,.string F,.string A,.string ⟨#[]⟩]:=⟨_,rfl⟩;have fD_4:Hid (wv4.heap[gD]? =some (.cells #[.int .i64 lw,.int .i64 0,.string F,.string A,.string ⟨#[]⟩] 42 (0,0))):=(by show _=_;rw [hwx];exact setRow_heap _ _ _ _ _ _ fD_3.out);have ud4:=ud3.setRowNew bD #[.int .i64 lw,.int .i64 0,.string F,.string A,.string ⟨#[]⟩];rw [← hwx] at ud4 ⊢;clear hwx
      refine tkK hK (HK8.out _ ud4) fun hHeld=>?_
      clear hK K
      refine wpAnyH_done (by kernel_rfl) ?_ _
      refine NoPanic.normal ?_
      exact hJ lw fx ax F A gD wv4 (Lib.hid ⟨HLW.out,HFX.out,HAX.out⟩) (Lib.hid ⟨lw0,lw1,f1,a1⟩) (Lib.hid ⟨HF.out,HA.out⟩) fD_4 (Lib.hid ud4) (Lib.hid bD)
    refine tkZ fun K hK=>?_
    go_simp;obtain ⟨gD,wv1,hgx,hwx,fD_1,hq⟩:=alloc_letD w8 (.cells #[.int .i64 0,.int .i64 0,.string ⟨#[]⟩,.string ⟨#[]⟩,.string ⟨#[]⟩] 42);rw [← hgx,← hwx];have bD:w8.heap.size≤gD:=(by omega);have ud1:=hq;clear hgx hwx hq
    refine tkK hK (HK8.out _ ud1) fun hHeld=>?_
    clear hK K
    refine tk1 2 fun K hK=>?_
    go_simp;refine (mod33_any q0 100 _ HQI.out.2.1 (by omega)).mono ?_;rintro e wq ⟨lw,HLW,lw0,lw1,rfl,rfl⟩;go_wp2_with fail
    refine tkK hK (HK8.out _ ud1) fun hHeld=>?_
    clear hK K
    refine tk1 5 fun K hK=>?_
    go_simp;refine (mod33_any q1 1000 _ HQI.out.2.2.1 (by omega)).mono ?_;rintro e wq ⟨f',HFX,f0,f1,rfl,rfl⟩;obtain ⟨fx,rfl⟩:∃ y:Nat,f'=(y:Int):=⟨f'.toNat,(by omega)⟩;go_wp2_with fail
    refine tkK hK (HK8.out _ ud1) fun hHeld=>?_
    clear hK K
    refine tk1 6 fun K hK=>?_
    go_simp;refine (of_int fx _ (by omega)).mono ?_;rintro e wv2 ⟨F,HF,rfl,hq⟩;have ud2:=ud1.trans hq;have fD_2:=Lib.hid (row_updH fD_1.out hq);clear hq;go_wp2_with fail
    refine tkK hK (HK8.out _ ud2) fun hHeld=>?_
    clear hK K
    refine tk1 9 fun K hK=>?_
    go_simp;refine (mod33_any q2 1000 _ HQI.out.2.2.2 (by omega)).mono ?_;rintro e wq ⟨a',HAX,a0,a1,rfl,rfl⟩;obtain ⟨ax,rfl⟩:∃ y:Nat,a'=(y:Int):=⟨a'.toNat,(by omega)⟩;go_wp2_with fail
    refine tkK hK (HK8.out _ ud2) fun hHeld=>?_
    clear hK K
    refine tk1 10 fun K hK=>?_
    go_simp;refine (of_int ax _ (by omega)).mono ?_;rintro e wv3 ⟨A,HA,rfl,hq⟩;have ud3:=ud2.trans hq;have fD_3:=Lib.hid (row_updH fD_2.out hq);clear hq;go_wp2_with fail
    refine tkK hK (HK8.out _ ud3) fun hHeld=>?_
    clear hK K
    refine tkY 11 hHeld ?_
    refine tk1 13 fun K hK=>?_
    rw [if_pos (by rfl)];refine wp_store_row 42 _ _ rfl gD #[.int .i64 lw,.int .i64 0,.string F,.string A,.string ⟨#[]⟩] rfl rfl _ _ fD_3.out (dspInfo _ _ _ _ _) rfl (dspOne _ _ _ _ _) ?_;obtain ⟨wv4,hwx⟩:∃ W':World,W'=wv3.setRow gD #[.int .i64 lw,.int .i64 0,.string F,.string A,.string ⟨#[]⟩]:=⟨_,rfl⟩;have fD_4:Hid (wv4.heap[gD]? =some (.cells #[.int .i64 lw,.int .i64 0,.string F,.string A,.string ⟨#[]⟩] 42 (0,0))):=(by show _=_;rw [hwx];exact setRow_heap _ _ _ _ _ _ fD_3.out);have ud4:=ud3.setRowNew bD #[.int .i64 lw,.int .i64 0,.string F,.string A,.string ⟨#[]⟩];rw [← hwx] at ud4 ⊢;clear hwx
    refine tkK hK (HK8.out _ ud4) fun hHeld=>?_
    clear hK K
    refine wpAnyH_done (by kernel_rfl) ?_ _
    refine NoPanic.normal ?_
    exact hJ lw fx ax F A gD wv4 (Lib.hid ⟨HLW.out,HFX.out,HAX.out⟩) (Lib.hid ⟨lw0,lw1,f1,a1⟩) (Lib.hid ⟨HF.out,HA.out⟩) fD_4 (Lib.hid ud4) (Lib.hid bD)
   intro lw fx ax F A gD w9 HLX HLN HFA fD9 U9 HGD
   skip
   have S9:=Lib.hid (S8.out.quiet U9.out)
   have hgd:gB<gD:=by have:=HGD.out;have:=HGB8.out;omega
   have HBD:=Lib.hid hgd
   have c0:w9.cell? ⟨gD,0,none⟩=some (.int .i64 lw):=by rw [cell_of_row _ gD 0 _ _ _ fD9.out];rfl
   have c1:w9.cell? ⟨gD,1,none⟩=some (.int .i64 0):=by rw [cell_of_row _ gD 1 _ _ _ fD9.out];rfl
   have f1:w9.frozen? ⟨gD,1,none⟩=false:=frozen_of_row _ _ _ _ _ fD9.out
   have hwl:IntKind.i64.wrap (lw+1)=lw+1:=wrap_in (by have:=HLN.out;omega) (by have:=HLN.out;omega)
   obtain ⟨w10,hw10⟩:∃ W,w9.setCell ⟨gD,1,none⟩ (.int .i64 (lw+1))=W:=⟨_,rfl⟩
   have S10:=S9.out.other hgd 1 (.int .i64 (lw+1))
   obtain ⟨DV,hDV⟩:∃ D:Array Value,D=dspG lw (lw+1) F A ⟨#[]⟩:=⟨_,rfl⟩
   have fD10:=heap_setCell_same _ gD 1 _ _ (.int .i64 (lw+1)) fD9.out
   rw [hw10] at S10 fD10
   rw [show (#[.int .i64 lw,.int .i64 0,.string F,.string A,.string ⟨#[]⟩]:Array Value).setIfInBounds 1 (.int .i64 (lw+1))=DV by rw [hDV];rfl] at fD10
   have HS10:=Lib.hid S10
   have HD10:=Lib.hid fD10
   have HDV:=Lib.hid hDV
   have HW10:=Lib.hid hw10
   obtain ⟨sq,hsq⟩:∃ s,s=fx * fx:=⟨_,rfl⟩
   have hsq1:sq≤1000000:=by
    rw [hsq]
    have:=HLN.out
    have:=Nat.mul_le_mul (show fx≤999 by omega) (show fx≤999 by omega)
    omega
   have HSQ:Hid (∀ W,Calls Tryz.prog 26 #[.string F] W (MkNat sq W)):=fun W=>by
    rw [hsq]
    exact square10_small F fx W HFA.out.1 (by have:=HLN.out;omega)
   have HSQE:=Lib.hid hsq
   have HLE:Hid ((be sq).length≤1000000∧(be ax).length≤1000000):=by
    have:=HLN.out
    exact ⟨Nat.le_trans (be_le3 (by omega)) (by omega),Nat.le_trans (be_le3 (by omega)) (by omega)⟩
   have HK10:Hid (∀ W,Upd [] [] w10 W→W.cell? ⟨gD,2,none⟩=some (.string F)∧W.cell? ⟨gD,3,none⟩=some (.string A)):=fun W u=>by
    have h:=row_updH HD10.out u
    refine ⟨?_,?_⟩
    · rw [cell_of_row _ gD 2 _ _ _ h,HDV.out];rfl
    · rw [cell_of_row _ gD 3 _ _ _ h,HDV.out];rfl
   have ud0:Upd [] [] w10 w10.drew:=(Upd.refl _ _).drew
   clear hgd S10 fD10 hDV hw10 hsq hsq1 HK8 fD9
   go_upto_region 22 with (fail)
   rw [HW10.out]
   refine @_root_.id ((∀ (G:ByteArray) (r:Int) (W:World),Hid (CmpE sq ax r)→Hid (-1≤r∧r≤1)→Hid (Upd [] [] w10 W)→(?pj45:ByteArray→Int→World→Prop) G r W)→_) (fun hJ=>?mj45) ?jj45
   case mj45 =>
    refine wp_region_noPanic ?_
    refine wp_region_held_drew (S:=fun wp=>wp.cell? ⟨gD,2,none⟩=some (.string F)∧wp.cell? ⟨gD,3,none⟩=some (.string A)) (by kernel_rfl) ?_ (fun hHeld=>?_)
    · exact HK10.out _ ud0
    refine tkY 0 hHeld ?_
    refine tkY 1 hHeld ?_
    refine tkY 3 hHeld ?_
    refine tkY 4 hHeld ?_
    refine tk1 2 fun K hK=>?_
    go_simp;refine (HSQ.out _).mono ?_;rintro e wv1 ⟨G,HG,rfl,hq⟩;have ud1:=ud0.trans hq;clear hq;go_wp2_with fail
    refine tkK hK (HK10.out _ ud1) fun hHeld=>?_
    clear hK K
    refine tk1 5 fun K hK=>?_
    go_simp;refine (rcmp_eq G A sq ax _ HG.out HFA.out.2 HLE.out.1 HLE.out.2).mono ?_;rintro e wq ⟨r,HR,hr,rfl,rfl⟩;go_wp2_with fail
    refine tkK hK (HK10.out _ ud1) fun hHeld=>?_
    clear hK K
    refine tkY 6 hHeld ?_
    refine wpAnyH_done (by kernel_rfl) ?_ _
    refine NoPanic.normal ?_
    exact hJ G r wv1 HR (Lib.hid hr) (Lib.hid ud1)
   intro G r w11 HR HRB U11
   skip
   have S11:=Lib.hid (HS10.out.quiet U11.out)
   have D11:=Lib.hid (row_updH HD10.out U11.out)
   clear c0 c1 f1 hwl HK10
   by_cases hr0:r=0
   · have hE:sq=ax:=HR.out.1 hr0
     subst hr0
     have HK11:Hid (∀ W,Upd [] [] w11 W→W.cell? ⟨gD,3,none⟩=some (.string A)):=fun W u=>by
      rw [cell_of_row _ gD 3 _ _ _ (row_updH D11.out u),HDV.out];rfl
     have ue0:Upd [] [] w11 w11.drew:=(Upd.refl _ _).drew
     clear ud0
     go_upto_region 23 with (fail)
     refine @_root_.id ((∀ (A2:ByteArray) (W:World),Hid (bs A2=be (ax+1))→Hid (GuSt w W gC gQ gR gV gA gB CA EV0 AV BV q0 q1 q2)→Hid (W.heap[gD]? =some (.cells (DV.setIfInBounds 3 (.string A2)) 42 (0,0)))→(?pj51:ByteArray→World→Prop) A2 W)→_) (fun hJ=>?mj51) ?jj51
     case mj51 =>
      refine wp_region_noPanic ?_
      refine wp_region_held_drew (S:=fun wp=>True) (by kernel_rfl) ?_ (fun hHeld=>?_)
      · exact trivial
      refine tkY 0 hHeld ?_
      refine tkA [1,2] ?_
      refine tkC (fun K hK=>?_) ?_
      · have c3:=HK11.out _ ue0;go_simp;clear c3
        refine tkK hK (trivial) fun hHeld=>?_
        clear hK K
        refine tk1 2 fun K hK=>?_
        go_simp;refine (of_one _).mono ?_;rintro e wv1 ⟨rfl,hq⟩;have ue1:=ue0.trans hq;clear hq;go_wp2_with fail
        refine tkK hK (trivial) fun hHeld=>?_
        clear hK K
        refine tk1 3 fun K hK=>?_
        go_simp;refine (bigAdd_any A ⟨#[1]⟩ ax 1 _ HFA.out.2 (by rw [be_one];rfl) (by have:=HLE.out;omega) (by rw [be_one];decide)).mono ?_;rintro e wv2 ⟨A2,HA2,rfl,hq⟩;have ue2:=ue1.trans hq;clear hq;have D12:=Lib.hid (row_updH D11.out ue2);have S12:=Lib.hid (S11.out.quiet ue2);have c3:wv2.cell? ⟨gD,3,none⟩=some (.string A):=(by rw [cell_of_row _ gD 3 _ _ _ D12.out,HDV.out];rfl);have f3:wv2.frozen? ⟨gD,3,none⟩=false:=frozen_of_row _ _ _ _ _ D12.out;go_wp2_with fail
        refine tkK hK (trivial) fun hHeld=>?_
        clear hK K
        refine tkY 4 hHeld ?_
        refine tk1 5 fun K hK=>?_
        go_simp;have S13:=Lib.hid (S12.out.other HBD.out 3 (.string A2));have D13:=Lib.hid (heap_setCell_same _ gD 3 _ _ (.string A2) D12.out);obtain ⟨W3,hW3⟩:∃ W:World,W=wv2.setCell ⟨gD,3,none⟩ (.string A2):=⟨_,rfl⟩;rw [← hW3] at S13 D13 ⊢;clear hW3
        refine tkK hK (trivial) fun hHeld=>?_
        clear hK K
        refine wpAnyH_done (by kernel_rfl) ?_ _
        refine NoPanic.normal ?_
        exact hJ A2 W3 HA2 S13 D13
      refine tkZ fun K hK=>?_
      go_simp;refine (of_one _).mono ?_;rintro e wv1 ⟨rfl,hq⟩;have ue1:=ue0.trans hq;clear hq;go_wp2_with fail
      refine tkK hK (trivial) fun hHeld=>?_
      clear hK K
      refine tk1 1 fun K hK=>?_
      have c3:=HK11.out _ ue1;go_simp;clear c3
      refine tkK hK (trivial) fun hHeld=>?_
      clear hK K
      refine tk1 3 fun K hK=>?_
      go_simp;refine (bigAdd_any A ⟨#[1]⟩ ax 1 _ HFA.out.2 (by rw [be_one];rfl) (by have:=HLE.out;omega) (by rw [be_one];decide)).mono ?_;rintro e wv2 ⟨A2,HA2,rfl,hq⟩;have ue2:=ue1.trans hq;clear hq;have D12:=Lib.hid (row_updH D11.out ue2);have S12:=Lib.hid (S11.out.quiet ue2);have c3:wv2.cell? ⟨gD,3,none⟩=some (.string A):=(by rw [cell_of_row _ gD 3 _ _ _ D12.out,HDV.out];rfl);have f3:wv2.frozen? ⟨gD,3,none⟩=false:=frozen_of_row _ _ _ _ _ D12.out;go_wp2_with fail
      refine tkK hK (trivial) fun hHeld=>?_
      clear hK K
      refine tkY 4 hHeld ?_
      refine tk1 5 fun K hK=>?_
      go_simp;have S13:=Lib.hid (S12.out.other HBD.out 3 (.string A2));have D13:=Lib.hid (heap_setCell_same _ gD 3 _ _ (.string A2) D12.out);obtain ⟨W3,hW3⟩:∃ W:World,W=wv2.setCell ⟨gD,3,none⟩ (.string A2):=⟨_,rfl⟩;rw [← hW3] at S13 D13 ⊢;clear hW3
      refine tkK hK (trivial) fun hHeld=>?_
      clear hK K
      refine wpAnyH_done (by kernel_rfl) ?_ _
      refine NoPanic.normal ?_
      exact hJ A2 W3 HA2 S13 D13
     intro A2 w13 HA2 S13 D13
     skip
     obtain ⟨DW,hDW⟩:∃ D:Array Value,D=dspG lw (lw+1) F A2 ⟨#[]⟩:=⟨_,rfl⟩
     have D13':Hid (w13.heap[gD]? =some (.cells DW 42 (0,0))):=by
      have h:=D13.out
      rw [show DV.setIfInBounds 3 (.string A2)=DW by rw [HDV.out,hDW];rfl] at h
      exact h
     have HDW:=Lib.hid hDW
     obtain ⟨ay,hay⟩:∃ y,y=ax+1:=⟨_,rfl⟩
     have HA2':Hid (bs A2=be ay):=by show _=_;rw [hay];exact HA2.out
     have HAY:Hid (ay=(if fx * fx=ax then ax+1 else ax)):=by show _=_;rw [← HSQE.out,if_pos hE,hay]
     have HAYN:Hid (ay<2000):=by show _<_;have:=HLN.out;omega
     clear hDW hay D13 HA2 ue0 HK11
     have hdv:(Tryz.prog.info? 42).map (·.size)=some DW.size:=by rw [HDW.out];exact dspInfo _ _ _ _ _
     have HDI:=Lib.hid hdv
     have HDO:Hid (DW.all (·.oneCell')=true):=by rw [HDW.out];exact dspOne _ _ _ _ _
     have TH1:Hid (w13.there gV 10 DW.size):=there_of_row S13.out.v (by rw [HDW.out,HEV0.out];exact (by decide:10+5≤19))
     obtain ⟨y1,hy1⟩:∃ W,w13.setCells gV 10 DW.toList=W:=⟨_,rfl⟩
     have hS1:=S13.out.setV 10 DW.toList
     rw [hy1] at hS1
     obtain ⟨X1,hX1⟩:∃ X:EvdG,X={ X0 with low:=lw,high:=lw+1,F:=F,A:=A2 }:=⟨_,rfl⟩
     obtain ⟨EV1,hEV1⟩:∃ V:Array Value,V=X1.V:=⟨_,rfl⟩
     have hse:setAll EV0 10 DW.toList=EV1:=by rw [HEV0.out,hEV1,hX1,HDW.out,HX0.out];rfl
     rw [hse] at hS1
     have T1:=Lib.hid hS1
     have D14:Hid (y1.heap[gD]? =some (.cells DW 42 (0,0))):=by show _=_;rw [← hy1];exact row_setCellsQ D13'.out (by have:=HBD.out;have:=S13.out.base;omega)
     have HY1:=Lib.hid hy1
     have HX1:=Lib.hid hX1
     have HEV1:=Lib.hid hEV1
     obtain ⟨gs,sc',hS',hgs,hs0⟩:=HCR.out.sec HKN.out
     obtain ⟨sx,hsx⟩:∃ x,x=secN k:=⟨_,rfl⟩
     have hsq9:sx<1152921504606845789:=by rw [hsx];exact secN_lt k
     rw [← hsx] at hs0
     have HSX:=Lib.hid (And.intro hsx hsq9)
     rw [← HN.out] at hS'
     have HK14:Hid (∀ W VX,GuSt w W gC gQ gR gV gA gB CA VX AV BV q0 q1 q2→VX[1]? =some (.int .i64 id)→W.heap[gD]? =some (.cells DW 42 (0,0))→W.cell? ⟨gV,1,none⟩=some (.int .i64 id)∧W.cell? ⟨gC,6,none⟩=some (.slice (some ⟨gs,0,none⟩) n sc')∧W.cell? ⟨gs,k,none⟩=some (.int .i64 (sx:Int))∧(Instr.loadAt 42 (.pointer (some ⟨gD,0,none⟩))).run Tryz.prog W=.ok (.agg DW) W):=fun W VX h hv hd=>by
      refine ⟨?_,?_,(h.up.cell (p:=⟨gs,k,none⟩) hgs (by simp)).trans hs0,dsp_load HDW.out hd⟩
      · rw [cell_of_row _ gV 1 _ _ _ h.v];exact hv
      · rw [cell_of_row _ gC 6 _ _ _ h.c,HCA.out,← hS'];rfl
     have HE1:Hid (EV1[1]? =some (.int .i64 id)):=by rw [hEV1,hX1,HX0.out];rfl
     have HCL:Hid (∀ W,Calls Tryz.prog 29 #[.agg DW] W (MkS (claimGL lw (lw+1) fx ay) W)):=fun W=>by
      have:=HLN.out
      have:=HAYN.out
      rw [HDW.out]
      exact claim33_any lw (lw+1) F A2 ⟨#[]⟩ fx ay (by unfold i64in;omega) (by unfold i64in;omega) HFA.out.1 HA2'.out (by omega) (by omega) W
     have HCLN:Hid ((claimGL lw (lw+1) fx ay).length≤100):=by
      have:=HLN.out
      have:=HAYN.out
      exact claimGL_len (by unfold i64in;omega) (by unfold i64in;omega) (by omega) (by omega)
     have i0:(0:Int)≤(k:Int):=by omega
     have i1:(k:Int)<(n:Int):=by have:=HKN.out;have:=HN.out;omega
     have uf0:Upd [] [] y1 y1.drew:=(Upd.refl _ _).drew
     clear hS1 hse hX1 hEV1 hy1 hS' hgs hs0 hsx hsq9 hdv
     go_upto_region 25 with (first | (refine wpList_load_row rfl 42 _ rfl gD rfl _ DW _ _ D13'.out Tryz.underlying42 rfl HDI.out ?_) | (refine wpList_store_midAs rfl 42 _ _ rfl gV 10 DW rfl rfl TH1.out HDI.out HDO.out y1 HY1.out ?_))
     refine @_root_.id ((∀ (T:ByteArray) (r s:Nat) (V3:Array Value) (W:World),Hid (bs T=claimGL lw (lw+1) fx ay∧r=gP (nonceN (expN (sx:Int)) (bs T))∧s=sWith (expN (sx:Int)) (nonceN (expN (sx:Int)) (bs T)) (bs T))→Hid (V3=#[.int .i64 id,.string T,.int .i64 (r:Int),.int .i64 (s:Int)])→Hid (GuSt w W gC gQ gR gV gA gB CA (setAll EV1 2 V3.toList) AV BV q0 q1 q2)→(?pj55:ByteArray→Nat→Nat→Array Value→World→Prop) T r s V3 W)→_) (fun hJ=>?mj55) ?jj55
     case mj55 =>
      refine wp_region_noPanic ?_
      refine wp_region_held_drew (S:=fun wp=>wp.cell? ⟨gV,1,none⟩=some (.int .i64 id)∧wp.cell? ⟨gC,6,none⟩=some (.slice (some ⟨gs,0,none⟩) n sc')∧wp.cell? ⟨gs,k,none⟩=some (.int .i64 (sx:Int))∧(Instr.loadAt 42 (.pointer (some ⟨gD,0,none⟩))).run Tryz.prog wp=.ok (.agg DW) wp) (by kernel_rfl) ?_ (fun hHeld=>?_)
      · exact HK14.out _ _ (T1.out.quiet uf0) HE1.out (row_updH D14.out uf0)
      refine tkY 0 hHeld ?_
      refine tkY 1 hHeld ?_
      refine tkY 2 hHeld ?_
      refine tkY 3 hHeld ?_
      refine tkY 4 hHeld ?_
      refine tkY 5 hHeld ?_
      refine tkY 6 hHeld ?_
      refine tkL 7 hHeld DW (fun w hSw=>hSw.2.2.2) ?_
      refine tk1 8 fun K hK=>?_
      go_simp;refine (HCL.out _).mono ?_;rintro e wv1 ⟨T,HT,hT,rfl,hq⟩;have uf1:=uf0.trans hq;clear hq;have hTs:T.size≤140737488355000:=(by have:=HCLN.out;omega);go_wp2_with fail
      refine tkK hK (HK14.out _ _ (T1.out.quiet uf1) HE1.out (row_updH D14.out uf1)) fun hHeld=>?_
      clear hK K
      refine tk1 9 fun K hK=>?_
      go_simp;refine (rvote5_any id (sx:Int) T _ (by have:=HSX.out.2;omega) hTs).mono ?_;rintro e wv2 ⟨r,s,HRS,hr,hs,rfl,hq⟩;have uf2:=uf1.trans hq;clear hq;obtain ⟨V3,hV3⟩:∃ V:Array Value,V=#[.int .i64 id,.string T,.int .i64 (r:Int),.int .i64 (s:Int)]:=⟨_,rfl⟩;rw [← hV3];have T2:=Lib.hid (T1.out.quiet uf2);have HV3:=Lib.hid hV3;clear hV3;go_wp2_with fail
      refine tkK hK (HK14.out _ _ (T1.out.quiet uf2) HE1.out (row_updH D14.out uf2)) fun hHeld=>?_
      clear hK K
      refine tkY 10 hHeld ?_
      refine tk1 11 fun K hK=>?_
      rw [if_pos (by rfl)];refine wp_store_mid 39 _ _ rfl gV 2 V3 rfl rfl (there_of_row T2.out.v (by rw [HEV1.out,HV3.out];exact (by decide:2+4≤19))) (by rw [HV3.out];exact vt4_info _ _ _ _) (by rw [HV3.out];exact vt4_one _ _ _ _) ?_;have T3':=T2.out.setV 2 V3.toList;have D15':=row_setCellsQ (g:=gV) (i:=2) (l:=V3.toList) (row_updH D14.out uf2) (by have:=HBD.out;have:=T2.out.base;omega);obtain ⟨W3,hW3⟩:∃ W:World,W=wv2.setCells gV 2 V3.toList:=⟨_,rfl⟩;rw [← hW3] at T3' D15' ⊢;clear hW3;have T3:=Lib.hid T3';have D15:=Lib.hid D15';clear T3' D15'
      refine tkK hK (HK14.out _ _ T3.out (by rw [HEV1.out,HV3.out,HX1.out,HX0.out];rfl) D15.out) fun hHeld=>?_
      clear hK K
      refine wpAnyH_done (by kernel_rfl) ?_ _
      refine NoPanic.normal ?_
      exact hJ T r s V3 W3 (Lib.hid ⟨HT.out,HRS.out.1,HRS.out.2⟩) HV3 T3
     intro T r s V3 w15 HTRS HV3 T3
     skip
     obtain ⟨X2,hX2⟩:∃ X:EvdG,X={ X1 with aw:=id,aT:=T,ar:=(r:Int),as':=(s:Int) }:=⟨_,rfl⟩
     obtain ⟨EV2,hEV2⟩:∃ V:Array Value,V=X2.V:=⟨_,rfl⟩
     have hT4:=T3.out
     rw [show setAll EV1 2 V3.toList=EV2 by rw [HEV1.out,hEV2,hX2,HV3.out];rfl] at hT4
     have T4:=Lib.hid hT4
     have HX2:=Lib.hid hX2
     have HEV2:=Lib.hid hEV2
     obtain ⟨z9,hz9⟩:∃ W,w15.setRow gR EV2=W:=⟨_,rfl⟩
     have HZ9:=Lib.hid hz9
     have HRI:Hid ((Tryz.prog.info? 48).map (·.size)=some EV2.size):=by rw [HEV2.out];exact X2.info
     have HRZ:Hid (evd0.V.size=EV2.size):=by show _=_;rw [HEV2.out];rfl
     have HRO:Hid (EV2.all (·.oneCell')=true):=by rw [HEV2.out];exact X2.one
     have HR9:Hid (z9.heap[gR]? =some (.cells EV2 48 (0,0))):=by show _=_;rw [← hz9];exact setRow_heap _ _ _ _ _ _ T4.out.r
     have HU9:Hid (Upd [] [] w z9):=by show Upd _ _ _ _;rw [← hz9];exact T4.out.up.setRowNew (by have:=T4.out.base;omega) _
     clear hz9 hX2 hEV2 hT4 T3
     go_wp2_with (first | (refine wpList_load_row rfl 48 _ rfl gV rfl _ EV2 _ _ T4.out.v Tryz.underlying48 rfl HRI.out ?_) | (refine wpList_store_rowAs rfl 48 _ _ rfl gR EV2 rfl rfl _ _ T4.out.r HRI.out HRZ.out HRO.out z9 HZ9.out ?_))
     refine bodyPost_ret (results_cell_row rfl _ _ gR _ EV2 _ _ rfl HR9.out Tryz.underlying48 rfl HRI.out) rfl ⟨X2,?_,?_,HU9.out⟩
     · refine .inr (.inr (.inl ⟨rfl,?_⟩))
       have hAT:=HAT.out
       have hx:=HSX.out.1
       have e9:expN (sx:Int)=sx:=expN_of HSX.out.2
       have h1:=HTRS.out.2.1
       have h2:=HTRS.out.2.2
       rw [HN.out] at hAT
       rw [e9,hx] at h1 h2
       refine ⟨k,fx,ax,ay,r,s,F,A2,T,HKN.out,hAT,HLX.out.2.1,HLX.out.2.2,HAY.out,HFA.out.1,HA2'.out,?_,h1,h2,?_⟩
       · rw [HTRS.out.1,HLX.out.1]
       · rw [HX2.out,HX1.out,HX0.out,HID.out,HLX.out.1]
     · rw [HEV2.out]
   · have hE:¬ sq=ax:=fun h=>hr0 (HR.out.2 h)
     have hz0:(r == 0)=false:=by simpa using hr0
     obtain ⟨DW,hDW⟩:∃ D:Array Value,D=DV:=⟨_,rfl⟩
     have HDW:Hid (DW=dspG lw (lw+1) F A ⟨#[]⟩):=by show _=_;rw [hDW,HDV.out]
     have D11':Hid (w11.heap[gD]? =some (.cells DW 42 (0,0))):=by rw [hDW];exact D11
     obtain ⟨ay,hay⟩:∃ y,y=ax:=⟨_,rfl⟩
     have HA2':Hid (bs A=be ay):=by show _=_;rw [hay];exact HFA.out.2
     have HAY:Hid (ay=(if fx * fx=ax then ax+1 else ax)):=by show _=_;rw [← HSQE.out,if_neg hE,hay]
     have HAYN:Hid (ay<2000):=by show _<_;have:=HLN.out;omega
     clear hDW hay D11 ud0
     have hdv:(Tryz.prog.info? 42).map (·.size)=some DW.size:=by rw [HDW.out];exact dspInfo _ _ _ _ _
     have HDI:=Lib.hid hdv
     have HDO:Hid (DW.all (·.oneCell')=true):=by rw [HDW.out];exact dspOne _ _ _ _ _
     have TH1:Hid (w11.there gV 10 DW.size):=there_of_row S11.out.v (by rw [HDW.out,HEV0.out];exact (by decide:10+5≤19))
     obtain ⟨y1,hy1⟩:∃ W,w11.setCells gV 10 DW.toList=W:=⟨_,rfl⟩
     have hS1:=S11.out.setV 10 DW.toList
     rw [hy1] at hS1
     obtain ⟨X1,hX1⟩:∃ X:EvdG,X={ X0 with low:=lw,high:=lw+1,F:=F,A:=A }:=⟨_,rfl⟩
     obtain ⟨EV1,hEV1⟩:∃ V:Array Value,V=X1.V:=⟨_,rfl⟩
     have hse:setAll EV0 10 DW.toList=EV1:=by rw [HEV0.out,hEV1,hX1,HDW.out,HX0.out];rfl
     rw [hse] at hS1
     have T1:=Lib.hid hS1
     have D14:Hid (y1.heap[gD]? =some (.cells DW 42 (0,0))):=by show _=_;rw [← hy1];exact row_setCellsQ D11'.out (by have:=HBD.out;have:=S11.out.base;omega)
     have HY1:=Lib.hid hy1
     have HX1:=Lib.hid hX1
     have HEV1:=Lib.hid hEV1
     obtain ⟨gs,sc',hS',hgs,hs0⟩:=HCR.out.sec HKN.out
     obtain ⟨sx,hsx⟩:∃ x,x=secN k:=⟨_,rfl⟩
     have hsq9:sx<1152921504606845789:=by rw [hsx];exact secN_lt k
     rw [← hsx] at hs0
     have HSX:=Lib.hid (And.intro hsx hsq9)
     rw [← HN.out] at hS'
     have HK14:Hid (∀ W VX,GuSt w W gC gQ gR gV gA gB CA VX AV BV q0 q1 q2→VX[1]? =some (.int .i64 id)→W.heap[gD]? =some (.cells DW 42 (0,0))→W.cell? ⟨gV,1,none⟩=some (.int .i64 id)∧W.cell? ⟨gC,6,none⟩=some (.slice (some ⟨gs,0,none⟩) n sc')∧W.cell? ⟨gs,k,none⟩=some (.int .i64 (sx:Int))∧(Instr.loadAt 42 (.pointer (some ⟨gD,0,none⟩))).run Tryz.prog W=.ok (.agg DW) W):=fun W VX h hv hd=>by
      refine ⟨?_,?_,(h.up.cell (p:=⟨gs,k,none⟩) hgs (by simp)).trans hs0,dsp_load HDW.out hd⟩
      · rw [cell_of_row _ gV 1 _ _ _ h.v];exact hv
      · rw [cell_of_row _ gC 6 _ _ _ h.c,HCA.out,← hS'];rfl
     have HE1:Hid (EV1[1]? =some (.int .i64 id)):=by rw [hEV1,hX1,HX0.out];rfl
     have HCL:Hid (∀ W,Calls Tryz.prog 29 #[.agg DW] W (MkS (claimGL lw (lw+1) fx ay) W)):=fun W=>by
      have:=HLN.out
      have:=HAYN.out
      rw [HDW.out]
      exact claim33_any lw (lw+1) F A ⟨#[]⟩ fx ay (by unfold i64in;omega) (by unfold i64in;omega) HFA.out.1 HA2'.out (by omega) (by omega) W
     have HCLN:Hid ((claimGL lw (lw+1) fx ay).length≤100):=by
      have:=HLN.out
      have:=HAYN.out
      exact claimGL_len (by unfold i64in;omega) (by unfold i64in;omega) (by omega) (by omega)
     have i0:(0:Int)≤(k:Int):=by omega
     have i1:(k:Int)<(n:Int):=by have:=HKN.out;have:=HN.out;omega
     have uf0:Upd [] [] y1 y1.drew:=(Upd.refl _ _).drew
     clear hS1 hse hX1 hEV1 hy1 hS' hgs hs0 hsx hsq9 hdv
     go_upto_region 25 with (first | (refine wpList_load_row rfl 42 _ rfl gD rfl _ DW _ _ D11'.out Tryz.underlying42 rfl HDI.out ?_) | (refine wpList_store_midAs rfl 42 _ _ rfl gV 10 DW rfl rfl TH1.out HDI.out HDO.out y1 HY1.out ?_))
     refine @_root_.id ((∀ (T:ByteArray) (r s:Nat) (V3:Array Value) (W:World),Hid (bs T=claimGL lw (lw+1) fx ay∧r=gP (nonceN (expN (sx:Int)) (bs T))∧s=sWith (expN (sx:Int)) (nonceN (expN (sx:Int)) (bs T)) (bs T))→Hid (V3=#[.int .i64 id,.string T,.int .i64 (r:Int),.int .i64 (s:Int)])→Hid (GuSt w W gC gQ gR gV gA gB CA (setAll EV1 2 V3.toList) AV BV q0 q1 q2)→(?pj64:ByteArray→Nat→Nat→Array Value→World→Prop) T r s V3 W)→_) (fun hJ=>?mj64) ?jj64
     case mj64 =>
      refine wp_region_noPanic ?_
      refine wp_region_held_drew (S:=fun wp=>wp.cell? ⟨gV,1,none⟩=some (.int .i64 id)∧wp.cell? ⟨gC,6,none⟩=some (.slice (some ⟨gs,0,none⟩) n sc')∧wp.cell? ⟨gs,k,none⟩=some (.int .i64 (sx:Int))∧(Instr.loadAt 42 (.pointer (some ⟨gD,0,none⟩))).run Tryz.prog wp=.ok (.agg DW) wp) (by kernel_rfl) ?_ (fun hHeld=>?_)
      · exact HK14.out _ _ (T1.out.quiet uf0) HE1.out (row_updH D14.out uf0)
      refine tkY 0 hHeld ?_
      refine tkY 1 hHeld ?_
      refine tkY 2 hHeld ?_
      refine tkY 3 hHeld ?_
      refine tkY 4 hHeld ?_
      refine tkY 5 hHeld ?_
      refine tkY 6 hHeld ?_
      refine tkL 7 hHeld DW (fun w hSw=>hSw.2.2.2) ?_
      refine tk1 8 fun K hK=>?_
      go_simp;refine (HCL.out _).mono ?_;rintro e wv1 ⟨T,HT,hT,rfl,hq⟩;have uf1:=uf0.trans hq;clear hq;have hTs:T.size≤140737488355000:=(by have:=HCLN.out;omega);go_wp2_with fail
      refine tkK hK (HK14.out _ _ (T1.out.quiet uf1) HE1.out (row_updH D14.out uf1)) fun hHeld=>?_
      clear hK K
      refine tk1 9 fun K hK=>?_
      go_simp;refine (rvote5_any id (sx:Int) T _ (by have:=HSX.out.2;omega) hTs).mono ?_;rintro e wv2 ⟨r,s,HRS,hr,hs,rfl,hq⟩;have uf2:=uf1.trans hq;clear hq;obtain ⟨V3,hV3⟩:∃ V:Array Value,V=#[.int .i64 id,.string T,.int .i64 (r:Int),.int .i64 (s:Int)]:=⟨_,rfl⟩;rw [← hV3];have T2:=Lib.hid (T1.out.quiet uf2);have HV3:=Lib.hid hV3;clear hV3;go_wp2_with fail
      refine tkK hK (HK14.out _ _ (T1.out.quiet uf2) HE1.out (row_updH D14.out uf2)) fun hHeld=>?_
      clear hK K
      refine tkY 10 hHeld ?_
      refine tk1 11 fun K hK=>?_
      rw [if_pos (by rfl)];refine wp_store_mid 39 _ _ rfl gV 2 V3 rfl rfl (there_of_row T2.out.v (by rw [HEV1.out,HV3.out];exact (by decide:2+4≤19))) (by rw [HV3.out];exact vt4_info _ _ _ _) (by rw [HV3.out];exact vt4_one _ _ _ _) ?_;have T3':=T2.out.setV 2 V3.toList;have D15':=row_setCellsQ (g:=gV) (i:=2) (l:=V3.toList) (row_updH D14.out uf2) (by have:=HBD.out;have:=T2.out.base;omega);obtain ⟨W3,hW3⟩:∃ W:World,W=wv2.setCells gV 2 V3.toList:=⟨_,rfl⟩;rw [← hW3] at T3' D15' ⊢;clear hW3;have T3:=Lib.hid T3';have D15:=Lib.hid D15';clear T3' D15'
      refine tkK hK (HK14.out _ _ T3.out (by rw [HEV1.out,HV3.out,HX1.out,HX0.out];rfl) D15.out) fun hHeld=>?_
      clear hK K
      refine wpAnyH_done (by kernel_rfl) ?_ _
      refine NoPanic.normal ?_
      exact hJ T r s V3 W3 (Lib.hid ⟨HT.out,HRS.out.1,HRS.out.2⟩) HV3 T3
     intro T r s V3 w15 HTRS HV3 T3
     skip
     obtain ⟨X2,hX2⟩:∃ X:EvdG,X={ X1 with aw:=id,aT:=T,ar:=(r:Int),as':=(s:Int) }:=⟨_,rfl⟩
     obtain ⟨EV2,hEV2⟩:∃ V:Array Value,V=X2.V:=⟨_,rfl⟩
     have hT4:=T3.out
     rw [show setAll EV1 2 V3.toList=EV2 by rw [HEV1.out,hEV2,hX2,HV3.out];rfl] at hT4
     have T4:=Lib.hid hT4
     have HX2:=Lib.hid hX2
     have HEV2:=Lib.hid hEV2
     obtain ⟨z9,hz9⟩:∃ W,w15.setRow gR EV2=W:=⟨_,rfl⟩
     have HZ9:=Lib.hid hz9
     have HRI:Hid ((Tryz.prog.info? 48).map (·.size)=some EV2.size):=by rw [HEV2.out];exact X2.info
     have HRZ:Hid (evd0.V.size=EV2.size):=by show _=_;rw [HEV2.out];rfl
     have HRO:Hid (EV2.all (·.oneCell')=true):=by rw [HEV2.out];exact X2.one
     have HR9:Hid (z9.heap[gR]? =some (.cells EV2 48 (0,0))):=by show _=_;rw [← hz9];exact setRow_heap _ _ _ _ _ _ T4.out.r
     have HU9:Hid (Upd [] [] w z9):=by show Upd _ _ _ _;rw [← hz9];exact T4.out.up.setRowNew (by have:=T4.out.base;omega) _
     clear hz9 hX2 hEV2 hT4 T3
     go_wp2_with (first | (refine wpList_load_row rfl 48 _ rfl gV rfl _ EV2 _ _ T4.out.v Tryz.underlying48 rfl HRI.out ?_) | (refine wpList_store_rowAs rfl 48 _ _ rfl gR EV2 rfl rfl _ _ T4.out.r HRI.out HRZ.out HRO.out z9 HZ9.out ?_))
     refine bodyPost_ret (results_cell_row rfl _ _ gR _ EV2 _ _ rfl HR9.out Tryz.underlying48 rfl HRI.out) rfl ⟨X2,?_,?_,HU9.out⟩
     · refine .inr (.inr (.inl ⟨rfl,?_⟩))
       have hAT:=HAT.out
       have hx:=HSX.out.1
       have e9:expN (sx:Int)=sx:=expN_of HSX.out.2
       have h1:=HTRS.out.2.1
       have h2:=HTRS.out.2.2
       rw [HN.out] at hAT
       rw [e9,hx] at h1 h2
       refine ⟨k,fx,ax,ay,r,s,F,A,T,HKN.out,hAT,HLX.out.2.1,HLX.out.2.2,HAY.out,HFA.out.1,HA2'.out,?_,h1,h2,?_⟩
       · rw [HTRS.out.1,HLX.out.1]
       · rw [HX2.out,HX1.out,HX0.out,HID.out,HLX.out.1]
     · rw [HEV2.out]
 · skip
   have HOEA:Hid (EA.ok∧EA.x.size≤1000000):=by rw [HEA.out];have:=HQN.out;exact ⟨evCs_ok _ (by unfold i64in;omega) (by unfold i64in;omega),(by decide:(ByteArray.mk #[111,110,101]).size≤1000000)⟩
   have HOEB:Hid (EB.ok∧EB.x.size≤1000000):=by rw [HEB.out];have:=HQN.out;exact ⟨evCs_ok _ (by unfold i64in;omega) (by unfold i64in;omega),(by decide:(ByteArray.mk #[116,119,111]).size≤1000000)⟩
   have HEV0:Hid (EV=X0.V):=HEV
   obtain ⟨EV0,hEV0⟩:∃ V:Array Value,V=EV:=⟨_,rfl⟩
   rw [← hEV0] at HEV0 S8
   have HK8:Hid (∀ W BX,GuSt w W gC gQ gR gV gA gB CA EV0 AV BX q0 q1 q2→W.cell? ⟨gA,0,none⟩=some (.int .i64 qa)∧W.cell? ⟨gQ,2,none⟩=some (.int .i64 q2)):=fun W BX h=>by
    refine ⟨?_,cell_of_row _ gQ 2 _ _ _ h.q⟩
    rw [cell_of_row _ gA 0 _ _ _ h.a,HAV.out,HEA.out]
    rfl
   have cB:w8.cell? ⟨gB,0,none⟩=some (.int .i64 qa):=by rw [cell_of_row _ gB 0 _ _ _ S8.out.b,HBV.out,HEB.out];rfl
   have fB:w8.frozen? ⟨gB,0,none⟩=false:=frozen_of_row _ _ _ _ _ S8.out.b
   have ud0:Upd [] [] w8 w8.drew:=(Upd.refl _ _).drew
   go_upto_region 28 with (fail)
   refine @_root_.id ((∀ (m3:Int) (W:World),Hid (m3=q2 % 3)→Hid (0≤m3∧m3<3)→Hid (GuSt w W gC gQ gR gV gA gB CA EV0 AV (BV.setIfInBounds 0 (.int .i64 (qa+m3))) q0 q1 q2)→(?pj73:Int→World→Prop) m3 W)→_) (fun hJ=>?mj73) ?jj73
   case mj73 =>
    refine wp_region_noPanic ?_
    refine wp_region_held_drew (S:=fun wp=>wp.cell? ⟨gA,0,none⟩=some (.int .i64 qa)∧wp.cell? ⟨gQ,2,none⟩=some (.int .i64 q2)) (by kernel_rfl) ?_ (fun hHeld=>?_)
    · exact HK8.out _ _ (S8.out.quiet ud0)
    refine tkY 0 hHeld ?_
    refine tkY 1 hHeld ?_
    refine tkY 2 hHeld ?_
    refine tkY 3 hHeld ?_
    refine tk1 4 fun K hK=>?_
    go_simp;refine (mod33_any q2 3 _ HQI.out.2.2.2 (by omega)).mono ?_;rintro e wq ⟨m3,HM3,m30,m31,rfl,rfl⟩;have hw3:IntKind.i64.wrap (qa+m3)=qa+m3:=wrap_in (by have:=HQN.out;omega) (by have:=HQN.out;omega);go_wp2_with fail
    refine tkK hK (HK8.out _ _ (S8.out.quiet ud0)) fun hHeld=>?_
    clear hK K
    refine tkY 5 hHeld ?_
    refine tkY 6 hHeld ?_
    refine tk1 7 fun K hK=>?_
    go_simp;have HS9:=Lib.hid ((S8.out.setB 0 (.int .i64 (qa+m3))).quiet ((Upd.refl _ _).drew));obtain ⟨W9,hW9⟩:∃ W:World,W=(w8.setCell ⟨gB,0,none⟩ (.int .i64 (qa+m3))).drew:=⟨_,rfl⟩;rw [← hW9] at HS9 ⊢;clear hW9
    refine tkK hK (HK8.out _ _ HS9.out) fun hHeld=>?_
    clear hK K
    refine wpAnyH_done (by kernel_rfl) ?_ _
    refine NoPanic.normal ?_
    exact hJ m3 W9 HM3 (Lib.hid ⟨m30,m31⟩) HS9
   intro m3 w9 HM3 HM3N S8
   obtain ⟨EC,hEC⟩:∃ E,E=evCs (qa+m3) (1+nb) ⟨#[116,119,111]⟩:=⟨_,rfl⟩
   obtain ⟨CV,hCV⟩:∃ A:Array Value,A=EC.V.toArray:=⟨_,rfl⟩
   have hset:BV.setIfInBounds 0 (.int .i64 (qa+m3))=CV:=by rw [HBV.out,HEB.out,hCV,hEC];simp [EvG.V,evCs]
   rw [hset] at S8
   have HEC:=Lib.hid hEC
   have HCV:=Lib.hid hCV
   have HOEC:Hid (EC.ok∧EC.x.size≤1000000):=by rw [hEC];have:=HQN.out;have:=HM3N.out;exact ⟨evCs_ok _ (by unfold i64in;omega) (by unfold i64in;omega),(by decide:(ByteArray.mk #[116,119,111]).size≤1000000)⟩
   clear hset hCV hEC HK8 cB fB
   obtain ⟨F1,hF1⟩:∃ E,E=(EA.from id).signed (secN k):=⟨_,rfl⟩
   have HEC1:Hid (∀ W,Upd [] [] w W→Calls Tryz.prog 32 #[.agg CA,.int .i64 (k:Int),.agg AV] W (MkEvR F1 W)):=fun W u=>by
    rw [HCA.out,HAV.out,hF1,HID.out]
    exact event33_any l L K P KM S C KS W (HCR.out.upd u) k HKN.out EA HOEA.out.1 HOEA.out.2
   have hok1:F1.ok:=by rw [hF1];exact EvG.signed_ok (EvG.from_ok HOEA.out.1 HIDI.out) _
   have hsz1:F1.x.size≤1000000:=by rw [hF1];exact HOEA.out.2
   have HVT1:Hid (∀ (EW:Array Value) W,EW=F1.V.toArray→Calls Tryz.prog 31 #[.agg EW] W (MkVt F1 W)):=fun EW W h=>by
    rw [h]
    exact rVote33_any F1 hok1 hsz1 W
   have HF1:Hid (F1=(EA.from id).signed (secN k)∧F1.ok∧F1.x.size≤1000000):=⟨hF1,hok1,hsz1⟩
   clear hF1 hok1 hsz1
   obtain ⟨F2,hF2⟩:∃ E,E=(EC.from id).signed (secN k):=⟨_,rfl⟩
   have HEC2:Hid (∀ W,Upd [] [] w W→Calls Tryz.prog 32 #[.agg CA,.int .i64 (k:Int),.agg CV] W (MkEvR F2 W)):=fun W u=>by
    rw [HCA.out,HCV.out,hF2,HID.out]
    exact event33_any l L K P KM S C KS W (HCR.out.upd u) k HKN.out EC HOEC.out.1 HOEC.out.2
   have hok2:F2.ok:=by rw [hF2];exact EvG.signed_ok (EvG.from_ok HOEC.out.1 HIDI.out) _
   have hsz2:F2.x.size≤1000000:=by rw [hF2];exact HOEC.out.2
   have HVT2:Hid (∀ (EW:Array Value) W,EW=F2.V.toArray→Calls Tryz.prog 31 #[.agg EW] W (MkVt F2 W)):=fun EW W h=>by
    rw [h]
    exact rVote33_any F2 hok2 hsz2 W
   have HF2:Hid (F2=(EC.from id).signed (secN k)∧F2.ok∧F2.x.size≤1000000):=⟨hF2,hok2,hsz2⟩
   clear hF2 hok2 hsz2
   go_wp2_with (first | (refine wpList_load_row rfl 34 _ rfl gC rfl _ CA _ _ S8.out.c Tryz.underlying34 rfl HCI.out ?_) | (refine wpList_load_row rfl 66 _ rfl gA rfl _ AV _ _ S8.out.a Tryz.underlying66 rfl HAI.out ?_))
   have hW1:=S8.out.up
   refine (HEC1.out _ hW1).mono ?_
   rintro e v1 ⟨EW1,HEW1,rfl,hq⟩
   have R1:=Lib.hid (S8.out.quiet hq)
   clear hq hW1
   go_wp2_with fail
   refine (HVT1.out EW1 _ HEW1.out).mono ?_
   rintro e x1 ⟨T1,HT1,rfl,hq⟩
   have P1:=Lib.hid (R1.out.quiet hq)
   obtain ⟨V1,hV1⟩:∃ V:Array Value,V=#[.int .i64 F1.h,.string T1,.int .i64 F1.r,.int .i64 F1.s]:=⟨_,rfl⟩
   rw [← hV1]
   have TH1:Hid (x1.there gV 2 V1.size):=there_of_row P1.out.v (by rw [hV1,HEV0.out];exact (by decide:2+4≤19))
   have HI1:Hid ((Tryz.prog.info? 39).map (·.size)=some V1.size):=by rw [hV1];exact vt4_info _ _ _ _
   have HV1:Hid (V1.all (·.oneCell')=true):=by rw [hV1];exact vt4_one _ _ _ _
   obtain ⟨y1,hy1⟩:∃ W,x1.setCells gV 2 V1.toList=W:=⟨_,rfl⟩
   have hS1:=P1.out.setV 2 V1.toList
   rw [hy1] at hS1
   obtain ⟨X1,hX1⟩:∃ X:EvdG,X={ X0 with aw:=F1.h,aT:=T1,ar:=F1.r,as':=F1.s }:=⟨_,rfl⟩
   obtain ⟨EV1,hEV1⟩:∃ V:Array Value,V=X1.V:=⟨_,rfl⟩
   have hse1:setAll EV0 2 V1.toList=EV1:=by rw [HEV0.out,hEV1,hX1,hV1];rfl
   rw [hse1] at hS1
   have S9:=Lib.hid hS1
   have HY1:=Lib.hid hy1
   have HXE1:=Lib.hid hX1
   have HEV1:=Lib.hid hEV1
   clear hq hS1 hse1 hX1 hEV1 hy1 hV1 R1 P1 HVT1 HEC1
   have HBI:Hid ((Tryz.prog.info? 66).map (·.size)=some CV.size):=by rw [HCV.out];exact EvG.info HOEC.out.1.2.2.2.2.2.1
   go_wp2_with (first | (refine wpList_store_midAs rfl 39 _ _ rfl gV 2 V1 rfl rfl TH1.out HI1.out HV1.out y1 HY1.out ?_) | (refine wpList_load_row rfl 34 _ rfl gC rfl _ CA _ _ S9.out.c Tryz.underlying34 rfl HCI.out ?_) | (refine wpList_load_row rfl 66 _ rfl gB rfl _ CV _ _ S9.out.b Tryz.underlying66 rfl HBI.out ?_))
   have hW2:=S9.out.up
   refine (HEC2.out _ hW2).mono ?_
   rintro e v2 ⟨EW2,HEW2,rfl,hq⟩
   have R2:=Lib.hid (S9.out.quiet hq)
   clear hq hW2
   go_wp2_with fail
   refine (HVT2.out EW2 _ HEW2.out).mono ?_
   rintro e x2 ⟨T2,HT2,rfl,hq⟩
   have P2:=Lib.hid (R2.out.quiet hq)
   obtain ⟨V2,hV2⟩:∃ V:Array Value,V=#[.int .i64 F2.h,.string T2,.int .i64 F2.r,.int .i64 F2.s]:=⟨_,rfl⟩
   rw [← hV2]
   have TH2:Hid (x2.there gV 6 V2.size):=there_of_row P2.out.v (by rw [hV2,HEV1.out];exact (by decide:6+4≤19))
   have HI2:Hid ((Tryz.prog.info? 39).map (·.size)=some V2.size):=by rw [hV2];exact vt4_info _ _ _ _
   have HV2:Hid (V2.all (·.oneCell')=true):=by rw [hV2];exact vt4_one _ _ _ _
   obtain ⟨y2,hy2⟩:∃ W,x2.setCells gV 6 V2.toList=W:=⟨_,rfl⟩
   have hS2:=P2.out.setV 6 V2.toList
   rw [hy2] at hS2
   obtain ⟨X2,hX2⟩:∃ X:EvdG,X={ X1 with bw:=F2.h,bT:=T2,br:=F2.r,bs':=F2.s }:=⟨_,rfl⟩
   obtain ⟨EV2,hEV2⟩:∃ V:Array Value,V=X2.V:=⟨_,rfl⟩
   have hse2:setAll EV1 6 V2.toList=EV2:=by rw [HEV1.out,hEV2,hX2,hV2];rfl
   rw [hse2] at hS2
   have S10:=Lib.hid hS2
   have HY2:=Lib.hid hy2
   have HXE2:=Lib.hid hX2
   have HEV2:=Lib.hid hEV2
   clear hq hS2 hse2 hX2 hEV2 hy2 hV2 R2 P2 HVT2 HEC2
   obtain ⟨z9,hz9⟩:∃ W,y2.setRow gR EV2=W:=⟨_,rfl⟩
   have HZ9:=Lib.hid hz9
   have HRI:Hid ((Tryz.prog.info? 48).map (·.size)=some EV2.size):=by rw [HEV2.out];exact X2.info
   have HRZ:Hid (evd0.V.size=EV2.size):=by show _=_;rw [HEV2.out];rfl
   have HRO:Hid (EV2.all (·.oneCell')=true):=by rw [HEV2.out];exact X2.one
   have HR9:Hid (z9.heap[gR]? =some (.cells EV2 48 (0,0))):=by show _=_;rw [← hz9];exact setRow_heap _ _ _ _ _ _ S10.out.r
   have HU9:Hid (Upd [] [] w z9):=by show Upd _ _ _ _;rw [← hz9];exact S10.out.up.setRowNew (by have:=S10.out.base;omega) _
   clear hz9
   go_wp2_with (first | (refine wpList_store_midAs rfl 39 _ _ rfl gV 6 V2 rfl rfl TH2.out HI2.out HV2.out y2 HY2.out ?_) | (refine wpList_load_row rfl 48 _ rfl gV rfl _ EV2 _ _ S10.out.v Tryz.underlying48 rfl HRI.out ?_) | (refine wpList_store_rowAs rfl 48 _ _ rfl gR EV2 rfl rfl _ _ S10.out.r HRI.out HRZ.out HRO.out z9 HZ9.out ?_))
   refine bodyPost_ret (results_cell_row rfl _ _ gR _ EV2 _ _ rfl HR9.out Tryz.underlying48 rfl HRI.out) rfl ⟨X2,?_,?_,HU9.out⟩
   · refine .inr (.inr (.inr (.inl ⟨rfl,?_⟩)))
     have hAT:=HAT.out
     rw [HN.out] at hAT
     refine ⟨k,F1,F2,T1,T2,HKN.out,hAT,?_,?_,HT1.out,HT2.out,?_⟩
     · rw [HF1.out.1,HEA.out,HID.out,HQA.out,HNB.out]
     · rw [HF2.out.1,HEC.out,HID.out,HQA.out,HNB.out,HM3.out]
     · rw [HXE2.out,HXE1.out,HX0.out,HID.out]
   · rw [HEV2.out]
 · skip
   obtain ⟨QV,hQV⟩:∃ Q:Array Value,Q=#[.int .i64 q0,.int .i64 q1,.int .i64 q2]:=⟨_,rfl⟩
   have HQR:Hid (w8.heap[gQ]? =some (.cells QV 50 (0,0))):=by show _=_;rw [hQV];exact S8.out.q
   have HQF:Hid ((Tryz.prog.info? 50).map (·.size)=some QV.size):=by rw [hQV];exact q3Info _ _ _
   have HCT:Hid (Calls Tryz.prog 30 #[.agg CA,.agg EV,.int .i64 (k:Int),.agg QV] w8 (fun e w'=>∃ X:EvdG,Hid (GuCheat l k q0 q1 q2 X)∧e=.returned (.agg X.V)∧Upd [] [] w8 w')):=by
    rw [HCA.out,HEV.out,hQV]
    exact cheat_any l L K P KM S C KS w8 (HCR.out.upd S8.out.up) k HKN.out X0 (by rw [HX0.out,HID.out]) q0 q1 q2 HQI.out.2.1 HQI.out.2.2.1 HQI.out.2.2.2
   clear hQV
   go_wp2_with (first | (refine wpList_load_row rfl 34 _ rfl gC rfl _ CA _ _ S8.out.c Tryz.underlying34 rfl HCI.out ?_) | (refine wpList_load_row rfl 48 _ rfl gV rfl _ EV _ _ S8.out.v Tryz.underlying48 rfl HVI.out ?_) | (refine wpList_load_row rfl 50 _ rfl gQ rfl _ QV _ _ HQR.out Tryz.underlying50 rfl HQF.out ?_))
   refine HCT.out.mono ?_
   rintro e w9 ⟨X2,HX2,rfl,hq⟩
   have T4:=Lib.hid (S8.out.quiet hq)
   obtain ⟨EV2,hEV2⟩:∃ V:Array Value,V=X2.V:=⟨_,rfl⟩
   rw [← hEV2]
   have HEV2:=Lib.hid hEV2
   obtain ⟨z9,hz9⟩:∃ W,w9.setRow gR EV2=W:=⟨_,rfl⟩
   have HZ9:=Lib.hid hz9
   have HRI:Hid ((Tryz.prog.info? 48).map (·.size)=some EV2.size):=by rw [hEV2];exact X2.info
   have HRZ:Hid (evd0.V.size=EV2.size):=by show _=_;rw [hEV2];rfl
   have HRO:Hid (EV2.all (·.oneCell')=true):=by rw [hEV2];exact X2.one
   have HR9:Hid (z9.heap[gR]? =some (.cells EV2 48 (0,0))):=by show _=_;rw [← hz9];exact setRow_heap _ _ _ _ _ _ T4.out.r
   have HU9:Hid (Upd [] [] w z9):=by show Upd _ _ _ _;rw [← hz9];exact T4.out.up.setRowNew (by have:=T4.out.base;omega) _
   clear hz9 hEV2 hq
   go_wp2_with (first | (refine wpList_store_rowAs rfl 48 _ _ rfl gR EV2 rfl rfl _ _ T4.out.r HRI.out HRZ.out HRO.out z9 HZ9.out ?_))
   refine bodyPost_ret (results_cell_row rfl _ _ gR _ EV2 _ _ rfl HR9.out Tryz.underlying48 rfl HRI.out) rfl ⟨X2,?_,?_,HU9.out⟩
   · refine .inr (.inr (.inr (.inr ⟨rfl,?_⟩)))
     have hAT:=HAT.out
     rw [HN.out] at hAT
     exact ⟨k,HKN.out,hAT,HX2.out⟩
   · rw [HEV2.out]
end Go.Proofs.YtmjlkkbbnkanpaaGreatDoor
