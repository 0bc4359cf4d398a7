/- sortesref30.Sign, sortesref33.Vote, sortesref05.Vote at any event and what follows. -/
import Derived.Test.YtheobkejohifaaaGreatDoorHAU
import Derived.Test.YtheobkejohifaaaGreatDoorHAV
import Derived.Test.YtheobkejohifaaaGreatDoorHAJ
import Derived.Test.YtheobkejohifaaaGreatDoorHAA
import Derived.Test.YtheobkejohifaaaGreatDoorHAS
import Derived.Test.YtheobkejohifaaaGreatDoorHAN
import Derived.Test.YtheobkejohifaaaGreatDoorHAK
import Derived.Test.YtheobkejohifaaaGreatDoorHAD
namespace Go.Proofs.YtheobkejohifaaaGreatDoor
open Go.RowKit
set_option maxRecDepth 100000
def EvG.signed (e:EvG) (x:Nat):EvG:={ e with r:=(gP (nonceN x e.text):Int),s:=(sWith x (nonceN x e.text) e.text:Int) }
def pjl (E:EvG) (w:World) (e:Ending) (w':World):Prop:=∃ EW:Array Value,Hid (EW=E.V.toArray)∧e=.returned (.agg EW)∧Upd [] [] w w'
set_option maxHeartbeats 4000000 in
theorem pli (ev:EvG) (he:ev.ok) (hxs:ev.x.size≤1000000) (x:Nat) (hx:x<1152921504606845789) (w:World):Calls Tryz.prog 26 #[.int .i64 (x:Int),.agg ev.V.toArray] w (pjl (ev.signed x) w):=by
 obtain ⟨EV,hEV⟩:∃ EV,EV=ev.V.toArray:=⟨_,rfl⟩
 have hp:ev.p.length=32:=he.2.2.2.2.2.1
 have HEV:=Lib.hid hEV
 have HEVI:Hid ((Tryz.prog.info? 53).map (·.size)=some EV.size):=by rw [hEV];exact EvG.info hp
 have HVL:Hid (EV.size=40):=by rw [hEV];exact EvG.V_len hp
 have HTX:=Lib.hid (fun W=>plg ev he (by omega) W)
 have hTL:ev.text.length≤1000250:=Nat.le_trans (EvG.text_len he (by omega)) (by omega)
 obtain ⟨g,hg⟩:∃ g,w.heap.size=g:=⟨_,rfl⟩
 obtain ⟨w0,hw0⟩:∃ w0,w.alloc (.cells EV 53)=w0:=⟨_,rfl⟩
 have r0:w0.heap[g]? =some (.cells EV 53 (0,0)):=by rw [← hg,← hw0];exact heap_alloc_new _ _
 have u0:Upd [] [] w w0:=by rw [← hw0];exact (Upd.refl _ _).alloc _
 obtain ⟨gR,hgR⟩:∃ g,w0.heap.size=g:=⟨_,rfl⟩
 obtain ⟨w1,hw1⟩:∃ W,w0.alloc (.cells #[.int .i64 0,.int .i64 0,.int .i64 0,.int .i64 0,.int .i64 0,.string ⟨#[]⟩,.int .u8 0,.int .u8 0,.int .u8 0,.int .u8 0,.int .u8 0,.int .u8 0,.int .u8 0,.int .u8 0,.int .u8 0,.int .u8 0,.int .u8 0,.int .u8 0,.int .u8 0,.int .u8 0,.int .u8 0,.int .u8 0,.int .u8 0,.int .u8 0,.int .u8 0,.int .u8 0,.int .u8 0,.int .u8 0,.int .u8 0,.int .u8 0,.int .u8 0,.int .u8 0,.int .u8 0,.int .u8 0,.int .u8 0,.int .u8 0,.int .u8 0,.int .u8 0,.int .i64 0,.int .i64 0] 53)=W:=⟨_,rfl⟩
 have r1:w1.heap[gR]? =some (.cells evZ.toArray 53 (0,0)):=by rw [← hgR,← hw1,paz];exact heap_alloc_new _ _
 have u1:Upd [] [] w0 w1:=by rw [← hw1];exact (Upd.refl _ _).alloc _
 have hne:g<gR:=by rw [← hgR];exact pag r0
 have R0:=Lib.hid (paa r0 u1)
 have R1:=Lib.hid r1
 have U1:=Lib.hid (u0.trans u1)
 have HG:=Lib.hid hg
 have HP:=Lib.hid hp
 have HTL:=Lib.hid hTL
 rw [← hEV] at HTX ⊢
 clear hEV r0 u0 r1 u1 he hxs hp hTL
 go_enter Tryz.func26,Tryz.ntmps26
 go_wp2_with (first | (refine wpList_load_row rfl 53 _ rfl g rfl _ EV _ _ R0.out Tryz.underlying53 rfl HEVI.out ?_))
 refine (HTX.out w1).mono ?_
 rintro e w2 ⟨T,HT,hT,rfl,hq⟩
 have R2:=Lib.hid (paa R0.out hq)
 have Q2:=Lib.hid (paa R1.out hq)
 have U2:=Lib.hid (U1.out.trans hq)
 have hts:T.size≤140737488355000:=by have:=HTL.out;omega
 clear hq R0 R1 U1 hT
 go_wp2_with fail
 refine (pmx (x:Int) T w2 ⟨by omega,by omega⟩ hts).mono ?_
 rintro e w3 ⟨a,b,HA,HB,ha,hb,rfl,hq⟩
 rw [HT.out,show expN (x:Int)=x from pgD hx] at HA HB
 have R3:=Lib.hid (paa R2.out hq)
 have Q3:=Lib.hid (paa Q2.out hq)
 have U3:=Lib.hid (U2.out.trans hq)
 obtain ⟨SG,hSG⟩:∃ SG:Array Value,SG=#[.int .i64 (a:Int),.int .i64 (b:Int)]:=⟨_,rfl⟩
 rw [← hSG]
 have HSI:Hid ((Tryz.prog.info? 46).map (·.size)=some SG.size):=by rw [hSG];exact pea _ _
 have HSO:Hid (SG.all (·.oneCell')=true):=by rw [hSG];exact pnl _ _
 have TH:Hid (w3.there g 38 SG.size):=pbq R3.out (by rw [HVL.out,hSG];exact (by decide:38+2≤40))
 obtain ⟨w4,hw4⟩:∃ X,w3.setCells g 38 SG.toList=X:=⟨_,rfl⟩
 have E4:=pbd g _ SG.toList 38 w3 _ R3.out
 rw [hw4] at E4
 obtain ⟨EW,hEW⟩:∃ EW,EW=(ev.signed x).V.toArray:=⟨_,rfl⟩
 have hfin:pdN EV 38 SG.toList=EW:=by
  have hA:([.int .i64 ev.q,.int .i64 ev.k,.int .i64 ev.h,.int .i64 ev.t,.int .i64 ev.n,.string ev.x] ++ byteVals ev.p:List Value).length=38:=by simp [byteVals,HP.out]
  have h:=pd9 [.int .i64 (a:Int),.int .i64 (b:Int)] ([.int .i64 ev.q,.int .i64 ev.k,.int .i64 ev.h,.int .i64 ev.t,.int .i64 ev.n,.string ev.x] ++ byteVals ev.p) [.int .i64 ev.r,.int .i64 ev.s] [] rfl
  rw [hA] at h
  rw [HEV.out,hSG,hEW]
  have e1:ev.V=([.int .i64 ev.q,.int .i64 ev.k,.int .i64 ev.h,.int .i64 ev.t,.int .i64 ev.n,.string ev.x] ++ byteVals ev.p) ++ ([.int .i64 ev.r,.int .i64 ev.s] ++ []):=by simp [EvG.V]
  have e2:(ev.signed x).V=([.int .i64 ev.q,.int .i64 ev.k,.int .i64 ev.h,.int .i64 ev.t,.int .i64 ev.n,.string ev.x] ++ byteVals ev.p) ++ ([.int .i64 (a:Int),.int .i64 (b:Int)] ++ []):=by
   rw [HA.out,HB.out]
   simp [EvG.V,EvG.signed]
  rw [e1,e2]
  exact h
 rw [hfin] at E4
 have HEWI:Hid ((Tryz.prog.info? 53).map (·.size)=some EW.size):=by rw [hEW];exact EvG.info HP.out
 have HEWO:Hid (EW.all (·.oneCell')=true):=by rw [hEW];exact EvG.one _
 have HEWZ:Hid (evZ.toArray.size=EW.size):=by show _=_;rw [hEW,pce];exact (EvG.V_len (e:=ev.signed x) HP.out).symm
 have hgw:w.heap.size≤g:=Nat.le_of_eq HG.out
 have UX:=Upd.setCellsNew hgw SG.toList 38 _ U3.out
 rw [hw4] at UX
 have uS:Upd [g] [g] w3 w4:=by
  have h:=(Upd.setCellsIn (g:=g) (S:=[g]) (S':=[g]) (by simp) SG.toList 38 _ (Upd.refl [g] w3))
  rw [hw4] at h
  exact h
 have Q4:Hid (w4.heap[gR]? =some (.cells evZ.toArray 53 (0,0))):=(uS.block gR (pag Q3.out) (by simp;omega)).trans Q3.out
 obtain ⟨w5,hw5⟩:∃ X,w4.setRow gR EW=X:=⟨_,rfl⟩
 have R5:(w4.setRow gR EW).heap[gR]? =some (.cells EW 53 (0,0)):=setRow_heap _ _ _ _ _ _ Q4.out
 rw [hw5] at R5
 have U5:=UX.setRowNew (show w.heap.size≤gR by omega) EW
 rw [hw5] at U5
 have HW4:=Lib.hid hw4
 have HW5:=Lib.hid hw5
 have E4H:=Lib.hid E4
 have HR5:=Lib.hid R5
 have HU5:=Lib.hid U5
 have HEWE:=Lib.hid hEW
 clear hq R2 Q2 U2 R3 Q3 hSG hw4 E4 hEW hfin UX uS hw5 R5 U5 hts
 go_wp2_with (first | (refine wpList_store_midAs rfl 46 _ _ rfl g 38 SG rfl rfl TH.out HSI.out HSO.out w4 HW4.out ?_) | (refine wpList_load_row rfl 53 _ rfl g rfl _ EW _ _ E4H.out Tryz.underlying53 rfl HEWI.out ?_) | (refine wpList_store_rowAs rfl 53 _ _ rfl gR EW rfl rfl _ _ Q4.out HEWI.out HEWZ.out HEWO.out w5 HW5.out ?_))
 exact bodyPost_ret (results_cell_row rfl _ _ gR _ EW _ _ rfl HR5.out Tryz.underlying53 rfl HEWI.out) rfl ⟨EW,HEWE,rfl,HU5.out⟩
def MkVt (E:EvG) (w:World) (e:Ending) (w':World):Prop:=∃ T:ByteArray,Hid (bs T=E.text)∧e=.returned (.agg #[.int .i64 E.h,.string T,.int .i64 E.r,.int .i64 E.s])∧Upd [] [] w w'
def vt4 (h:Int) (T:ByteArray) (r s:Int):Array Value:=#[.int .i64 h,.string T,.int .i64 r,.int .i64 s]
theorem poJ (h:Int) (T:ByteArray) (r s:Int):(Tryz.prog.info? 48).map (·.size)=some (vt4 h T r s).size:=by
 show _=some 4
 kernel_rfl
theorem pp7 (h:Int) (T:ByteArray) (r s:Int):(vt4 h T r s).all (·.oneCell')=true:=by simp [vt4,Value.oneCell']
set_option maxHeartbeats 4000000 in
theorem pdO (ev:EvG) (he:ev.ok) (hxs:ev.x.size≤1000000) (w:World) (htab:Tabs w):Calls Tryz.prog 8 #[.agg ev.V.toArray] w (MkVt ev w):=by
 obtain ⟨EV,hEV⟩:∃ EV,EV=ev.V.toArray:=⟨_,rfl⟩
 have hp:ev.p.length=32:=he.2.2.2.2.2.1
 have HTX:=Lib.hid (fun W (u:Upd [] [] w W)=>pni ev he (by omega) W (htab.upd u))
 obtain ⟨h,hh⟩:∃ h,h=ev.h:=⟨_,rfl⟩
 obtain ⟨r,hr⟩:∃ r,r=ev.r:=⟨_,rfl⟩
 obtain ⟨s,hs⟩:∃ s,s=ev.s:=⟨_,rfl⟩
 obtain ⟨g,hg⟩:∃ g,w.heap.size=g:=⟨_,rfl⟩
 obtain ⟨w0,hw0⟩:∃ w0,w.alloc (.cells EV 53)=w0:=⟨_,rfl⟩
 have r0:EgA w0 g ev:=by rw [← hg,← hw0,hEV];exact heap_alloc_new _ _
 have u0:Upd [] [] w w0:=by rw [← hw0];exact (Upd.refl _ _).alloc _
 obtain ⟨gR,hgR⟩:∃ g,w0.heap.size=g:=⟨_,rfl⟩
 obtain ⟨w1,hw1⟩:∃ W,w0.alloc (.cells #[.int .i64 0,.string ⟨#[]⟩,.int .i64 0,.int .i64 0] 48)=W:=⟨_,rfl⟩
 have r1:w1.heap[gR]? =some (.cells #[.int .i64 0,.string ⟨#[]⟩,.int .i64 0,.int .i64 0] 48 (0,0)):=by rw [← hgR,← hw1];exact heap_alloc_new _ _
 have u1:Upd [] [] w0 w1:=by rw [← hw1];exact (Upd.refl _ _).alloc _
 have HU:=Lib.hid (u0.trans u1)
 have e0:=r0.upd u1
 have HK:Hid (∀ W,EgA W g ev→W.cell? ⟨g,2,none⟩=some (.int .i64 h)∧(Instr.loadAt 53 (.pointer (some ⟨g,0,none⟩))).run Tryz.prog W=.ok (.agg EV) W∧(Instr.loadAt 46 (.pointer (some ⟨g,38,none⟩))).run Tryz.prog W=.ok (.agg #[.int .i64 r,.int .i64 s]) W):=by
  intro W e
  refine ⟨by rw [hh];exact e.cell 2,EvG.load hp hEV e,?_⟩
  rw [hr,hs]
  refine run_loadAt_mid W g 38 46 [.int .i64 ev.r,.int .i64 ev.s] _ (fun j v hv=>?_) Tryz.underlying46 rfl (pea ev.r ev.s)
  match j,hv with
  | 0,hv=>simp at hv;subst hv;exact (e.cell 38).trans (EvG.at38 hp)
  | 1,hv=>simp at hv;subst hv;exact (e.cell 39).trans (EvG.at39 hp)
 have R1:=Lib.hid r1
 have E1:=Lib.hid e0
 have hne:g≠gR:=by have:=pag r0;omega
 have HG:Hid (w.heap.size≤gR):=by have:=pag r0;show _≤_;omega
 have ud0:Upd [] [] w1 w1.drew:=(Upd.refl _ _).drew
 have HF:Hid (∀ T,#[.int .i64 ev.h,.string T,.int .i64 ev.r,.int .i64 ev.s]=vt4 h T r s):=fun T=>by rw [hh,hr,hs];rfl
 rw [← hEV] at HTX ⊢
 clear hEV r0 u0 r1 u1 e0 hp he hxs hh hr hs
 go_enter Tryz.func8,Tryz.ntmps8
 go_upto_region 1 with (fail)
 refine wp_region_noPanic ?_
 refine wp_region_held_drew (S:=fun wp=>wp.cell? ⟨g,2,none⟩=some (.int .i64 h)∧(Instr.loadAt 53 (.pointer (some ⟨g,0,none⟩))).run Tryz.prog wp=.ok (.agg EV) wp∧(Instr.loadAt 46 (.pointer (some ⟨g,38,none⟩))).run Tryz.prog wp=.ok (.agg #[.int .i64 r,.int .i64 s]) wp) (by kernel_rfl) ?_ (fun hHeld=>?_)
 · exact HK.out _ (E1.out.upd ud0)
 refine tkY 0 hHeld ?_
 refine tkY 1 hHeld ?_
 refine tkL 2 hHeld EV (fun w hSw=>hSw.2.1) ?_
 refine tkY 4 hHeld ?_
 refine wpAnyH_take (i:=5) (v:=.agg (#[.int .i64 r,.int .i64 s]:Array Value)) (by simp only [List.getElem?_toArray,List.getElem?_cons_succ,List.getElem?_cons_zero] <;> rfl) (by kernel_rfl) (by kernel_rfl) (by kernel_rfl) (fun _ _ _ h=>h) (pau (by rfl) _ _ rfl _ rfl (#[.int .i64 r,.int .i64 s]:Array Value) (fun w hSw=>hSw.2.2)) hHeld ?_
 try simp only [Act.put,List.setIfInBounds_toArray,List.set_cons_zero,List.set_cons_succ]
 refine tk1 3 fun K hK=>?_
 go_simp;refine (HTX.out _ (HU.out.trans ud0)).mono ?_;rintro e wv1 ⟨T,HT,_,rfl,hq⟩;have ud1:=ud0.trans hq;clear hq;have hvi:=Lib.hid (poJ h T r s);go_wp2_with fail
 refine tkK hK (HK.out _ (E1.out.upd ud1)) fun hHeld=>?_
 clear hK K
 refine tkY 6 hHeld ?_
 refine tk1 7 fun K hK=>?_
 rw [if_pos (by rfl)];refine wp_store_row 48 _ _ rfl gR (vt4 h T r s) rfl rfl _ _ (paa R1.out ud1) hvi.out rfl (pp7 h T r s) ?_;obtain ⟨wv2,hwx⟩:∃ W':World,W'=wv1.setRow gR (vt4 h T r s):=⟨_,rfl⟩;have z2:Hid (wv2.heap[gR]? =some (.cells (vt4 h T r s) 48 (0,0))):=(by show _=_;rw [hwx];exact setRow_heap _ _ _ _ _ _ (paa R1.out ud1));have uw2:=(HU.out.trans ud1).setRowNew HG.out (vt4 h T r s);have e2:EgA wv2 g ev:=(by rw [hwx];exact pal (E1.out.upd ud1) hne _);rw [← hwx] at uw2 ⊢
 refine tkK hK (HK.out _ e2) fun hHeld=>?_
 clear hK K
 refine wpAnyH_done (by kernel_rfl) ?_ _
 refine NoPanic.normal ?_
 go_wp2_with fail
 refine bodyPost_ret (results_cell_row rfl _ _ gR _ (vt4 h T r s) _ _ rfl z2.out Tryz.underlying48 rfl hvi.out) rfl ⟨T,HT,?_,uw2⟩
 rw [HF.out]
theorem pp8 (x y:Value):(Tryz.prog.info? 43).map (·.size)=some (#[x,y]:Array Value).size:=by
 show _=some 2
 kernel_rfl
theorem pq3 (x y:Int):(#[.int .i64 x,.int .i64 y]:Array Value).all (·.oneCell')=true:=by simp [Value.oneCell']
set_option maxHeartbeats 4000000 in
theorem pp9 (l:List Int) (L S C K P:Value) (w:World) (hM:MadeRd l w L S C K P) (x:Nat) (hx:x≤60) :
 Calls Tryz.prog 7 #[.agg (grV L S C K P),.int .i64 (x:Int)] w (fun e w'=>∃ r:Nat,Hid (r=valN (pbm (needN (wsN l (pax l)).sum) (pax l)) x)∧r<1152921504606845789∧e=.returned (.agg #[.int .i64 (x:Int),.int .i64 (r:Int)])∧Upd [] [] w w'):=by
 obtain ⟨q,hq⟩:∃ q,q=needN (wsN l (pax l)).sum:=⟨_,rfl⟩
 have hs12:=(pfX l).sum
 have hq60:q≤60:=by
  have:=(pcg (t:=(wsN l (pax l)).sum) (by omega)).2
  omega
 have hC:=hM.coefs
 rw [← hq] at hC ⊢
 obtain ⟨cs,hcs⟩:∃ cs,cs=pbm q (pax l):=⟨_,rfl⟩
 have hcl:cs.length≤1000:=by rw [hcs,pbU];omega
 have hcb:∀ c∈cs,c<9223372036854775808:=fun c hc=>by
  rw [hcs,pbm,List.mem_map] at hc
  obtain ⟨j,_,rfl⟩:=hc
  have:=phT q (pax l) j
  unfold Qn at this
  omega
 rw [← hcs] at hC ⊢
 obtain ⟨g,hg⟩:∃ g,w.heap.size=g:=⟨_,rfl⟩
 obtain ⟨w0,hw0⟩:∃ W,w.alloc (.cells (grV L S C K P) 32)=W:=⟨_,rfl⟩
 have r0:w0.heap[g]? =some (.cells (grV L S C K P) 32 (0,0)):=by rw [← hg,← hw0];exact heap_alloc_new _ _
 have u0:Upd [] [] w w0:=by rw [← hw0];exact (Upd.refl _ _).alloc _
 obtain ⟨gR,hgR⟩:∃ g,w0.heap.size=g:=⟨_,rfl⟩
 obtain ⟨w1,hw1⟩:∃ W,w0.alloc (.cells #[.int .i64 0,.int .i64 0] 43)=W:=⟨_,rfl⟩
 have r1:w1.heap[gR]? =some (.cells #[.int .i64 0,.int .i64 0] 43 (0,0)):=by rw [← hgR,← hw1];exact heap_alloc_new _ _
 have u1:Upd [] [] w0 w1:=by rw [← hw1];exact (Upd.refl _ _).alloc _
 have HU:=Lib.hid (u0.trans u1)
 have R1:=Lib.hid r1
 have HGR:Hid (w.heap.size≤gR):=by rw [← hgR];exact u0.size
 have c2:w1.cell? ⟨g,2,none⟩=some C:=cell_of_row _ g 2 _ _ _ (paa r0 u1)
 have HV:=Lib.hid (pd6 C cs x w1 (hC.upd HU.out) hcb hcl (by omega))
 clear hM hC hcb hcl r0 u0 r1 u1 hcs hq
 go_enter Tryz.func7,Tryz.ntmps7
 go_wp2_with fail
 refine HV.out.mono ?_
 rintro e w2 ⟨r,HR,hr,rfl,hu⟩
 obtain ⟨V,hV⟩:∃ V:Array Value,V=#[.int .i64 (x:Int),.int .i64 (r:Int)]:=⟨_,rfl⟩
 have HVI:Hid ((Tryz.prog.info? 43).map (·.size)=some V.size):=by show _=_;rw [hV];exact pp8 _ _
 have HVO:Hid (V.all (·.oneCell')=true):=by show _=_;rw [hV];exact pq3 _ _
 have HVZ:Hid ((#[.int .i64 0,.int .i64 0]:Array Value).size=V.size):=by show _=_;rw [hV];rfl
 have HVB:Hid (Tryz.prog.built 43 [(0,.int .i64 (x:Int)),(1,.int .i64 (r:Int))]=some V):=by show _=_;rw [hV];kernel_rfl
 have R2:=Lib.hid (paa R1.out hu)
 have U2:=Lib.hid (HU.out.trans hu)
 obtain ⟨w3,hw3⟩:∃ W,w2.setRow gR V=W:=⟨_,rfl⟩
 have R3:=Lib.hid (show w3.heap[gR]? =some (.cells V 43 (0,0)) by rw [← hw3];exact setRow_heap _ _ _ _ _ _ R2.out)
 have U3:=Lib.hid (show Upd [] [] w w3 by rw [← hw3];exact U2.out.setRowNew HGR.out V)
 have HW:=Lib.hid hw3
 have HVE:=Lib.hid hV
 clear hw3 hV hu HV
 go_wp2_with (first | (refine wpList_buildTo rfl 43 _ rfl _ rfl V (Eq.trans (congrArg (fun z=>Tryz.prog.built 43 z) (by kernel_rfl)) HVB.out) ?_) | (refine wpList_store_rowAs rfl 43 _ _ rfl gR V rfl rfl _ _ R2.out HVI.out HVZ.out HVO.out w3 HW.out ?_))
 refine bodyPost_ret (results_cell_row rfl _ _ gR _ V _ _ rfl R3.out Tryz.underlying43 rfl HVI.out) rfl ⟨r,HR,hr,?_,U3.out⟩
 rw [HVE.out]
def pq4 (who x:Int) (t:ByteArray) (w:World) (e:Ending) (w':World):Prop :=
 ∃ r s:Nat,Hid (r=gP (nonceN (expN x) (bs t))∧s=sWith (expN x) (nonceN (expN x) (bs t)) (bs t))∧r<2305843009213691579∧s<1152921504606845789∧e=.returned (.agg #[.int .i64 who,.string t,.int .i64 (r:Int),.int .i64 (s:Int)])∧Upd [] [] w w'
theorem plj (who x:Int) (t:ByteArray) (w:World) (hx:-9223372036854775808≤x∧x≤9223372036854775807) (ht:t.size≤140737488355000) (htab:Tabs w) :
 Calls Tryz.prog 14 #[.int .i64 who,.int .i64 x,.string t] w (pq4 who x t w):=by
 have rz:=heap_alloc_new w (.cells #[.int .i64 0,.string ByteArray.empty,.int .i64 0,.int .i64 0] 48)
 have uz:=(Upd.refl [] w).alloc (.cells #[.int .i64 0,.string ByteArray.empty,.int .i64 0,.int .i64 0] 48)
 have HT:=Lib.hid (htab.upd uz)
 go_enter Tryz.func14,Tryz.ntmps14
 go_wp2_with fail
 refine (pgE x t _ hx ht HT.out).mono ?_
 rintro e w1 ⟨r,s,HR,HS,hr,hs,rfl,hu⟩
 have rz1:=paa rz hu
 have f0:w1.frozen? ⟨w.heap.size,0,none⟩=false:=frozen_of_row _ _ _ _ _ rz1
 have f1:w1.frozen? ⟨w.heap.size,1,none⟩=false:=frozen_of_row _ _ _ _ _ rz1
 have f2:w1.frozen? ⟨w.heap.size,2,none⟩=false:=frozen_of_row _ _ _ _ _ rz1
 have f3:w1.frozen? ⟨w.heap.size,3,none⟩=false:=frozen_of_row _ _ _ _ _ rz1
 have k0:w1.cell? ⟨w.heap.size,0,none⟩=some (.int .i64 0):=by rw [cell_of_row _ _ _ _ _ _ rz1];rfl
 have k1:w1.cell? ⟨w.heap.size,1,none⟩=some (.string ByteArray.empty):=by rw [cell_of_row _ _ _ _ _ _ rz1];rfl
 have k2:w1.cell? ⟨w.heap.size,2,none⟩=some (.int .i64 0):=by rw [cell_of_row _ _ _ _ _ _ rz1];rfl
 have k3:w1.cell? ⟨w.heap.size,3,none⟩=some (.int .i64 0):=by rw [cell_of_row _ _ _ _ _ _ rz1];rfl
 clear rz rz1
 go_wp2_with fail
 refine bodyPost_ret (v:=.agg #[.int .i64 who,.string t,.int .i64 (r:Int),.int .i64 (s:Int)]) (by simp [results,Tryz.results14,go_sem,k0,k1,k2,k3]) rfl ⟨r,s,⟨HR.out,HS.out⟩,hr,hs,rfl,?_⟩
 exact (((((uz.trans hu).setNew (p:=⟨_,_,none⟩) (Nat.le_refl _) _).setNew (p:=⟨_,_,none⟩) (Nat.le_refl _) _).setNew (p:=⟨_,_,none⟩) (Nat.le_refl _) _).setNew (p:=⟨_,_,none⟩) (Nat.le_refl _) _)
theorem pq5 {a b c d e f:Int}:1≤[a,b,c,d,e,f].length∧[a,b,c,d,e,f].length≤100:=⟨by simp,by simp⟩
theorem poK (a b c d e f:Int) (g cc:Nat) (w:World) (hx:IntsIn w g [a,b,c,d,e,f]) (htab:Tabs w) :
 Calls Tryz.prog 236 #[.string ⟨#[101,113,117,97,108]⟩,.slice (some ⟨g,0,none⟩) 6 cc] w (MkN 1152921504606845789 (pei plW [a,b,c,d,e,f]) w) :=
 pi0 ⟨#[101,113,117,97,108]⟩ [a,b,c,d,e,f] g cc w hx (by decide) pq5 htab
set_option maxHeartbeats 2000000 in
theorem pjm (g a h b c z:Int) (w:World) (hg:pab g) (ha:pab a) (hh:pab h) (hb:pab b) (hc:pab c) (hz:pab z) (htab:Tabs w) :
 Calls Tryz.prog 197 #[.int .i64 g,.int .i64 a,.int .i64 h,.int .i64 b,.agg #[.int .i64 c,.int .i64 z]] w (MkB (verE g a h b c z) w):=by
 have h0:=ProofAt.start w c z
 have hc1:=hc.1
 have hc2:=hc.2
 have hz1:=hz.1
 have hz2:=hz.2
 cases m0:memB g with
 | false =>
  have HV:Hid (verE g a h b c z=false):=by show _=_;simp [verE,m0]
  have HG:=Lib.hid m0
  clear m0
  go_enter Tryz.func197,Tryz.ntmps197
  go_wp2_with fail
  refine (pao g false _ hg HG.out).mono ?_
  rintro e w1 ⟨rfl,hu1⟩
  have h1:=h0.upd hu1
  clear h0
  go_wp2_with fail
  go_ret
  exact ⟨_,HV.out.symm,rfl,h1.up⟩
 | true =>
 cases m1:memB a with
 | false =>
  have HV:Hid (verE g a h b c z=false):=by show _=_;simp [verE,m1]
  have HG:=Lib.hid m0
  have HA:=Lib.hid m1
  clear m0 m1
  go_enter Tryz.func197,Tryz.ntmps197
  go_wp2_with fail
  refine (pao g true _ hg HG.out).mono ?_
  rintro e w1 ⟨rfl,hu1⟩
  have h1:=h0.upd hu1
  clear h0
  go_wp2_with fail
  refine (pao a false _ ha HA.out).mono ?_
  rintro e w2 ⟨rfl,hu2⟩
  have h2:=h1.upd hu2
  clear h1
  go_wp2_with fail
  go_ret
  exact ⟨_,HV.out.symm,rfl,h2.up⟩
 | true =>
 cases m2:memB h with
 | false =>
  have HV:Hid (verE g a h b c z=false):=by show _=_;simp [verE,m2]
  have HG:=Lib.hid m0
  have HA:=Lib.hid m1
  have HH:=Lib.hid m2
  clear m0 m1 m2
  go_enter Tryz.func197,Tryz.ntmps197
  go_wp2_with fail
  refine (pao g true _ hg HG.out).mono ?_
  rintro e w1 ⟨rfl,hu1⟩
  have h1:=h0.upd hu1
  clear h0
  go_wp2_with fail
  refine (pao a true _ ha HA.out).mono ?_
  rintro e w2 ⟨rfl,hu2⟩
  have h2:=h1.upd hu2
  clear h1
  go_wp2_with fail
  refine (pao h false _ hh HH.out).mono ?_
  rintro e w3 ⟨rfl,hu3⟩
  have h3:=h2.upd hu3
  clear h2
  go_wp2_with fail
  go_ret
  exact ⟨_,HV.out.symm,rfl,h3.up⟩
 | true =>
 cases m3:memB b with
 | false =>
  have HV:Hid (verE g a h b c z=false):=by show _=_;simp [verE,m3]
  have HG:=Lib.hid m0
  have HA:=Lib.hid m1
  have HH:=Lib.hid m2
  have HB:=Lib.hid m3
  clear m0 m1 m2 m3
  go_enter Tryz.func197,Tryz.ntmps197
  go_wp2_with fail
  refine (pao g true _ hg HG.out).mono ?_
  rintro e w1 ⟨rfl,hu1⟩
  have h1:=h0.upd hu1
  clear h0
  go_wp2_with fail
  refine (pao a true _ ha HA.out).mono ?_
  rintro e w2 ⟨rfl,hu2⟩
  have h2:=h1.upd hu2
  clear h1
  go_wp2_with fail
  refine (pao h true _ hh HH.out).mono ?_
  rintro e w3 ⟨rfl,hu3⟩
  have h3:=h2.upd hu3
  clear h2
  go_wp2_with fail
  refine (pao b false _ hb HB.out).mono ?_
  rintro e w4 ⟨rfl,hu4⟩
  have h4:=h3.upd hu4
  clear h3
  go_wp2_with fail
  go_ret
  exact ⟨_,HV.out.symm,rfl,h4.up⟩
 | true =>
 have HG:=Lib.hid m0
 have HA:=Lib.hid m1
 have HH:=Lib.hid m2
 have HB:=Lib.hid m3
 have HMM:=Lib.hid (And.intro m0 (And.intro m1 (And.intro m2 m3)))
 clear m0 m1 m2 m3
 by_cases c0:c<0
 · have HV:Hid (verE g a h b c z=false):=by
    show _=_
    have:decide (0≤c)=false:=by rw [decide_eq_false_iff_not];omega
    simp [verE,this]
   go_enter Tryz.func197,Tryz.ntmps197
   go_wp2_with fail
   refine (pao g true _ hg HG.out).mono ?_
   rintro e w1 ⟨rfl,hu1⟩
   have h1:=h0.upd hu1
   clear h0
   go_wp2_with fail
   refine (pao a true _ ha HA.out).mono ?_
   rintro e w2 ⟨rfl,hu2⟩
   have h2:=h1.upd hu2
   clear h1
   go_wp2_with fail
   refine (pao h true _ hh HH.out).mono ?_
   rintro e w3 ⟨rfl,hu3⟩
   have h3:=h2.upd hu3
   clear h2
   go_wp2_with fail
   refine (pao b true _ hb HB.out).mono ?_
   rintro e w4 ⟨rfl,hu4⟩
   have h4:=h3.upd hu4
   clear h3
   obtain ⟨k0,k1⟩:=h4.cells
   go_wp2_with fail
   go_ret
   exact ⟨_,HV.out.symm,rfl,h4.up⟩
 by_cases c9:1152921504606845788<c
 · have HV:Hid (verE g a h b c z=false):=by
    show _=_
    have:decide (c<1152921504606845789)=false:=by rw [decide_eq_false_iff_not];omega
    simp [verE,this]
   go_enter Tryz.func197,Tryz.ntmps197
   go_wp2_with fail
   refine (pao g true _ hg HG.out).mono ?_
   rintro e w1 ⟨rfl,hu1⟩
   have h1:=h0.upd hu1
   clear h0
   go_wp2_with fail
   refine (pao a true _ ha HA.out).mono ?_
   rintro e w2 ⟨rfl,hu2⟩
   have h2:=h1.upd hu2
   clear h1
   go_wp2_with fail
   refine (pao h true _ hh HH.out).mono ?_
   rintro e w3 ⟨rfl,hu3⟩
   have h3:=h2.upd hu3
   clear h2
   go_wp2_with fail
   refine (pao b true _ hb HB.out).mono ?_
   rintro e w4 ⟨rfl,hu4⟩
   have h4:=h3.upd hu4
   clear h3
   obtain ⟨k0,k1⟩:=h4.cells
   go_wp2_with fail
   go_ret
   exact ⟨_,HV.out.symm,rfl,h4.up⟩
 by_cases z0:z<0
 · have HV:Hid (verE g a h b c z=false):=by
    show _=_
    have:decide (0≤z)=false:=by rw [decide_eq_false_iff_not];omega
    simp [verE,this]
   go_enter Tryz.func197,Tryz.ntmps197
   go_wp2_with fail
   refine (pao g true _ hg HG.out).mono ?_
   rintro e w1 ⟨rfl,hu1⟩
   have h1:=h0.upd hu1
   clear h0
   go_wp2_with fail
   refine (pao a true _ ha HA.out).mono ?_
   rintro e w2 ⟨rfl,hu2⟩
   have h2:=h1.upd hu2
   clear h1
   go_wp2_with fail
   refine (pao h true _ hh HH.out).mono ?_
   rintro e w3 ⟨rfl,hu3⟩
   have h3:=h2.upd hu3
   clear h2
   go_wp2_with fail
   refine (pao b true _ hb HB.out).mono ?_
   rintro e w4 ⟨rfl,hu4⟩
   have h4:=h3.upd hu4
   clear h3
   obtain ⟨k0,k1⟩:=h4.cells
   go_wp2_with fail
   go_ret
   exact ⟨_,HV.out.symm,rfl,h4.up⟩
 by_cases z9:1152921504606845788<z
 · have HV:Hid (verE g a h b c z=false):=by
    show _=_
    have:decide (z<1152921504606845789)=false:=by rw [decide_eq_false_iff_not];omega
    simp [verE,this]
   go_enter Tryz.func197,Tryz.ntmps197
   go_wp2_with fail
   refine (pao g true _ hg HG.out).mono ?_
   rintro e w1 ⟨rfl,hu1⟩
   have h1:=h0.upd hu1
   clear h0
   go_wp2_with fail
   refine (pao a true _ ha HA.out).mono ?_
   rintro e w2 ⟨rfl,hu2⟩
   have h2:=h1.upd hu2
   clear h1
   go_wp2_with fail
   refine (pao h true _ hh HH.out).mono ?_
   rintro e w3 ⟨rfl,hu3⟩
   have h3:=h2.upd hu3
   clear h2
   go_wp2_with fail
   refine (pao b true _ hb HB.out).mono ?_
   rintro e w4 ⟨rfl,hu4⟩
   have h4:=h3.upd hu4
   clear h3
   obtain ⟨k0,k1⟩:=h4.cells
   go_wp2_with fail
   go_ret
   exact ⟨_,HV.out.symm,rfl,h4.up⟩
 obtain ⟨⟨G,rfl,hG⟩,⟨A,rfl,hA⟩,⟨H,rfl,hH⟩,⟨B,rfl,hB⟩⟩:(∃ n:Nat,g=(n:Int)∧memN n)∧(∃ n:Nat,a=(n:Int)∧memN n)∧(∃ n:Nat,h=(n:Int)∧memN n)∧(∃ n:Nat,b=(n:Int)∧memN n) :=
  ⟨pcT HMM.out.1,pcT HMM.out.2.1,pcT HMM.out.2.2.1,pcT HMM.out.2.2.2⟩
 obtain ⟨C,rfl⟩:∃ n:Nat,c=(n:Int):=⟨c.toNat,by omega⟩
 obtain ⟨Z,rfl⟩:∃ n:Nat,z=(n:Int):=⟨z.toNat,by omega⟩
 have lG:G<2305843009213691579:=hG.2.1
 have lA:A<2305843009213691579:=hA.2.1
 have lH:H<2305843009213691579:=hH.2.1
 have lB:B<2305843009213691579:=hB.2.1
 have lC:C<1152921504606845789:=by omega
 have lZ:Z<1152921504606845789:=by omega
 have HLC:=Lib.hid (And.intro lC lZ)
 clear hG hA hH hB lC lZ
 have VG:=HG
 have VA:=HA
 have VH:=HH
 have VB:=HB
 go_enter Tryz.func197,Tryz.ntmps197
 go_wp2_with fail
 refine (pao G true _ hg VG.out).mono ?_
 rintro e w1 ⟨rfl,hu1⟩
 have h1:=h0.upd hu1
 clear h0
 go_wp2_with fail
 refine (pao A true _ ha VA.out).mono ?_
 rintro e w2 ⟨rfl,hu2⟩
 have h2:=h1.upd hu2
 clear h1
 go_wp2_with fail
 refine (pao H true _ hh VH.out).mono ?_
 rintro e w3 ⟨rfl,hu3⟩
 have h3:=h2.upd hu3
 clear h2
 go_wp2_with fail
 refine (pao B true _ hb VB.out).mono ?_
 rintro e w4 ⟨rfl,hu4⟩
 have h4:=h3.upd hu4
 clear h3
 obtain ⟨k0,k1⟩:=h4.cells
 have h5:=h4.upd (Upd.refl _ _).drew
 have k5:=h5.cells
 go_wp2_with fail
 clear k0 k1 h4
 go_region_held3 (fun wp=>wp.cell? ⟨w.heap.size,0,none⟩=some (.int .i64 (C:Int))∧wp.cell? ⟨w.heap.size,1,none⟩=some (.int .i64 (Z:Int))) (first | exact k5 | assumption | go_keep)
  (first
   | (go_at_call 235;((with_reducible refine (pke G A C Z w _ (by omega) (by omega) HLC.out.1 HLC.out.2 h5).mono ?_);rintro e wq ⟨r,HR,hr,rfl,hq⟩;have g1:=h5.upd hq;have kq:=g1.cells;clear hq))
   | (go_at_call 235;((with_reducible refine (pke H B C Z w _ (by omega) (by omega) HLC.out.1 HLC.out.2 g1).mono ?_);rintro e wq ⟨s,HS,hs,rfl,hq⟩;have g2:=g1.upd hq;have kq:=g2.cells;have i2:=pqN wq G A H B r s 3 (ipE lG) (ipE lA) (ipE lH) (ipE lB) (ipE hr) (ipE hs);have u2:=(Upd.refl [] wq).alloc (.cells #[.int .i64 (G:Int),.int .i64 (A:Int),.int .i64 (H:Int),.int .i64 (B:Int),.int .i64 (r:Int),.int .i64 (s:Int)] 3);have g3:=g2.upd u2;have kq3:=g3.cells;clear hq))
   | (go_at_call 236;((with_reducible refine (poK G A H B r s _ _ _ i2 (htab.upd g3.up)).mono ?_);rintro e wz ⟨y,HY,hy,rfl,hq⟩;have g4:=g3.upd hq;have kq:=g4.cells;clear hq)))
 go_wp2_with fail
 go_ret
 refine ⟨_,?_,rfl,g4.up⟩
 show _=_
 have hy2:y=pkW G A H B (pfD G A C Z) (pfD H B C Z):=by rw [HY.out,HR.out,HS.out];rfl
 have e1:decide (0≤(C:Int))=true:=by rw [decide_eq_true_iff];omega
 have e2:decide (0≤(Z:Int))=true:=by rw [decide_eq_true_iff];omega
 have e3:decide ((C:Int)<1152921504606845789)=true:=by have:=HLC.out.1;rw [decide_eq_true_iff];omega
 have e4:decide ((Z:Int)<1152921504606845789)=true:=by have:=HLC.out.2;rw [decide_eq_true_iff];omega
 unfold verE
 rw [VG.out,VA.out,VH.out,VB.out,e1,e2,e3,e4]
 simp only [Int.toNat_natCast,Bool.true_and]
 rw [Bool.eq_iff_iff,decide_eq_true_iff,← hy2]
 show ((C:Int) == (y:Int))=true ↔ _
 rw [beq_iff_eq]
 omega
set_option maxHeartbeats 1000000 in
theorem plk (x:Int) (g h:Nat) (w:World) (hx:-9223372036854775808≤x∧x≤9223372036854775807) (hg:memN g) (hh:memN h) :
 Calls Tryz.prog 23 #[.int .i64 x,.int .i64 (g:Int),.int .i64 (h:Int)] w (ppT (cWith (expN x) g h (nonceE (expN x) g h)) (zWith (expN x) g h (nonceE (expN x) g h)) w):=by
 have hg2:g<2305843009213691579:=hg.2.1
 have hh2:h<2305843009213691579:=hh.2.1
 have HG:=Lib.hid ((pbu g).2 hg)
 have HH:=Lib.hid ((pbu h).2 hh)
 clear hg hh
 have h0:=ProofAt.start w 0 0
 go_enter Tryz.func23,Tryz.ntmps23
 go_wp2_with fail
 refine (pc2 g true _ (ipE hg2) HG.out).mono ?_
 rintro e w1 ⟨rfl,rfl⟩
 go_wp2_with fail
 refine (pc2 h true _ (ipE hh2) HH.out).mono ?_
 rintro e w1 ⟨rfl,rfl⟩
 go_wp2_with fail
 refine (pdK x _ hx).mono ?_
 rintro e w1 ⟨X,HX,hX,rfl,rfl⟩
 have hi:=prv (w.alloc (.cells #[.int .i64 0,.int .i64 0] 38)) X g h 3 (iqE hX) (ipE hg2) (ipE hh2)
 have e1:(w.alloc (.cells #[.int .i64 0,.int .i64 0] 38)).heap.size=w.heap.size+1:=by simp
 rw [e1] at hi
 have HI:=Lib.hid hi
 have h1:=h0.upd ((Upd.refl _ _).alloc (.cells #[.int .i64 (X:Int),.int .i64 (g:Int),.int .i64 (h:Int)] 3))
 clear hi h0 e1
 have h6:(ByteArray.mk #[110,111,110,99,101,47]).size=6:=rfl
 go_wp2_with fail
 refine (pga [(X:Int),(g:Int),(h:Int)] _ _ 3 _ HI.out rfl (by omega)).mono ?_
 rintro e w2 ⟨y,HY,hy,rfl,hu2⟩
 have h2:=h1.upd hu2
 have hln:=pd5 HI.out.2.2 3
 have hy2:y.size≤63:=by
  have e3:[(X:Int),(g:Int),(h:Int)].take 3=[(X:Int),(g:Int),(h:Int)]:=rfl
  rw [e3] at hln
  simp only [List.length_cons,List.length_nil] at hln
  omega
 clear h1 hln HI hy
 go_wp2_with fail
 refine (pbD _ w2 (by rw [ByteArray.size_append,h6];omega)).mono ?_
 rintro e w3 ⟨k,HK,hk,rfl,hu3⟩
 have hkk:k=nonceE (expN x) g h:=by
  rw [HK.out,pae,HY.out,nonceE,pei,pjR,HX.out]
  rfl
 have HKK:=Lib.hid hkk
 have h3:=h2.upd hu3
 clear hkk HK h2
 go_wp2_with fail
 refine (pgR x g h k w3 hx hg2 hh2 hk).mono ?_
 rintro e w4 ⟨c,z,HC,HZ,hc,hz,rfl,hu4⟩
 have h4:=h3.upd hu4
 obtain ⟨k0,k1⟩:=h4.cells
 obtain ⟨f0,f1⟩:=h4.free
 go_wp2_with fail
 refine bodyPost_ret (v:=.agg #[.int .i64 (c:Int),.int .i64 (z:Int)]) (by simp [results,Tryz.results23,go_sem,k0,k1]) rfl ⟨c,z,?_,?_,hc,hz,rfl,?_⟩
 · show _=_
   rw [HC.out,HKK.out]
 · show _=_
   rw [HZ.out,HKK.out]
 · exact (h4.up.setNew (p:=⟨_,_,none⟩) (Nat.le_refl _) _).setNew (p:=⟨_,_,none⟩) (Nat.le_refl _) _
end Go.Proofs.YtheobkejohifaaaGreatDoor
