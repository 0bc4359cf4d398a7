/- sorteslaw33.vote and three and what follows. -/
import Derived.Test.YtmjlkkbbnkanpaaGreatDoorHAA
import Derived.Test.YtmjlkkbbnkanpaaGreatDoorHAR
import Derived.Test.YtmjlkkbbnkanpaaGreatDoorHAQ
import Derived.Test.YtmjlkkbbnkanpaaGreatDoorHAJ
import Derived.Test.YtmjlkkbbnkanpaaGreatDoorHAC
import Derived.Test.YtmjlkkbbnkanpaaGreatDoorHAH
import Derived.Test.YtmjlkkbbnkanpaaGreatDoorHAG
import Derived.Test.YtmjlkkbbnkanpaaGreatDoorHAD
namespace Go.Proofs.YtmjlkkbbnkanpaaGreatDoor
open Go.RowKit
set_option maxRecDepth 100000
def voteV (T:ByteArray) (r s:Int):Array Value:=#[.int .i64 3,.string T,.int .i64 r,.int .i64 s]
theorem voteInfo (T:ByteArray) (r s:Int):(Tryz.prog.info? 39).map (·.size)=some (voteV T r s).size:=by
 show _=some 4
 kernel_rfl
theorem voteOne (T:ByteArray) (r s:Int):(voteV T r s).all (·.oneCell')=true:=by simp [voteV,Value.oneCell']
def MkVote (c:UInt8) (r s:Int) (w:World) (e:Ending) (w':World):Prop:=∃ T:ByteArray,Hid (bs T=tOf c)∧e=.returned (.agg (voteV T r s))∧Upd [] [] w w'
set_option maxHeartbeats 4000000 in
theorem vote33_any (c:UInt8) (r s:Int) (hr:i64in r) (hs:i64in s) (w:World) (htab:Tabs w):Calls Tryz.prog 13 #[.agg (evV c r s).toArray] w (MkVote c r s w):=by
 obtain ⟨EV,hEV⟩:∃ EV,EV=(evV c r s).toArray:=⟨_,rfl⟩
 have HEV:=Lib.hid hEV
 obtain ⟨g,hg⟩:∃ g,w.heap.size=g:=⟨_,rfl⟩
 obtain ⟨w0,hw0⟩:∃ w0,w.alloc (.cells EV 66)=w0:=⟨_,rfl⟩
 have r0:EvA w0 g c r s:=by rw [← hg,← hw0,hEV];exact heap_alloc_new _ _
 have u0:Upd [] [] w w0:=by rw [← hw0];exact (Upd.refl _ _).alloc _
 obtain ⟨gR,hgR⟩:∃ g,w0.heap.size=g:=⟨_,rfl⟩
 obtain ⟨w1,hw1⟩:∃ W,w0.alloc (.cells #[.int .i64 0,.string ⟨#[]⟩,.int .i64 0,.int .i64 0] 39)=W:=⟨_,rfl⟩
 have r1:w1.heap[gR]? =some (.cells #[.int .i64 0,.string ⟨#[]⟩,.int .i64 0,.int .i64 0] 39 (0,0)):=by rw [← hgR,← hw1];exact heap_alloc_new _ _
 have u1:Upd [] [] w0 w1:=by rw [← hw1];exact (Upd.refl _ _).alloc _
 have HU:=Lib.hid (u0.trans u1)
 have e0:=r0.upd u1
 have HK:Hid (∀ W,EvA W g c r s→W.cell? ⟨g,2,none⟩=some (.int .i64 3)∧(Instr.loadAt 66 (.pointer (some ⟨g,0,none⟩))).run Tryz.prog W=.ok (.agg EV) W∧(Instr.loadAt 37 (.pointer (some ⟨g,38,none⟩))).run Tryz.prog W=.ok (.agg #[.int .i64 r,.int .i64 s]) W):=by
  intro W e
  refine ⟨e.cell 2,evV_load hEV e,?_⟩
  refine run_loadAt_mid W g 38 37 [.int .i64 r,.int .i64 s] _ (fun j v hv=>?_) Tryz.underlying37 rfl (sigInfo r s)
  match j,hv with
  | 0,hv=>simp at hv;subst hv;exact (e.cell 38).trans (ev_at38 _ _ _)
  | 1,hv=>simp at hv;subst hv;exact (e.cell 39).trans (ev_at39 _ _ _)
 have R1:=Lib.hid r1
 have E1:=Lib.hid e0
 have hne:g≠gR:=by have:=blk_lt r0;omega
 have HG:Hid (w.heap.size≤gR):=by have:=blk_lt r0;show _≤_;omega
 have ud0:Upd [] [] w1 w1.drew:=(Upd.refl _ _).drew
 rw [← hEV]
 clear hEV r0 u0 r1 u1 e0
 go_enter Tryz.func13,Tryz.ntmps13
 go_upto_region 1 with (fail)
 refine wp_region_noPanic ?_
 refine wp_region_held_drew (S:=fun wp=>wp.cell? ⟨g,2,none⟩=some (.int .i64 3)∧(Instr.loadAt 66 (.pointer (some ⟨g,0,none⟩))).run Tryz.prog wp=.ok (.agg EV) wp∧(Instr.loadAt 37 (.pointer (some ⟨g,38,none⟩))).run Tryz.prog wp=.ok (.agg #[.int .i64 r,.int .i64 s]) wp) (by kernel_rfl) ?_ (fun hHeld=>?_)
 · exact HK.out _ (E1.out.upd ud0)
 refine tkY 0 hHeld ?_
 refine tkY 1 hHeld ?_
 refine tkL 2 hHeld EV (fun w hSw=>hSw.2.1) ?_
 refine tkY 4 hHeld ?_
 refine wpAnyH_take (i:=5) (v:=.agg (#[.int .i64 r,.int .i64 s]:Array Value)) (by simp only [List.getElem?_toArray,List.getElem?_cons_succ,List.getElem?_cons_zero] <;> rfl) (by kernel_rfl) (by kernel_rfl) (by kernel_rfl) (fun _ _ _ h=>h) (yieldsIf_loadW (by rfl) _ _ rfl _ rfl (#[.int .i64 r,.int .i64 s]:Array Value) (fun w hSw=>hSw.2.2)) hHeld ?_
 try simp only [Act.put,List.setIfInBounds_toArray,List.set_cons_zero,List.set_cons_succ]
 refine tk1 3 fun K hK=>?_
 go_simp;rw [HEV.out];refine (dText_any c r s hr hs _ (htab.upd (HU.out.trans ud0))).mono ?_;rintro e wv1 ⟨T,HT,_,rfl,hq⟩;have ud1:=ud0.trans hq;clear hq;have hvi:=Lib.hid (voteInfo T r s);go_wp2_with fail
 refine tkK hK (HK.out _ (E1.out.upd ud1)) fun hHeld=>?_
 clear hK K
 refine tkY 6 hHeld ?_
 refine tk1 7 fun K hK=>?_
 rw [if_pos (by rfl)];refine wp_store_row 39 _ _ rfl gR (voteV T r s) rfl rfl _ _ (row_updH R1.out ud1) hvi.out rfl (voteOne T r s) ?_;obtain ⟨wv2,hwx⟩:∃ W':World,W'=wv1.setRow gR (voteV T r s):=⟨_,rfl⟩;have z2:Hid (wv2.heap[gR]? =some (.cells (voteV T r s) 39 (0,0))):=(by show _=_;rw [hwx];exact setRow_heap _ _ _ _ _ _ (row_updH R1.out ud1));have uw2:=(HU.out.trans ud1).setRowNew HG.out (voteV T r s);have e2:EvA wv2 g c r s:=(by rw [hwx];exact row_setRowO (E1.out.upd ud1) hne _);rw [← hwx] at uw2 ⊢
 refine tkK hK (HK.out _ e2) fun hHeld=>?_
 clear hK K
 refine wpAnyH_done (by kernel_rfl) ?_ _
 refine NoPanic.normal ?_
 go_wp2_with fail
 refine bodyPost_ret (results_cell_row rfl _ _ gR _ (voteV T r s) _ _ rfl z2.out Tryz.underlying39 rfl hvi.out) rfl ⟨T,HT,rfl,uw2⟩
def EvG.signed (e:EvG) (x:Nat):EvG:={ e with r:=(gP (nonceN x e.text):Int),s:=(sWith x (nonceN x e.text) e.text:Int) }
def MkEvR (E:EvG) (w:World) (e:Ending) (w':World):Prop:=∃ EW:Array Value,Hid (EW=E.V.toArray)∧e=.returned (.agg EW)∧Upd [] [] w w'
set_option maxHeartbeats 4000000 in
theorem sign30_any (ev:EvG) (he:ev.ok) (hxs:ev.x.size≤1000000) (x:Nat) (hx:x<1152921504606845789) (w:World):Calls Tryz.prog 77 #[.int .i64 (x:Int),.agg ev.V.toArray] w (MkEvR (ev.signed x) w):=by
 obtain ⟨EV,hEV⟩:∃ EV,EV=ev.V.toArray:=⟨_,rfl⟩
 have hp:ev.p.length=32:=he.2.2.2.2.2.1
 have HEV:=Lib.hid hEV
 have HEVI:Hid ((Tryz.prog.info? 66).map (·.size)=some EV.size):=by rw [hEV];exact EvG.info hp
 have HVL:Hid (EV.size=40):=by rw [hEV];exact EvG.V_len hp
 have HTX:=Lib.hid (fun W=>text30_any ev he (by omega) W)
 have hTL:ev.text.length≤1000250:=Nat.le_trans (EvG.text_len he (by omega)) (by omega)
 obtain ⟨g,hg⟩:∃ g,w.heap.size=g:=⟨_,rfl⟩
 obtain ⟨w0,hw0⟩:∃ w0,w.alloc (.cells EV 66)=w0:=⟨_,rfl⟩
 have r0:w0.heap[g]? =some (.cells EV 66 (0,0)):=by rw [← hg,← hw0];exact heap_alloc_new _ _
 have u0:Upd [] [] w w0:=by rw [← hw0];exact (Upd.refl _ _).alloc _
 obtain ⟨gR,hgR⟩:∃ g,w0.heap.size=g:=⟨_,rfl⟩
 obtain ⟨w1,hw1⟩:∃ W,w0.alloc (.cells #[.int .i64 0,.int .i64 0,.int .i64 0,.int .i64 0,.int .i64 0,.string ⟨#[]⟩,.int .u8 0,.int .u8 0,.int .u8 0,.int .u8 0,.int .u8 0,.int .u8 0,.int .u8 0,.int .u8 0,.int .u8 0,.int .u8 0,.int .u8 0,.int .u8 0,.int .u8 0,.int .u8 0,.int .u8 0,.int .u8 0,.int .u8 0,.int .u8 0,.int .u8 0,.int .u8 0,.int .u8 0,.int .u8 0,.int .u8 0,.int .u8 0,.int .u8 0,.int .u8 0,.int .u8 0,.int .u8 0,.int .u8 0,.int .u8 0,.int .u8 0,.int .u8 0,.int .i64 0,.int .i64 0] 66)=W:=⟨_,rfl⟩
 have r1:w1.heap[gR]? =some (.cells evZ.toArray 66 (0,0)):=by rw [← hgR,← hw1,zero_ev];exact heap_alloc_new _ _
 have u1:Upd [] [] w0 w1:=by rw [← hw1];exact (Upd.refl _ _).alloc _
 have hne:g<gR:=by rw [← hgR];exact blk_lt r0
 have R0:=Lib.hid (row_updH r0 u1)
 have R1:=Lib.hid r1
 have U1:=Lib.hid (u0.trans u1)
 have HG:=Lib.hid hg
 have HP:=Lib.hid hp
 have HTL:=Lib.hid hTL
 rw [← hEV] at HTX ⊢
 clear hEV r0 u0 r1 u1 he hxs hp hTL
 go_enter Tryz.func77,Tryz.ntmps77
 go_wp2_with (first | (refine wpList_load_row rfl 66 _ rfl g rfl _ EV _ _ R0.out Tryz.underlying66 rfl HEVI.out ?_))
 refine (HTX.out w1).mono ?_
 rintro e w2 ⟨T,HT,hT,rfl,hq⟩
 have R2:=Lib.hid (row_updH R0.out hq)
 have Q2:=Lib.hid (row_updH R1.out hq)
 have U2:=Lib.hid (U1.out.trans hq)
 have hts:T.size≤140737488355000:=by have:=HTL.out;omega
 clear hq R0 R1 U1 hT
 go_wp2_with fail
 refine (rsign_any (x:Int) T w2 ⟨by omega,by omega⟩ hts).mono ?_
 rintro e w3 ⟨a,b,HA,HB,ha,hb,rfl,hq⟩
 rw [HT.out,show expN (x:Int)=x from expN_of hx] at HA HB
 have R3:=Lib.hid (row_updH R2.out hq)
 have Q3:=Lib.hid (row_updH Q2.out hq)
 have U3:=Lib.hid (U2.out.trans hq)
 obtain ⟨SG,hSG⟩:∃ SG:Array Value,SG=#[.int .i64 (a:Int),.int .i64 (b:Int)]:=⟨_,rfl⟩
 rw [← hSG]
 have HSI:Hid ((Tryz.prog.info? 37).map (·.size)=some SG.size):=by rw [hSG];exact sigInfo _ _
 have HSO:Hid (SG.all (·.oneCell')=true):=by rw [hSG];exact sigOne _ _
 have TH:Hid (w3.there g 38 SG.size):=there_of_row R3.out (by rw [HVL.out,hSG];exact (by decide:38+2≤40))
 obtain ⟨w4,hw4⟩:∃ X,w3.setCells g 38 SG.toList=X:=⟨_,rfl⟩
 have E4:=heap_setCells g _ SG.toList 38 w3 _ R3.out
 rw [hw4] at E4
 obtain ⟨EW,hEW⟩:∃ EW,EW=(ev.signed x).V.toArray:=⟨_,rfl⟩
 have hfin:setAll EV 38 SG.toList=EW:=by
  have hA:([.int .i64 ev.q,.int .i64 ev.k,.int .i64 ev.h,.int .i64 ev.t,.int .i64 ev.n,.string ev.x] ++ byteVals ev.p:List Value).length=38:=by simp [byteVals,HP.out]
  have h:=setAll_mid [.int .i64 (a:Int),.int .i64 (b:Int)] ([.int .i64 ev.q,.int .i64 ev.k,.int .i64 ev.h,.int .i64 ev.t,.int .i64 ev.n,.string ev.x] ++ byteVals ev.p) [.int .i64 ev.r,.int .i64 ev.s] [] rfl
  rw [hA] at h
  rw [HEV.out,hSG,hEW]
  have e1:ev.V=([.int .i64 ev.q,.int .i64 ev.k,.int .i64 ev.h,.int .i64 ev.t,.int .i64 ev.n,.string ev.x] ++ byteVals ev.p) ++ ([.int .i64 ev.r,.int .i64 ev.s] ++ []):=by simp [EvG.V]
  have e2:(ev.signed x).V=([.int .i64 ev.q,.int .i64 ev.k,.int .i64 ev.h,.int .i64 ev.t,.int .i64 ev.n,.string ev.x] ++ byteVals ev.p) ++ ([.int .i64 (a:Int),.int .i64 (b:Int)] ++ []):=by
   rw [HA.out,HB.out]
   simp [EvG.V,EvG.signed]
  rw [e1,e2]
  exact h
 rw [hfin] at E4
 have HEWI:Hid ((Tryz.prog.info? 66).map (·.size)=some EW.size):=by rw [hEW];exact EvG.info HP.out
 have HEWO:Hid (EW.all (·.oneCell')=true):=by rw [hEW];exact EvG.one _
 have HEWZ:Hid (evZ.toArray.size=EW.size):=by show _=_;rw [hEW,evZ_len];exact (EvG.V_len (e:=ev.signed x) HP.out).symm
 have hgw:w.heap.size≤g:=Nat.le_of_eq HG.out
 have UX:=Upd.setCellsNew hgw SG.toList 38 _ U3.out
 rw [hw4] at UX
 have uS:Upd [g] [g] w3 w4:=by
  have h:=(Upd.setCellsIn (g:=g) (S:=[g]) (S':=[g]) (by simp) SG.toList 38 _ (Upd.refl [g] w3))
  rw [hw4] at h
  exact h
 have Q4:Hid (w4.heap[gR]? =some (.cells evZ.toArray 66 (0,0))):=(uS.block gR (blk_lt Q3.out) (by simp;omega)).trans Q3.out
 obtain ⟨w5,hw5⟩:∃ X,w4.setRow gR EW=X:=⟨_,rfl⟩
 have R5:(w4.setRow gR EW).heap[gR]? =some (.cells EW 66 (0,0)):=setRow_heap _ _ _ _ _ _ Q4.out
 rw [hw5] at R5
 have U5:=UX.setRowNew (show w.heap.size≤gR by omega) EW
 rw [hw5] at U5
 have HW4:=Lib.hid hw4
 have HW5:=Lib.hid hw5
 have E4H:=Lib.hid E4
 have HR5:=Lib.hid R5
 have HU5:=Lib.hid U5
 have HEWE:=Lib.hid hEW
 clear hq R2 Q2 U2 R3 Q3 hSG hw4 E4 hEW hfin UX uS hw5 R5 U5 hts
 go_wp2_with (first | (refine wpList_store_midAs rfl 37 _ _ rfl g 38 SG rfl rfl TH.out HSI.out HSO.out w4 HW4.out ?_) | (refine wpList_load_row rfl 66 _ rfl g rfl _ EW _ _ E4H.out Tryz.underlying66 rfl HEWI.out ?_) | (refine wpList_store_rowAs rfl 66 _ _ rfl gR EW rfl rfl _ _ Q4.out HEWI.out HEWZ.out HEWO.out w5 HW5.out ?_))
 exact bodyPost_ret (results_cell_row rfl _ _ gR _ EW _ _ rfl HR5.out Tryz.underlying66 rfl HEWI.out) rfl ⟨EW,HEWE,rfl,HU5.out⟩
def MkRVote (who x:Int) (t:ByteArray) (w:World) (e:Ending) (w':World):Prop :=
 ∃ r s:Nat,Hid (r=gP (nonceN (expN x) (bs t))∧s=sWith (expN x) (nonceN (expN x) (bs t)) (bs t))∧r<2305843009213691579∧s<1152921504606845789∧e=.returned (.agg #[.int .i64 who,.string t,.int .i64 (r:Int),.int .i64 (s:Int)])∧Upd [] [] w w'
theorem rvote5_any (who x:Int) (t:ByteArray) (w:World) (hx:-9223372036854775808≤x∧x≤9223372036854775807) (ht:t.size≤140737488355000) :
 Calls Tryz.prog 28 #[.int .i64 who,.int .i64 x,.string t] w (MkRVote who x t w):=by
 have rz:=heap_alloc_new w (.cells #[.int .i64 0,.string ByteArray.empty,.int .i64 0,.int .i64 0] 39)
 have uz:=(Upd.refl [] w).alloc (.cells #[.int .i64 0,.string ByteArray.empty,.int .i64 0,.int .i64 0] 39)
 go_enter Tryz.func28,Tryz.ntmps28
 go_wp2_with fail
 refine (rsign_any x t _ hx ht).mono ?_
 rintro e w1 ⟨r,s,HR,HS,hr,hs,rfl,hu⟩
 have rz1:=row_updH rz hu
 have f0:w1.frozen? ⟨w.heap.size,0,none⟩=false:=frozen_of_row _ _ _ _ _ rz1
 have f1:w1.frozen? ⟨w.heap.size,1,none⟩=false:=frozen_of_row _ _ _ _ _ rz1
 have f2:w1.frozen? ⟨w.heap.size,2,none⟩=false:=frozen_of_row _ _ _ _ _ rz1
 have f3:w1.frozen? ⟨w.heap.size,3,none⟩=false:=frozen_of_row _ _ _ _ _ rz1
 have k0:w1.cell? ⟨w.heap.size,0,none⟩=some (.int .i64 0):=by rw [cell_of_row _ _ _ _ _ _ rz1];rfl
 have k1:w1.cell? ⟨w.heap.size,1,none⟩=some (.string ByteArray.empty):=by rw [cell_of_row _ _ _ _ _ _ rz1];rfl
 have k2:w1.cell? ⟨w.heap.size,2,none⟩=some (.int .i64 0):=by rw [cell_of_row _ _ _ _ _ _ rz1];rfl
 have k3:w1.cell? ⟨w.heap.size,3,none⟩=some (.int .i64 0):=by rw [cell_of_row _ _ _ _ _ _ rz1];rfl
 clear rz rz1
 go_wp2_with fail
 refine bodyPost_ret (v:=.agg #[.int .i64 who,.string t,.int .i64 (r:Int),.int .i64 (s:Int)]) (by simp [results,Tryz.results28,go_sem,k0,k1,k2,k3]) rfl ⟨r,s,⟨HR.out,HS.out⟩,hr,hs,rfl,?_⟩
 exact (((((uz.trans hu).setNew (p:=⟨_,_,none⟩) (Nat.le_refl _) _).setNew (p:=⟨_,_,none⟩) (Nat.le_refl _) _).setNew (p:=⟨_,_,none⟩) (Nat.le_refl _) _).setNew (p:=⟨_,_,none⟩) (Nat.le_refl _) _)
def MkVt (E:EvG) (w:World) (e:Ending) (w':World):Prop:=∃ T:ByteArray,Hid (bs T=E.text)∧e=.returned (.agg #[.int .i64 E.h,.string T,.int .i64 E.r,.int .i64 E.s])∧Upd [] [] w w'
def vt4 (h:Int) (T:ByteArray) (r s:Int):Array Value:=#[.int .i64 h,.string T,.int .i64 r,.int .i64 s]
theorem vt4_info (h:Int) (T:ByteArray) (r s:Int):(Tryz.prog.info? 39).map (·.size)=some (vt4 h T r s).size:=by
 show _=some 4
 kernel_rfl
theorem vt4_one (h:Int) (T:ByteArray) (r s:Int):(vt4 h T r s).all (·.oneCell')=true:=by simp [vt4,Value.oneCell']
set_option maxHeartbeats 4000000 in
theorem rVote33_any (ev:EvG) (he:ev.ok) (hxs:ev.x.size≤1000000) (w:World):Calls Tryz.prog 31 #[.agg ev.V.toArray] w (MkVt ev w):=by
 obtain ⟨EV,hEV⟩:∃ EV,EV=ev.V.toArray:=⟨_,rfl⟩
 have hp:ev.p.length=32:=he.2.2.2.2.2.1
 have HTX:=Lib.hid (fun W=>text30_any ev he (by omega) W)
 obtain ⟨h,hh⟩:∃ h,h=ev.h:=⟨_,rfl⟩
 obtain ⟨r,hr⟩:∃ r,r=ev.r:=⟨_,rfl⟩
 obtain ⟨s,hs⟩:∃ s,s=ev.s:=⟨_,rfl⟩
 obtain ⟨g,hg⟩:∃ g,w.heap.size=g:=⟨_,rfl⟩
 obtain ⟨w0,hw0⟩:∃ w0,w.alloc (.cells EV 66)=w0:=⟨_,rfl⟩
 have r0:EgA w0 g ev:=by rw [← hg,← hw0,hEV];exact heap_alloc_new _ _
 have u0:Upd [] [] w w0:=by rw [← hw0];exact (Upd.refl _ _).alloc _
 obtain ⟨gR,hgR⟩:∃ g,w0.heap.size=g:=⟨_,rfl⟩
 obtain ⟨w1,hw1⟩:∃ W,w0.alloc (.cells #[.int .i64 0,.string ⟨#[]⟩,.int .i64 0,.int .i64 0] 39)=W:=⟨_,rfl⟩
 have r1:w1.heap[gR]? =some (.cells #[.int .i64 0,.string ⟨#[]⟩,.int .i64 0,.int .i64 0] 39 (0,0)):=by rw [← hgR,← hw1];exact heap_alloc_new _ _
 have u1:Upd [] [] w0 w1:=by rw [← hw1];exact (Upd.refl _ _).alloc _
 have HU:=Lib.hid (u0.trans u1)
 have e0:=r0.upd u1
 have HK:Hid (∀ W,EgA W g ev→W.cell? ⟨g,2,none⟩=some (.int .i64 h)∧(Instr.loadAt 66 (.pointer (some ⟨g,0,none⟩))).run Tryz.prog W=.ok (.agg EV) W∧(Instr.loadAt 37 (.pointer (some ⟨g,38,none⟩))).run Tryz.prog W=.ok (.agg #[.int .i64 r,.int .i64 s]) W):=by
  intro W e
  refine ⟨by rw [hh];exact e.cell 2,EvG.load hp hEV e,?_⟩
  rw [hr,hs]
  refine run_loadAt_mid W g 38 37 [.int .i64 ev.r,.int .i64 ev.s] _ (fun j v hv=>?_) Tryz.underlying37 rfl (sigInfo ev.r ev.s)
  match j,hv with
  | 0,hv=>simp at hv;subst hv;exact (e.cell 38).trans (EvG.at38 hp)
  | 1,hv=>simp at hv;subst hv;exact (e.cell 39).trans (EvG.at39 hp)
 have R1:=Lib.hid r1
 have E1:=Lib.hid e0
 have hne:g≠gR:=by have:=blk_lt r0;omega
 have HG:Hid (w.heap.size≤gR):=by have:=blk_lt r0;show _≤_;omega
 have ud0:Upd [] [] w1 w1.drew:=(Upd.refl _ _).drew
 have HF:Hid (∀ T,#[.int .i64 ev.h,.string T,.int .i64 ev.r,.int .i64 ev.s]=vt4 h T r s):=fun T=>by rw [hh,hr,hs];rfl
 rw [← hEV] at HTX ⊢
 clear hEV r0 u0 r1 u1 e0 hp he hxs hh hr hs
 go_enter Tryz.func31,Tryz.ntmps31
 go_upto_region 1 with (fail)
 refine wp_region_noPanic ?_
 refine wp_region_held_drew (S:=fun wp=>wp.cell? ⟨g,2,none⟩=some (.int .i64 h)∧(Instr.loadAt 66 (.pointer (some ⟨g,0,none⟩))).run Tryz.prog wp=.ok (.agg EV) wp∧(Instr.loadAt 37 (.pointer (some ⟨g,38,none⟩))).run Tryz.prog wp=.ok (.agg #[.int .i64 r,.int .i64 s]) wp) (by kernel_rfl) ?_ (fun hHeld=>?_)
 · exact HK.out _ (E1.out.upd ud0)
 refine tkY 0 hHeld ?_
 refine tkY 1 hHeld ?_
 refine tkL 2 hHeld EV (fun w hSw=>hSw.2.1) ?_
 refine tkY 4 hHeld ?_
 refine wpAnyH_take (i:=5) (v:=.agg (#[.int .i64 r,.int .i64 s]:Array Value)) (by simp only [List.getElem?_toArray,List.getElem?_cons_succ,List.getElem?_cons_zero] <;> rfl) (by kernel_rfl) (by kernel_rfl) (by kernel_rfl) (fun _ _ _ h=>h) (yieldsIf_loadW (by rfl) _ _ rfl _ rfl (#[.int .i64 r,.int .i64 s]:Array Value) (fun w hSw=>hSw.2.2)) hHeld ?_
 try simp only [Act.put,List.setIfInBounds_toArray,List.set_cons_zero,List.set_cons_succ]
 refine tk1 3 fun K hK=>?_
 go_simp;refine (HTX.out _).mono ?_;rintro e wv1 ⟨T,HT,_,rfl,hq⟩;have ud1:=ud0.trans hq;clear hq;have hvi:=Lib.hid (vt4_info h T r s);go_wp2_with fail
 refine tkK hK (HK.out _ (E1.out.upd ud1)) fun hHeld=>?_
 clear hK K
 refine tkY 6 hHeld ?_
 refine tk1 7 fun K hK=>?_
 rw [if_pos (by rfl)];refine wp_store_row 39 _ _ rfl gR (vt4 h T r s) rfl rfl _ _ (row_updH R1.out ud1) hvi.out rfl (vt4_one h T r s) ?_;obtain ⟨wv2,hwx⟩:∃ W':World,W'=wv1.setRow gR (vt4 h T r s):=⟨_,rfl⟩;have z2:Hid (wv2.heap[gR]? =some (.cells (vt4 h T r s) 39 (0,0))):=(by show _=_;rw [hwx];exact setRow_heap _ _ _ _ _ _ (row_updH R1.out ud1));have uw2:=(HU.out.trans ud1).setRowNew HG.out (vt4 h T r s);have e2:EgA wv2 g ev:=(by rw [hwx];exact row_setRowO (E1.out.upd ud1) hne _);rw [← hwx] at uw2 ⊢
 refine tkK hK (HK.out _ e2) fun hHeld=>?_
 clear hK K
 refine wpAnyH_done (by kernel_rfl) ?_ _
 refine NoPanic.normal ?_
 go_wp2_with fail
 refine bodyPost_ret (results_cell_row rfl _ _ gR _ (vt4 h T r s) _ _ rfl z2.out Tryz.underlying39 rfl hvi.out) rfl ⟨T,HT,?_,uw2⟩
 rw [HF.out]
def needN (t:Nat):Nat:=if t=0 then 0 else (t - 1) / 3+1
theorem needN_pos {t:Nat} (h:0<t):1≤needN t∧needN t≤t:=by
 unfold needN
 split <;> omega
def valN (l:List Nat) (x:Nat):Nat:=l.foldr (fun c s=>(s * x % Qn+c) % Qn) 0
def padB (key idx:Nat):List UInt8:=sha ([98,111,120,47] ++ Lib.itoa (key:Int) ++ [47] ++ Lib.itoa (idx:Int))
theorem padB_len (key idx:Nat):(padB key idx).length=32:=sha_length _
def boxL (y key idx:Nat):List UInt8:=List.zipWith (· ^^^ ·) (len8 y) ((padB key idx).take 8) ++ ((padB key idx).drop 8).take 8
theorem boxL_len (y key idx:Nat):(boxL y key idx).length=16:=by simp [boxL,len8_length,padB_len]
structure Dl where
 coms:List Nat
 point:Nat
 boxes:List (List UInt8)
def dealN (coefs keys:List Nat) (seed:List UInt8):Dl :=
 ⟨coefs.map gP,gP (scalN ([112,111,105,110,116,47] ++ seed)),(List.range keys.length).map fun i=>boxL (valN coefs (i+1)) (pP (keys.getD i 0) (scalN ([112,111,105,110,116,47] ++ seed))) i⟩
def coefL (i:Nat) (seed:List UInt8):List UInt8:=[99,111,101,102,102,105,99,105,101,110,116,32] ++ Lib.itoa (i:Int) ++ [32,111,102,32] ++ seed
def polyN (seed:List UInt8) (need:Nat):List Nat:=(List.range need).map fun i=>scalN (coefL i seed)
theorem polyN_len (seed:List UInt8) (need:Nat):(polyN seed need).length=need:=by simp [polyN]
theorem polyN_lt {seed:List UInt8} {need:Nat}:∀ c∈polyN seed need,c<Qn:=by
 intro c h
 simp only [polyN,List.mem_map] at h
 obtain ⟨i,_,rfl⟩:=h
 exact scalN_lt _
theorem dealN_coms (coefs keys:List Nat) (seed:List UInt8):(dealN coefs keys seed).coms.length=coefs.length:=by simp [dealN]
theorem dealN_boxes (coefs keys:List Nat) (seed:List UInt8):(dealN coefs keys seed).boxes.length=keys.length:=by simp [dealN]
theorem dealN_box {coefs keys:List Nat} {seed:List UInt8}:∀ b∈(dealN coefs keys seed).boxes,b.length=16:=by
 intro b h
 simp only [dealN,List.mem_map] at h
 obtain ⟨i,_,rfl⟩:=h
 exact boxL_len _ _ _
theorem dealN_com {coefs keys:List Nat} {seed:List UInt8}:∀ b∈(dealN coefs keys seed).coms,memN b:=by
 intro b h
 simp only [dealN,List.mem_map] at h
 obtain ⟨i,_,rfl⟩:=h
 exact gP_mem _
theorem dealN_point {coefs keys:List Nat} {seed:List UInt8}:memN (dealN coefs keys seed).point:=gP_mem _
end Go.Proofs.YtmjlkkbbnkanpaaGreatDoor

namespace Go.Proofs.YtmjlkkbbnkanpaaGreatDoor
structure Mem where
 id:Int
 weight:Int
 pub:Int
end Go.Proofs.YtmjlkkbbnkanpaaGreatDoor

namespace Go.Proofs.YtmjlkkbbnkanpaaGreatDoor
open Go.RowKit
set_option maxRecDepth 100000
def nxtN (l:List Int) (k n:Nat):Nat:=match l[k]? with
 | some x=>(x % (n:Int)).toNat
 | none=>0
theorem nxtN_lt (l:List Int) (k n:Nat) (hn:0<n):nxtN l k n<n:=by
 unfold nxtN
 split
 · have:=Int.emod_lt_of_pos (‹Int›) (show (0:Int)<n by omega)
   have:=Int.emod_nonneg (‹Int›) (show (n:Int)≠0 by omega)
   omega
 · exact hn
theorem nxtN_some {l:List Int} {k n:Nat} {x:Int} (h:l[k]? =some x) (hn:0<n):((nxtN l k n:Nat):Int)=x % (n:Int):=by
 unfold nxtN
 rw [h]
 have:=Int.emod_nonneg x (show (n:Int)≠0 by omega)
 show ((x % (n:Int)).toNat:Int)=_
 omega
theorem nxtN_none {l:List Int} {k n:Nat} (h:l.length≤k):nxtN l k n=0:=by
 unfold nxtN
 rw [List.getElem?_eq_none h]
def memSeed (i:Nat):List UInt8:=[109,101,109,98,101,114,32] ++ Lib.itoa (i:Int)
def secN (i:Nat):Nat:=keyN (memSeed (i+1))
def memC (i w:Nat):Mem:=⟨((i+1:Nat):Int),(w:Int),(gP (secN i):Int)⟩
def crewOf (ws:List Nat):List Mem:=(List.range ws.length).map fun i=>memC i (ws.getD i 0)
def secsOf (n:Nat):List Nat:=(List.range n).map secN
def manyN (l:List Int):Nat:=1+nxtN l 0 4
def wsN (l:List Int) (n:Nat):List Nat:=(List.range n).map fun i=>1+nxtN l (i+1) 3
def WsOk (ws:List Nat):Prop:=1≤ws.length∧ws.length≤4∧∀ w∈ws,1≤w∧w≤3
theorem wsN_ok (l:List Int):WsOk (wsN l (manyN l)):=by
 have h:=nxtN_lt l 0 4 (by omega)
 refine ⟨by simp [wsN,manyN],by simp [wsN,manyN];omega,fun w hw=>?_⟩
 simp only [wsN,List.mem_map] at hw
 obtain ⟨i,_,rfl⟩:=hw
 have:=nxtN_lt l (i+1) 3 (by omega)
 omega
theorem crewOf_get {ws:List Nat} {i w:Nat} (h:ws[i]? =some w):(crewOf ws)[i]? =some (memC i w):=by
 have hi:=(List.getElem?_eq_some_iff.1 h).1
 have e:ws.getD i 0=w:=by rw [List.getD_eq_getElem?_getD,h];rfl
 simp [crewOf,hi,← e]
theorem sum_le_of:∀ {ws:List Nat},(∀ w∈ws,w≤3)→ws.sum≤3 * ws.length
 | [],_=>by simp
 | w :: r,h=>by
  have:=sum_le_of (ws:=r) (fun x hx=>h x (by simp [hx]))
  have:=h w (by simp)
  simp
  omega
theorem WsOk.sum {ws:List Nat} (h:WsOk ws):1≤ws.sum∧ws.sum≤12:=by
 obtain ⟨h1,h2,h3⟩:=h
 have:=sum_le_of (fun w hw=>(h3 w hw).2)
 refine ⟨?_,by omega⟩
 match ws,h1 with
 | w :: r,_ =>
  have:=(h3 w (by simp)).1
  simp
  omega
def boxKeys (ws:List Nat):List Nat:=(List.range ws.length).flatMap fun i=>List.replicate (ws.getD i 0) (gP (secN i))
def startN (ws:List Nat) (i:Nat):Nat:=(ws.take i).sum
def ptsOf (ws:List Nat):List (List Nat):=(List.range ws.length).map fun i=>(List.range (ws.getD i 0)).map fun j=>startN ws i+j+1
theorem append_new {P:Program} (t e:TypeId) (i:TypeInfo) (z:Value) (size bytes:Nat) (ht:P.underlying t=some (.slice e)) (hi:P.info? e=some i) (hz:i.zero=some z) (hsize:i.size=size) (hby:i.bytes=bytes) (hzs:z.cells.size=size) (hsz:0<size) (hb:bytes≤1000)
 (wr:World) (v:Value) (k:Nat) (xs cs:List Value) (hcl:cs.length=size) (h1:∀ u∈cs,u.oneCell'=true) (hown:wr.ownsRow 0 e size v k xs) (hk:k≤1000000) :
 ∃ v' w',(Builtin.append_ #[t,t] t #[v,.slice (some ⟨wr.heap.size,0,none⟩) 1 1]).run P (wr.alloc (.cells cs.toArray e))=.ok v' w'∧w'.ownsRow 0 e size v' (k+1) (xs ++ cs)∧Upd (foot v) (foot v') wr w':=by
 have hrow:(wr.alloc (.cells cs.toArray e)).ownsRow 0 e size v k xs:=row_same hown (fun j hj=>Below.heap_alloc _ _ _ (row_foot_lt hown j hj))
 have hw1:(wr.alloc (.cells cs.toArray e)).heap[wr.heap.size]? =some (.cells cs.toArray e (0,0)):=heap_alloc_new _ _
 have hkb:(k+1) * bytes≤140737488355328:=Nat.le_trans (Nat.mul_le_mul (show k+1≤1000001 by omega) hb) (by decide)
 obtain ⟨v',w',hrun,hown',hup'⟩:=append_block (P:=P) (wr.alloc (.cells cs.toArray e)) t t e i z size bytes ht hi hz hsize hby hzs hsz v k xs hrow ⟨wr.heap.size,0,none⟩ 1 1 cs (by rw [hcl,Nat.one_mul]) (by
  intro j u hj
  have e':(⟨wr.heap.size,0,none⟩:Addr).add j=⟨wr.heap.size,j,none⟩:=by simp [Addr.add];exact fun h=>h.symm
  rw [e',cell_of_row _ _ _ _ _ _ hw1,List.getElem?_toArray]
  exact hj) h1 hkb (by simp only [maxLen];omega)
 exact ⟨v',w',hrun,hown',((Upd.refl _ _).alloc _).trans hup'⟩
theorem off_step {u u':Value} {w2 w3:World} (hA:Upd (foot u) (foot u') w2 w3) {x:Nat} (hx:x<w2.heap.size) (hn:x ∉ foot u):x<w3.heap.size∧x ∉ foot u'∧w3.heap[x]? =w2.heap[x]?:=by
 refine ⟨Nat.lt_of_lt_of_le hx hA.size,fun h=>?_,hA.block x hx hn⟩
 rcases hA.new x h with h | h
 · exact hn h
 · omega
theorem Sl.of_digs {w:World} {v:Value} {l:List Nat} {n:Nat} (hn:l.length=n) (h:w.ownsRow 0 3 1 v n (digVals l)):Sl w v l:=by
 subst hn
 exact Sl.of_row h
def DsIs (w:World) (F:List Nat) (ds:List Dl) (cb:List (Value × Value)):Prop :=
 cb.length=ds.length∧∀ (k:Nat) d p,ds[k]? =some d→cb[k]? =some p→w.ownsRow 0 3 1 p.1 d.coms.length (digVals d.coms)∧StrRow w p.2 d.boxes∧∀ x,x∈foot p.1∨x∈foot p.2→x<w.heap.size∧x ∉ F
theorem DsIs.nil (w:World) (F:List Nat):DsIs w F [] []:=⟨rfl,fun k d p h _=>by simp at h⟩
theorem DsIs.keep {w w':World} {F F':List Nat} {ds:List Dl} {cb:List (Value × Value)} (h:DsIs w F ds cb) (hs:∀ x,x<w.heap.size→x ∉ F→x<w'.heap.size∧x ∉ F'∧w'.heap[x]? =w.heap[x]?):DsIs w' F' ds cb:=by
 refine ⟨h.1,fun k d p hd hp=>?_⟩
 obtain ⟨h1,h2,h3⟩:=h.2 k d p hd hp
 exact ⟨row_same h1 (fun x hx=>(hs x (h3 x (.inl hx)).1 (h3 x (.inl hx)).2).2.2),StrRow.same h2 (fun x hx=>(hs x (h3 x (.inr hx)).1 (h3 x (.inr hx)).2).2.2),fun x hx=>⟨(hs x (h3 x hx).1 (h3 x hx).2).1,(hs x (h3 x hx).1 (h3 x hx).2).2.1⟩⟩
theorem DsIs.snoc {w:World} {F:List Nat} {ds:List Dl} {cb:List (Value × Value)} {d:Dl} {c b:Value} (h:DsIs w F ds cb) (hc:w.ownsRow 0 3 1 c d.coms.length (digVals d.coms)) (hb:StrRow w b d.boxes) (hf:∀ x,x∈foot c∨x∈foot b→x<w.heap.size∧x ∉ F):DsIs w F (ds ++ [d]) (cb ++ [(c,b)]):=by
 refine ⟨by simp [h.1],fun k d' p hd hp=>?_⟩
 rcases Nat.lt_or_ge k ds.length with hk | hk
 · rw [List.getElem?_append_left hk] at hd
   rw [List.getElem?_append_left (by rw [h.1];exact hk)] at hp
   exact h.2 k d' p hd hp
 · rw [List.getElem?_append_right hk] at hd
   rw [List.getElem?_append_right (by rw [h.1];exact hk),h.1] at hp
   have hk0:k - ds.length=0:=by
    have:=(List.getElem?_eq_some_iff.1 hd).1
    simp at this
    omega
   rw [hk0] at hd hp
   simp at hd hp
   subst hd
   subst hp
   exact ⟨hc,hb,hf⟩
def dlVals:List Dl→List (Value × Value)→List Value
 | d :: ds,p :: cb=>p.1 :: .int .i64 (d.point:Int) :: p.2 :: dlVals ds cb
 | _,_=>[]
theorem dlVals_snoc:∀ {ds:List Dl} {cb:List (Value × Value)} (d:Dl) (p:Value × Value),cb.length=ds.length→dlVals (ds ++ [d]) (cb ++ [p])=dlVals ds cb ++ [p.1,.int .i64 (d.point:Int),p.2]
 | [],[],_,_,_=>rfl
 | a :: ds,q :: cb,d,p,h=>by
  have:=dlVals_snoc (ds:=ds) (cb:=cb) d p (by simpa using h)
  simp [dlVals,this]
 | [],_ :: _,_,_,h=>by simp at h
 | _ :: _,[],_,_,h=>by simp at h
theorem dlVals_get:∀ {ds:List Dl} {cb:List (Value × Value)} (k:Nat) (d:Dl) (p:Value × Value),ds[k]? =some d→cb[k]? =some p→(dlVals ds cb)[k * 3]? =some p.1∧(dlVals ds cb)[k * 3+1]? =some (.int .i64 (d.point:Int))∧(dlVals ds cb)[k * 3+2]? =some p.2
 | a :: ds,q :: cb,0,d,p,h,h'=>by
  simp at h h'
  subst h
  subst h'
  exact ⟨rfl,rfl,rfl⟩
 | a :: ds,q :: cb,k+1,d,p,h,h'=>by
  have:=dlVals_get (ds:=ds) (cb:=cb) k d p (by simpa using h) (by simpa using h')
  have e:(k+1) * 3=k * 3+3:=by omega
  rw [e]
  simpa [dlVals] using this
 | [],_,_,_,_,h,_=>by simp at h
 | _ :: _,[],_,_,_,_,h=>by simp at h
def MbsIn (w:World) (ao:Option Addr) (l:List Mem):Prop:=∀ (k:Nat) m,l[k]? =some m→∃ g,ao=some ⟨g,0,none⟩∧g<w.heap.size∧w.cell? ⟨g,k * 3,none⟩=some (.int .i64 m.id)∧w.cell? ⟨g,k * 3+1,none⟩=some (.int .i64 m.weight)∧w.cell? ⟨g,k * 3+2,none⟩=some (.int .i64 m.pub)
theorem MbsIn.upd {w w':World} {ao:Option Addr} {l:List Mem} (h:MbsIn w ao l) (u:Upd [] [] w w'):MbsIn w' ao l:=by
 intro k m hm
 obtain ⟨g,e,hg,h0,h1,h2⟩:=h k m hm
 have hb:=u.block g hg (by simp)
 exact ⟨g,e,Nat.lt_of_lt_of_le hg u.size,(World.cell?_of_block (a:=⟨g,_,none⟩) hb).trans h0,(World.cell?_of_block (a:=⟨g,_,none⟩) hb).trans h1,(World.cell?_of_block (a:=⟨g,_,none⟩) hb).trans h2⟩
theorem mb_load {id wt pub:Int} {g o:Nat} {W:World} (h0:W.cell? ⟨g,o,none⟩=some (.int .i64 id)) (h1:W.cell? ⟨g,o+1,none⟩=some (.int .i64 wt)) (h2:W.cell? ⟨g,o+2,none⟩=some (.int .i64 pub)):(Instr.loadAt 52 (.pointer (some ⟨g,o,none⟩))).run Tryz.prog W=.ok (.agg #[.int .i64 id,.int .i64 wt,.int .i64 pub]) W :=
 run_loadAt_mid W g o 52 [.int .i64 id,.int .i64 wt,.int .i64 pub] _ (fun j v hv=>by
  match j,hv with
  | 0,hv=>simp at hv;subst hv;exact h0
  | 1,hv=>simp at hv;subst hv;exact h1
  | 2,hv=>simp at hv;subst hv;exact h2) Tryz.underlying52 rfl (by show _=some 3;kernel_rfl)
theorem MbsIn.row {w:World} {ao:Option Addr} {l:List Mem} (h:MbsIn w ao l) {i:Nat} {id wt pub:Int} (hi:l[i]? =some ⟨id,wt,pub⟩):∃ g,ao=some ⟨g,0,none⟩∧g<w.heap.size∧∀ W,Upd [] [] w W→(Instr.loadAt 52 (.pointer (some ⟨g,i * 3,none⟩))).run Tryz.prog W=.ok (.agg #[.int .i64 id,.int .i64 wt,.int .i64 pub]) W:=by
 obtain ⟨g,e,hg,h0,h1,h2⟩:=h i _ hi
 refine ⟨g,e,hg,fun W u=>?_⟩
 have hb:=u.block g hg (by simp)
 exact mb_load ((World.cell?_of_block (a:=⟨g,_,none⟩) hb).trans h0) ((World.cell?_of_block (a:=⟨g,_,none⟩) hb).trans h1) ((World.cell?_of_block (a:=⟨g,_,none⟩) hb).trans h2)
def memIdx (who:Int) (l:List Mem):Option Nat:=l.findIdx? (·.id == who)
def idxV (o:Option Nat):Int:=match o with
 | some i=>(i:Int)
 | none=>-1
theorem most8_any (t:Nat) (w:World) (h1:1≤t) (h2:t≤1000):Calls Tryz.prog 119 #[.int .i64 (t:Int)] w (Ret (.int .i64 (((t - 1) / 3:Nat):Int)) w):=by
 obtain ⟨q,hq⟩:∃ q,q=t / 3:=⟨_,rfl⟩
 obtain ⟨m,hm⟩:∃ m,m=(t - 1) / 3:=⟨_,rfl⟩
 rw [← hm]
 have e1:(t:Int).tdiv 3=(q:Int):=by rw [Int.tdiv_eq_ediv_of_nonneg (by omega)];omega
 have e2:(t:Int) / 3=(q:Int):=by omega
 have hqm:3 * q≤t∧t≤3 * q+2∧3 * m+1≤t∧t≤3 * m+3:=by omega
 clear hq hm
 go_enter Tryz.func119,Tryz.ntmps119
 go_wp2_with fail
 go_loopw [3] (fun i wr=>∃ k:Nat,i=.int .i64 (k:Int)∧k≤m∧wr=w) (fun i _=>m - (intOf i).toNat)
 case atStart=>exact ⟨0,rfl,Nat.zero_le _,(by first | trivial | rfl)⟩
 case round =>
  obtain ⟨k,rfl,hk,rfl⟩:=hrel
  by_cases hlt:k<m
  · have d1:(1:Int)≤(t:Int):=by omega
    have d2:(k:Int)<(q:Int)+1:=by omega
    have d3:3 * ((k:Int)+1)<(t:Int):=by omega
    go_wp2_with fail
    exact ⟨⟨k+1,by go_num,by omega,(by first | trivial | rfl)⟩,by simp [intOf];omega⟩
  · obtain rfl:k=m:=by omega
    have d1:(1:Int)≤(t:Int):=by omega
    have d2:(k:Int)<(q:Int)+1:=by omega
    have d3:¬ 3 * ((k:Int)+1)<(t:Int):=by omega
    go_wp2_with fail
    go_ret
    exact ⟨rfl,rfl⟩
theorem need8_any (t:Nat) (w:World) (h1:1≤t) (h2:t≤1000):Calls Tryz.prog 54 #[.int .i64 (t:Int)] w (Ret (.int .i64 (needN t:Int)) w):=by
 have HN:Hid (needN t=(t - 1) / 3+1):=by
  show _=_
  unfold needN
  rw [if_neg (by omega)]
 have HM:=Lib.hid (most8_any t w h1 h2)
 obtain ⟨m,hm⟩:∃ m,m=(t - 1) / 3:=⟨_,rfl⟩
 rw [← hm] at HM HN
 have hm2:m≤1000:=by omega
 clear hm
 go_enter Tryz.func54,Tryz.ntmps54
 go_wp2_with fail
 refine HM.out.mono ?_
 rintro e w' ⟨rfl,rfl⟩
 go_wp2_with fail
 go_ret
 exact ⟨by rw [HN.out];first | rfl | simp,rfl⟩
def CrewAt (w:World) (v:Value) (ws:List Nat):Prop:=∃ ao cap,v=.slice ao ws.length cap∧ws.length≤cap∧cap≤9223372036854775807∧MbsIn w ao (crewOf ws)
theorem CrewAt.upd {w w':World} {v:Value} {ws:List Nat} (h:CrewAt w v ws) (u:Upd [] [] w w'):CrewAt w' v ws:=by
 obtain ⟨ao,cap,e,h1,h2,h3⟩:=h
 exact ⟨ao,cap,e,h1,h2,h3.upd u⟩
theorem sum_take_succ {ws:List Nat} {k x:Nat} (h:ws[k]? =some x):(ws.take (k+1)).sum=(ws.take k).sum+x:=by
 rw [List.take_add_one,h]
 simp
theorem sum_take_le (ws:List Nat) (k:Nat):(ws.take k).sum≤ws.sum:=by
 have h:=List.take_append_drop k ws
 have:ws.sum=(ws.take k).sum+(ws.drop k).sum:=by rw [← List.sum_append,h]
 omega
set_option maxHeartbeats 1000000 in
theorem total8_any (v:Value) (ws:List Nat) (w:World) (hw:WsOk ws) (h:CrewAt w v ws):Calls Tryz.prog 55 #[v] w (Mk (.int .i64 (ws.sum:Int)) w):=by
 obtain ⟨ao,cap,rfl,h1,h2,h3⟩:=h
 have HM:=Lib.hid h3
 have HW:=Lib.hid hw
 have HT:=Lib.hid (sum_take_le ws)
 have hs:=hw.sum.2
 obtain ⟨n,hn⟩:∃ n,n=ws.length:=⟨_,rfl⟩
 have HN:=Lib.hid hn
 have hn1:1≤n:=by rw [hn];exact hw.1
 have hn4:n≤4:=by rw [hn];exact hw.2.1
 rw [← hn] at h1 ⊢
 obtain ⟨S,hS⟩:∃ S,S=ws.sum:=⟨_,rfl⟩
 rw [← hS] at hs HT ⊢
 have HS:=Lib.hid hS
 clear hn h3 hw hS
 go_enter Tryz.func55,Tryz.ntmps55
 go_wp2_with fail
 go_loopw [3,4,5] (fun s i _ wr=>∃ (k r:Nat),s=.int .i64 (r:Int)∧i=.int .i64 (k:Int)∧k≤n∧r≤S∧Hid (r=(ws.take k).sum)∧Hid (Upd [] [] w wr)) (fun _ i _ _=>n - (intOf i).toNat)
 case atStart=>exact ⟨0,0,rfl,rfl,Nat.zero_le _,Nat.zero_le _,rfl,Upd.refl _ _⟩
 case round =>
  obtain ⟨k,r,rfl,rfl,hk,hr,HR,HU⟩:=hrel
  by_cases hlt:k<n
  · obtain ⟨x,hx⟩:∃ x,ws[k]? =some x:=⟨_,List.getElem?_eq_getElem (by rw [← HN.out];exact hlt)⟩
    have hx1:=HW.out.2.2 x (List.mem_of_getElem? hx)
    obtain ⟨g,rfl,hg,c0,c1,c2⟩:=(HM.out.upd HU.out) k _ (crewOf_get hx)
    dsimp only [memC] at c0 c1 c2
    have hstep:=sum_take_succ hx
    rw [← HR.out] at hstep
    have hle:=HT.out (k+1)
    rw [hstep] at hle
    have HST:=Lib.hid hstep
    have x1:(1:Int)≤(x:Int):=by omega
    have x2:(x:Int)≤3:=by omega
    have i0:(0:Int)≤(k:Int):=by omega
    have i1:(k:Int)<(n:Int):=by omega
    clear hx hstep c2
    go_wp2_with fail
    go_loopw [5] (fun i wr'=>∃ j:Nat,i=.int .i64 (j:Int)∧j≤k∧Hid (Upd [] [] wr wr')) (fun i _=>k - (intOf i).toNat)
    case atStart=>exact ⟨0,rfl,Nat.zero_le _,Upd.refl _ _⟩
    case round =>
     obtain ⟨j,rfl,hj,HV⟩:=hrel
     by_cases hjk:j<k
     · obtain ⟨y,hy⟩:∃ y,ws[j]? =some y:=⟨_,List.getElem?_eq_getElem (by rw [← HN.out];omega)⟩
       obtain ⟨g',e',hg',b0,b1,b2⟩:=(HM.out.upd (HU.out.trans HV.out)) j _ (crewOf_get hy)
       injection e' with e'
       injection e' with e' _ _
       subst e'
       dsimp only [memC] at b0
       have c0':=(HV.out.cell (p:=⟨g,k * 3,none⟩) hg (by simp)).trans c0
       have hne:((j:Int)+1 == (k:Int)+1)=false:=by rw [beq_eq_false_iff_ne];omega
       have j0:(0:Int)≤(j:Int):=by omega
       have j1:(j:Int)<(n:Int):=by omega
       clear hy b1 b2
       go_upto_region 12 with (fail)
       go_quiet (fail)
       have HVQ:=Lib.hid (HV.out.drewN nq)
       clear b0 c0' HV
       generalize wr.drewN nq=wr2 at *
       go_wp2_with fail
       exact ⟨⟨j+1,by go_num,by omega,HVQ.out⟩,by simp [intOf];omega⟩
     · obtain rfl:j=k:=by omega
       have c1':=(HV.out.cell (p:=⟨g,j * 3+1,none⟩) hg (by simp)).trans c1
       clear c1 c0
       go_wp2_with fail
       exact ⟨⟨j+1,r+x,by go_num,by go_num,by omega,by omega,HST.out.symm,HU.out.trans HV.out⟩,by simp [intOf];omega⟩
  · obtain rfl:k=n:=by omega
    have HE:Hid (r=S):=by
     show _=_
     rw [HR.out,HS.out,HN.out,List.take_length]
    have hr60:(r:Int)≤60:=by omega
    go_wp2_with fail
    go_ret
    exact ⟨by rw [HE.out];rfl,HU.out⟩
end Go.Proofs.YtmjlkkbbnkanpaaGreatDoor
