/- court.formWrong, isLock, formTwoLocks and what follows. -/
import Derived.Test.YtheobkejohifaaaGreatDoorHAA
import Derived.Test.YtheobkejohifaaaGreatDoorHBA
import Derived.Test.YtheobkejohifaaaGreatDoorHAX
import Derived.Test.YtheobkejohifaaaGreatDoorHAE
import Derived.Test.YtheobkejohifaaaGreatDoorHAN
import Derived.Shelf.Strings.BuilderK
namespace Go.Proofs.YtheobkejohifaaaGreatDoor
open Go.RowKit
set_option maxRecDepth 100000
def pcP (P:Bool→Prop) (w:World) (e:Ending) (w':World):Prop:=∃ b:Bool,Hid (P b)∧e=.returned (.bool b)∧Upd [] [] w w'
section
variable {M : Array Value} {aw ar as' bw br bs' low high id pub : Int} {aT bT F A B : ByteArray}
set_option maxHeartbeats 4000000 in
theorem pg1 (h:MtIs M aw aT ar as' bw bT br bs' low high F A B id pub) (ht:aT.size≤900000) (w:World) (htab:Tabs w) :
 Calls Tryz.prog 94 #[.agg M] w (pcP (fun b=>b=true ↔ ∃ ev ep x v c z,pdP (bs aT) ev ep x v c z) w):=by
 obtain ⟨g,hg⟩:∃ g,w.heap.size=g:=⟨_,rfl⟩
 obtain ⟨w0,hw0⟩:∃ W,w.alloc (.cells M 103)=W:=⟨_,rfl⟩
 have r0:=Lib.hid (show w0.heap[g]? =some (.cells M 103 (0,0)) by rw [← hg,← hw0];exact heap_alloc_new _ _)
 have u0:=Lib.hid (show Upd [] [] w w0 by rw [← hw0];exact (Upd.refl _ _).alloc _)
 have c1:=(cell_of_row _ g 9 _ _ _ r0.out).trans h.a1
 have HP:=Lib.hid (pfs aT ht w0 (htab.upd u0.out))
 clear h
 go_enter Tryz.func94,Tryz.ntmps94
 go_wp2_with fail
 refine HP.out.mono ?_
 rintro e w1 ⟨EV,ep,x,v,c,z,ok,HI,HR,rfl,hq⟩
 obtain ⟨PV,hPV⟩:∃ PV:Array Value,PV=#[.int .i64 x,.int .i64 v,.int .i64 c,.int .i64 z]:=⟨_,rfl⟩
 rw [← hPV]
 have U1:=Lib.hid (u0.out.trans hq)
 obtain ⟨gE,hgE⟩:∃ g,w1.heap.size=g:=⟨_,rfl⟩
 obtain ⟨w2,hw2⟩:∃ W,w1.alloc (.cells #[.int .i64 0,.int .i64 0,.int .i64 0,.int .i64 0,.int .i64 0,.string ⟨#[]⟩,.int .u8 0,.int .u8 0,.int .u8 0,.int .u8 0,.int .u8 0,.int .u8 0,.int .u8 0,.int .u8 0,.int .u8 0,.int .u8 0,.int .u8 0,.int .u8 0,.int .u8 0,.int .u8 0,.int .u8 0,.int .u8 0,.int .u8 0,.int .u8 0,.int .u8 0,.int .u8 0,.int .u8 0,.int .u8 0,.int .u8 0,.int .u8 0,.int .u8 0,.int .u8 0,.int .u8 0,.int .u8 0,.int .u8 0,.int .u8 0,.int .u8 0,.int .u8 0,.int .i64 0,.int .i64 0] 53)=W:=⟨_,rfl⟩
 have HEZ:Hid ((#[.int .i64 0,.int .i64 0,.int .i64 0,.int .i64 0,.int .i64 0,.string ⟨#[]⟩,.int .u8 0,.int .u8 0,.int .u8 0,.int .u8 0,.int .u8 0,.int .u8 0,.int .u8 0,.int .u8 0,.int .u8 0,.int .u8 0,.int .u8 0,.int .u8 0,.int .u8 0,.int .u8 0,.int .u8 0,.int .u8 0,.int .u8 0,.int .u8 0,.int .u8 0,.int .u8 0,.int .u8 0,.int .u8 0,.int .u8 0,.int .u8 0,.int .u8 0,.int .u8 0,.int .u8 0,.int .u8 0,.int .u8 0,.int .u8 0,.int .u8 0,.int .u8 0,.int .i64 0,.int .i64 0]:Array Value).size=EV.size):=by show _=_;rw [paz];exact HI.out.2.2
 have rE2:w2.heap[gE]? =some (.cells #[.int .i64 0,.int .i64 0,.int .i64 0,.int .i64 0,.int .i64 0,.string ⟨#[]⟩,.int .u8 0,.int .u8 0,.int .u8 0,.int .u8 0,.int .u8 0,.int .u8 0,.int .u8 0,.int .u8 0,.int .u8 0,.int .u8 0,.int .u8 0,.int .u8 0,.int .u8 0,.int .u8 0,.int .u8 0,.int .u8 0,.int .u8 0,.int .u8 0,.int .u8 0,.int .u8 0,.int .u8 0,.int .u8 0,.int .u8 0,.int .u8 0,.int .u8 0,.int .u8 0,.int .u8 0,.int .u8 0,.int .u8 0,.int .u8 0,.int .u8 0,.int .u8 0,.int .i64 0,.int .i64 0] 53 (0,0)):=by rw [← hgE,← hw2];exact heap_alloc_new _ _
 obtain ⟨gQ,hgQ⟩:∃ g,w2.heap.size=g:=⟨_,rfl⟩
 obtain ⟨w3,hw3⟩:∃ W,w2.alloc (.cells #[.int .i64 0,.int .i64 0,.int .i64 0,.int .i64 0] 40)=W:=⟨_,rfl⟩
 have q2:Upd [] [] w1 w2:=by rw [← hw2];exact (Upd.refl _ _).alloc _
 have q3:Upd [] [] w2 w3:=by rw [← hw3];exact (Upd.refl _ _).alloc _
 have rE3:=Lib.hid (paa rE2 q3)
 have rQ3:w3.heap[gQ]? =some (.cells #[.int .i64 0,.int .i64 0,.int .i64 0,.int .i64 0] 40 (0,0)):=by rw [← hgQ,← hw3];exact heap_alloc_new _ _
 have hne:gQ≠gE:=by have:=pag rE2;omega
 obtain ⟨w4,hw4⟩:∃ W,w3.setRow gE EV=W:=⟨_,rfl⟩
 have rQ4:Hid (w4.heap[gQ]? =some (.cells #[.int .i64 0,.int .i64 0,.int .i64 0,.int .i64 0] 40 (0,0))):=by show _=_;rw [← hw4];exact pal rQ3 hne _
 obtain ⟨w5,hw5⟩:∃ W,w4.setRow gQ PV=W:=⟨_,rfl⟩
 have HW4:=Lib.hid hw4
 have HW5:=Lib.hid hw5
 have U5:Hid (Upd [] [] w w5):=by
  show Upd _ _ _ _
  rw [← hw5,← hw4]
  have:=U1.out.size
  have:=q2.size
  exact (((U1.out.trans q2).trans q3).setRowNew (by omega) _).setRowNew (by omega) _
 have HQI:Hid ((Tryz.prog.info? 40).map (·.size)=some PV.size):=by rw [hPV];exact pcb _ _ _ _
 have HQO:Hid (PV.all (·.oneCell')=true):=by rw [hPV];exact pdQ _ _ _ _
 have HQZ:Hid ((#[.int .i64 0,.int .i64 0,.int .i64 0,.int .i64 0]:Array Value).size=PV.size):=by rw [hPV];rfl
 clear hq HP c1 hPV rE2 rQ3 q2 q3 hw4 hw5 hne
 go_wp2_with (first | (refine wpList_store_rowAs rfl 53 _ _ rfl gE EV rfl rfl _ _ rE3.out HI.out.1 HEZ.out HI.out.2.1 w4 HW4.out ?_) | (refine wpList_store_rowAs rfl 40 _ _ rfl gQ PV rfl rfl _ _ rQ4.out HQI.out HQZ.out HQO.out w5 HW5.out ?_))
 go_ret
 refine ⟨ok,?_,rfl,U5.out⟩
 show ok=true ↔ _
 rcases HR.out with ⟨h,ev,_,hp⟩ | ⟨h,hn⟩
 · exact ⟨fun _=>⟨ev,ep,x,v,c,z,hp⟩,fun _=>h⟩
 · exact ⟨(fun hk=>by rw [h] at hk;cases hk),fun ⟨ev,ep,x,v,c,z,hp⟩=>absurd hp (hn ev ep x v c z)⟩
end
def pb3 (l:List UInt8) (ev:EvG):Prop:=pan (preE ++ l) ev∧ev.k=4
def prK (l:List UInt8) (w:World) (e:Ending) (w':World):Prop :=
 ∃ (EV:Array Value) (b:Bool),Hid ((Tryz.prog.info? 53).map (·.size)=some EV.size∧EV.all (·.oneCell')=true∧evZ.toArray.size=EV.size)∧Hid ((b=true∧∃ ev,pb3 l ev∧EV=ev.V.toArray)∨(b=false∧∀ ev,¬ pb3 l ev))∧e=.returned (.tuple #[.agg EV,.bool b])∧Upd [] [] w w'
set_option maxHeartbeats 4000000 in
theorem pc6 (T:ByteArray) (hT:T.size≤900000) (w:World) (htab:Tabs w):Calls Tryz.prog 151 #[.string T] w (prK (bs T) w):=by
 obtain ⟨gR,hgR⟩:∃ g,w.heap.size=g:=⟨_,rfl⟩
 obtain ⟨w0,hw0⟩:∃ W,w.alloc (.cells #[.int .i64 0,.int .i64 0,.int .i64 0,.int .i64 0,.int .i64 0,.string ⟨#[]⟩,.int .u8 0,.int .u8 0,.int .u8 0,.int .u8 0,.int .u8 0,.int .u8 0,.int .u8 0,.int .u8 0,.int .u8 0,.int .u8 0,.int .u8 0,.int .u8 0,.int .u8 0,.int .u8 0,.int .u8 0,.int .u8 0,.int .u8 0,.int .u8 0,.int .u8 0,.int .u8 0,.int .u8 0,.int .u8 0,.int .u8 0,.int .u8 0,.int .u8 0,.int .u8 0,.int .u8 0,.int .u8 0,.int .u8 0,.int .u8 0,.int .u8 0,.int .u8 0,.int .i64 0,.int .i64 0] 53)=W:=⟨_,rfl⟩
 have r0:=Lib.hid (show w0.heap[gR]? =some (.cells evZ.toArray 53 (0,0)) by rw [← hgR,← hw0,paz];exact heap_alloc_new _ _)
 have u0:=Lib.hid (show Upd [] [] w w0 by rw [← hw0];exact (Upd.refl _ _).alloc _)
 have HGR:Hid (w.heap.size≤gR):=Nat.le_of_eq hgR
 have HEV:=Lib.hid (ph1 T (by omega) w0 (htab.upd u0.out))
 have HL2:Hid ((preE ++ bs T).length≤1000000):=by show _≤_;rw [List.length_append,pac];have:preE.length=4:=rfl;omega
 clear hT
 go_enter Tryz.func151,Tryz.ntmps151
 go_wp2_with fail
 refine HEV.out.mono ?_
 rintro e w1 ⟨EV,b,HE,rfl,hq⟩
 have HEI:=Lib.hid HE.out.info.1
 have HEO:=Lib.hid HE.out.info.2.1
 have HES:=Lib.hid HE.out.info.2.2
 obtain ⟨w2,Z2,W2,R2,hq2⟩:=paC w1 53 evZ.toArray EV
 rw [← paz] at Z2 W2
 obtain ⟨gE,hgE⟩:∃ g,w1.heap.size=g:=⟨_,rfl⟩
 rw [hgE] at Z2 W2 R2
 have r2:=Lib.hid (paa (paa r0.out hq) hq2)
 have U2:=Lib.hid ((u0.out.trans hq).trans hq2)
 have ud0:Upd [] [] w2 w2.drew:=(Upd.refl _ _).drew
 have RE:=Lib.hid (paa R2.out ud0)
 have RR:=Lib.hid (paa r2.out ud0)
 have HKU:=Lib.hid (U2.out.trans ud0)
 obtain ⟨wF,hwF⟩:∃ W,w2.drew.setRow gR EV=W:=⟨_,rfl⟩
 have RF:Hid (wF.heap[gR]? =some (.cells EV 53 (0,0))):=by show _=_;rw [← hwF];exact setRow_heap _ _ _ _ _ _ RR.out
 have REF:Hid (wF.heap[gE]? =some (.cells EV 53 (0,0))):=by
  show _=_
  rw [← hwF]
  exact pal RE.out (by have:=pag (paa r0.out hq);omega) _
 have UF:Hid (Upd [] [] w wF):=by show Upd _ _ _ _;rw [← hwF];exact HKU.out.setRowNew HGR.out _
 have HWF:=Lib.hid hwF
 have HZZ:Hid ((#[.int .i64 0,.int .i64 0,.int .i64 0,.int .i64 0,.int .i64 0,.string ⟨#[]⟩,.int .u8 0,.int .u8 0,.int .u8 0,.int .u8 0,.int .u8 0,.int .u8 0,.int .u8 0,.int .u8 0,.int .u8 0,.int .u8 0,.int .u8 0,.int .u8 0,.int .u8 0,.int .u8 0,.int .u8 0,.int .u8 0,.int .u8 0,.int .u8 0,.int .u8 0,.int .u8 0,.int .u8 0,.int .u8 0,.int .u8 0,.int .u8 0,.int .u8 0,.int .u8 0,.int .u8 0,.int .u8 0,.int .u8 0,.int .u8 0,.int .u8 0,.int .u8 0,.int .i64 0,.int .i64 0]:Array Value).size=EV.size):=by show _=_;rw [paz];exact HES.out
 clear hq hq2 HEV r0 hw0 hgR hwF
 cases b with
 | false =>
  have HNO:Hid (∀ ev,¬ pb3 (bs T) ev):=fun ev h=>by
   rcases HE.out with ⟨h1,_⟩ | ⟨_,hn,_⟩
   · cases h1
   · exact hn ev h.1
  clear HE
  go_upto_region 2 with (first | (refine wpList_store_rowAs rfl 53 _ _ rfl gE EV rfl rfl _ _ Z2.out HEI.out HZZ.out HEO.out w2 W2.out ?_))
  refine wp_region_noPanic ?_
  refine wp_region_held_drew (S:=fun wp=>(Instr.loadAt 53 (.pointer (some ⟨gE,0,none⟩))).run Tryz.prog wp=.ok (.agg EV) wp) (by kernel_rfl) ?_ (fun hHeld=>?_)
  · exact paS HEI.out RE.out
  refine tkL 0 hHeld EV (fun w hSw=>hSw) ?_
  refine tkY 1 hHeld ?_
  refine tkY 2 hHeld ?_
  refine tkN 3 hHeld ?_
  refine tkN 4 hHeld ?_
  refine tkN 5 hHeld ?_
  refine tkY 6 hHeld ?_
  refine tk1 7 fun K hK=>?_
  rw [if_pos (by rfl)];refine wp_store_row 53 _ _ rfl gR EV rfl rfl _ _ RR.out HEI.out HES.out HEO.out ?_;rw [HWF.out]
  refine tkK hK (paS HEI.out REF.out) fun hHeld=>?_
  clear hK K
  refine tkY 8 hHeld ?_
  refine wpAnyH_done (by kernel_rfl) ?_ _
  refine NoPanic.normal ?_
  go_wp2_with fail
  refine bodyPost_ret (results_row_tmp rfl _ _ gR _ EV _ _ rfl RF.out Tryz.underlying53 rfl HEI.out) rfl ?_
  exact ⟨EV,false,Lib.hid (And.intro HEI.out (And.intro HEO.out HES.out)),.inr ⟨rfl,HNO.out⟩,rfl,UF.out⟩
 | true =>
  obtain ⟨ev,hc,hEV⟩:∃ ev,pan (preE ++ bs T) ev∧EV=ev.V.toArray:=by
   rcases HE.out with ⟨_,h⟩ | ⟨h,_⟩
   · exact h
   · cases h
  obtain ⟨k,hk⟩:∃ k,k=ev.k:=⟨_,rfl⟩
  have HKK:Hid (EV[1]? =some (.int .i64 k)):=by show _=_;rw [hEV,hk];rfl
  have HC:=Lib.hid (And.intro hc (And.intro hEV hk))
  have HUN:Hid (∀ f,pan (preE ++ bs T) f→f=ev):=fun f hf=>pcn hf HC.out.1 (by have:=hf.size;have:=HL2.out;omega) (by have:=HC.out.1.size;have:=HL2.out;omega)
  clear HE hc hEV hk
  by_cases h4:k=4
  · have HYES:Hid (∃ ev,pb3 (bs T) ev∧EV=ev.V.toArray):=⟨ev,⟨HC.out.1,HC.out.2.2.symm.trans h4⟩,HC.out.2.1⟩
    have g4:(k == 4)=true:=by rw [beq_iff_eq];exact h4
    go_upto_region 2 with (first | (refine wpList_store_rowAs rfl 53 _ _ rfl gE EV rfl rfl _ _ Z2.out HEI.out HZZ.out HEO.out w2 W2.out ?_))
    refine wp_region_noPanic ?_
    refine wp_region_held_drew (S:=fun wp=>(Instr.loadAt 53 (.pointer (some ⟨gE,0,none⟩))).run Tryz.prog wp=.ok (.agg EV) wp∧wp.cell? ⟨gE,1,none⟩=some (.int .i64 k)) (by kernel_rfl) ?_ (fun hHeld=>?_)
    · exact ⟨paS HEI.out RE.out,(cell_of_row _ gE 1 _ _ _ RE.out).trans HKK.out⟩
    refine tkL 0 hHeld EV (fun w hSw=>hSw.1) ?_
    refine tkY 1 hHeld ?_
    refine tkY 2 hHeld ?_
    refine tkY 3 hHeld ?_
    refine tkY 4 hHeld ?_
    refine tkY 5 hHeld ?_
    refine tkY 6 hHeld ?_
    refine tk1 7 fun K hK=>?_
    rw [if_pos (by rfl)];refine wp_store_row 53 _ _ rfl gR EV rfl rfl _ _ RR.out HEI.out HES.out HEO.out ?_;rw [HWF.out]
    refine tkK hK (⟨paS HEI.out REF.out,(cell_of_row _ gE 1 _ _ _ REF.out).trans HKK.out⟩) fun hHeld=>?_
    clear hK K
    refine tkY 8 hHeld ?_
    refine wpAnyH_done (by kernel_rfl) ?_ _
    refine NoPanic.normal ?_
    go_wp2_with fail
    refine bodyPost_ret (results_row_tmp rfl _ _ gR _ EV _ _ rfl RF.out Tryz.underlying53 rfl HEI.out) rfl ?_
    exact ⟨EV,true,Lib.hid (And.intro HEI.out (And.intro HEO.out HES.out)),.inl ⟨rfl,HYES.out⟩,rfl,UF.out⟩
  · have HNO:Hid (∀ ev,¬ pb3 (bs T) ev):=fun f h=>by
     have e:=HUN.out f h.1
     rw [e] at h
     exact h4 (HC.out.2.2.trans h.2)
    have g4:(k == 4)=false:=by rw [beq_eq_false_iff_ne];exact h4
    go_upto_region 2 with (first | (refine wpList_store_rowAs rfl 53 _ _ rfl gE EV rfl rfl _ _ Z2.out HEI.out HZZ.out HEO.out w2 W2.out ?_))
    refine wp_region_noPanic ?_
    refine wp_region_held_drew (S:=fun wp=>(Instr.loadAt 53 (.pointer (some ⟨gE,0,none⟩))).run Tryz.prog wp=.ok (.agg EV) wp∧wp.cell? ⟨gE,1,none⟩=some (.int .i64 k)) (by kernel_rfl) ?_ (fun hHeld=>?_)
    · exact ⟨paS HEI.out RE.out,(cell_of_row _ gE 1 _ _ _ RE.out).trans HKK.out⟩
    refine tkL 0 hHeld EV (fun w hSw=>hSw.1) ?_
    refine tkY 1 hHeld ?_
    refine tkY 2 hHeld ?_
    refine tkY 3 hHeld ?_
    refine tkY 4 hHeld ?_
    refine tkY 5 hHeld ?_
    refine tkY 6 hHeld ?_
    refine tk1 7 fun K hK=>?_
    rw [if_pos (by rfl)];refine wp_store_row 53 _ _ rfl gR EV rfl rfl _ _ RR.out HEI.out HES.out HEO.out ?_;rw [HWF.out]
    refine tkK hK (⟨paS HEI.out REF.out,(cell_of_row _ gE 1 _ _ _ REF.out).trans HKK.out⟩) fun hHeld=>?_
    clear hK K
    refine tkY 8 hHeld ?_
    refine wpAnyH_done (by kernel_rfl) ?_ _
    refine NoPanic.normal ?_
    go_wp2_with fail
    refine bodyPost_ret (results_row_tmp rfl _ _ gR _ EV _ _ rfl RF.out Tryz.underlying53 rfl HEI.out) rfl ?_
    exact ⟨EV,false,Lib.hid (And.intro HEI.out (And.intro HEO.out HES.out)),.inr ⟨rfl,HNO.out⟩,rfl,UF.out⟩
structure DlI where
 coms:List Int
 point:Int
 boxes:List (List UInt8)
def pg2:List UInt8:=[100,101,97,108]
def DlI.ok (d:DlI):Prop:=(∀ c∈d.coms,pab c)∧pab d.point∧d.coms.length≤1000000000
def DlI.words (d:DlI):List (List UInt8):=pg2 :: Lib.itoa (d.coms.length:Int) :: (d.coms.map Lib.itoa ++ Lib.itoa d.point :: d.boxes.map hexL)
def DlI.text (d:DlI):List UInt8:=Lib.join d.words [32]
def IsDl (l:List UInt8) (d:DlI):Prop:=d.ok∧l=d.text
theorem DlI.no32 (d:DlI):∀ x∈d.words,(32:UInt8) ∉ x:=by
 intro x hx
 simp only [DlI.words,List.mem_cons,List.mem_append,List.mem_map] at hx
 rcases hx with rfl | rfl | ⟨c,_,rfl⟩ | rfl | ⟨b,_,rfl⟩
 · decide
 · exact itoa_no32 _
 · exact itoa_no32 _
 · exact itoa_no32 _
 · exact pfg b
theorem IsDl.words {l:List UInt8} {d:DlI} (h:IsDl l d) {W:List (List UInt8)} (hW:pbP l W):W=d.words :=
 pbG _ _ l hW ⟨d.no32,by simp [DlI.words],h.2.symm⟩
def pbr (xs:List (List UInt8)):List UInt8:=xs.flatMap fun x=>32 :: x
theorem pig:∀ (x:List UInt8) (xs:List (List UInt8)),Lib.join (x :: xs) [32]=x ++ pbr xs
 | x,[]=>by rw [Lib.join_one];simp [pbr]
 | x,y :: r=>by
  rw [pbS,pig y r]
  simp [pbr]
theorem DlI.text_eq (d:DlI):d.text=pg2 ++ pbr (Lib.itoa (d.coms.length:Int) :: (d.coms.map Lib.itoa ++ Lib.itoa d.point :: d.boxes.map hexL)):=pig _ _
theorem pep {T e:TypeId} {B b:Nat} {p:Value} {l:List Value} {w w':World} (h:Lib.BuilderAtF T e B b p l w) (u:Upd [] [] w w'):Lib.BuilderAtF T e B b p l w':=by
 obtain ⟨h1,v,hb,ho,hn⟩:=h
 refine ⟨h1,v,paa hb u,⟨ho.1,?_⟩,hn⟩
 rcases ho.2 with h2 | ⟨g,cap,cur,fz,hv,hg,hh,r⟩
 · exact .inl h2
 · exact .inr ⟨g,cap,cur,fz,hv,hg,paa hh u,r⟩
structure BtK (W0:World) (b:Nat) (wi:World) (acc:List UInt8):Prop where
 bd:Lib.IsBuilderF 140 5 W0.heap.size b (Lib.byteCells acc) wi
 up:Upd [] [] W0 wi
theorem BtK.upd {W0 wi wj:World} {b:Nat} {acc:List UInt8} (h:BtK W0 b wi acc) (u:Upd [] [] wi wj):BtK W0 b wj acc :=
 ⟨h.bd.imp (fun k=>pep k u) (fun k=>pep k u),h.up.trans u⟩
theorem BtK.start (W0:World):BtK W0 W0.heap.size (W0.alloc (.cells #[.pointer none,.slice none 0 0] 140)) []:=⟨Lib.IsBuilderF.of (Lib.fresh_isBuilder _ _ W0),(Upd.refl _ _).alloc _⟩
theorem BtK.write {W0 wi:World} {b:Nat} {acc:List UInt8} (h:BtK W0 b wi acc) (s:ByteArray) (hl:acc.length+s.size≤140737488355328) :
 Calls Tryz.prog 86 #[.pointer (some ⟨b,0,none⟩),.string s] wi (fun e w'=>e=.returned (.tuple #[.int .i64 s.size,.nilIface])∧BtK W0 b w' (acc ++ bs s)∧Lib.OthersKept 5 (some b) wi w'):=by
 have hlen:(Lib.byteCells acc).length=acc.length:=by simp [Lib.byteCells]
 refine (Any.Builder_WriteString_k { Tryz.lays156 with } Tryz.Builder_Extra_156 W0.heap.size b (Lib.byteCells acc) s wi h.bd (by rw [hlen];exact hl) h.up.size).mono ?_
 rintro e w' ⟨rfl,hb,hu,hk⟩
 have e2:Lib.byteCells acc ++ Lib.strCells s=Lib.byteCells (acc ++ bs s):=by simp [Lib.byteCells,Lib.strCells,bs]
 rw [e2] at hb
 exact ⟨rfl,⟨.inr hb,pgb h.up hu⟩,hk⟩
theorem BtK.text {W0 wi:World} {b:Nat} {acc:List UInt8} (h:BtK W0 b wi acc) (h0:acc≠[]) :
 Calls Tryz.prog 87 #[.pointer (some ⟨b,0,none⟩)] wi (fun e w'=>e=.returned (.string ⟨acc.toArray⟩)∧BtK W0 b w' acc):=by
 refine (Any.Builder_String_k { Tryz.lays156 with } Tryz.Builder_Extra_156 W0.heap.size b acc wi h.bd h0).mono ?_
 rintro e w' ⟨rfl,hb,hu,_⟩
 exact ⟨rfl,hb,pgb h.up hu⟩
def WrAt (w:World) (gW b:Nat):Prop:=w.heap[gW]? =some (.cells #[.func (.func 86) #[.pointer (some ⟨b,0,none⟩)] #[]] 145 (0,0))
theorem WrAt.kept {w w':World} {gW b:Nat} (h:WrAt w gW b) (hb:gW≠b) (k:Lib.OthersKept 5 (some b) w w'):WrAt w' gW b :=
 k gW _ h (by simpa using hb) (fun c fz e=>by
  injection e with _ e2 _
  exact absurd e2 (by decide))
theorem WrAt.upd {w w':World} {gW b:Nat} (h:WrAt w gW b) (u:Upd [] [] w w'):WrAt w' gW b:=paa h u
theorem WrAt.cell {w:World} {gW b:Nat} (h:WrAt w gW b):w.cell? ⟨gW,0,none⟩=some (.func (.func 86) #[.pointer (some ⟨b,0,none⟩)] #[]):=cell_of_row _ gW 0 _ _ _ h
set_option maxHeartbeats 1000000 in
theorem pg3 {W0 wi:World} {b gW:Nat} {acc:List UInt8} (n:Int) (hn:pab n) (h:BtK W0 b wi acc) (hl:acc.length≤140737488000000) (hW:WrAt wi gW b) (hb:gW≠b) (htab:Tabs W0) :
 Calls Tryz.prog 266 #[.int .i64 n,.pointer (some ⟨gW,0,none⟩)] wi (fun e w'=>e=.returned (.tuple #[])∧BtK W0 b w' (acc ++ 32 :: Lib.itoa n)∧WrAt w' gW b):=by
 have HB:=Lib.hid h
 have HW:=Lib.hid hW
 have c0:=hW.cell
 have HL:=Lib.hid hl
 have HN:=Lib.hid hn
 clear h hW hl hn
 go_enter Tryz.func266,Tryz.ntmps266
 go_wp2_with (go_at_fn 86)
 refine (HB.out.write ⟨#[32]⟩ (by have:=HL.out;show _+1≤_;omega)).mono ?_
 rintro e w1 ⟨rfl,hb1,hk⟩
 have HB1:=Lib.hid hb1
 have HW1:=Lib.hid (HW.out.kept hb hk)
 clear hb1 hk c0 HB HW
 have c1:=HW1.out.cell
 go_upto_region 1 with (fail)
 have ud0:Upd [] [] w1 w1.drew:=(Upd.refl _ _).drew
 refine wp_region_noPanic ?_
 refine wp_region_held_drew (S:=fun wp=>wp.cell? ⟨gW,0,none⟩=some (.func (.func 86) #[.pointer (some ⟨b,0,none⟩)] #[])) (by kernel_rfl) ?_ (fun hHeld=>?_)
 · exact (HW1.out.upd ud0).cell
 refine tkY 0 hHeld ?_
 refine tkY 1 hHeld ?_
 refine tk1 2 fun K hK=>?_
 go_simp;refine (paD n _ HN.out (htab.upd (HB1.out.up.trans ud0))).mono ?_;rintro e wv1 ⟨y,HY,hy,rfl,hq⟩;have ud1:=ud0.trans hq;have HB2:=Lib.hid (HB1.out.upd ud1);have HW2:=Lib.hid (HW1.out.upd ud1);have HY2:=Lib.hid (And.intro HY.out hy);clear hq HY hy;go_wp2_with fail
 refine tkK hK (HW2.out.cell) fun hHeld=>?_
 clear hK K
 refine tk1 3 fun K hK=>?_
 go_simp;refine (HB2.out.write y (by have:=HL.out;have:=itoa_len n HN.out;have:=HY2.out.2;simp only [List.length_append];show _+1+_≤_;omega)).mono ?_;rintro e wv2 ⟨rfl,hb1,hk⟩;have HB3:=Lib.hid hb1;have HW3:=Lib.hid (HW2.out.kept hb hk);clear hb1 hk;go_wp2_with fail
 refine tkK hK (HW3.out.cell) fun hHeld=>?_
 clear hK K
 refine wpAnyH_done (by kernel_rfl) ?_ _
 refine NoPanic.normal ?_
 go_wp2_with fail
 go_end0
 refine ⟨rfl,?_,HW3.out⟩
 have h:=HB3.out
 rw [HY2.out.1,List.append_assoc] at h
 exact h
def dtxA (d:DlI) (k:Nat):List UInt8:=pg2 ++ pbr (Lib.itoa (d.coms.length:Int) :: (d.coms.take k).map Lib.itoa)
def dtxB (d:DlI) (k:Nat):List UInt8:=dtxA d d.coms.length ++ pbr (Lib.itoa d.point :: (d.boxes.take k).map hexL)
theorem pnE {d:DlI} {k:Nat} {x:Int} (h:d.coms[k]? =some x):dtxA d (k+1)=dtxA d k ++ 32 :: Lib.itoa x:=by
 unfold dtxA
 rw [List.take_add_one,h]
 simp [pbr]
theorem pnF {d:DlI} {k:Nat} {x:List UInt8} (h:d.boxes[k]? =some x):dtxB d (k+1)=dtxB d k ++ 32 :: hexL x:=by
 unfold dtxB
 rw [List.take_add_one,h]
 simp [pbr]
theorem poS (d:DlI):dtxB d d.boxes.length=d.text:=by
 rw [DlI.text_eq]
 unfold dtxB dtxA
 rw [List.take_length,List.take_length]
 simp [pbr]
theorem pg4 {α:Type} (f:α→List UInt8) (m:Nat):∀ l:List α,(∀ x∈l,(f x).length≤m)→(pbr (l.map f)).length≤(m+1) * l.length
 | [],_=>by simp [pbr]
 | x :: r,h=>by
  have h1:=pg4 f m r (fun y hy=>h y (by simp [hy]))
  have h2:=h x (by simp)
  have e:pbr ((x :: r).map f)=32 :: (f x ++ pbr (r.map f)):=by simp [pbr]
  rw [e,List.length_cons,List.length_append,List.length_cons,Nat.mul_add]
  omega
def DlI.fit (d:DlI):Prop:=(∀ c∈d.coms,pab c)∧pab d.point∧d.coms.length≤1000000∧d.boxes.length≤1000000∧∀ b∈d.boxes,b.length≤1000000
theorem pg5 {d:DlI} (h:d.fit) {k:Nat} (hk:k≤d.coms.length):(dtxA d k).length≤30000000:=by
 have h1:=pg4 Lib.itoa 20 (d.coms.take k) (fun x hx=>itoa_len _ (h.1 x (List.mem_of_mem_take hx)))
 have h2:=itoa_len (d.coms.length:Int) (by have:=h.2.2.1;unfold pab;omega)
 have h3:(d.coms.take k).length≤1000000:=by have:=h.2.2.1;simp;omega
 have e:dtxA d k=pg2 ++ (32 :: (Lib.itoa (d.coms.length:Int) ++ pbr ((d.coms.take k).map Lib.itoa))):=by simp [dtxA,pbr]
 have hw:pg2.length=4:=rfl
 rw [e,List.length_append,List.length_cons,List.length_append,hw]
 omega
theorem poT {d:DlI} (h:d.fit) {k:Nat} (hk:k≤d.boxes.length):(dtxB d k).length≤3000000000000:=by
 have h0:=pg5 h (Nat.le_refl d.coms.length)
 have h1:=pg4 hexL 2000000 (d.boxes.take k) (fun x hx=>by have:=h.2.2.2.2 x (List.mem_of_mem_take hx);rw [pa6];omega)
 have h2:=itoa_len d.point h.2.1
 have h3:(d.boxes.take k).length≤1000000:=by have:=h.2.2.2.1;simp;omega
 have e:dtxB d k=dtxA d d.coms.length ++ (32 :: (Lib.itoa d.point ++ pbr ((d.boxes.take k).map hexL))):=by simp [dtxB,pbr]
 rw [e,List.length_append,List.length_cons,List.length_append]
 omega
theorem hexX {x z:Nat} (hx:x<16) (hz:z=x+1):bs ((⟨#[48,49,50,51,52,53,54,55,56,57,97,98,99,100,101,102]⟩:ByteArray).extract x z)=[hexD x]:=by
 subst hz
 have:∀ x:Fin 16,bs ((⟨#[48,49,50,51,52,53,54,55,56,57,97,98,99,100,101,102]⟩:ByteArray).extract x.val (x.val+1))=[hexD x.val]:=by decide
 exact this ⟨x,hx⟩
theorem pnG {x:List UInt8} {q:Nat} {c:UInt8} (h:x[q]? =some c):hexL (x.take (q+1))=hexL (x.take q) ++ [hexD (c.toNat / 16),hexD (c.toNat % 16)]:=by
 rw [List.take_add_one,h]
 induction x.take q with
 | nil=>rfl
 | cons a r ih=>simp only [List.cons_append,hexL];rw [ih]
set_option maxHeartbeats 8000000 in
theorem pes (d:DlI) (cv bv:Value) (w:World) (hd:d.fit) (hc:RdI w cv d.coms) (hb:RdS w bv d.boxes) (htab:Tabs w):Calls Tryz.prog 233 #[.agg #[cv,.int .i64 d.point,bv]] w (MkS d.text w):=by
 obtain ⟨g,hg⟩:∃ g,w.heap.size=g:=⟨_,rfl⟩
 obtain ⟨w0,hw0⟩:∃ W,w.alloc (.cells #[cv,.int .i64 d.point,bv] 153)=W:=⟨_,rfl⟩
 have r0:w0.heap[g]? =some (.cells #[cv,.int .i64 d.point,bv] 153 (0,0)):=by rw [← hg,← hw0];exact heap_alloc_new _ _
 have u0:Upd [] [] w w0:=by rw [← hw0];exact (Upd.refl _ _).alloc _
 obtain ⟨b,hb'⟩:∃ b,w0.heap.size=b:=⟨_,rfl⟩
 have hst:=BtK.start w0
 obtain ⟨w1,hw1⟩:∃ W,w0.alloc (.cells #[.pointer none,.slice none 0 0] 140)=W:=⟨_,rfl⟩
 rw [hw1,hb'] at hst
 have hs1:w1.heap.size=b+1:=by rw [← hw1,World.size_alloc,hb']
 obtain ⟨gW,hgW⟩:∃ g,w1.heap.size=g:=⟨_,rfl⟩
 have HD:=Lib.hid hd
 have HC:=Lib.hid (hc.upd u0)
 have HBX:=Lib.hid (hb.upd u0)
 have HT:=Lib.hid (htab.upd u0)
 obtain ⟨ca,cc,hcv,hcc,_,_⟩:=hc.form
 obtain ⟨ba,bc,hbv,hbc,_,_⟩:=hb.form
 obtain ⟨m,hm⟩:∃ m,m=d.coms.length:=⟨_,rfl⟩
 obtain ⟨n,hn⟩:∃ n,n=d.boxes.length:=⟨_,rfl⟩
 rw [← hm] at hcv hcc
 rw [← hn] at hbv hbc
 have HM:=Lib.hid hm
 have HN:=Lib.hid hn
 have hmn:m≤1000000∧n≤1000000:=by have:=hd.2.2;omega
 obtain ⟨P,hP⟩:∃ P:Int,P=d.point:=⟨_,rfl⟩
 have HP:=Lib.hid hP
 have HK:Hid (∀ W,Upd [] [] w0 W→W.cell? ⟨g,0,none⟩=some (.slice ca m cc)∧W.cell? ⟨g,1,none⟩=some (.int .i64 P)∧W.cell? ⟨g,2,none⟩=some (.slice ba n bc)):=fun W u=>by
  have h:=paa r0 u
  refine ⟨?_,?_,?_⟩
  · rw [cell_of_row _ g 0 _ _ _ h,← hcv];rfl
  · rw [cell_of_row _ g 1 _ _ _ h,hP];rfl
  · rw [cell_of_row _ g 2 _ _ _ h,← hbv];rfl
 have U0:=Lib.hid u0
 have HCV:=Lib.hid hcv
 have HBV:=Lib.hid hbv
 have HST:=Lib.hid hst
 have HBW:Hid (gW≠b):=by show _≠_;omega
 rw [← hP] at hw0 ⊢
 clear hd hc hb htab r0 u0 hm hn hP hcv hbv hst hs1
 have hA:(w1.alloc (.cells #[.nilFunc] 145)).heap[gW]? =some (.cells #[.nilFunc] 145 (0,0)):=by rw [← hgW];exact heap_alloc_new _ _
 have cA:=(cell_of_row _ gW 0 _ _ _ hA).trans (show _=some Value.nilFunc from rfl)
 have fA:=frozen_of_row _ gW 0 _ _ hA
 obtain ⟨w2,hw2⟩:∃ W,(w1.alloc (.cells #[.nilFunc] 145)).setCell ⟨gW,0,none⟩ (.func (.func 86) #[.pointer (some ⟨b,0,none⟩)] #[])=W:=⟨_,rfl⟩
 have q2:Upd [] [] w1 w2:=by rw [← hw2];exact ((Upd.refl _ _).alloc _).setNew (p:=⟨gW,0,none⟩) (Nat.le_of_eq hgW) _
 have HW2:Hid (WrAt w2 gW b):=by
  show WrAt _ _ _
  rw [← hw2]
  exact heap_setCell_same _ gW 0 _ _ _ hA
 have HST2:=Lib.hid (HST.out.upd q2)
 have cW:=HW2.out.cell
 clear q2 HST hA
 have hsf:(store ⟨gW,0,none⟩ (.func (.func 86) #[.pointer (some ⟨b,0,none⟩)] #[])).run Tryz.prog (w1.alloc (.cells #[.nilFunc] 145))=.ok () w2:=by
  rw [run_store Tryz.prog _ _ _ _ rfl]
  rw [cA,← hw2]
  simp [fA]
 have hmf:∀ (fn:Fn) (first cap:Array Value) (w:World),(Instr.makeFunc fn first cap).run Tryz.prog w=.ok (.func fn first cap) w:=fun _ _ _ _=>rfl
 obtain ⟨k0,k1,k2⟩:=HK.out w2 HST2.out.up
 go_enter Tryz.func233,Tryz.ntmps233
 go_wp2_with (go_at_fn 86)
 refine (HST2.out.write ⟨#[100,101,97,108]⟩ (by show 0+4≤_;omega)).mono ?_
 rintro e w3 ⟨rfl,hb1,hk⟩
 have HB3:=Lib.hid hb1
 have HW3:=Lib.hid (HW2.out.kept HBW.out hk)
 obtain ⟨k0,k1,k2⟩:=HK.out w3 HB3.out.up
 clear hb1 hk hw2 hsf cA fA HW2 HST2 cW
 go_wp2_with (go_at_fn 266)
 refine (pg3 (m:Int) (by unfold pab;omega) HB3.out (by show 4≤_;omega) HW3.out HBW.out HT.out).mono ?_
 rintro e w4 ⟨rfl,hb1,hw'⟩
 have HB4:Hid (BtK w0 b w4 (dtxA d 0)):=by
  have e:dtxA d 0=[] ++ bs ⟨#[100,101,97,108]⟩ ++ 32 :: Lib.itoa (m:Int):=by rw [HM.out];simp [dtxA,pbr,pg2,bs]
  show BtK _ _ _ _
  rw [e]
  exact hb1
 have HW4:=Lib.hid hw'
 obtain ⟨k0,k1,k2⟩:=HK.out w4 HB4.out.up
 clear hb1 hw' HB3 HW3
 go_wp2_with fail
 clear k0 k1 k2
 go_loopw [7,23] (fun _ i wr=>∃ k:Nat,i=.int .i64 (k:Int)∧k≤m∧Hid (BtK w0 b wr (dtxA d k))∧Hid (WrAt wr gW b)) (fun _ i _=>m - (intOf i).toNat)
 case atStart=>exact ⟨0,rfl,Nat.zero_le _,HB4.out,HW4.out⟩
 case round =>
  obtain ⟨k,rfl,hk,HB,HW⟩:=hrel
  by_cases hlt:k<m
  · obtain ⟨x,hx⟩:∃ x,d.coms[k]? =some x:=⟨_,List.getElem?_eq_getElem (by rw [← HM.out];exact hlt)⟩
    have hxi:=HD.out.1 x (List.mem_of_getElem? hx)
    obtain ⟨ao,cp,e2,_,_,hget⟩:=(HC.out.upd HB.out.up).form
    obtain ⟨bb,hbb,_,hcell⟩:=hget k x hx
    have hca:ca=some ⟨bb,0,none⟩:=by
     have h:=HCV.out.symm.trans e2
     simp only [Value.slice.injEq] at h
     rw [h.1,hbb]
    have hst:=Lib.hid (pnE hx)
    have hsz:=Lib.hid (pg5 HD.out (show k≤d.coms.length by rw [← HM.out];omega))
    have i0:(0:Int)≤(k:Int):=by omega
    have i1:(k:Int)<(m:Int):=by omega
    subst hca
    clear hx hbb e2 hget
    go_wp2_with (go_at_fn 266)
    refine (pg3 x hxi HB.out (by have:=hsz.out;omega) HW.out HBW.out HT.out).mono ?_
    rintro e w5 ⟨rfl,hb1,hw'⟩
    rw [← hst.out] at hb1
    have HB5:=Lib.hid hb1
    have HW5:=Lib.hid hw'
    clear hb1 hw' hcell
    go_wp2_with fail
    exact ⟨⟨k+1,by go_num,by omega,HB5.out,HW5.out⟩,by first | (simp [intOf];done) | (simp [intOf];omega)⟩
  · obtain rfl:k=m:=by omega
    obtain ⟨k0,k1,k2⟩:=HK.out wr HB.out.up
    have hsz:=Lib.hid (pg5 HD.out (show k≤d.coms.length by rw [← HM.out];omega))
    have hpi:pab P:=by rw [HP.out];exact HD.out.2.1
    go_wp2_with (go_at_fn 266)
    refine (pg3 P hpi HB.out (by have:=hsz.out;omega) HW.out HBW.out HT.out).mono ?_
    rintro e w5 ⟨rfl,hb1,hw'⟩
    have HB5:Hid (BtK w0 b w5 (dtxB d 0)):=by
     have e:dtxB d 0=dtxA d k ++ 32 :: Lib.itoa P:=by rw [HM.out,HP.out];simp [dtxB,pbr]
     show BtK _ _ _ _
     rw [e]
     exact hb1
    have HW5:=Lib.hid hw'
    obtain ⟨k0,k1,k2⟩:=HK.out w5 HB5.out.up
    clear hb1 hw' HB HW hsz hpi
    go_wp2_with fail
    clear k0 k1 k2
    go_loopw [9,10,38,46] (fun _ _ i _ wr=>∃ k:Nat,i=.int .i64 (k:Int)∧k≤n∧Hid (BtK w0 b wr (dtxB d k))∧Hid (WrAt wr gW b)) (fun _ _ i _ _=>n - (intOf i).toNat)
    case atStart=>exact ⟨0,rfl,Nat.zero_le _,HB5.out,HW5.out⟩
    case round =>
     obtain ⟨j,rfl,hj,HB,HW⟩:=hrel
     by_cases hlj:j<n
     · obtain ⟨x,hx⟩:∃ x,d.boxes[j]? =some x:=⟨_,List.getElem?_eq_getElem (by rw [← HN.out];exact hlj)⟩
       have hxb:=HD.out.2.2.2.2 x (List.mem_of_getElem? hx)
       obtain ⟨ao,cp,e2,_,_,hget⟩:=(HBX.out.upd HB.out.up).form
       obtain ⟨bb,hbb,_,hcell⟩:=hget j x hx
       have hba:ba=some ⟨bb,0,none⟩:=by
        have h:=HBV.out.symm.trans e2
        simp only [Value.slice.injEq] at h
        rw [h.1,hbb]
       obtain ⟨xs,hxs⟩:∃ s:ByteArray,s=⟨x.toArray⟩:=⟨_,rfl⟩
       have hbx:bs xs=x:=by rw [hxs,pc8]
       have hcell':wr.cell? ⟨bb,j,none⟩=some (.string xs):=by rw [hcell,hxs];rfl
       have hst:=Lib.hid (pnF hx)
       have hsz:=Lib.hid (poT HD.out (show j≤d.boxes.length by rw [← HN.out];omega))
       have i0:(0:Int)≤(j:Int):=by omega
       have i1:(j:Int)<(n:Int):=by omega
       have hxz:xs.size≤1000000:=by rw [paT hbx];exact hxb
       have HXB:=Lib.hid hbx
       have cW:=HW.out.cell
       subst hba
       clear hx hbb e2 hget hcell hxs hbx hxb
       go_wp2_with (go_at_fn 86)
       refine (HB.out.write ⟨#[32]⟩ (by have:=hsz.out;show _+1≤_;omega)).mono ?_
       rintro e w6 ⟨rfl,hb1,hk⟩
       have HB6:=Lib.hid hb1
       have HW6:=Lib.hid (HW.out.kept HBW.out hk)
       clear hb1 hk hcell' cW
       go_wp2_with fail
       go_loopw [10,46] (fun _ i wi=>∃ q:Nat,i=.int .i64 (q:Int)∧q≤xs.size∧Hid (BtK w0 b wi (dtxB d j ++ 32 :: hexL (x.take q)))∧Hid (WrAt wi gW b)) (fun _ i _=>xs.size - (intOf i).toNat)
       case atStart =>
        have h:=HB6.out
        exact ⟨0,rfl,Nat.zero_le _,h,HW6.out⟩
       case round =>
        obtain ⟨q,rfl,hq,HBi,HWi⟩:=hrel
        by_cases hlq:q<xs.size
        · have hc:=pdl xs q hlq
          rw [HXB.out] at hc
          have HC:=Lib.hid hc
          have hb256:xs[q].toNat<256:=xs[q].toNat_lt
          obtain ⟨x0,hx0⟩:∃ x0,x0=xs[q].toNat / 16:=⟨_,rfl⟩
          obtain ⟨x1,hx1⟩:∃ x1,x1=xs[q].toNat % 16:=⟨_,rfl⟩
          have v0:(xs[q].toNat:Int) / 16=(x0:Int):=by omega
          have v1:Go.bits .and .u8 (xs[q].toNat:Int) 15=(x1:Int):=by rw [hx1];exact pqK _ hb256
          obtain ⟨z0,hz0⟩:∃ z0,z0=x0+1:=⟨_,rfl⟩
          obtain ⟨z1,hz1⟩:∃ z1,z1=x1+1:=⟨_,rfl⟩
          have w0':IntKind.u8.wrap ((x0:Int)+1)=(z0:Int):=by rw [IntWalk.u8_in _ (by omega)];omega
          have w1':IntKind.u8.wrap ((x1:Int)+1)=(z1:Int):=by rw [IntWalk.u8_in _ (by omega)];omega
          have a0:x0≤z0:=by omega
          have a1:x1≤z1:=by omega
          have b0:z0≤16:=by omega
          have b1:z1≤16:=by omega
          have i2:(0:Int)≤(q:Int):=by omega
          have i3:(q:Int)<(xs.size:Int):=by omega
          have HX:=Lib.hid (And.intro hx0 (And.intro hx1 (And.intro hz0 hz1)))
          clear hc hx0 hx1 hz0 hz1
          go_upto_region 19 with (fail)
          have ud0:Upd [] [] wr wr.drew:=(Upd.refl _ _).drew
          have b0':(z0:Int)≤16:=by omega
          have b1':(z1:Int)≤16:=by omega
          have hsx:=paT HXB.out
          have HSX:Hid (x.length≤1000000):=by show _≤_;omega
          have HTK:=Lib.hid (pnG (x:=x) (q:=q) HC.out)
          clear hsx
          refine @_root_.id ((∀ W:World,Hid (BtK w0 b W (dtxB d j ++ 32 :: hexL (x.take q) ++ bs ((⟨#[48,49,50,51,52,53,54,55,56,57,97,98,99,100,101,102]⟩:ByteArray).extract x0 z0)))→Hid (WrAt W gW b)→(?pj3:World→Prop) W)→_) (fun hJ=>?mj3) ?jj3
          case mj3 =>
           refine wp_region_noPanic ?_
           refine wp_region_held_drew (S:=fun wp=>wp.cell? ⟨gW,0,none⟩=some (.func (.func 86) #[.pointer (some ⟨b,0,none⟩)] #[])) (by kernel_rfl) ?_ (fun hHeld=>?_)
           · exact (HWi.out.upd ud0).cell
           refine tkY 0 hHeld ?_
           refine tkY 1 hHeld ?_
           refine tkY 2 hHeld ?_
           refine tkY 3 hHeld ?_
           refine tkY 4 hHeld ?_
           refine tkY 5 hHeld ?_
           refine tkY 6 hHeld ?_
           refine tkY 7 hHeld ?_
           refine tkY 8 hHeld ?_
           refine tkY 9 hHeld ?_
           refine tkY 10 hHeld ?_
           refine tk1 11 fun K hK=>?_
           go_simp;refine ((HBi.out.upd ud0).write _ (by have:=hsz.out;have:=HSX.out;have e:=congrArg List.length (hexX (x:=x0) (z:=z0) (by have:=HX.out;omega) (by have:=HX.out;omega));rw [pac] at e;simp only [List.length_append,List.length_cons,pa6,List.length_take] at e ⊢;have:=Nat.min_le_right q x.length;(try simp only [List.length_nil] at e ⊢);omega)).mono ?_;rintro e wv ⟨rfl,hb1,hk⟩;have HBj0:=Lib.hid hb1;have HWj0:=Lib.hid ((HWi.out.upd ud0).kept HBW.out hk);clear hb1 hk;go_wp2_with fail
           refine tkK hK (HWj0.out.cell) fun hHeld=>?_
           clear hK K
           refine wpAnyH_done (by kernel_rfl) ?_ _
           refine NoPanic.normal ?_
           exact hJ wv HBj0 HWj0
          intro wA HBj0 HWj0
          skip
          rw [hexX (x:=x0) (z:=z0) (by have:=HX.out;omega) (by have:=HX.out;omega)] at HBj0
          go_upto_region 20 with (fail)
          have ue0:Upd [] [] wA wA.drew:=(Upd.refl _ _).drew
          refine @_root_.id ((∀ W:World,Hid (BtK w0 b W (dtxB d j ++ 32 :: hexL (x.take q) ++ [hexD x0] ++ bs ((⟨#[48,49,50,51,52,53,54,55,56,57,97,98,99,100,101,102]⟩:ByteArray).extract x1 z1)))→Hid (WrAt W gW b)→(?pj15:World→Prop) W)→_) (fun hJ=>?mj15) ?jj15
          case mj15 =>
           refine wp_region_noPanic ?_
           refine wp_region_held_drew (S:=fun wp=>wp.cell? ⟨gW,0,none⟩=some (.func (.func 86) #[.pointer (some ⟨b,0,none⟩)] #[])) (by kernel_rfl) ?_ (fun hHeld=>?_)
           · exact (HWj0.out.upd ue0).cell
           refine tkY 0 hHeld ?_
           refine tkY 1 hHeld ?_
           refine tkY 2 hHeld ?_
           refine tkY 3 hHeld ?_
           refine tkY 4 hHeld ?_
           refine tkY 5 hHeld ?_
           refine tkY 6 hHeld ?_
           refine tkY 7 hHeld ?_
           refine tkY 8 hHeld ?_
           refine tkY 9 hHeld ?_
           refine tkY 10 hHeld ?_
           refine tk1 11 fun K hK=>?_
           go_simp;refine ((HBj0.out.upd ue0).write _ (by have:=hsz.out;have:=HSX.out;have e:=congrArg List.length (hexX (x:=x1) (z:=z1) (by have:=HX.out;omega) (by have:=HX.out;omega));rw [pac] at e;simp only [List.length_append,List.length_cons,pa6,List.length_take] at e ⊢;have:=Nat.min_le_right q x.length;(try simp only [List.length_nil] at e ⊢);omega)).mono ?_;rintro e wv ⟨rfl,hb1,hk⟩;have HBj1:=Lib.hid hb1;have HWj1:=Lib.hid ((HWj0.out.upd ue0).kept HBW.out hk);clear hb1 hk;go_wp2_with fail
           refine tkK hK (HWj1.out.cell) fun hHeld=>?_
           clear hK K
           refine wpAnyH_done (by kernel_rfl) ?_ _
           refine NoPanic.normal ?_
           exact hJ wv HBj1 HWj1
          intro wB HBj1 HWj1
          skip
          rw [hexX (x:=x1) (z:=z1) (by have:=HX.out;omega) (by have:=HX.out;omega)] at HBj1
          have HBn:Hid (BtK w0 b wB (dtxB d j ++ 32 :: hexL (x.take (q+1)))):=by
           show BtK _ _ _ _
           rw [HTK.out]
           have h:=HBj1.out
           obtain ⟨h0,h1,_,_⟩:=HX.out
           rw [h0,h1] at h
           simpa using h
          go_wp2_with fail
          exact ⟨⟨q+1,by go_num,by omega,HBn.out,HWj1.out⟩,by first | (simp [intOf];done) | (simp [intOf];omega)⟩
        · obtain rfl:q=xs.size:=by omega
          have HBn:Hid (BtK w0 b wr (dtxB d (j+1))):=by
           show BtK _ _ _ _
           rw [hst.out]
           have h:=HBi.out
           rw [List.take_of_length_le (by rw [paT HXB.out];exact Nat.le_refl _)] at h
           exact h
          clear HBi HB HB6 HW6
          go_wp2_with fail
          exact ⟨⟨j+1,by go_num,by omega,HBn.out,HWi.out⟩,by first | (simp [intOf];done) | (simp [intOf];omega)⟩
     · obtain rfl:j=n:=by omega
       have HF:Hid (BtK w0 b wr d.text):=by
        have h:=HB.out
        rw [HN.out,poS] at h
        exact h
       clear HB
       go_wp2_with fail
       refine (HF.out.text (by rw [DlI.text_eq];simp [pg2])).mono ?_
       rintro e w6 ⟨rfl,hb1⟩
       have U6:=Lib.hid (U0.out.trans hb1.up)
       clear hb1
       go_wp2_with fail
       go_ret
       exact ⟨⟨d.text.toArray⟩,pc8 _,by show d.text.length≤_;exact Nat.le_refl _,rfl,U6.out⟩
theorem pgj {α:Type} {l:List α} {k:Nat} {d:α} (h:l[k]? =some d):l.take (k+1)=l.take k ++ [d]:=by
 rw [List.take_add_one,h]
 rfl
def valW:List Nat→Nat
 | []=>0
 | d :: r=>d+4294967296 * valW r
def okW (l:List Nat):Prop:=∀ d∈l,d<4294967296
def dw (n:Nat):List Nat:=if n=0 then [] else n % 4294967296 :: dw (n / 4294967296)
termination_by n
decreasing_by omega
theorem paW:dw 0=[]:=by rw [dw];rfl
theorem pdd {n:Nat} (h:0<n):dw n=n % 4294967296 :: dw (n / 4294967296):=by rw [dw,if_neg (by omega)]
theorem pg6 (n:Nat):valW (dw n)=n:=by
 induction n using Nat.strongRecOn with
 | ind n ih =>
  by_cases h:n=0
  · subst h;rw [paW];rfl
  · rw [pdd (by omega),valW,ih (n / 4294967296) (by omega)]
    omega
theorem poU (n:Nat):okW (dw n):=by
 induction n using Nat.strongRecOn with
 | ind n ih =>
  by_cases h:n=0
  · subst h;rw [paW];intro d hd;simp at hd
  · rw [pdd (by omega)]
    intro d hd
    rcases List.mem_cons.1 hd with rfl | hd
    · omega
    · exact ih (n / 4294967296) (by omega) d hd
theorem pft:∀ (a b:List Nat),valW (a ++ b)=valW a+4294967296 ^ a.length * valW b
 | [],b=>by simp [valW]
 | d :: r,b=>by
  simp only [List.cons_append,valW,pft r b,List.length_cons,Nat.pow_succ]
  rw [Nat.mul_add,Nat.add_assoc,← Nat.mul_assoc,Nat.mul_comm (4294967296 ^ r.length) 4294967296]
theorem pnH (a:List Nat) (d:Nat):valW (a ++ [d])=valW a+4294967296 ^ a.length * d:=by rw [pft];simp [valW]
theorem pjs:okW []:=fun d hd=>by simp at hd
theorem poV {l:List Nat} (h:okW l) (k:Nat):okW (l.take k):=fun d hd=>h d (List.mem_of_mem_take hd)
theorem pnI:∀ {l:List Nat},okW l→valW l<4294967296 ^ l.length
 | [],_=>by simp [valW]
 | d :: r,h=>by
  have h1:=h d (by simp)
  have h2:=pnI (l:=r) (fun x hx=>h x (by simp [hx]))
  simp only [valW,List.length_cons,Nat.pow_succ]
  omega
theorem pgk:∀ {c:List Nat},okW c→(∀ d,c.getLast? =some d→d≠0)→c=dw (valW c)
 | [],_,_=>by rw [valW,paW]
 | d :: r,h,hl=>by
  have hd:=h d (by simp)
  cases r with
  | nil =>
   have:d≠0:=hl d (by simp)
   simp only [valW,Nat.mul_zero,Nat.add_zero]
   rw [pdd (by omega),show d % 4294967296=d by omega,show d / 4294967296=0 by omega,paW]
  | cons e r =>
   have ih:=pgk (c:=e :: r) (fun x hx=>h x (by simp [List.mem_cons.1 hx])) (fun x hx=>hl x (by simpa using hx))
   have hpos:0<valW (e :: r):=by
    rcases Nat.eq_zero_or_pos (valW (e :: r)) with h0 | h0
    · rw [h0,paW] at ih;cases ih
    · exact h0
   rw [valW,pdd (by omega),show (d+4294967296 * valW (e :: r)) % 4294967296=d by omega,show (d+4294967296 * valW (e :: r)) / 4294967296=valW (e :: r) by omega,← ih]
theorem pih:∀ (k n:Nat),n<4294967296 ^ k→(dw n).length≤k
 | 0,n,h=>by
  have:n=0:=by simpa using h
  subst this;rw [paW];simp
 | k+1,n,h=>by
  by_cases h0:n=0
  · subst h0;rw [paW];simp
  · rw [pdd (by omega),List.length_cons]
    have:=pih k (n / 4294967296) (by rw [Nat.pow_succ] at h;omega)
    omega
theorem pfJ {l:List Nat} {k d:Nat} (h:l[k]? =some d):valW (l.drop k)=d+4294967296 * valW (l.drop (k+1)):=by
 obtain ⟨hk,rfl⟩:=List.getElem?_eq_some_iff.1 h
 rw [List.drop_eq_getElem_cons hk,valW]
theorem pkv:∀ (l:List Nat) (q d e:Nat),l[q]? =some d→valW (l.set q (d+e))=valW l+4294967296 ^ q * e
 | [],q,d,e,h=>by simp at h
 | d' :: r,0,d,e,h=>by
  simp only [List.getElem?_cons_zero,Option.some.injEq] at h
  subst h
  simp only [List.set_cons_zero,valW,Nat.pow_zero]
  omega
 | d' :: r,q+1,d,e,h=>by
  rw [List.getElem?_cons_succ] at h
  simp only [List.set_cons_succ,valW,pkv r q d e h,Nat.pow_succ]
  rw [Nat.mul_add,Nat.mul_assoc,Nat.mul_left_comm,Nat.add_assoc]
theorem pnJ:∀ (l:List Nat) (q d:Nat),l[q]? =some d→4294967296 ^ q * d≤valW l
 | [],q,d,h=>by simp at h
 | d' :: r,0,d,h=>by
  simp only [List.getElem?_cons_zero,Option.some.injEq] at h
  subst h
  simp only [valW,Nat.pow_zero]
  omega
 | d' :: r,q+1,d,h=>by
  rw [List.getElem?_cons_succ] at h
  have ih:=pnJ r q d h
  simp only [valW,Nat.pow_succ]
  rw [Nat.mul_assoc,Nat.mul_left_comm]
  have:=Nat.mul_le_mul_left 4294967296 ih
  omega
theorem okW_set {l:List Nat} (h:okW l) {k x:Nat} (hx:x<4294967296):okW (l.set k x):=by
 intro d hd
 rcases List.mem_or_eq_of_mem_set hd with k | k
 · exact h d k
 · omega
theorem pgl:∀ k,valW (List.replicate k 0)=0
 | 0=>rfl
 | k+1=>by rw [List.replicate_succ,valW,pgl k]
theorem pnK (k:Nat):okW (List.replicate k 0):=fun d hd=>by rw [List.mem_replicate] at hd;omega
theorem pii:∀ (q:Nat) (l:List Nat),okW l→valW l / 4294967296 ^ q=valW (l.drop q)
 | 0,l,_=>by simp
 | q+1,[],_=>by simp [valW]
 | q+1,d :: r,h=>by
  have hd:=h d (by simp)
  have ih:=pii q r (fun x hx=>h x (by simp [hx]))
  rw [List.drop_succ_cons,← ih,valW,Nat.pow_succ,Nat.mul_comm (4294967296 ^ q) 4294967296,← Nat.div_div_eq_div_mul]
  rw [show (d+4294967296 * valW r) / 4294967296=valW r by omega]
def pnL (V i:Nat):Nat:=V / 256 ^ i % 256
theorem pkw (V i:Nat):pnL V i<256:=Nat.mod_lt _ (by decide)
theorem pkx:(256:Nat) ^ 4=4294967296:=by decide
theorem p2_8:(2:Nat) ^ 8=256:=by decide
theorem poW {l:List Nat} (h:okW l) {q r d:Nat} (hd:l[q]? =some d) (hr:r<4):pnL (valW l) (4 * q+r)=d / 2 ^ (8 * r) % 256:=by
 unfold pnL
 have e:(256:Nat) ^ (4 * q+r)=4294967296 ^ q * 256 ^ r:=by rw [Nat.pow_add,Nat.pow_mul,pkx]
 have e2:(256:Nat) ^ r=2 ^ (8 * r):=by rw [Nat.pow_mul,p2_8]
 rw [e,← Nat.div_div_eq_div_mul,pii q l h,pfJ hd,← e2]
 have hdl:=h d (List.mem_of_getElem? hd)
 generalize valW (l.drop (q+1))=z
 have hr4:r=0∨r=1∨r=2∨r=3:=by omega
 clear e e2 hr hd
 rcases hr4 with rfl | rfl | rfl | rfl
 · simp only [Nat.pow_zero,Nat.div_one];omega
 · simp only [Nat.pow_one];omega
 · have h2:(256:Nat) ^ 2=65536:=by decide
   rw [h2];omega
 · have h3:(256:Nat) ^ 3=16777216:=by decide
   rw [h3];omega
def beN (V:Nat):Nat→List UInt8
 | 0=>[]
 | n+1=>UInt8.ofNat (pnL V n) :: beN V n
theorem pg7 (V:Nat):∀ n,(beN V n).length=n
 | 0=>rfl
 | n+1=>by rw [beN,List.length_cons,pg7 V n]
theorem pky (V:Nat):∀ n,natB (beN V n)=V % 256 ^ n
 | 0=>by rw [Nat.pow_zero,Nat.mod_one];rfl
 | n+1=>by
  rw [beN,pe7,pg7,pky V n,UInt8.toNat_ofNat',Nat.mod_eq_of_lt (pkw V n),Nat.pow_succ,Nat.mod_mul,Nat.add_comm,Nat.mul_comm]
  rfl
theorem pij {V n:Nat} (h:V<256 ^ n):natB (beN V n)=V:=by rw [pky,Nat.mod_eq_of_lt h]
end Go.Proofs.YtheobkejohifaaaGreatDoor
