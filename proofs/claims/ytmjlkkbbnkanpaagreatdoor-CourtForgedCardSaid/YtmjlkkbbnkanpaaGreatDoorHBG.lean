/- court.partial and what follows. -/
import Derived.Test.YtmjlkkbbnkanpaaGreatDoorHAA
import Derived.Test.YtmjlkkbbnkanpaaGreatDoorHBF
import Derived.Test.YtmjlkkbbnkanpaaGreatDoorHAR
import Derived.Test.YtmjlkkbbnkanpaaGreatDoorHAY
namespace Go.Proofs.YtmjlkkbbnkanpaaGreatDoor
open Go.RowKit
set_option maxRecDepth 100000
theorem results_four {P:Program} {fn:Func} {p1 u1 p2 u2:Tmp} {ty1 ty2:TypeId} (h:fn.results=#[.cell p1 ty1,.tmp u1,.cell p2 ty2,.tmp u2]) (tmps:Array Value) (w:World) (g1 g2:Nat) (t1 t2:TypeId) (c1 c2:Array Value) (fr1 fr2:Nat × Nat) (d1 d2:TypeDesc)
 (hp1:tmps.getD p1 undef=.pointer (some ⟨g1,0,none⟩)) (hg1:w.heap[g1]? =some (.cells c1 t1 fr1)) (hu1:P.underlying ty1=some d1) (hd1:d1.isRow=true) (hi1:(P.info? ty1).map (·.size)=some c1.size)
 (hp2:tmps.getD p2 undef=.pointer (some ⟨g2,0,none⟩)) (hg2:w.heap[g2]? =some (.cells c2 t2 fr2)) (hu2:P.underlying ty2=some d2) (hd2:d2.isRow=true) (hi2:(P.info? ty2).map (·.size)=some c2.size) :
 (results fn tmps).run P w=.ok (.tuple #[.agg c1,tmps.getD u1 undef,.agg c2,tmps.getD u2 undef]) w:=by
 have hl1:(loadVar ty1 ⟨g1,0,none⟩).run P w=.ok (.agg c1) w:=by
  cases d1 with
  | struct fs=>exact run_loadVar_row w g1 t1 ty1 c1 fr1 _ hg1 hu1 rfl hi1
  | array n e=>exact run_loadVar_row w g1 t1 ty1 c1 fr1 _ hg1 hu1 rfl hi1
  | _=>cases hd1
 have hl2:(loadVar ty2 ⟨g2,0,none⟩).run P w=.ok (.agg c2) w:=by
  cases d2 with
  | struct fs=>exact run_loadVar_row w g2 t2 ty2 c2 fr2 _ hg2 hu2 rfl hi2
  | array n e=>exact run_loadVar_row w g2 t2 ty2 c2 fr2 _ hg2 hu2 rfl hi2
  | _=>cases hd2
 simp only [results,h]
 have hp1':tmps[p1]?.getD undef=.pointer (some ⟨g1,0,none⟩):=by rw [← hp1];simp
 have hp2':tmps[p2]?.getD undef=.pointer (some ⟨g2,0,none⟩):=by rw [← hp2];simp
 simp [Sem.run_bind,Result.andThen,hp1',hp2',asAddr,hl1,hl2]
def IsPar (l:List UInt8) (ev:EvG) (ep x v c z:Int):Prop:=IsCode (preE ++ l) ev∧ev.k=5∧i64in ep∧∃ r,bs ev.x=Lib.itoa ep ++ 32 :: r∧IsPrt r x v c z
def MkPtl (l:List UInt8) (w:World) (e:Ending) (w':World):Prop :=
 ∃ (EV:Array Value) (ep x v c z:Int) (ok:Bool),Hid ((Tryz.prog.info? 66).map (·.size)=some EV.size∧EV.all (·.oneCell')=true∧evZ.toArray.size=EV.size)∧Hid ((ok=true∧∃ ev,EV=ev.V.toArray∧IsPar l ev ep x v c z)∨(ok=false∧∀ ev ep x v c z,¬ IsPar l ev ep x v c z))∧e=.returned (.tuple #[.agg EV,.int .i64 ep,.agg #[.int .i64 x,.int .i64 v,.int .i64 c,.int .i64 z],.bool ok])∧Upd [] [] w w'
theorem part_row (x v c z:Int):(#[.int .i64 x,.int .i64 v,.int .i64 c,.int .i64 z]:Array Value).all (·.oneCell')=true:=by simp [Value.oneCell']
theorem pt_runs {x v c z:Int} {W:World} {g:Nat} {PV:Array Value} (hP:PV=#[.int .i64 x,.int .i64 v,.int .i64 c,.int .i64 z]) (h:W.heap[g]? =some (.cells PV 82 (0,0))):(Instr.loadAt 82 (.pointer (some ⟨g,0,none⟩))).run Tryz.prog W=.ok (.agg PV) W:=by
 subst hP
 exact run_loadAt_mid W g 0 82 [.int .i64 x,.int .i64 v,.int .i64 c,.int .i64 z] _ (row_range (R:=#[.int .i64 x,.int .i64 v,.int .i64 c,.int .i64 z]) rfl h) Tryz.underlying82 rfl (ptInfo x v c z)
theorem ev_runs {W:World} {g:Nat} {EV:Array Value} (hi:(Tryz.prog.info? 66).map (·.size)=some EV.size) (h:W.heap[g]? =some (.cells EV 66 (0,0))):(Instr.loadAt 66 (.pointer (some ⟨g,0,none⟩))).run Tryz.prog W=.ok (.agg EV) W :=
 run_loadAt_mid W g 0 66 EV.toList _ (row_range (by simp) h) Tryz.underlying66 rfl (by rw [Array.length_toList];exact hi)
set_option maxHeartbeats 8000000 in
theorem partial_any (T:ByteArray) (hT:T.size≤900000) (w:World) (htab:Tabs w):Calls Tryz.prog 146 #[.string T] w (MkPtl (bs T) w):=by
 obtain ⟨gE,hgE⟩:∃ g,w.heap.size=g:=⟨_,rfl⟩
 obtain ⟨w0,hw0⟩:∃ W,w.alloc (.cells #[.int .i64 0,.int .i64 0,.int .i64 0,.int .i64 0,.int .i64 0,.string ⟨#[]⟩,.int .u8 0,.int .u8 0,.int .u8 0,.int .u8 0,.int .u8 0,.int .u8 0,.int .u8 0,.int .u8 0,.int .u8 0,.int .u8 0,.int .u8 0,.int .u8 0,.int .u8 0,.int .u8 0,.int .u8 0,.int .u8 0,.int .u8 0,.int .u8 0,.int .u8 0,.int .u8 0,.int .u8 0,.int .u8 0,.int .u8 0,.int .u8 0,.int .u8 0,.int .u8 0,.int .u8 0,.int .u8 0,.int .u8 0,.int .u8 0,.int .u8 0,.int .u8 0,.int .i64 0,.int .i64 0] 66)=W:=⟨_,rfl⟩
 have r0:w0.heap[gE]? =some (.cells evZ.toArray 66 (0,0)):=by rw [← hgE,← hw0,zero_ev];exact heap_alloc_new _ _
 have u0:Upd [] [] w w0:=by rw [← hw0];exact (Upd.refl _ _).alloc _
 obtain ⟨gQ,hgQ⟩:∃ g,w0.heap.size=g:=⟨_,rfl⟩
 obtain ⟨w1,hw1⟩:∃ W,w0.alloc (.cells #[.int .i64 0,.int .i64 0,.int .i64 0,.int .i64 0] 82)=W:=⟨_,rfl⟩
 have r1:w1.heap[gQ]? =some (.cells ptZ 82 (0,0)):=by rw [← hgQ,← hw1];exact heap_alloc_new _ _
 have u1:Upd [] [] w0 w1:=by rw [← hw1];exact (Upd.refl _ _).alloc _
 have HNE:Hid (gE≠gQ):=by have:=blk_lt r0;show _≠_;omega
 have HGE:Hid (w.heap.size≤gE):=Nat.le_of_eq hgE
 have HGQ:Hid (w.heap.size≤gQ):=by have:=u0.size;show _≤_;omega
 have RE1:=Lib.hid (row_updH r0 u1)
 have RQ1:=Lib.hid r1
 have U1:=Lib.hid (u0.trans u1)
 have HEV:=Lib.hid (eventG T (by omega) w1 (htab.upd U1.out))
 have HL:Hid ((preE ++ bs T).length≤1000000000):=by show _≤_;rw [List.length_append,bs_length];have:preE.length=4:=rfl;omega
 have HL2:Hid ((preE ++ bs T).length≤1000000):=by show _≤_;rw [List.length_append,bs_length];have:preE.length=4:=rfl;omega
 clear r0 u0 r1 u1 hT
 go_enter Tryz.func146,Tryz.ntmps146
 go_wp2_with fail
 refine HEV.out.mono ?_
 rintro e w2 ⟨EV,b,HE,rfl,hq⟩
 have HEI:=Lib.hid HE.out.info.1
 have HEO:=Lib.hid HE.out.info.2.1
 have HES:=Lib.hid HE.out.info.2.2
 have RE2:=Lib.hid (row_updH RE1.out hq)
 have RQ2:=Lib.hid (row_updH RQ1.out hq)
 have U2:=Lib.hid (U1.out.trans hq)
 obtain ⟨w3,hw3⟩:∃ W,w2.setRow gE EV=W:=⟨_,rfl⟩
 have RE3:Hid (w3.heap[gE]? =some (.cells EV 66 (0,0))):=by show _=_;rw [← hw3];exact setRow_heap _ _ _ _ _ _ RE2.out
 have RQ3:Hid (w3.heap[gQ]? =some (.cells ptZ 82 (0,0))):=by show _=_;rw [← hw3];exact row_setRowO RQ2.out HNE.out.symm _
 have U3:Hid (Upd [] [] w w3):=by show Upd _ _ _ _;rw [← hw3];exact U2.out.setRowNew HGE.out _
 have HW3:=Lib.hid hw3
 clear hq HEV RE1 RQ1 hw3 RQ2 U2 U1 hgE hgQ hw0 hw1
 go_upto_region 2 with (first | (refine wpList_store_rowAs rfl 66 _ _ rfl gE EV rfl rfl _ _ RE2.out HEI.out HES.out HEO.out w3 HW3.out ?_))
 cases b with
 | false =>
  have HNO:Hid (∀ ev ep x v c z,¬ IsPar (bs T) ev ep x v c z):=fun ev ep x v c z h=>by
   rcases HE.out with ⟨h1,_⟩ | ⟨_,hn,_⟩
   · cases h1
   · exact hn ev h.1
  obtain ⟨PV,hPV⟩:∃ PV:Array Value,PV=#[.int .i64 0,.int .i64 0,.int .i64 0,.int .i64 0]:=⟨_,rfl⟩
  have HPV:=Lib.hid hPV
  have HPI:Hid ((Tryz.prog.info? 82).map (·.size)=some PV.size):=by rw [hPV];exact ptInfo _ _ _ _
  have HPO:Hid (PV.all (·.oneCell')=true):=by rw [hPV];exact part_row _ _ _ _
  have RQ4:Hid (w3.heap[gQ]? =some (.cells PV 82 (0,0))):=by show _=_;rw [hPV];exact RQ3.out
  clear hPV HE RE2 HW3
  have RE_0:=Lib.hid (row_updH RE3.out (show Upd [] [] w3 w3.drew from (Upd.refl _ _).drew))
  have RQ_0:=Lib.hid (row_updH RQ4.out (show Upd [] [] w3 w3.drew from (Upd.refl _ _).drew))
  have UU_0:=Lib.hid (U3.out.trans (show Upd [] [] w3 w3.drew from (Upd.refl _ _).drew))
  go_upto_region 3 with (fail)
  refine @_root_.id ((∀ W:World,Hid (W.heap[gE]? =some (.cells EV 66 (0,0)))→Hid (W.heap[gQ]? =some (.cells PV 82 (0,0)))→Hid (Upd [] [] w W)→(?pj1:World→Prop) W)→_) (fun hJ=>?mj1) ?jj1
  case mj1 =>
   refine wp_region_noPanic ?_
   refine wp_region_held_drew (S:=fun wp=>(Instr.loadAt 66 (.pointer (some ⟨gE,0,none⟩))).run Tryz.prog wp=.ok (.agg EV) wp∧(Instr.loadAt 82 (.pointer (some ⟨gQ,0,none⟩))).run Tryz.prog wp=.ok (.agg PV) wp) (by kernel_rfl) ?_ (fun hHeld=>?_)
   · exact ⟨ev_runs HEI.out RE_0.out,pt_runs HPV.out RQ_0.out⟩
   refine tkL 0 hHeld EV (fun w hSw=>hSw.1) ?_
   refine tkL 1 hHeld PV (fun w hSw=>hSw.2) ?_
   refine tk1 2 fun K hK=>?_
   rw [if_pos (by rfl)];refine wp_store_row 66 _ _ rfl gE EV rfl rfl _ _ RE_0.out HEI.out rfl HEO.out ?_;obtain ⟨wv1,hwx⟩:∃ W':World,W'=w3.drew.setRow gE EV:=⟨_,rfl⟩;have RE_1:Hid (wv1.heap[gE]? =some (.cells EV 66 (0,0))):=(by show _=_;rw [hwx];exact setRow_heap _ _ _ _ _ _ RE_0.out);have RQ_1:Hid (wv1.heap[gQ]? =some (.cells PV 82 (0,0))):=(by show _=_;rw [hwx];exact row_setRowO RQ_0.out HNE.out.symm EV);have UU_1:Hid (Upd [] [] w wv1):=(by show Upd _ _ _ _;rw [hwx];exact UU_0.out.setRowNew HGE.out EV);rw [← hwx];clear hwx
   refine tkK hK (⟨ev_runs HEI.out RE_1.out,pt_runs HPV.out RQ_1.out⟩) fun hHeld=>?_
   clear hK K
   refine tkY 3 hHeld ?_
   refine tk1 4 fun K hK=>?_
   rw [if_pos (by rfl)];refine wp_store_row 82 _ _ rfl gQ PV rfl rfl _ _ RQ_1.out HPI.out rfl HPO.out ?_;obtain ⟨wv2,hwx⟩:∃ W':World,W'=wv1.setRow gQ PV:=⟨_,rfl⟩;have RQ_2:Hid (wv2.heap[gQ]? =some (.cells PV 82 (0,0))):=(by show _=_;rw [hwx];exact setRow_heap _ _ _ _ _ _ RQ_1.out);have RE_2:Hid (wv2.heap[gE]? =some (.cells EV 66 (0,0))):=(by show _=_;rw [hwx];exact row_setRowO RE_1.out HNE.out PV);have UU_2:Hid (Upd [] [] w wv2):=(by show Upd _ _ _ _;rw [hwx];exact UU_1.out.setRowNew HGQ.out PV);rw [← hwx];clear hwx
   refine tkK hK (⟨ev_runs HEI.out RE_2.out,pt_runs HPV.out RQ_2.out⟩) fun hHeld=>?_
   clear hK K
   refine tkY 5 hHeld ?_
   refine wpAnyH_done (by kernel_rfl) ?_ _
   refine NoPanic.normal ?_
   exact hJ wv2 RE_2 RQ_2 UU_2
  intro wZ REZ RQZ UZ
  clear RE_0 RQ_0 UU_0
  go_wp2_with fail
  refine bodyPost_ret (results_four rfl _ _ gE gQ _ _ EV PV _ _ _ _ rfl REZ.out Tryz.underlying66 rfl HEI.out rfl RQZ.out Tryz.underlying82 rfl HPI.out) rfl ?_
  rw [HPV.out]
  exact ⟨EV,0,_,_,_,_,false,Lib.hid (And.intro HEI.out (And.intro HEO.out HES.out)),.inr ⟨rfl,HNO.out⟩,rfl,UZ.out⟩
 | true =>
  obtain ⟨ev,hc,hEV⟩:∃ ev,IsCode (preE ++ bs T) ev∧EV=ev.V.toArray:=by
   rcases HE.out with ⟨_,h⟩ | ⟨h,_⟩
   · exact h
   · cases h
  have HC:=Lib.hid hc
  have HV:=Lib.hid hEV
  obtain ⟨k,hk⟩:∃ k,k=ev.k:=⟨_,rfl⟩
  obtain ⟨tx,htx⟩:∃ t,t=ev.x:=⟨_,rfl⟩
  have cK:w3.cell? ⟨gE,1,none⟩=some (.int .i64 k):=(cell_of_row _ gE 1 _ _ _ RE3.out).trans (by rw [hEV,hk];rfl)
  have cX:w3.cell? ⟨gE,5,none⟩=some (.string tx):=(cell_of_row _ gE 5 _ _ _ RE3.out).trans (by rw [hEV,htx];rfl)
  have HKT:=Lib.hid (And.intro hk htx)
  have HUN:Hid (∀ f,IsCode (preE ++ bs T) f→f=ev):=fun f hf=>isCode_inj hf HC.out (by have:=hf.size;have:=HL2.out;omega) (by have:=HC.out.size;have:=HL2.out;omega)
  have htz:tx.size≤1000000:=by rw [htx];have:=hc.size;have:=HL2.out;omega
  obtain ⟨PV,hPV⟩:∃ PV:Array Value,PV=#[.int .i64 0,.int .i64 0,.int .i64 0,.int .i64 0]:=⟨_,rfl⟩
  have HPV:=Lib.hid hPV
  have HPI:Hid ((Tryz.prog.info? 82).map (·.size)=some PV.size):=by rw [hPV];exact ptInfo _ _ _ _
  have HPO:Hid (PV.all (·.oneCell')=true):=by rw [hPV];exact part_row _ _ _ _
  have RQ4:Hid (w3.heap[gQ]? =some (.cells PV 82 (0,0))):=by show _=_;rw [hPV];exact RQ3.out
  clear hPV HE RE2 HW3 hc hEV hk htx
  by_cases h5:k=5
  case neg =>
   have HNO:Hid (∀ ev ep x v c z,¬ IsPar (bs T) ev ep x v c z):=fun f ep x v c z h=>by
    rw [HUN.out f h.1] at h
    exact h5 (HKT.out.1.trans h.2.1)
   have RE_0:=Lib.hid (row_updH RE3.out (show Upd [] [] w3 w3.drew from (Upd.refl _ _).drew))
   have RQ_0:=Lib.hid (row_updH RQ4.out (show Upd [] [] w3 w3.drew from (Upd.refl _ _).drew))
   have UU_0:=Lib.hid (U3.out.trans (show Upd [] [] w3 w3.drew from (Upd.refl _ _).drew))
   go_upto_region 3 with (fail)
   refine @_root_.id ((∀ W:World,Hid (W.heap[gE]? =some (.cells EV 66 (0,0)))→Hid (W.heap[gQ]? =some (.cells PV 82 (0,0)))→Hid (Upd [] [] w W)→(?pj4:World→Prop) W)→_) (fun hJ=>?mj4) ?jj4
   case mj4 =>
    refine wp_region_noPanic ?_
    refine wp_region_held_drew (S:=fun wp=>(Instr.loadAt 66 (.pointer (some ⟨gE,0,none⟩))).run Tryz.prog wp=.ok (.agg EV) wp∧(Instr.loadAt 82 (.pointer (some ⟨gQ,0,none⟩))).run Tryz.prog wp=.ok (.agg PV) wp) (by kernel_rfl) ?_ (fun hHeld=>?_)
    · exact ⟨ev_runs HEI.out RE_0.out,pt_runs HPV.out RQ_0.out⟩
    refine tkL 0 hHeld EV (fun w hSw=>hSw.1) ?_
    refine tkL 1 hHeld PV (fun w hSw=>hSw.2) ?_
    refine tk1 2 fun K hK=>?_
    rw [if_pos (by rfl)];refine wp_store_row 66 _ _ rfl gE EV rfl rfl _ _ RE_0.out HEI.out rfl HEO.out ?_;obtain ⟨wv1,hwx⟩:∃ W':World,W'=w3.drew.setRow gE EV:=⟨_,rfl⟩;have RE_1:Hid (wv1.heap[gE]? =some (.cells EV 66 (0,0))):=(by show _=_;rw [hwx];exact setRow_heap _ _ _ _ _ _ RE_0.out);have RQ_1:Hid (wv1.heap[gQ]? =some (.cells PV 82 (0,0))):=(by show _=_;rw [hwx];exact row_setRowO RQ_0.out HNE.out.symm EV);have UU_1:Hid (Upd [] [] w wv1):=(by show Upd _ _ _ _;rw [hwx];exact UU_0.out.setRowNew HGE.out EV);rw [← hwx];clear hwx
    refine tkK hK (⟨ev_runs HEI.out RE_1.out,pt_runs HPV.out RQ_1.out⟩) fun hHeld=>?_
    clear hK K
    refine tkY 3 hHeld ?_
    refine tk1 4 fun K hK=>?_
    rw [if_pos (by rfl)];refine wp_store_row 82 _ _ rfl gQ PV rfl rfl _ _ RQ_1.out HPI.out rfl HPO.out ?_;obtain ⟨wv2,hwx⟩:∃ W':World,W'=wv1.setRow gQ PV:=⟨_,rfl⟩;have RQ_2:Hid (wv2.heap[gQ]? =some (.cells PV 82 (0,0))):=(by show _=_;rw [hwx];exact setRow_heap _ _ _ _ _ _ RQ_1.out);have RE_2:Hid (wv2.heap[gE]? =some (.cells EV 66 (0,0))):=(by show _=_;rw [hwx];exact row_setRowO RE_1.out HNE.out PV);have UU_2:Hid (Upd [] [] w wv2):=(by show Upd _ _ _ _;rw [hwx];exact UU_1.out.setRowNew HGQ.out PV);rw [← hwx];clear hwx
    refine tkK hK (⟨ev_runs HEI.out RE_2.out,pt_runs HPV.out RQ_2.out⟩) fun hHeld=>?_
    clear hK K
    refine tkY 5 hHeld ?_
    refine wpAnyH_done (by kernel_rfl) ?_ _
    refine NoPanic.normal ?_
    exact hJ wv2 RE_2 RQ_2 UU_2
   intro wZ REZ RQZ UZ
   clear RE_0 RQ_0 UU_0
   go_wp2_with fail
   refine bodyPost_ret (results_four rfl _ _ gE gQ _ _ EV PV _ _ _ _ rfl REZ.out Tryz.underlying66 rfl HEI.out rfl RQZ.out Tryz.underlying82 rfl HPI.out) rfl ?_
   rw [HPV.out]
   exact ⟨EV,0,_,_,_,_,false,Lib.hid (And.intro HEI.out (And.intro HEO.out HES.out)),.inr ⟨rfl,HNO.out⟩,rfl,UZ.out⟩
  have HK5:=Lib.hid h5
  have HCT:=Lib.hid (cutByte_any tx 32 w3 (by omega) (htab.upd U3.out))
  go_wp2_with fail
  refine HCT.out.mono ?_
  rintro e w4 ⟨l,r,q,HLL,HR,HQ,hl,hr,rfl,hq⟩
  have RE4:=Lib.hid (row_updH RE3.out hq)
  have RQ5:=Lib.hid (row_updH RQ4.out hq)
  have U4:=Lib.hid (U3.out.trans hq)
  have HLR:Hid (l.size≤1000000∧r.size≤1000000):=⟨by omega,by omega⟩
  clear hq HCT cK cX h5 hl hr htz RE3 RQ3 RQ4 U3
  cases q with
  | false =>
   have HNO:Hid (∀ ev ep x v c z,¬ IsPar (bs T) ev ep x v c z):=fun f ep x v c z h=>by
    rw [HUN.out f h.1] at h
    obtain ⟨_,_,_,y,hy,_⟩:=h
    have e:=HQ.out
    rw [HKT.out.2,hy,cut_hit 32 _ _ (itoa_no32 _)] at e
    cases e
   have RE_0:=Lib.hid (row_updH RE4.out (show Upd [] [] w4 w4.drew from (Upd.refl _ _).drew))
   have RQ_0:=Lib.hid (row_updH RQ5.out (show Upd [] [] w4 w4.drew from (Upd.refl _ _).drew))
   have UU_0:=Lib.hid (U4.out.trans (show Upd [] [] w4 w4.drew from (Upd.refl _ _).drew))
   go_upto_region 6 with (fail)
   refine @_root_.id ((∀ W:World,Hid (W.heap[gE]? =some (.cells EV 66 (0,0)))→Hid (W.heap[gQ]? =some (.cells PV 82 (0,0)))→Hid (Upd [] [] w W)→(?pj7:World→Prop) W)→_) (fun hJ=>?mj7) ?jj7
   case mj7 =>
    refine wp_region_noPanic ?_
    refine wp_region_held_drew (S:=fun wp=>(Instr.loadAt 66 (.pointer (some ⟨gE,0,none⟩))).run Tryz.prog wp=.ok (.agg EV) wp∧(Instr.loadAt 82 (.pointer (some ⟨gQ,0,none⟩))).run Tryz.prog wp=.ok (.agg PV) wp) (by kernel_rfl) ?_ (fun hHeld=>?_)
    · exact ⟨ev_runs HEI.out RE_0.out,pt_runs HPV.out RQ_0.out⟩
    refine tkL 0 hHeld EV (fun w hSw=>hSw.1) ?_
    refine tkL 1 hHeld PV (fun w hSw=>hSw.2) ?_
    refine tk1 2 fun K hK=>?_
    rw [if_pos (by rfl)];refine wp_store_row 66 _ _ rfl gE EV rfl rfl _ _ RE_0.out HEI.out rfl HEO.out ?_;obtain ⟨wv1,hwx⟩:∃ W':World,W'=w4.drew.setRow gE EV:=⟨_,rfl⟩;have RE_1:Hid (wv1.heap[gE]? =some (.cells EV 66 (0,0))):=(by show _=_;rw [hwx];exact setRow_heap _ _ _ _ _ _ RE_0.out);have RQ_1:Hid (wv1.heap[gQ]? =some (.cells PV 82 (0,0))):=(by show _=_;rw [hwx];exact row_setRowO RQ_0.out HNE.out.symm EV);have UU_1:Hid (Upd [] [] w wv1):=(by show Upd _ _ _ _;rw [hwx];exact UU_0.out.setRowNew HGE.out EV);rw [← hwx];clear hwx
    refine tkK hK (⟨ev_runs HEI.out RE_1.out,pt_runs HPV.out RQ_1.out⟩) fun hHeld=>?_
    clear hK K
    refine tkY 3 hHeld ?_
    refine tk1 4 fun K hK=>?_
    rw [if_pos (by rfl)];refine wp_store_row 82 _ _ rfl gQ PV rfl rfl _ _ RQ_1.out HPI.out rfl HPO.out ?_;obtain ⟨wv2,hwx⟩:∃ W':World,W'=wv1.setRow gQ PV:=⟨_,rfl⟩;have RQ_2:Hid (wv2.heap[gQ]? =some (.cells PV 82 (0,0))):=(by show _=_;rw [hwx];exact setRow_heap _ _ _ _ _ _ RQ_1.out);have RE_2:Hid (wv2.heap[gE]? =some (.cells EV 66 (0,0))):=(by show _=_;rw [hwx];exact row_setRowO RE_1.out HNE.out PV);have UU_2:Hid (Upd [] [] w wv2):=(by show Upd _ _ _ _;rw [hwx];exact UU_1.out.setRowNew HGQ.out PV);rw [← hwx];clear hwx
    refine tkK hK (⟨ev_runs HEI.out RE_2.out,pt_runs HPV.out RQ_2.out⟩) fun hHeld=>?_
    clear hK K
    refine tkY 5 hHeld ?_
    refine wpAnyH_done (by kernel_rfl) ?_ _
    refine NoPanic.normal ?_
    exact hJ wv2 RE_2 RQ_2 UU_2
   intro wZ REZ RQZ UZ
   clear RE_0 RQ_0 UU_0
   go_wp2_with fail
   refine bodyPost_ret (results_four rfl _ _ gE gQ _ _ EV PV _ _ _ _ rfl REZ.out Tryz.underlying66 rfl HEI.out rfl RQZ.out Tryz.underlying82 rfl HPI.out) rfl ?_
   rw [HPV.out]
   exact ⟨EV,0,_,_,_,_,false,Lib.hid (And.intro HEI.out (And.intro HEO.out HES.out)),.inr ⟨rfl,HNO.out⟩,rfl,UZ.out⟩
  | true =>
   have HCUT:Hid (Lib.cut (bs tx) [32]=(bs l,bs r,true)):=Prod.ext HLL.out.symm (Prod.ext HR.out.symm HQ.out.symm)
   have HSP:Hid (bs tx=bs l ++ 32 :: bs r):=cut_back HCUT.out
   have HNM:=Lib.hid (cNumberG l w4 (by have:=HLR.out;omega) (htab.upd U4.out))
   clear HLL HR HQ
   go_wp2_with fail
   refine HNM.out.mono ?_
   rintro e w5 ⟨ep,ok,HNK,hep,rfl,hq⟩
   have RE5:=Lib.hid (row_updH RE4.out hq)
   have RQ6:=Lib.hid (row_updH RQ5.out hq)
   have U5:=Lib.hid (U4.out.trans hq)
   have HEP:=Lib.hid hep
   clear hq HNM RE4 RQ5 U4 hep
   cases ok with
   | false =>
    have HNO:Hid (∀ ev ep x v c z,¬ IsPar (bs T) ev ep x v c z):=fun f n x v c z h=>by
     rw [HUN.out f h.1] at h
     obtain ⟨_,_,hn,y,hy,_⟩:=h
     have e:=HCUT.out
     rw [HKT.out.2,hy,cut_hit 32 _ _ (itoa_no32 _)] at e
     injection e with e _
     exact HNK.out.2.2 rfl ⟨n,hn,e.symm⟩
    have RE_0:=Lib.hid (row_updH RE5.out (show Upd [] [] w5 w5.drew from (Upd.refl _ _).drew))
    have RQ_0:=Lib.hid (row_updH RQ6.out (show Upd [] [] w5 w5.drew from (Upd.refl _ _).drew))
    have UU_0:=Lib.hid (U5.out.trans (show Upd [] [] w5 w5.drew from (Upd.refl _ _).drew))
    go_upto_region 9 with (fail)
    refine @_root_.id ((∀ W:World,Hid (W.heap[gE]? =some (.cells EV 66 (0,0)))→Hid (W.heap[gQ]? =some (.cells PV 82 (0,0)))→Hid (Upd [] [] w W)→(?pj10:World→Prop) W)→_) (fun hJ=>?mj10) ?jj10
    case mj10 =>
     refine wp_region_noPanic ?_
     refine wp_region_held_drew (S:=fun wp=>(Instr.loadAt 66 (.pointer (some ⟨gE,0,none⟩))).run Tryz.prog wp=.ok (.agg EV) wp∧(Instr.loadAt 82 (.pointer (some ⟨gQ,0,none⟩))).run Tryz.prog wp=.ok (.agg PV) wp) (by kernel_rfl) ?_ (fun hHeld=>?_)
     · exact ⟨ev_runs HEI.out RE_0.out,pt_runs HPV.out RQ_0.out⟩
     refine tkL 0 hHeld EV (fun w hSw=>hSw.1) ?_
     refine tkL 1 hHeld PV (fun w hSw=>hSw.2) ?_
     refine tk1 2 fun K hK=>?_
     rw [if_pos (by rfl)];refine wp_store_row 66 _ _ rfl gE EV rfl rfl _ _ RE_0.out HEI.out rfl HEO.out ?_;obtain ⟨wv1,hwx⟩:∃ W':World,W'=w5.drew.setRow gE EV:=⟨_,rfl⟩;have RE_1:Hid (wv1.heap[gE]? =some (.cells EV 66 (0,0))):=(by show _=_;rw [hwx];exact setRow_heap _ _ _ _ _ _ RE_0.out);have RQ_1:Hid (wv1.heap[gQ]? =some (.cells PV 82 (0,0))):=(by show _=_;rw [hwx];exact row_setRowO RQ_0.out HNE.out.symm EV);have UU_1:Hid (Upd [] [] w wv1):=(by show Upd _ _ _ _;rw [hwx];exact UU_0.out.setRowNew HGE.out EV);rw [← hwx];clear hwx
     refine tkK hK (⟨ev_runs HEI.out RE_1.out,pt_runs HPV.out RQ_1.out⟩) fun hHeld=>?_
     clear hK K
     refine tkY 3 hHeld ?_
     refine tk1 4 fun K hK=>?_
     rw [if_pos (by rfl)];refine wp_store_row 82 _ _ rfl gQ PV rfl rfl _ _ RQ_1.out HPI.out rfl HPO.out ?_;obtain ⟨wv2,hwx⟩:∃ W':World,W'=wv1.setRow gQ PV:=⟨_,rfl⟩;have RQ_2:Hid (wv2.heap[gQ]? =some (.cells PV 82 (0,0))):=(by show _=_;rw [hwx];exact setRow_heap _ _ _ _ _ _ RQ_1.out);have RE_2:Hid (wv2.heap[gE]? =some (.cells EV 66 (0,0))):=(by show _=_;rw [hwx];exact row_setRowO RE_1.out HNE.out PV);have UU_2:Hid (Upd [] [] w wv2):=(by show Upd _ _ _ _;rw [hwx];exact UU_1.out.setRowNew HGQ.out PV);rw [← hwx];clear hwx
     refine tkK hK (⟨ev_runs HEI.out RE_2.out,pt_runs HPV.out RQ_2.out⟩) fun hHeld=>?_
     clear hK K
     refine tkY 5 hHeld ?_
     refine wpAnyH_done (by kernel_rfl) ?_ _
     refine NoPanic.normal ?_
     exact hJ wv2 RE_2 RQ_2 UU_2
    intro wZ REZ RQZ UZ
    clear RE_0 RQ_0 UU_0
    go_wp2_with fail
    refine bodyPost_ret (results_four rfl _ _ gE gQ _ _ EV PV _ _ _ _ rfl REZ.out Tryz.underlying66 rfl HEI.out rfl RQZ.out Tryz.underlying82 rfl HPI.out) rfl ?_
    rw [HPV.out]
    exact ⟨EV,0,_,_,_,_,false,Lib.hid (And.intro HEI.out (And.intro HEO.out HES.out)),.inr ⟨rfl,HNO.out⟩,rfl,UZ.out⟩
   | true =>
    have HNB:Hid (bs l=Lib.itoa ep):=HNK.out.2.1 rfl
    have HBR:=Lib.hid (bcRead_any r HLR.out.2 w5 (htab.upd U5.out))
    clear HNK
    go_wp2_with fail
    refine HBR.out.mono ?_
    rintro e w6 ⟨x,v,c,z,ok3,HPR,rfl,hq⟩
    have RE6:=Lib.hid (row_updH RE5.out hq)
    have RQ7:=Lib.hid (row_updH RQ6.out hq)
    have U6:=Lib.hid (U5.out.trans hq)
    have HPZ:Hid (PV.size=4):=by show _=_;rw [HPV.out];rfl
    obtain ⟨QV,hQV⟩:∃ QV:Array Value,QV=#[.int .i64 x,.int .i64 v,.int .i64 c,.int .i64 z]:=⟨_,rfl⟩
    rw [← hQV]
    obtain ⟨w7,hw7⟩:∃ W,w6.setRow gQ QV=W:=⟨_,rfl⟩
    have RQ8:Hid (w7.heap[gQ]? =some (.cells QV 82 (0,0))):=by show _=_;rw [← hw7];exact setRow_heap _ _ _ _ _ _ RQ7.out
    have RE7:Hid (w7.heap[gE]? =some (.cells EV 66 (0,0))):=by show _=_;rw [← hw7];exact row_setRowO RE6.out HNE.out _
    have U7:Hid (Upd [] [] w w7):=by show Upd _ _ _ _;rw [← hw7];exact U6.out.setRowNew HGQ.out _
    have HW7:=Lib.hid hw7
    have HQZ:Hid (PV.size=QV.size):=by show _=_;rw [HPZ.out,hQV];rfl
    have HQV:=Lib.hid hQV
    have HQI:Hid ((Tryz.prog.info? 82).map (·.size)=some QV.size):=by rw [hQV];exact ptInfo _ _ _ _
    have HQO:Hid (QV.all (·.oneCell')=true):=by rw [hQV];exact part_row _ _ _ _
    clear hq HBR RE5 RQ6 U5 hQV hw7
    go_wp2_with (first | (refine wpList_store_rowAs rfl 82 _ _ rfl gQ QV rfl rfl _ _ RQ7.out HQI.out HQZ.out HQO.out w7 HW7.out ?_))
    clear RQ7 HW7 HQZ HPV HPI HPO HPZ RE6 U6
    have HFIN:Hid ((ok3=true∧∃ ev,EV=ev.V.toArray∧IsPar (bs T) ev ep x v c z)∨(ok3=false∧∀ ev ep x v c z,¬ IsPar (bs T) ev ep x v c z)):=by
     rcases HPR.out with ⟨h,hp⟩ | ⟨h,hp,_⟩
     · refine .inl ⟨h,ev,HV.out,HC.out,HKT.out.1.symm.trans HK5.out,HEP.out,bs r,?_,hp⟩
       rw [← HKT.out.2,HSP.out,HNB.out]
     · refine .inr ⟨h,fun f n x v c z hf=>?_⟩
       rw [HUN.out f hf.1] at hf
       obtain ⟨_,_,hn,y,hy,hpp⟩:=hf
       have e:=HCUT.out
       rw [HKT.out.2,hy,cut_hit 32 _ _ (itoa_no32 _)] at e
       injection e with _ e
       injection e with e _
       exact hp x v c z (e ▸ hpp)
    obtain ⟨PV,hPQ⟩:∃ PV,PV=QV:=⟨_,rfl⟩
    subst hPQ
    have HPV:=HQV
    have HPI:=HQI
    have HPO:=HQO
    have RE_0:=Lib.hid (row_updH RE7.out (show Upd [] [] w7 w7.drew from (Upd.refl _ _).drew))
    have RQ_0:=Lib.hid (row_updH RQ8.out (show Upd [] [] w7 w7.drew from (Upd.refl _ _).drew))
    have UU_0:=Lib.hid (U7.out.trans (show Upd [] [] w7 w7.drew from (Upd.refl _ _).drew))
    go_upto_region 11 with (fail)
    refine @_root_.id ((∀ W:World,Hid (W.heap[gE]? =some (.cells EV 66 (0,0)))→Hid (W.heap[gQ]? =some (.cells PV 82 (0,0)))→Hid (Upd [] [] w W)→(?pj13:World→Prop) W)→_) (fun hJ=>?mj13) ?jj13
    case mj13 =>
     refine wp_region_noPanic ?_
     refine wp_region_held_drew (S:=fun wp=>(Instr.loadAt 66 (.pointer (some ⟨gE,0,none⟩))).run Tryz.prog wp=.ok (.agg EV) wp∧(Instr.loadAt 82 (.pointer (some ⟨gQ,0,none⟩))).run Tryz.prog wp=.ok (.agg PV) wp) (by kernel_rfl) ?_ (fun hHeld=>?_)
     · exact ⟨ev_runs HEI.out RE_0.out,pt_runs HPV.out RQ_0.out⟩
     refine tkL 0 hHeld EV (fun w hSw=>hSw.1) ?_
     refine tkY 1 hHeld ?_
     refine tkL 2 hHeld PV (fun w hSw=>hSw.2) ?_
     refine tkY 3 hHeld ?_
     refine tk1 4 fun K hK=>?_
     rw [if_pos (by rfl)];refine wp_store_row 66 _ _ rfl gE EV rfl rfl _ _ RE_0.out HEI.out rfl HEO.out ?_;obtain ⟨wv1,hwx⟩:∃ W':World,W'=w7.drew.setRow gE EV:=⟨_,rfl⟩;have RE_1:Hid (wv1.heap[gE]? =some (.cells EV 66 (0,0))):=(by show _=_;rw [hwx];exact setRow_heap _ _ _ _ _ _ RE_0.out);have RQ_1:Hid (wv1.heap[gQ]? =some (.cells PV 82 (0,0))):=(by show _=_;rw [hwx];exact row_setRowO RQ_0.out HNE.out.symm EV);have UU_1:Hid (Upd [] [] w wv1):=(by show Upd _ _ _ _;rw [hwx];exact UU_0.out.setRowNew HGE.out EV);rw [← hwx];clear hwx
     refine tkK hK (⟨ev_runs HEI.out RE_1.out,pt_runs HPV.out RQ_1.out⟩) fun hHeld=>?_
     clear hK K
     refine tkY 5 hHeld ?_
     refine tk1 6 fun K hK=>?_
     rw [if_pos (by rfl)];refine wp_store_row 82 _ _ rfl gQ PV rfl rfl _ _ RQ_1.out HPI.out rfl HPO.out ?_;obtain ⟨wv2,hwx⟩:∃ W':World,W'=wv1.setRow gQ PV:=⟨_,rfl⟩;have RQ_2:Hid (wv2.heap[gQ]? =some (.cells PV 82 (0,0))):=(by show _=_;rw [hwx];exact setRow_heap _ _ _ _ _ _ RQ_1.out);have RE_2:Hid (wv2.heap[gE]? =some (.cells EV 66 (0,0))):=(by show _=_;rw [hwx];exact row_setRowO RE_1.out HNE.out PV);have UU_2:Hid (Upd [] [] w wv2):=(by show Upd _ _ _ _;rw [hwx];exact UU_1.out.setRowNew HGQ.out PV);rw [← hwx];clear hwx
     refine tkK hK (⟨ev_runs HEI.out RE_2.out,pt_runs HPV.out RQ_2.out⟩) fun hHeld=>?_
     clear hK K
     refine tkY 7 hHeld ?_
     refine wpAnyH_done (by kernel_rfl) ?_ _
     refine NoPanic.normal ?_
     exact hJ wv2 RE_2 RQ_2 UU_2
    intro wZ REZ RQZ UZ
    clear RE_0 RQ_0 UU_0
    go_wp2_with fail
    refine bodyPost_ret (results_four rfl _ _ gE gQ _ _ EV PV _ _ _ _ rfl REZ.out Tryz.underlying66 rfl HEI.out rfl RQZ.out Tryz.underlying82 rfl HPI.out) rfl ?_
    rw [HPV.out]
    exact ⟨EV,ep,_,_,_,_,ok3,Lib.hid (And.intro HEI.out (And.intro HEO.out HES.out)),HFIN,rfl,UZ.out⟩
def MkPB2 (P:Bool→Prop) (w:World) (e:Ending) (w':World):Prop:=∃ b:Bool,Hid (P b)∧e=.returned (.bool b)∧Upd [] [] w w'
section
variable {M : Array Value} {aw ar as' bw br bs' low high id pub : Int} {aT bT F A B : ByteArray}
set_option maxHeartbeats 4000000 in
theorem formWrong_any (h:MtIs M aw aT ar as' bw bT br bs' low high F A B id pub) (ht:aT.size≤900000) (w:World) (htab:Tabs w) :
 Calls Tryz.prog 87 #[.agg M] w (MkPB2 (fun b=>b=true ↔ ∃ ev ep x v c z,IsPar (bs aT) ev ep x v c z) w):=by
 obtain ⟨g,hg⟩:∃ g,w.heap.size=g:=⟨_,rfl⟩
 obtain ⟨w0,hw0⟩:∃ W,w.alloc (.cells M 106)=W:=⟨_,rfl⟩
 have r0:=Lib.hid (show w0.heap[g]? =some (.cells M 106 (0,0)) by rw [← hg,← hw0];exact heap_alloc_new _ _)
 have u0:=Lib.hid (show Upd [] [] w w0 by rw [← hw0];exact (Upd.refl _ _).alloc _)
 have c1:=(cell_of_row _ g 9 _ _ _ r0.out).trans h.a1
 have HP:=Lib.hid (partial_any aT ht w0 (htab.upd u0.out))
 clear h
 go_enter Tryz.func87,Tryz.ntmps87
 go_wp2_with fail
 refine HP.out.mono ?_
 rintro e w1 ⟨EV,ep,x,v,c,z,ok,HI,HR,rfl,hq⟩
 obtain ⟨PV,hPV⟩:∃ PV:Array Value,PV=#[.int .i64 x,.int .i64 v,.int .i64 c,.int .i64 z]:=⟨_,rfl⟩
 rw [← hPV]
 have U1:=Lib.hid (u0.out.trans hq)
 obtain ⟨gE,hgE⟩:∃ g,w1.heap.size=g:=⟨_,rfl⟩
 obtain ⟨w2,hw2⟩:∃ W,w1.alloc (.cells #[.int .i64 0,.int .i64 0,.int .i64 0,.int .i64 0,.int .i64 0,.string ⟨#[]⟩,.int .u8 0,.int .u8 0,.int .u8 0,.int .u8 0,.int .u8 0,.int .u8 0,.int .u8 0,.int .u8 0,.int .u8 0,.int .u8 0,.int .u8 0,.int .u8 0,.int .u8 0,.int .u8 0,.int .u8 0,.int .u8 0,.int .u8 0,.int .u8 0,.int .u8 0,.int .u8 0,.int .u8 0,.int .u8 0,.int .u8 0,.int .u8 0,.int .u8 0,.int .u8 0,.int .u8 0,.int .u8 0,.int .u8 0,.int .u8 0,.int .u8 0,.int .u8 0,.int .i64 0,.int .i64 0] 66)=W:=⟨_,rfl⟩
 have HEZ:Hid ((#[.int .i64 0,.int .i64 0,.int .i64 0,.int .i64 0,.int .i64 0,.string ⟨#[]⟩,.int .u8 0,.int .u8 0,.int .u8 0,.int .u8 0,.int .u8 0,.int .u8 0,.int .u8 0,.int .u8 0,.int .u8 0,.int .u8 0,.int .u8 0,.int .u8 0,.int .u8 0,.int .u8 0,.int .u8 0,.int .u8 0,.int .u8 0,.int .u8 0,.int .u8 0,.int .u8 0,.int .u8 0,.int .u8 0,.int .u8 0,.int .u8 0,.int .u8 0,.int .u8 0,.int .u8 0,.int .u8 0,.int .u8 0,.int .u8 0,.int .u8 0,.int .u8 0,.int .i64 0,.int .i64 0]:Array Value).size=EV.size):=by show _=_;rw [zero_ev];exact HI.out.2.2
 have rE2:w2.heap[gE]? =some (.cells #[.int .i64 0,.int .i64 0,.int .i64 0,.int .i64 0,.int .i64 0,.string ⟨#[]⟩,.int .u8 0,.int .u8 0,.int .u8 0,.int .u8 0,.int .u8 0,.int .u8 0,.int .u8 0,.int .u8 0,.int .u8 0,.int .u8 0,.int .u8 0,.int .u8 0,.int .u8 0,.int .u8 0,.int .u8 0,.int .u8 0,.int .u8 0,.int .u8 0,.int .u8 0,.int .u8 0,.int .u8 0,.int .u8 0,.int .u8 0,.int .u8 0,.int .u8 0,.int .u8 0,.int .u8 0,.int .u8 0,.int .u8 0,.int .u8 0,.int .u8 0,.int .u8 0,.int .i64 0,.int .i64 0] 66 (0,0)):=by rw [← hgE,← hw2];exact heap_alloc_new _ _
 obtain ⟨gQ,hgQ⟩:∃ g,w2.heap.size=g:=⟨_,rfl⟩
 obtain ⟨w3,hw3⟩:∃ W,w2.alloc (.cells #[.int .i64 0,.int .i64 0,.int .i64 0,.int .i64 0] 82)=W:=⟨_,rfl⟩
 have q2:Upd [] [] w1 w2:=by rw [← hw2];exact (Upd.refl _ _).alloc _
 have q3:Upd [] [] w2 w3:=by rw [← hw3];exact (Upd.refl _ _).alloc _
 have rE3:=Lib.hid (row_updH rE2 q3)
 have rQ3:w3.heap[gQ]? =some (.cells #[.int .i64 0,.int .i64 0,.int .i64 0,.int .i64 0] 82 (0,0)):=by rw [← hgQ,← hw3];exact heap_alloc_new _ _
 have hne:gQ≠gE:=by have:=blk_lt rE2;omega
 obtain ⟨w4,hw4⟩:∃ W,w3.setRow gE EV=W:=⟨_,rfl⟩
 have rQ4:Hid (w4.heap[gQ]? =some (.cells #[.int .i64 0,.int .i64 0,.int .i64 0,.int .i64 0] 82 (0,0))):=by show _=_;rw [← hw4];exact row_setRowO rQ3 hne _
 obtain ⟨w5,hw5⟩:∃ W,w4.setRow gQ PV=W:=⟨_,rfl⟩
 have HW4:=Lib.hid hw4
 have HW5:=Lib.hid hw5
 have U5:Hid (Upd [] [] w w5):=by
  show Upd _ _ _ _
  rw [← hw5,← hw4]
  have:=U1.out.size
  have:=q2.size
  exact (((U1.out.trans q2).trans q3).setRowNew (by omega) _).setRowNew (by omega) _
 have HQI:Hid ((Tryz.prog.info? 82).map (·.size)=some PV.size):=by rw [hPV];exact ptInfo _ _ _ _
 have HQO:Hid (PV.all (·.oneCell')=true):=by rw [hPV];exact part_row _ _ _ _
 have HQZ:Hid ((#[.int .i64 0,.int .i64 0,.int .i64 0,.int .i64 0]:Array Value).size=PV.size):=by rw [hPV];rfl
 clear hq HP c1 hPV rE2 rQ3 q2 q3 hw4 hw5 hne
 go_wp2_with (first | (refine wpList_store_rowAs rfl 66 _ _ rfl gE EV rfl rfl _ _ rE3.out HI.out.1 HEZ.out HI.out.2.1 w4 HW4.out ?_) | (refine wpList_store_rowAs rfl 82 _ _ rfl gQ PV rfl rfl _ _ rQ4.out HQI.out HQZ.out HQO.out w5 HW5.out ?_))
 go_ret
 refine ⟨ok,?_,rfl,U5.out⟩
 show ok=true ↔ _
 rcases HR.out with ⟨h,ev,_,hp⟩ | ⟨h,hn⟩
 · exact ⟨fun _=>⟨ev,ep,x,v,c,z,hp⟩,fun _=>h⟩
 · exact ⟨(fun hk=>by rw [h] at hk;cases hk),fun ⟨ev,ep,x,v,c,z,hp⟩=>absurd hp (hn ev ep x v c z)⟩
end
def IsLck (l:List UInt8) (ev:EvG):Prop:=IsCode (preE ++ l) ev∧ev.k=4
def MkLck (l:List UInt8) (w:World) (e:Ending) (w':World):Prop :=
 ∃ (EV:Array Value) (b:Bool),Hid ((Tryz.prog.info? 66).map (·.size)=some EV.size∧EV.all (·.oneCell')=true∧evZ.toArray.size=EV.size)∧Hid ((b=true∧∃ ev,IsLck l ev∧EV=ev.V.toArray)∨(b=false∧∀ ev,¬ IsLck l ev))∧e=.returned (.tuple #[.agg EV,.bool b])∧Upd [] [] w w'
set_option maxHeartbeats 4000000 in
theorem isLock_any (T:ByteArray) (hT:T.size≤900000) (w:World) (htab:Tabs w):Calls Tryz.prog 151 #[.string T] w (MkLck (bs T) w):=by
 obtain ⟨gR,hgR⟩:∃ g,w.heap.size=g:=⟨_,rfl⟩
 obtain ⟨w0,hw0⟩:∃ W,w.alloc (.cells #[.int .i64 0,.int .i64 0,.int .i64 0,.int .i64 0,.int .i64 0,.string ⟨#[]⟩,.int .u8 0,.int .u8 0,.int .u8 0,.int .u8 0,.int .u8 0,.int .u8 0,.int .u8 0,.int .u8 0,.int .u8 0,.int .u8 0,.int .u8 0,.int .u8 0,.int .u8 0,.int .u8 0,.int .u8 0,.int .u8 0,.int .u8 0,.int .u8 0,.int .u8 0,.int .u8 0,.int .u8 0,.int .u8 0,.int .u8 0,.int .u8 0,.int .u8 0,.int .u8 0,.int .u8 0,.int .u8 0,.int .u8 0,.int .u8 0,.int .u8 0,.int .u8 0,.int .i64 0,.int .i64 0] 66)=W:=⟨_,rfl⟩
 have r0:=Lib.hid (show w0.heap[gR]? =some (.cells evZ.toArray 66 (0,0)) by rw [← hgR,← hw0,zero_ev];exact heap_alloc_new _ _)
 have u0:=Lib.hid (show Upd [] [] w w0 by rw [← hw0];exact (Upd.refl _ _).alloc _)
 have HGR:Hid (w.heap.size≤gR):=Nat.le_of_eq hgR
 have HEV:=Lib.hid (eventG T (by omega) w0 (htab.upd u0.out))
 have HL2:Hid ((preE ++ bs T).length≤1000000):=by show _≤_;rw [List.length_append,bs_length];have:preE.length=4:=rfl;omega
 clear hT
 go_enter Tryz.func151,Tryz.ntmps151
 go_wp2_with fail
 refine HEV.out.mono ?_
 rintro e w1 ⟨EV,b,HE,rfl,hq⟩
 have HEI:=Lib.hid HE.out.info.1
 have HEO:=Lib.hid HE.out.info.2.1
 have HES:=Lib.hid HE.out.info.2.2
 obtain ⟨w2,Z2,W2,R2,hq2⟩:=blk_new w1 66 evZ.toArray EV
 rw [← zero_ev] at Z2 W2
 obtain ⟨gE,hgE⟩:∃ g,w1.heap.size=g:=⟨_,rfl⟩
 rw [hgE] at Z2 W2 R2
 have r2:=Lib.hid (row_updH (row_updH r0.out hq) hq2)
 have U2:=Lib.hid ((u0.out.trans hq).trans hq2)
 have ud0:Upd [] [] w2 w2.drew:=(Upd.refl _ _).drew
 have RE:=Lib.hid (row_updH R2.out ud0)
 have RR:=Lib.hid (row_updH r2.out ud0)
 have HKU:=Lib.hid (U2.out.trans ud0)
 obtain ⟨wF,hwF⟩:∃ W,w2.drew.setRow gR EV=W:=⟨_,rfl⟩
 have RF:Hid (wF.heap[gR]? =some (.cells EV 66 (0,0))):=by show _=_;rw [← hwF];exact setRow_heap _ _ _ _ _ _ RR.out
 have REF:Hid (wF.heap[gE]? =some (.cells EV 66 (0,0))):=by
  show _=_
  rw [← hwF]
  exact row_setRowO RE.out (by have:=blk_lt (row_updH r0.out hq);omega) _
 have UF:Hid (Upd [] [] w wF):=by show Upd _ _ _ _;rw [← hwF];exact HKU.out.setRowNew HGR.out _
 have HWF:=Lib.hid hwF
 have HZZ:Hid ((#[.int .i64 0,.int .i64 0,.int .i64 0,.int .i64 0,.int .i64 0,.string ⟨#[]⟩,.int .u8 0,.int .u8 0,.int .u8 0,.int .u8 0,.int .u8 0,.int .u8 0,.int .u8 0,.int .u8 0,.int .u8 0,.int .u8 0,.int .u8 0,.int .u8 0,.int .u8 0,.int .u8 0,.int .u8 0,.int .u8 0,.int .u8 0,.int .u8 0,.int .u8 0,.int .u8 0,.int .u8 0,.int .u8 0,.int .u8 0,.int .u8 0,.int .u8 0,.int .u8 0,.int .u8 0,.int .u8 0,.int .u8 0,.int .u8 0,.int .u8 0,.int .u8 0,.int .i64 0,.int .i64 0]:Array Value).size=EV.size):=by show _=_;rw [zero_ev];exact HES.out
 clear hq hq2 HEV r0 hw0 hgR hwF
 cases b with
 | false =>
  have HNO:Hid (∀ ev,¬ IsLck (bs T) ev):=fun ev h=>by
   rcases HE.out with ⟨h1,_⟩ | ⟨_,hn,_⟩
   · cases h1
   · exact hn ev h.1
  clear HE
  go_upto_region 2 with (first | (refine wpList_store_rowAs rfl 66 _ _ rfl gE EV rfl rfl _ _ Z2.out HEI.out HZZ.out HEO.out w2 W2.out ?_))
  refine wp_region_noPanic ?_
  refine wp_region_held_drew (S:=fun wp=>(Instr.loadAt 66 (.pointer (some ⟨gE,0,none⟩))).run Tryz.prog wp=.ok (.agg EV) wp) (by kernel_rfl) ?_ (fun hHeld=>?_)
  · exact ev_runs HEI.out RE.out
  refine tkL 0 hHeld EV (fun w hSw=>hSw) ?_
  refine tkY 1 hHeld ?_
  refine tkY 2 hHeld ?_
  refine tkN 3 hHeld ?_
  refine tkN 4 hHeld ?_
  refine tkN 5 hHeld ?_
  refine tkY 6 hHeld ?_
  refine tk1 7 fun K hK=>?_
  rw [if_pos (by rfl)];refine wp_store_row 66 _ _ rfl gR EV rfl rfl _ _ RR.out HEI.out HES.out HEO.out ?_;rw [HWF.out]
  refine tkK hK (ev_runs HEI.out REF.out) fun hHeld=>?_
  clear hK K
  refine tkY 8 hHeld ?_
  refine wpAnyH_done (by kernel_rfl) ?_ _
  refine NoPanic.normal ?_
  go_wp2_with fail
  refine bodyPost_ret (results_row_tmp rfl _ _ gR _ EV _ _ rfl RF.out Tryz.underlying66 rfl HEI.out) rfl ?_
  exact ⟨EV,false,Lib.hid (And.intro HEI.out (And.intro HEO.out HES.out)),.inr ⟨rfl,HNO.out⟩,rfl,UF.out⟩
 | true =>
  obtain ⟨ev,hc,hEV⟩:∃ ev,IsCode (preE ++ bs T) ev∧EV=ev.V.toArray:=by
   rcases HE.out with ⟨_,h⟩ | ⟨h,_⟩
   · exact h
   · cases h
  obtain ⟨k,hk⟩:∃ k,k=ev.k:=⟨_,rfl⟩
  have HKK:Hid (EV[1]? =some (.int .i64 k)):=by show _=_;rw [hEV,hk];rfl
  have HC:=Lib.hid (And.intro hc (And.intro hEV hk))
  have HUN:Hid (∀ f,IsCode (preE ++ bs T) f→f=ev):=fun f hf=>isCode_inj hf HC.out.1 (by have:=hf.size;have:=HL2.out;omega) (by have:=HC.out.1.size;have:=HL2.out;omega)
  clear HE hc hEV hk
  by_cases h4:k=4
  · have HYES:Hid (∃ ev,IsLck (bs T) ev∧EV=ev.V.toArray):=⟨ev,⟨HC.out.1,HC.out.2.2.symm.trans h4⟩,HC.out.2.1⟩
    have g4:(k == 4)=true:=by rw [beq_iff_eq];exact h4
    go_upto_region 2 with (first | (refine wpList_store_rowAs rfl 66 _ _ rfl gE EV rfl rfl _ _ Z2.out HEI.out HZZ.out HEO.out w2 W2.out ?_))
    refine wp_region_noPanic ?_
    refine wp_region_held_drew (S:=fun wp=>(Instr.loadAt 66 (.pointer (some ⟨gE,0,none⟩))).run Tryz.prog wp=.ok (.agg EV) wp∧wp.cell? ⟨gE,1,none⟩=some (.int .i64 k)) (by kernel_rfl) ?_ (fun hHeld=>?_)
    · exact ⟨ev_runs HEI.out RE.out,(cell_of_row _ gE 1 _ _ _ RE.out).trans HKK.out⟩
    refine tkL 0 hHeld EV (fun w hSw=>hSw.1) ?_
    refine tkY 1 hHeld ?_
    refine tkY 2 hHeld ?_
    refine tkY 3 hHeld ?_
    refine tkY 4 hHeld ?_
    refine tkY 5 hHeld ?_
    refine tkY 6 hHeld ?_
    refine tk1 7 fun K hK=>?_
    rw [if_pos (by rfl)];refine wp_store_row 66 _ _ rfl gR EV rfl rfl _ _ RR.out HEI.out HES.out HEO.out ?_;rw [HWF.out]
    refine tkK hK (⟨ev_runs HEI.out REF.out,(cell_of_row _ gE 1 _ _ _ REF.out).trans HKK.out⟩) fun hHeld=>?_
    clear hK K
    refine tkY 8 hHeld ?_
    refine wpAnyH_done (by kernel_rfl) ?_ _
    refine NoPanic.normal ?_
    go_wp2_with fail
    refine bodyPost_ret (results_row_tmp rfl _ _ gR _ EV _ _ rfl RF.out Tryz.underlying66 rfl HEI.out) rfl ?_
    exact ⟨EV,true,Lib.hid (And.intro HEI.out (And.intro HEO.out HES.out)),.inl ⟨rfl,HYES.out⟩,rfl,UF.out⟩
  · have HNO:Hid (∀ ev,¬ IsLck (bs T) ev):=fun f h=>by
     have e:=HUN.out f h.1
     rw [e] at h
     exact h4 (HC.out.2.2.trans h.2)
    have g4:(k == 4)=false:=by rw [beq_eq_false_iff_ne];exact h4
    go_upto_region 2 with (first | (refine wpList_store_rowAs rfl 66 _ _ rfl gE EV rfl rfl _ _ Z2.out HEI.out HZZ.out HEO.out w2 W2.out ?_))
    refine wp_region_noPanic ?_
    refine wp_region_held_drew (S:=fun wp=>(Instr.loadAt 66 (.pointer (some ⟨gE,0,none⟩))).run Tryz.prog wp=.ok (.agg EV) wp∧wp.cell? ⟨gE,1,none⟩=some (.int .i64 k)) (by kernel_rfl) ?_ (fun hHeld=>?_)
    · exact ⟨ev_runs HEI.out RE.out,(cell_of_row _ gE 1 _ _ _ RE.out).trans HKK.out⟩
    refine tkL 0 hHeld EV (fun w hSw=>hSw.1) ?_
    refine tkY 1 hHeld ?_
    refine tkY 2 hHeld ?_
    refine tkY 3 hHeld ?_
    refine tkY 4 hHeld ?_
    refine tkY 5 hHeld ?_
    refine tkY 6 hHeld ?_
    refine tk1 7 fun K hK=>?_
    rw [if_pos (by rfl)];refine wp_store_row 66 _ _ rfl gR EV rfl rfl _ _ RR.out HEI.out HES.out HEO.out ?_;rw [HWF.out]
    refine tkK hK (⟨ev_runs HEI.out REF.out,(cell_of_row _ gE 1 _ _ _ REF.out).trans HKK.out⟩) fun hHeld=>?_
    clear hK K
    refine tkY 8 hHeld ?_
    refine wpAnyH_done (by kernel_rfl) ?_ _
    refine NoPanic.normal ?_
    go_wp2_with fail
    refine bodyPost_ret (results_row_tmp rfl _ _ gR _ EV _ _ rfl RF.out Tryz.underlying66 rfl HEI.out) rfl ?_
    exact ⟨EV,false,Lib.hid (And.intro HEI.out (And.intro HEO.out HES.out)),.inr ⟨rfl,HNO.out⟩,rfl,UF.out⟩
end Go.Proofs.YtmjlkkbbnkanpaaGreatDoor
