/- sorteslaw33.sanity. -/
import Derived.Test.YtheobkejohifaaaGreatDoorHAA
import Derived.Test.YtheobkejohifaaaGreatDoorHBJ
import Derived.Test.YtheobkejohifaaaGreatDoorHAL
import Derived.Test.YtheobkejohifaaaGreatDoorHAD
namespace Go.Proofs.YtheobkejohifaaaGreatDoor
open Go.RowKit
set_option maxRecDepth 100000
def evd1 (T:ByteArray) (a b:Int) (U:ByteArray) (c d:Int):Array Value:=(evdL 1 3 3 T a b 3 U c d 0 0 ⟨#[]⟩ ⟨#[]⟩ ⟨#[]⟩).toArray
def evdF (T:ByteArray) (a b:Int) (F A:ByteArray):Array Value:=(evdL 3 3 3 T a b 0 ⟨#[]⟩ 0 0 7 8 F A ⟨#[]⟩).toArray
theorem evdI (kind who aw:Int) (aT:ByteArray) (ar as' bw:Int) (bT:ByteArray) (br bs' low high:Int) (F A B:ByteArray):(Tryz.prog.info? 69).map (·.size)=some (evdL kind who aw aT ar as' bw bT br bs' low high F A B).toArray.size:=pnY _ _ _ _ _ _ _ _ _ _ _ _ _ _ _
theorem evdO (kind who aw:Int) (aT:ByteArray) (ar as' bw:Int) (bT:ByteArray) (br bs' low high:Int) (F A B:ByteArray):(evdL kind who aw aT ar as' bw bT br bs' low high F A B).toArray.all (·.oneCell')=true:=by simp [evdL,Value.oneCell']
theorem supOne (g:Nat):(supV g).all (·.oneCell')=true:=by simp [supV,Value.oneCell']
theorem pqu:pcs 10=bs ⟨#[99,108,97,105,109,32,55,32,56,32,51,32,49,48]⟩:=by
 have h:Lib.itoa ((10:Nat):Int)=[49,48]:=by
  show Lib.decDigits 10=_
  rw [Lib.decDigits_two (by omega) (by omega)]
  rfl
 rw [pcs,h]
 rfl
theorem piH {f:FuncId} {args:Array Value} {b q:Bool} {w:World} (h:Calls Tryz.prog f args w (MkB b w)) (hb:b=q):Calls Tryz.prog f args w (Mk (.bool q) w):=by
 refine h.mono ?_
 rintro e w' ⟨r,HR,rfl,hu⟩
 exact ⟨by rw [HR.out,hb],hu⟩
theorem pkJ {T:ByteArray} {c:UInt8} (h:bs T=tOf c):T.size≤140737488355000:=by rw [← pac,h,pgW];omega
theorem pct {T t:TypeId} {W:World} {g o:Nat} {C:Array Value} {cs:List Value} {d:TypeDesc} (h:W.heap[g]? =some (.cells C t (0,0))) (hc:∀ (j:Nat) v,cs[j]? =some v→C[o+j]? =some v) (hu:Tryz.prog.underlying T=some d) (hd:d.isRow=true) (hi:(Tryz.prog.info? T).map (·.size)=some cs.length) :
 (Instr.loadAt T (.pointer (some ⟨g,o,none⟩))).run Tryz.prog W=.ok (.agg cs.toArray) W :=
 run_loadAt_mid W g o T cs d (fun j v hv=>(cell_of_row _ g (o+j) _ _ _ h).trans (hc j v hv)) hu hd hi
theorem pqv (T:ByteArray) (a b:Int) (U:ByteArray) (c d:Int):∀ (j:Nat) v,([.int .i64 3,.string T,.int .i64 a,.int .i64 b]:List Value)[j]? =some v→(evd1 T a b U c d)[2+j]? =some v
 | 0,_,h=>h
 | 1,_,h=>h
 | 2,_,h=>h
 | 3,_,h=>h
 | n+4,_,h=>by simp at h
theorem prj (T:ByteArray) (a b:Int) (U:ByteArray) (c d:Int):∀ (j:Nat) v,([.int .i64 a,.int .i64 b]:List Value)[j]? =some v→(evd1 T a b U c d)[4+j]? =some v
 | 0,_,h=>h
 | 1,_,h=>h
 | n+2,_,h=>by simp at h
set_option maxHeartbeats 40000000 in
theorem piI (w:World) (htab:Tabs w):Calls Tryz.prog 4 #[] w (pmL w):=by
 go_enter Tryz.func4,Tryz.ntmps4
 go_wp2_with fail
 refine (pnC w htab).mono ?_
 rintro e w1 ⟨x,p,gM,HX,HP,hx,hp,rfl,RM,hq⟩
 have UU_1:=Lib.hid hq
 clear hq
 obtain ⟨w2,Z_RS,W_RS,RS,hq⟩:=paC w1 30 #[.slice none 0 0,.slice none 0 0,.slice none 0 0,.slice none 0 0,.int .i64 0,.int .i64 0] (supV gM)
 obtain ⟨gS,hg_RS⟩:∃ g,w1.heap.size=g:=⟨_,rfl⟩
 rw [hg_RS] at Z_RS W_RS RS
 have lt_RM_RS:gM<gS:=by rw [← hg_RS];exact pag RM.out
 have wl_RS:w.heap.size≤gS:=by rw [← hg_RS];exact UU_1.out.size
 have RM_2:=Lib.hid (paa RM.out hq)
 have UU_2:=Lib.hid (UU_1.out.trans hq)
 clear RM UU_1 hq
 go_wp2_with (first | (refine wpList_store_rowAs rfl 30 _ _ rfl gS (supV gM) rfl rfl _ _ Z_RS.out (supInfo gM) rfl (supOne gM) w2 W_RS.out ?_))
 refine (ph4 97 x hx w2 (htab.upd UU_2.out)).mono ?_
 rintro e w3 ⟨a,b,HA,HB,ha,hb,rfl,hq⟩
 have RM_3:=Lib.hid (paa RM_2.out hq)
 have RS_3:=Lib.hid (paa RS.out hq)
 have UU_3:=Lib.hid (UU_2.out.trans hq)
 clear RM_2 RS UU_2 hq
 obtain ⟨ERA,hE⟩:∃ E,E=(evV 97 a b).toArray:=⟨_,rfl⟩
 rw [← hE]
 have IERA:Hid ((Tryz.prog.info? 53).map (·.size)=some ERA.size):=by rw [hE];exact pgd _ _ _
 have OERA:Hid (ERA.all (·.oneCell')=true):=by rw [hE];exact pnb _ _ _
 have SERA:Hid ((#[.int .i64 0,.int .i64 0,.int .i64 0,.int .i64 0,.int .i64 0,.string ⟨#[]⟩,.int .u8 0,.int .u8 0,.int .u8 0,.int .u8 0,.int .u8 0,.int .u8 0,.int .u8 0,.int .u8 0,.int .u8 0,.int .u8 0,.int .u8 0,.int .u8 0,.int .u8 0,.int .u8 0,.int .u8 0,.int .u8 0,.int .u8 0,.int .u8 0,.int .u8 0,.int .u8 0,.int .u8 0,.int .u8 0,.int .u8 0,.int .u8 0,.int .u8 0,.int .u8 0,.int .u8 0,.int .u8 0,.int .u8 0,.int .u8 0,.int .u8 0,.int .u8 0,.int .i64 0,.int .i64 0]:Array Value).size=ERA.size):=by show _=_;rw [hE,paz,pce];exact (pcN _ _ _).symm
 have HERA:=Lib.hid hE
 clear hE
 obtain ⟨w4,Z_RA,W_RA,RA,hq⟩:=paC w3 53 #[.int .i64 0,.int .i64 0,.int .i64 0,.int .i64 0,.int .i64 0,.string ⟨#[]⟩,.int .u8 0,.int .u8 0,.int .u8 0,.int .u8 0,.int .u8 0,.int .u8 0,.int .u8 0,.int .u8 0,.int .u8 0,.int .u8 0,.int .u8 0,.int .u8 0,.int .u8 0,.int .u8 0,.int .u8 0,.int .u8 0,.int .u8 0,.int .u8 0,.int .u8 0,.int .u8 0,.int .u8 0,.int .u8 0,.int .u8 0,.int .u8 0,.int .u8 0,.int .u8 0,.int .u8 0,.int .u8 0,.int .u8 0,.int .u8 0,.int .u8 0,.int .u8 0,.int .i64 0,.int .i64 0] ERA
 obtain ⟨gA,hg_RA⟩:∃ g,w3.heap.size=g:=⟨_,rfl⟩
 rw [hg_RA] at Z_RA W_RA RA
 have lt_RM_RA:gM<gA:=by rw [← hg_RA];exact pag RM_3.out
 have lt_RS_RA:gS<gA:=by rw [← hg_RA];exact pag RS_3.out
 have wl_RA:w.heap.size≤gA:=by rw [← hg_RA];exact UU_3.out.size
 have RM_4:=Lib.hid (paa RM_3.out hq)
 have RS_4:=Lib.hid (paa RS_3.out hq)
 have UU_4:=Lib.hid (UU_3.out.trans hq)
 clear RM_3 RS_3 UU_3 hq
 go_wp2_with (first | (refine wpList_store_rowAs rfl 53 _ _ rfl gA ERA rfl rfl _ _ Z_RA.out IERA.out SERA.out OERA.out w4 W_RA.out ?_))
 refine (ph4 98 x hx w4 (htab.upd UU_4.out)).mono ?_
 rintro e w5 ⟨c,d,HC,HD,hc,hd,rfl,hq⟩
 have RM_5:=Lib.hid (paa RM_4.out hq)
 have RS_5:=Lib.hid (paa RS_4.out hq)
 have RA_5:=Lib.hid (paa RA.out hq)
 have UU_5:=Lib.hid (UU_4.out.trans hq)
 clear RM_4 RS_4 RA UU_4 hq
 obtain ⟨ERB,hE⟩:∃ E,E=(evV 98 c d).toArray:=⟨_,rfl⟩
 rw [← hE]
 have IERB:Hid ((Tryz.prog.info? 53).map (·.size)=some ERB.size):=by rw [hE];exact pgd _ _ _
 have OERB:Hid (ERB.all (·.oneCell')=true):=by rw [hE];exact pnb _ _ _
 have SERB:Hid ((#[.int .i64 0,.int .i64 0,.int .i64 0,.int .i64 0,.int .i64 0,.string ⟨#[]⟩,.int .u8 0,.int .u8 0,.int .u8 0,.int .u8 0,.int .u8 0,.int .u8 0,.int .u8 0,.int .u8 0,.int .u8 0,.int .u8 0,.int .u8 0,.int .u8 0,.int .u8 0,.int .u8 0,.int .u8 0,.int .u8 0,.int .u8 0,.int .u8 0,.int .u8 0,.int .u8 0,.int .u8 0,.int .u8 0,.int .u8 0,.int .u8 0,.int .u8 0,.int .u8 0,.int .u8 0,.int .u8 0,.int .u8 0,.int .u8 0,.int .u8 0,.int .u8 0,.int .i64 0,.int .i64 0]:Array Value).size=ERB.size):=by show _=_;rw [hE,paz,pce];exact (pcN _ _ _).symm
 have HERB:=Lib.hid hE
 clear hE
 obtain ⟨w6,Z_RB,W_RB,RB,hq⟩:=paC w5 53 #[.int .i64 0,.int .i64 0,.int .i64 0,.int .i64 0,.int .i64 0,.string ⟨#[]⟩,.int .u8 0,.int .u8 0,.int .u8 0,.int .u8 0,.int .u8 0,.int .u8 0,.int .u8 0,.int .u8 0,.int .u8 0,.int .u8 0,.int .u8 0,.int .u8 0,.int .u8 0,.int .u8 0,.int .u8 0,.int .u8 0,.int .u8 0,.int .u8 0,.int .u8 0,.int .u8 0,.int .u8 0,.int .u8 0,.int .u8 0,.int .u8 0,.int .u8 0,.int .u8 0,.int .u8 0,.int .u8 0,.int .u8 0,.int .u8 0,.int .u8 0,.int .u8 0,.int .i64 0,.int .i64 0] ERB
 obtain ⟨gB,hg_RB⟩:∃ g,w5.heap.size=g:=⟨_,rfl⟩
 rw [hg_RB] at Z_RB W_RB RB
 have lt_RM_RB:gM<gB:=by rw [← hg_RB];exact pag RM_5.out
 have lt_RS_RB:gS<gB:=by rw [← hg_RB];exact pag RS_5.out
 have lt_RA_RB:gA<gB:=by rw [← hg_RB];exact pag RA_5.out
 have wl_RB:w.heap.size≤gB:=by rw [← hg_RB];exact UU_5.out.size
 have RM_6:=Lib.hid (paa RM_5.out hq)
 have RS_6:=Lib.hid (paa RS_5.out hq)
 have RA_6:=Lib.hid (paa RA_5.out hq)
 have UU_6:=Lib.hid (UU_5.out.trans hq)
 clear RM_5 RS_5 RA_5 UU_5 hq
 go_wp2_with (first | (refine wpList_store_rowAs rfl 53 _ _ rfl gB ERB rfl rfl _ _ Z_RB.out IERB.out SERB.out OERB.out w6 W_RB.out ?_))
 have HKE:Hid (∀ W,Upd [] [] w6 W→(Instr.loadAt 53 (.pointer (some ⟨gA,0,none⟩))).run Tryz.prog W=.ok (.agg ERA) W∧(Instr.loadAt 53 (.pointer (some ⟨gB,0,none⟩))).run Tryz.prog W=.ok (.agg ERB) W):=by
  intro W u
  have q1:=paa RA_6.out u
  have q2:=paa RB.out u
  rw [HERA.out] at q1 ⊢
  rw [HERB.out] at q2 ⊢
  exact ⟨pgX rfl q1,pgX rfl q2⟩
 have ud0:Upd [] [] w6 w6.drew:=(Upd.refl _ _).drew
 have HU6:=UU_6
 have HQ1:Hid (∀ W,Upd [] [] w6 W→Calls Tryz.prog 8 #[.agg (evV 97 a b).toArray] W (fun e w'=>∃ T:ByteArray,Hid (bs T=tOf 97)∧e=.returned (.agg #[.int .i64 3,.string T,.int .i64 (a:Int),.int .i64 (b:Int)])∧Upd [] [] W w')):=fun W u=>pgf 97 a b (by unfold pab;omega) (by unfold pab;omega) W (htab.upd (UU_6.out.trans u))
 have HQ2:Hid (∀ W,Upd [] [] w6 W→Calls Tryz.prog 8 #[.agg (evV 98 c d).toArray] W (fun e w'=>∃ T:ByteArray,Hid (bs T=tOf 98)∧e=.returned (.agg #[.int .i64 3,.string T,.int .i64 (c:Int),.int .i64 (d:Int)])∧Upd [] [] W w')):=fun W u=>pgf 98 c d (by unfold pab;omega) (by unfold pab;omega) W (htab.upd (UU_6.out.trans u))
 rw [← HERA.out] at HQ1
 rw [← HERB.out] at HQ2
 refine @_root_.id ((∀ (TA TB:ByteArray) (gE:Nat) (W:World),Hid (bs TA=tOf 97)→Hid (bs TB=tOf 98)→Hid (W.heap[gE]? =some (.cells (evd1 TA a b TB c d) 69 (0,0)))→Hid (Upd [] [] w6 W)→(?pj1:ByteArray→ByteArray→Nat→World→Prop) TA TB gE W)→_) (fun hJ=>?mj1) ?jj1
 case mj1 =>
  refine wp_region_noPanic ?_
  refine wp_region_held_drew (S:=fun wp=>(Instr.loadAt 53 (.pointer (some ⟨gA,0,none⟩))).run Tryz.prog wp=.ok (.agg ERA) wp∧(Instr.loadAt 53 (.pointer (some ⟨gB,0,none⟩))).run Tryz.prog wp=.ok (.agg ERB) wp) (by kernel_rfl) ?_ (fun hHeld=>?_)
  · exact HKE.out _ ud0
  refine tkL 0 hHeld ERA (fun w hSw=>hSw.1) ?_
  refine tkL 2 hHeld ERB (fun w hSw=>hSw.2) ?_
  refine tkA [1,5] ?_
  refine tkC (fun K hK=>?_) ?_
  · go_simp;refine (HQ1.out _ ud0).mono ?_;rintro e wv1 ⟨TA,HTTA,rfl,hq⟩;have ud1:=ud0.trans hq;clear hq;go_wp2_with fail
    refine tkK hK (HKE.out _ ud1) fun hHeld=>?_
    clear hK K
    refine tkA [3,5] ?_
    refine tkC (fun K hK=>?_) ?_
    · go_simp;refine (HQ2.out _ ud1).mono ?_;rintro e wv2 ⟨TB,HTTB,rfl,hq⟩;have ud2:=ud1.trans hq;clear hq;go_wp2_with fail
      refine tkK hK (HKE.out _ ud2) fun hHeld=>?_
      clear hK K
      refine tkY 4 hHeld ?_
      refine tk1 5 fun K hK=>?_
      go_simp;obtain ⟨gE,wv3,hgx,hwx,fC_3,hq⟩:=paw wv2 (.cells #[.int .i64 0,.int .i64 0,.int .i64 0,.string ⟨#[]⟩,.int .i64 0,.int .i64 0,.int .i64 0,.string ⟨#[]⟩,.int .i64 0,.int .i64 0,.int .i64 0,.int .i64 0,.string ⟨#[]⟩,.string ⟨#[]⟩,.string ⟨#[]⟩,.int .i64 0,.int .i64 0,.int .i64 0,.int .i64 0] 69);rw [← hgx,← hwx];have bC:w6.heap.size≤gE:=(by have:=ud2.size;omega);have ud3:=ud2.trans hq;clear hgx hwx hq
      refine tkK hK (HKE.out _ ud3) fun hHeld=>?_
      clear hK K
      refine tk1 6 fun K hK=>?_
      rw [if_pos (by rfl)];refine wp_store_row 69 _ _ rfl gE (evd1 TA a b TB c d) rfl rfl _ _ fC_3.out (evdI _ _ _ _ _ _ _ _ _ _ _ _ _ _ _) rfl (evdO _ _ _ _ _ _ _ _ _ _ _ _ _ _ _) ?_;obtain ⟨wv4,hwx⟩:∃ W':World,W'=wv3.setRow gE (evd1 TA a b TB c d):=⟨_,rfl⟩;have fC_4:Hid (wv4.heap[gE]? =some (.cells (evd1 TA a b TB c d) 69 (0,0))):=(by show _=_;rw [hwx];exact setRow_heap _ _ _ _ _ _ fC_3.out);have ud4:=ud3.setRowNew bC (evd1 TA a b TB c d);rw [← hwx] at ud4 ⊢;clear hwx
      refine tkK hK (HKE.out _ ud4) fun hHeld=>?_
      clear hK K
      refine wpAnyH_done (by kernel_rfl) ?_ _
      refine NoPanic.normal ?_
      exact hJ TA TB gE wv4 HTTA HTTB fC_4 (Lib.hid ud4)
    refine tkZ fun K hK=>?_
    go_simp;obtain ⟨gE,wv2,hgx,hwx,fC_2,hq⟩:=paw wv1 (.cells #[.int .i64 0,.int .i64 0,.int .i64 0,.string ⟨#[]⟩,.int .i64 0,.int .i64 0,.int .i64 0,.string ⟨#[]⟩,.int .i64 0,.int .i64 0,.int .i64 0,.int .i64 0,.string ⟨#[]⟩,.string ⟨#[]⟩,.string ⟨#[]⟩,.int .i64 0,.int .i64 0,.int .i64 0,.int .i64 0] 69);rw [← hgx,← hwx];have bC:w6.heap.size≤gE:=(by have:=ud1.size;omega);have ud2:=ud1.trans hq;clear hgx hwx hq
    refine tkK hK (HKE.out _ ud2) fun hHeld=>?_
    clear hK K
    refine tk1 3 fun K hK=>?_
    go_simp;refine (HQ2.out _ ud2).mono ?_;rintro e wv3 ⟨TB,HTTB,rfl,hq⟩;have ud3:=ud2.trans hq;have fC_3:=Lib.hid (paa fC_2.out hq);clear hq;go_wp2_with fail
    refine tkK hK (HKE.out _ ud3) fun hHeld=>?_
    clear hK K
    refine tkY 4 hHeld ?_
    refine tk1 6 fun K hK=>?_
    rw [if_pos (by rfl)];refine wp_store_row 69 _ _ rfl gE (evd1 TA a b TB c d) rfl rfl _ _ fC_3.out (evdI _ _ _ _ _ _ _ _ _ _ _ _ _ _ _) rfl (evdO _ _ _ _ _ _ _ _ _ _ _ _ _ _ _) ?_;obtain ⟨wv4,hwx⟩:∃ W':World,W'=wv3.setRow gE (evd1 TA a b TB c d):=⟨_,rfl⟩;have fC_4:Hid (wv4.heap[gE]? =some (.cells (evd1 TA a b TB c d) 69 (0,0))):=(by show _=_;rw [hwx];exact setRow_heap _ _ _ _ _ _ fC_3.out);have ud4:=ud3.setRowNew bC (evd1 TA a b TB c d);rw [← hwx] at ud4 ⊢;clear hwx
    refine tkK hK (HKE.out _ ud4) fun hHeld=>?_
    clear hK K
    refine wpAnyH_done (by kernel_rfl) ?_ _
    refine NoPanic.normal ?_
    exact hJ TA TB gE wv4 HTTA HTTB fC_4 (Lib.hid ud4)
  refine tkZ fun K hK=>?_
  go_simp;obtain ⟨gE,wv1,hgx,hwx,fC_1,hq⟩:=paF w6 (.cells #[.int .i64 0,.int .i64 0,.int .i64 0,.string ⟨#[]⟩,.int .i64 0,.int .i64 0,.int .i64 0,.string ⟨#[]⟩,.int .i64 0,.int .i64 0,.int .i64 0,.int .i64 0,.string ⟨#[]⟩,.string ⟨#[]⟩,.string ⟨#[]⟩,.int .i64 0,.int .i64 0,.int .i64 0,.int .i64 0] 69);rw [← hgx,← hwx];have bC:w6.heap.size≤gE:=(by omega);have ud1:=hq;clear hgx hwx hq
  refine tkK hK (HKE.out _ ud1) fun hHeld=>?_
  clear hK K
  refine tk1 1 fun K hK=>?_
  go_simp;refine (HQ1.out _ ud1).mono ?_;rintro e wv2 ⟨TA,HTTA,rfl,hq⟩;have ud2:=ud1.trans hq;have fC_2:=Lib.hid (paa fC_1.out hq);clear hq;go_wp2_with fail
  refine tkK hK (HKE.out _ ud2) fun hHeld=>?_
  clear hK K
  refine tk1 3 fun K hK=>?_
  go_simp;refine (HQ2.out _ ud2).mono ?_;rintro e wv3 ⟨TB,HTTB,rfl,hq⟩;have ud3:=ud2.trans hq;have fC_3:=Lib.hid (paa fC_2.out hq);clear hq;go_wp2_with fail
  refine tkK hK (HKE.out _ ud3) fun hHeld=>?_
  clear hK K
  refine tkY 4 hHeld ?_
  refine tk1 6 fun K hK=>?_
  rw [if_pos (by rfl)];refine wp_store_row 69 _ _ rfl gE (evd1 TA a b TB c d) rfl rfl _ _ fC_3.out (evdI _ _ _ _ _ _ _ _ _ _ _ _ _ _ _) rfl (evdO _ _ _ _ _ _ _ _ _ _ _ _ _ _ _) ?_;obtain ⟨wv4,hwx⟩:∃ W':World,W'=wv3.setRow gE (evd1 TA a b TB c d):=⟨_,rfl⟩;have fC_4:Hid (wv4.heap[gE]? =some (.cells (evd1 TA a b TB c d) 69 (0,0))):=(by show _=_;rw [hwx];exact setRow_heap _ _ _ _ _ _ fC_3.out);have ud4:=ud3.setRowNew bC (evd1 TA a b TB c d);rw [← hwx] at ud4 ⊢;clear hwx
  refine tkK hK (HKE.out _ ud4) fun hHeld=>?_
  clear hK K
  refine wpAnyH_done (by kernel_rfl) ?_ _
  refine NoPanic.normal ?_
  exact hJ TA TB gE wv4 HTTA HTTB fC_4 (Lib.hid ud4)
 intro TA TB gE w7 HTA HTB RE hq'
 have hq:=hq'.out
 clear hq' HKE HQ1 HQ2 HU6 ud0
 have RM_7:=Lib.hid (paa RM_6.out hq)
 have RS_7:=Lib.hid (paa RS_6.out hq)
 have UU_7:=Lib.hid (UU_6.out.trans hq)
 clear RM_6 RS_6 UU_6 hq
 have hv1:verB (p:Int) (bs TA) (a:Int) (b:Int)=true:=by rw [HP.out,HA.out,HB.out,HTA.out];exact ver_with _ _ _
 have hv2:verB (p:Int) (bs TB) (c:Int) (d:Int)=true:=by rw [HP.out,HC.out,HD.out,HTB.out];exact ver_with _ _ _
 have hv3:verB (p:Int) (bs TB) (a:Int) (b:Int)=false:=by rw [HP.out,HA.out,HB.out,HTB.out,HX.out];exact pm7
 have tz1:=pkJ HTA.out
 have tz2:=pkJ HTB.out
 have ip:pab (p:Int):=by unfold pab;omega
 have ia:pab (a:Int):=by unfold pab;omega
 have ib:pab (b:Int):=by unfold pab;omega
 have ic:pab (c:Int):=by unfold pab;omega
 have id':pab (d:Int):=by unfold pab;omega
 have HJ1:Hid (Calls Tryz.prog 16 #[.agg (supV gM),.agg (evd1 TA a b TB c d)] w7 (Mk (.tuple #[.int .i64 3,.int .i64 0]) w7)) :=
  pcS gM 3 3 TA a b 3 TB c d 0 0 _ _ _ 1 p true true w7 RM_7.out (fun W u=>peQ W)
   (fun W u=>piH (peR (MtIs.of _ _ _ _ _ _ _ _ _ _ _ _ _ _ _ _ _ _ _ _ _ _) ip ia ib tz1 ic id' tz2 W (htab.upd (UU_7.out.trans u))) (by rw [hv1,hv2];rfl))
   (fun W u=>ped (MtIs.of _ _ _ _ _ _ _ _ _ _ _ _ _ _ _ _ _ _ _ _ _ _) true W (fun W' u'=>pgi TA TB HTA.out HTB.out W' (htab.upd ((UU_7.out.trans u).trans u'))))
 have HV:=Lib.hid (And.intro hv1 (And.intro hv2 (And.intro hv3 (And.intro ip (And.intro ia (And.intro ib (And.intro tz1 (And.intro tz2 (And.intro ic id')))))))))
 clear hv1 hv2 hv3 ip ia ib ic id' tz1 tz2
 go_wp2_with (first | (refine wpList_load_row rfl 30 _ rfl gS rfl _ (supV gM) _ _ RS_7.out Tryz.underlying30 rfl (supInfo gM) ?_) | (refine wpList_load_row rfl 69 _ rfl gE rfl _ (evd1 TA a b TB c d) _ _ RE.out Tryz.underlying69 rfl (evdI _ _ _ _ _ _ _ _ _ _ _ _ _ _ _) ?_))
 refine HJ1.out.mono ?_
 rintro e w8 ⟨rfl,hq⟩
 clear HJ1
 have RM_8:=Lib.hid (paa RM_7.out hq)
 have RS_8:=Lib.hid (paa RS_7.out hq)
 have RE_8:=Lib.hid (paa RE.out hq)
 have UU_8:=Lib.hid (UU_7.out.trans hq)
 clear RM_7 RS_7 RE UU_7 hq
 go_upto_region 6 with (fail)
 have HKE:Hid (∀ W,Upd [] [] w8 W→(Instr.loadAt 69 (.pointer (some ⟨gE,0,none⟩))).run Tryz.prog W=.ok (.agg (evd1 TA a b TB c d)) W):=fun W u=>po9 (paa RE_8.out u)
 have ud0:Upd [] [] w8 w8.drew:=(Upd.refl _ _).drew
 refine @_root_.id ((∀ (gX1 gQ gO:Nat) (W:World),Hid (W.heap[gX1]? =some (.cells (evd1 TA a b TB c d) 69 (0,0)))→Hid (W.heap[gQ]? =some (.cells (evd1 TA a b TB c d) 69 (0,0)))→Hid (W.heap[gO]? =some (.cells (evd1 TA a b TB c d) 69 (0,0)))→Hid (gX1≠gQ∧gX1≠gO∧gQ≠gO∧w8.heap.size≤gX1∧w8.heap.size≤gQ∧w8.heap.size≤gO)→Hid (Upd [] [] w8 W)→(?q5:Nat→Nat→Nat→World→Prop) gX1 gQ gO W)→_) (fun hJ=>?mf5) ?jf5
 case' mf5=>skip
 refine @_root_.id ((∀ (gX1:Nat) (gQ:Nat) (gO:Nat) (wv3:World),Hid (wv3.heap[gX1]? =some (.cells #[.int .i64 0,.int .i64 0,.int .i64 0,.string ⟨#[]⟩,.int .i64 0,.int .i64 0,.int .i64 0,.string ⟨#[]⟩,.int .i64 0,.int .i64 0,.int .i64 0,.int .i64 0,.string ⟨#[]⟩,.string ⟨#[]⟩,.string ⟨#[]⟩,.int .i64 0,.int .i64 0,.int .i64 0,.int .i64 0] 69 (0,0)))→Hid (wv3.heap[gQ]? =some (.cells #[.int .i64 0,.int .i64 0,.int .i64 0,.string ⟨#[]⟩,.int .i64 0,.int .i64 0,.int .i64 0,.string ⟨#[]⟩,.int .i64 0,.int .i64 0,.int .i64 0,.int .i64 0,.string ⟨#[]⟩,.string ⟨#[]⟩,.string ⟨#[]⟩,.int .i64 0,.int .i64 0,.int .i64 0,.int .i64 0] 69 (0,0)))→Hid (wv3.heap[gO]? =some (.cells #[.int .i64 0,.int .i64 0,.int .i64 0,.string ⟨#[]⟩,.int .i64 0,.int .i64 0,.int .i64 0,.string ⟨#[]⟩,.int .i64 0,.int .i64 0,.int .i64 0,.int .i64 0,.string ⟨#[]⟩,.string ⟨#[]⟩,.string ⟨#[]⟩,.int .i64 0,.int .i64 0,.int .i64 0,.int .i64 0] 69 (0,0)))→w8.heap.size≤gX1→w8.heap.size≤gQ→w8.heap.size≤gO→gX1≠gQ→gX1≠gO→gQ≠gO→Upd [] [] w8 wv3→ (fun wp=>(Instr.loadAt 69 (.pointer (some ⟨gE,0,none⟩))).run Tryz.prog wp=.ok (.agg (evd1 TA a b TB c d)) wp) wv3→(?q5_3:Nat→Nat→Nat→World→Prop) gX1 gQ gO wv3)→_) (fun hs5_3=>?mhs5_3) ?jhs5_3
 case' mhs5_3=>skip
 refine @_root_.id ((∀ (gQ:Nat) (gO:Nat) (wv2:World),Hid (wv2.heap[gQ]? =some (.cells #[.int .i64 0,.int .i64 0,.int .i64 0,.string ⟨#[]⟩,.int .i64 0,.int .i64 0,.int .i64 0,.string ⟨#[]⟩,.int .i64 0,.int .i64 0,.int .i64 0,.int .i64 0,.string ⟨#[]⟩,.string ⟨#[]⟩,.string ⟨#[]⟩,.int .i64 0,.int .i64 0,.int .i64 0,.int .i64 0] 69 (0,0)))→Hid (wv2.heap[gO]? =some (.cells #[.int .i64 0,.int .i64 0,.int .i64 0,.string ⟨#[]⟩,.int .i64 0,.int .i64 0,.int .i64 0,.string ⟨#[]⟩,.int .i64 0,.int .i64 0,.int .i64 0,.int .i64 0,.string ⟨#[]⟩,.string ⟨#[]⟩,.string ⟨#[]⟩,.int .i64 0,.int .i64 0,.int .i64 0,.int .i64 0] 69 (0,0)))→w8.heap.size≤gQ→w8.heap.size≤gO→gQ≠gO→Upd [] [] w8 wv2→ (fun wp=>(Instr.loadAt 69 (.pointer (some ⟨gE,0,none⟩))).run Tryz.prog wp=.ok (.agg (evd1 TA a b TB c d)) wp) wv2→(?q5_2:Nat→Nat→World→Prop) gQ gO wv2)→_) (fun hs5_2=>?mhs5_2) ?jhs5_2
 case' mhs5_2=>skip
 refine @_root_.id ((∀ (gX1:Nat) (gO:Nat) (wv2:World),Hid (wv2.heap[gX1]? =some (.cells #[.int .i64 0,.int .i64 0,.int .i64 0,.string ⟨#[]⟩,.int .i64 0,.int .i64 0,.int .i64 0,.string ⟨#[]⟩,.int .i64 0,.int .i64 0,.int .i64 0,.int .i64 0,.string ⟨#[]⟩,.string ⟨#[]⟩,.string ⟨#[]⟩,.int .i64 0,.int .i64 0,.int .i64 0,.int .i64 0] 69 (0,0)))→Hid (wv2.heap[gO]? =some (.cells #[.int .i64 0,.int .i64 0,.int .i64 0,.string ⟨#[]⟩,.int .i64 0,.int .i64 0,.int .i64 0,.string ⟨#[]⟩,.int .i64 0,.int .i64 0,.int .i64 0,.int .i64 0,.string ⟨#[]⟩,.string ⟨#[]⟩,.string ⟨#[]⟩,.int .i64 0,.int .i64 0,.int .i64 0,.int .i64 0] 69 (0,0)))→w8.heap.size≤gX1→w8.heap.size≤gO→gX1≠gO→Upd [] [] w8 wv2→ (fun wp=>(Instr.loadAt 69 (.pointer (some ⟨gE,0,none⟩))).run Tryz.prog wp=.ok (.agg (evd1 TA a b TB c d)) wp) wv2→(?q5_1:Nat→Nat→World→Prop) gX1 gO wv2)→_) (fun hs5_1=>?mhs5_1) ?jhs5_1
 case' mhs5_1=>skip
 refine @_root_.id ((∀ (gX1:Nat) (gQ:Nat) (wv2:World),Hid (wv2.heap[gX1]? =some (.cells #[.int .i64 0,.int .i64 0,.int .i64 0,.string ⟨#[]⟩,.int .i64 0,.int .i64 0,.int .i64 0,.string ⟨#[]⟩,.int .i64 0,.int .i64 0,.int .i64 0,.int .i64 0,.string ⟨#[]⟩,.string ⟨#[]⟩,.string ⟨#[]⟩,.int .i64 0,.int .i64 0,.int .i64 0,.int .i64 0] 69 (0,0)))→Hid (wv2.heap[gQ]? =some (.cells #[.int .i64 0,.int .i64 0,.int .i64 0,.string ⟨#[]⟩,.int .i64 0,.int .i64 0,.int .i64 0,.string ⟨#[]⟩,.int .i64 0,.int .i64 0,.int .i64 0,.int .i64 0,.string ⟨#[]⟩,.string ⟨#[]⟩,.string ⟨#[]⟩,.int .i64 0,.int .i64 0,.int .i64 0,.int .i64 0] 69 (0,0)))→w8.heap.size≤gX1→w8.heap.size≤gQ→gX1≠gQ→Upd [] [] w8 wv2→ (fun wp=>(Instr.loadAt 69 (.pointer (some ⟨gE,0,none⟩))).run Tryz.prog wp=.ok (.agg (evd1 TA a b TB c d)) wp) wv2→(?q5_0:Nat→Nat→World→Prop) gX1 gQ wv2)→_) (fun hs5_0=>?mhs5_0) ?jhs5_0
 case' mhs5_0=>skip
 refine wp_region_noPanic ?_
 refine wp_region_held_drew (S:=fun wp=>(Instr.loadAt 69 (.pointer (some ⟨gE,0,none⟩))).run Tryz.prog wp=.ok (.agg (evd1 TA a b TB c d)) wp) (by kernel_rfl) ?_ (fun hHeld=>?_)
 · exact HKE.out _ ud0
 refine wpAnyH_take (i:=0) (v:=.agg (evd1 TA a b TB c d)) (by simp only [List.getElem?_toArray,List.getElem?_cons_zero] <;> rfl) (by kernel_rfl) (by kernel_rfl) (by kernel_rfl) (fun _ _ _ h=>h) (pau (by rfl) _ _ rfl _ rfl (evd1 TA a b TB c d) (fun w hSw=>hSw)) hHeld ?_
 try simp only [Act.put,List.setIfInBounds_toArray,List.set_cons_zero,List.set_cons_succ]
 refine wpAnyH_take (i:=1) (v:=.agg (evd1 TA a b TB c d)) (by simp only [List.getElem?_toArray,List.getElem?_cons_succ,List.getElem?_cons_zero] <;> rfl) (by kernel_rfl) (by kernel_rfl) (by kernel_rfl) (fun _ _ _ h=>h) (pau (by rfl) _ _ rfl _ rfl (evd1 TA a b TB c d) (fun w hSw=>hSw)) hHeld ?_
 try simp only [Act.put,List.setIfInBounds_toArray,List.set_cons_zero,List.set_cons_succ]
 refine wpAnyH_take (i:=2) (v:=.agg (evd1 TA a b TB c d)) (by simp only [List.getElem?_toArray,List.getElem?_cons_succ,List.getElem?_cons_zero] <;> rfl) (by kernel_rfl) (by kernel_rfl) (by kernel_rfl) (fun _ _ _ h=>h) (pau (by rfl) _ _ rfl _ rfl (evd1 TA a b TB c d) (fun w hSw=>hSw)) hHeld ?_
 try simp only [Act.put,List.setIfInBounds_toArray,List.set_cons_zero,List.set_cons_succ]
 refine tkA [3,4,5] ?_
 refine tkC (fun K hK=>?_) ?_
 · go_simp;obtain ⟨gX1,wv1,hgx,hwx,fX1_1,hq⟩:=paF w8 (.cells #[.int .i64 0,.int .i64 0,.int .i64 0,.string ⟨#[]⟩,.int .i64 0,.int .i64 0,.int .i64 0,.string ⟨#[]⟩,.int .i64 0,.int .i64 0,.int .i64 0,.int .i64 0,.string ⟨#[]⟩,.string ⟨#[]⟩,.string ⟨#[]⟩,.int .i64 0,.int .i64 0,.int .i64 0,.int .i64 0] 69);rw [← hgx,← hwx];have bX1:w8.heap.size≤gX1:=(by omega);have ud1:=hq;clear hgx hwx hq
   refine tkK hK (HKE.out _ ud1) fun hHeld=>?_
   clear hK K
   refine tkA [4,5] ?_
   refine tkC (fun K hK=>?_) ?_
   · go_simp;obtain ⟨gQ,wv2,hgx,hwx,fQ_2,hq⟩:=paw (wv1) (.cells #[.int .i64 0,.int .i64 0,.int .i64 0,.string ⟨#[]⟩,.int .i64 0,.int .i64 0,.int .i64 0,.string ⟨#[]⟩,.int .i64 0,.int .i64 0,.int .i64 0,.int .i64 0,.string ⟨#[]⟩,.string ⟨#[]⟩,.string ⟨#[]⟩,.int .i64 0,.int .i64 0,.int .i64 0,.int .i64 0] 69);rw [← hgx,← hwx];have bQ:w8.heap.size≤gQ:=(by have:=ud1.size;omega);have ud2:=ud1.trans hq;have fX1_2:=Lib.hid (paa fX1_1.out hq);have ne_X1_Q:gX1≠gQ:=(by have:=(Array.getElem?_eq_some_iff.1 fX1_1.out).1;omega);clear hgx hwx hq
     refine tkK hK (HKE.out _ ud2) fun hHeld=>?_
     clear hK K
     exact hs5_0 gX1 gQ wv2 fX1_2 fQ_2 bX1 bQ ne_X1_Q ud2 hHeld
   refine tkZ fun K hK=>?_
   go_simp;obtain ⟨gO,wv2,hgx,hwx,fO_2,hq⟩:=paw (wv1) (.cells #[.int .i64 0,.int .i64 0,.int .i64 0,.string ⟨#[]⟩,.int .i64 0,.int .i64 0,.int .i64 0,.string ⟨#[]⟩,.int .i64 0,.int .i64 0,.int .i64 0,.int .i64 0,.string ⟨#[]⟩,.string ⟨#[]⟩,.string ⟨#[]⟩,.int .i64 0,.int .i64 0,.int .i64 0,.int .i64 0] 69);rw [← hgx,← hwx];have bO:w8.heap.size≤gO:=(by have:=ud1.size;omega);have ud2:=ud1.trans hq;have fX1_2:=Lib.hid (paa fX1_1.out hq);have ne_X1_O:gX1≠gO:=(by have:=(Array.getElem?_eq_some_iff.1 fX1_1.out).1;omega);clear hgx hwx hq
   refine tkK hK (HKE.out _ ud2) fun hHeld=>?_
   clear hK K
   exact hs5_1 gX1 gO wv2 fX1_2 fO_2 bX1 bO ne_X1_O ud2 hHeld
 refine tkC (fun K hK=>?_) ?_
 · go_simp;obtain ⟨gQ,wv1,hgx,hwx,fQ_1,hq⟩:=paF w8 (.cells #[.int .i64 0,.int .i64 0,.int .i64 0,.string ⟨#[]⟩,.int .i64 0,.int .i64 0,.int .i64 0,.string ⟨#[]⟩,.int .i64 0,.int .i64 0,.int .i64 0,.int .i64 0,.string ⟨#[]⟩,.string ⟨#[]⟩,.string ⟨#[]⟩,.int .i64 0,.int .i64 0,.int .i64 0,.int .i64 0] 69);rw [← hgx,← hwx];have bQ:w8.heap.size≤gQ:=(by omega);have ud1:=hq;clear hgx hwx hq
   refine tkK hK (HKE.out _ ud1) fun hHeld=>?_
   clear hK K
   refine tkA [3,5] ?_
   refine tkC (fun K hK=>?_) ?_
   · go_simp;obtain ⟨gX1,wv2,hgx,hwx,fX1_2,hq⟩:=paw (wv1) (.cells #[.int .i64 0,.int .i64 0,.int .i64 0,.string ⟨#[]⟩,.int .i64 0,.int .i64 0,.int .i64 0,.string ⟨#[]⟩,.int .i64 0,.int .i64 0,.int .i64 0,.int .i64 0,.string ⟨#[]⟩,.string ⟨#[]⟩,.string ⟨#[]⟩,.int .i64 0,.int .i64 0,.int .i64 0,.int .i64 0] 69);rw [← hgx,← hwx];have bX1:w8.heap.size≤gX1:=(by have:=ud1.size;omega);have ud2:=ud1.trans hq;have fQ_2:=Lib.hid (paa fQ_1.out hq);have ne_Q_X1:gQ≠gX1:=(by have:=(Array.getElem?_eq_some_iff.1 fQ_1.out).1;omega);clear hgx hwx hq
     refine tkK hK (HKE.out _ ud2) fun hHeld=>?_
     clear hK K
     exact hs5_0 gX1 gQ wv2 fX1_2 fQ_2 bX1 bQ ne_Q_X1.symm ud2 hHeld
   refine tkZ fun K hK=>?_
   go_simp;obtain ⟨gO,wv2,hgx,hwx,fO_2,hq⟩:=paw (wv1) (.cells #[.int .i64 0,.int .i64 0,.int .i64 0,.string ⟨#[]⟩,.int .i64 0,.int .i64 0,.int .i64 0,.string ⟨#[]⟩,.int .i64 0,.int .i64 0,.int .i64 0,.int .i64 0,.string ⟨#[]⟩,.string ⟨#[]⟩,.string ⟨#[]⟩,.int .i64 0,.int .i64 0,.int .i64 0,.int .i64 0] 69);rw [← hgx,← hwx];have bO:w8.heap.size≤gO:=(by have:=ud1.size;omega);have ud2:=ud1.trans hq;have fQ_2:=Lib.hid (paa fQ_1.out hq);have ne_Q_O:gQ≠gO:=(by have:=(Array.getElem?_eq_some_iff.1 fQ_1.out).1;omega);clear hgx hwx hq
   refine tkK hK (HKE.out _ ud2) fun hHeld=>?_
   clear hK K
   exact hs5_2 gQ gO wv2 fQ_2 fO_2 bQ bO ne_Q_O ud2 hHeld
 refine tkZ fun K hK=>?_
 go_simp;obtain ⟨gO,wv1,hgx,hwx,fO_1,hq⟩:=paF w8 (.cells #[.int .i64 0,.int .i64 0,.int .i64 0,.string ⟨#[]⟩,.int .i64 0,.int .i64 0,.int .i64 0,.string ⟨#[]⟩,.int .i64 0,.int .i64 0,.int .i64 0,.int .i64 0,.string ⟨#[]⟩,.string ⟨#[]⟩,.string ⟨#[]⟩,.int .i64 0,.int .i64 0,.int .i64 0,.int .i64 0] 69);rw [← hgx,← hwx];have bO:w8.heap.size≤gO:=(by omega);have ud1:=hq;clear hgx hwx hq
 refine tkK hK (HKE.out _ ud1) fun hHeld=>?_
 clear hK K
 refine tkA [3,4] ?_
 refine tkC (fun K hK=>?_) ?_
 · go_simp;obtain ⟨gX1,wv2,hgx,hwx,fX1_2,hq⟩:=paw (wv1) (.cells #[.int .i64 0,.int .i64 0,.int .i64 0,.string ⟨#[]⟩,.int .i64 0,.int .i64 0,.int .i64 0,.string ⟨#[]⟩,.int .i64 0,.int .i64 0,.int .i64 0,.int .i64 0,.string ⟨#[]⟩,.string ⟨#[]⟩,.string ⟨#[]⟩,.int .i64 0,.int .i64 0,.int .i64 0,.int .i64 0] 69);rw [← hgx,← hwx];have bX1:w8.heap.size≤gX1:=(by have:=ud1.size;omega);have ud2:=ud1.trans hq;have fO_2:=Lib.hid (paa fO_1.out hq);have ne_O_X1:gO≠gX1:=(by have:=(Array.getElem?_eq_some_iff.1 fO_1.out).1;omega);clear hgx hwx hq
   refine tkK hK (HKE.out _ ud2) fun hHeld=>?_
   clear hK K
   exact hs5_1 gX1 gO wv2 fX1_2 fO_2 bX1 bO ne_O_X1.symm ud2 hHeld
 refine tkZ fun K hK=>?_
 go_simp;obtain ⟨gQ,wv2,hgx,hwx,fQ_2,hq⟩:=paw (wv1) (.cells #[.int .i64 0,.int .i64 0,.int .i64 0,.string ⟨#[]⟩,.int .i64 0,.int .i64 0,.int .i64 0,.string ⟨#[]⟩,.int .i64 0,.int .i64 0,.int .i64 0,.int .i64 0,.string ⟨#[]⟩,.string ⟨#[]⟩,.string ⟨#[]⟩,.int .i64 0,.int .i64 0,.int .i64 0,.int .i64 0] 69);rw [← hgx,← hwx];have bQ:w8.heap.size≤gQ:=(by have:=ud1.size;omega);have ud2:=ud1.trans hq;have fO_2:=Lib.hid (paa fO_1.out hq);have ne_O_Q:gO≠gQ:=(by have:=(Array.getElem?_eq_some_iff.1 fO_1.out).1;omega);clear hgx hwx hq
 refine tkK hK (HKE.out _ ud2) fun hHeld=>?_
 clear hK K
 exact hs5_2 gQ gO wv2 fQ_2 fO_2 bQ bO ne_O_Q.symm ud2 hHeld
 case jhs5_0 =>
  intro gX1 gQ wv2 fX1_2 fQ_2 bX1 bQ ne_X1_Q ud2 hHeld
  refine tk1 5 fun K hK=>?_
  go_simp;obtain ⟨gO,wv3,hgx,hwx,fO_3,hq⟩:=paw (wv2) (.cells #[.int .i64 0,.int .i64 0,.int .i64 0,.string ⟨#[]⟩,.int .i64 0,.int .i64 0,.int .i64 0,.string ⟨#[]⟩,.int .i64 0,.int .i64 0,.int .i64 0,.int .i64 0,.string ⟨#[]⟩,.string ⟨#[]⟩,.string ⟨#[]⟩,.int .i64 0,.int .i64 0,.int .i64 0,.int .i64 0] 69);rw [← hgx,← hwx];have bO:w8.heap.size≤gO:=(by have:=ud2.size;omega);have ud3:=ud2.trans hq;have fX1_3:=Lib.hid (paa fX1_2.out hq);have ne_X1_O:gX1≠gO:=(by have:=(Array.getElem?_eq_some_iff.1 fX1_2.out).1;omega);have fQ_3:=Lib.hid (paa fQ_2.out hq);have ne_Q_O:gQ≠gO:=(by have:=(Array.getElem?_eq_some_iff.1 fQ_2.out).1;omega);clear hgx hwx hq
  refine tkK hK (HKE.out _ ud3) fun hHeld=>?_
  clear hK K
  exact hs5_3 gX1 gQ gO wv3 fX1_3 fQ_3 fO_3 bX1 bQ bO ne_X1_Q ne_X1_O ne_Q_O ud3 hHeld
 case jhs5_1 =>
  intro gX1 gO wv2 fX1_2 fO_2 bX1 bO ne_X1_O ud2 hHeld
  refine tk1 4 fun K hK=>?_
  go_simp;obtain ⟨gQ,wv3,hgx,hwx,fQ_3,hq⟩:=paw (wv2) (.cells #[.int .i64 0,.int .i64 0,.int .i64 0,.string ⟨#[]⟩,.int .i64 0,.int .i64 0,.int .i64 0,.string ⟨#[]⟩,.int .i64 0,.int .i64 0,.int .i64 0,.int .i64 0,.string ⟨#[]⟩,.string ⟨#[]⟩,.string ⟨#[]⟩,.int .i64 0,.int .i64 0,.int .i64 0,.int .i64 0] 69);rw [← hgx,← hwx];have bQ:w8.heap.size≤gQ:=(by have:=ud2.size;omega);have ud3:=ud2.trans hq;have fX1_3:=Lib.hid (paa fX1_2.out hq);have ne_X1_Q:gX1≠gQ:=(by have:=(Array.getElem?_eq_some_iff.1 fX1_2.out).1;omega);have fO_3:=Lib.hid (paa fO_2.out hq);have ne_O_Q:gO≠gQ:=(by have:=(Array.getElem?_eq_some_iff.1 fO_2.out).1;omega);clear hgx hwx hq
  refine tkK hK (HKE.out _ ud3) fun hHeld=>?_
  clear hK K
  exact hs5_3 gX1 gQ gO wv3 fX1_3 fQ_3 fO_3 bX1 bQ bO ne_X1_Q ne_X1_O ne_O_Q.symm ud3 hHeld
 case jhs5_2 =>
  intro gQ gO wv2 fQ_2 fO_2 bQ bO ne_Q_O ud2 hHeld
  refine tk1 3 fun K hK=>?_
  go_simp;obtain ⟨gX1,wv3,hgx,hwx,fX1_3,hq⟩:=paw (wv2) (.cells #[.int .i64 0,.int .i64 0,.int .i64 0,.string ⟨#[]⟩,.int .i64 0,.int .i64 0,.int .i64 0,.string ⟨#[]⟩,.int .i64 0,.int .i64 0,.int .i64 0,.int .i64 0,.string ⟨#[]⟩,.string ⟨#[]⟩,.string ⟨#[]⟩,.int .i64 0,.int .i64 0,.int .i64 0,.int .i64 0] 69);rw [← hgx,← hwx];have bX1:w8.heap.size≤gX1:=(by have:=ud2.size;omega);have ud3:=ud2.trans hq;have fQ_3:=Lib.hid (paa fQ_2.out hq);have ne_Q_X1:gQ≠gX1:=(by have:=(Array.getElem?_eq_some_iff.1 fQ_2.out).1;omega);have fO_3:=Lib.hid (paa fO_2.out hq);have ne_O_X1:gO≠gX1:=(by have:=(Array.getElem?_eq_some_iff.1 fO_2.out).1;omega);clear hgx hwx hq
  refine tkK hK (HKE.out _ ud3) fun hHeld=>?_
  clear hK K
  exact hs5_3 gX1 gQ gO wv3 fX1_3 fQ_3 fO_3 bX1 bQ bO ne_Q_X1.symm ne_O_X1.symm ne_Q_O ud3 hHeld
 case jhs5_3 =>
  intro gX1 gQ gO wv3 fX1_3 fQ_3 fO_3 bX1 bQ bO ne_X1_Q ne_X1_O ne_Q_O ud3 hHeld
  refine tk1 6 fun K hK=>?_
  rw [if_pos (by rfl)];refine wp_store_row 69 _ _ rfl gX1 (evd1 TA a b TB c d) rfl rfl _ _ fX1_3.out (evdI _ _ _ _ _ _ _ _ _ _ _ _ _ _ _) rfl (evdO _ _ _ _ _ _ _ _ _ _ _ _ _ _ _) ?_;obtain ⟨wv4,hwx⟩:∃ W':World,W'=wv3.setRow gX1 (evd1 TA a b TB c d):=⟨_,rfl⟩;have fX1_4:Hid (wv4.heap[gX1]? =some (.cells (evd1 TA a b TB c d) 69 (0,0))):=(by show _=_;rw [hwx];exact setRow_heap _ _ _ _ _ _ fX1_3.out);have fQ_4:=Lib.hid (pal fQ_3.out ne_X1_Q.symm (evd1 TA a b TB c d));rw [← hwx] at fQ_4;have fO_4:=Lib.hid (pal fO_3.out ne_X1_O.symm (evd1 TA a b TB c d));rw [← hwx] at fO_4;have ud4:=ud3.setRowNew bX1 (evd1 TA a b TB c d);rw [← hwx] at ud4 ⊢;clear hwx
  refine tkK hK (HKE.out _ ud4) fun hHeld=>?_
  clear hK K
  refine tk1 7 fun K hK=>?_
  rw [if_pos (by rfl)];refine wp_store_row 69 _ _ rfl gQ (evd1 TA a b TB c d) rfl rfl _ _ fQ_4.out (evdI _ _ _ _ _ _ _ _ _ _ _ _ _ _ _) rfl (evdO _ _ _ _ _ _ _ _ _ _ _ _ _ _ _) ?_;obtain ⟨wv5,hwx⟩:∃ W':World,W'=wv4.setRow gQ (evd1 TA a b TB c d):=⟨_,rfl⟩;have fQ_5:Hid (wv5.heap[gQ]? =some (.cells (evd1 TA a b TB c d) 69 (0,0))):=(by show _=_;rw [hwx];exact setRow_heap _ _ _ _ _ _ fQ_4.out);have fX1_5:=Lib.hid (pal fX1_4.out ne_X1_Q (evd1 TA a b TB c d));rw [← hwx] at fX1_5;have fO_5:=Lib.hid (pal fO_4.out ne_Q_O.symm (evd1 TA a b TB c d));rw [← hwx] at fO_5;have ud5:=ud4.setRowNew bQ (evd1 TA a b TB c d);rw [← hwx] at ud5 ⊢;clear hwx
  refine tkK hK (HKE.out _ ud5) fun hHeld=>?_
  clear hK K
  refine tk1 8 fun K hK=>?_
  rw [if_pos (by rfl)];refine wp_store_row 69 _ _ rfl gO (evd1 TA a b TB c d) rfl rfl _ _ fO_5.out (evdI _ _ _ _ _ _ _ _ _ _ _ _ _ _ _) rfl (evdO _ _ _ _ _ _ _ _ _ _ _ _ _ _ _) ?_;obtain ⟨wv6,hwx⟩:∃ W':World,W'=wv5.setRow gO (evd1 TA a b TB c d):=⟨_,rfl⟩;have fO_6:Hid (wv6.heap[gO]? =some (.cells (evd1 TA a b TB c d) 69 (0,0))):=(by show _=_;rw [hwx];exact setRow_heap _ _ _ _ _ _ fO_5.out);have fX1_6:=Lib.hid (pal fX1_5.out ne_X1_O (evd1 TA a b TB c d));rw [← hwx] at fX1_6;have fQ_6:=Lib.hid (pal fQ_5.out ne_Q_O (evd1 TA a b TB c d));rw [← hwx] at fQ_6;have ud6:=ud5.setRowNew bO (evd1 TA a b TB c d);rw [← hwx] at ud6 ⊢;clear hwx
  refine tkK hK (HKE.out _ ud6) fun hHeld=>?_
  clear hK K
  refine wpAnyH_done (by kernel_rfl) ?_ _
  refine NoPanic.normal ?_
  exact hJ gX1 gQ gO wv6 fX1_6 fQ_6 fO_6 (Lib.hid (And.intro ne_X1_Q (And.intro ne_X1_O (And.intro ne_Q_O (And.intro bX1 (And.intro bQ bO)))))) (Lib.hid ud6)
 case' jf5=>skip
 intro gX1 gQ gO w9 RP RQ RO HNE hq'
 have hz8:=UU_8.out.size
 have hq:=hq'.out
 have bsz:=pag RE_8.out
 have bsS:=pag RS_8.out
 have bsM:=pag RM_8.out
 clear hq' HKE ud0
 have RM_9:=Lib.hid (paa RM_8.out hq)
 have RS_9:=Lib.hid (paa RS_8.out hq)
 have RE_9:=Lib.hid (paa RE_8.out hq)
 have UU_9:=Lib.hid (UU_8.out.trans hq)
 clear RM_8 RS_8 RE_8 UU_8 hq
 obtain ⟨nPQ,nPO,nQO,lP,lQ,lO⟩:=HNE.out
 obtain ⟨VT,hVT⟩:∃ VT:Array Value,VT=#[.int .i64 3,.string TA,.int .i64 (a:Int),.int .i64 (b:Int)]:=⟨_,rfl⟩
 obtain ⟨SG,hSG⟩:∃ SG:Array Value,SG=#[.int .i64 (a:Int),.int .i64 (b:Int)]:=⟨_,rfl⟩
 have HVI:Hid ((Tryz.prog.info? 48).map (·.size)=some VT.size):=by rw [hVT];exact peP TA a b
 have HVO:Hid (VT.all (·.oneCell')=true):=by rw [hVT];exact pjk TA a b
 have HGI:Hid ((Tryz.prog.info? 46).map (·.size)=some SG.size):=by rw [hSG];exact pea _ _
 have HGO:Hid (SG.all (·.oneCell')=true):=by rw [hSG];exact pnl _ _
 have HLV:Hid ((Instr.loadAt 48 (.pointer (some ⟨gE,2,none⟩))).run Tryz.prog w9=.ok (.agg VT) w9):=by rw [hVT];exact pct RE_9.out (pqv _ _ _ _ _ _) Tryz.underlying48 rfl (peP TA a b)
 have nEP:gE≠gX1:=by omega
 have nEQ:gE≠gQ:=by omega
 have nEO:gE≠gO:=by omega
 obtain ⟨y1,hy1⟩:∃ X,w9.setCells gX1 6 VT.toList=X:=⟨_,rfl⟩
 have TP:Hid (w9.there gX1 6 VT.size):=pbq RP.out (by rw [hVT];exact (by decide:6+4≤19))
 have P1:=pbd gX1 _ VT.toList 6 w9 _ RP.out
 rw [hy1,show pdN (evd1 TA a b TB c d) 6 VT.toList=evd1 TA a b TA a b by rw [hVT];rfl] at P1
 have v1:Upd [gX1] [gX1] w9 y1:=by
  have h:=(Upd.setCellsIn (g:=gX1) (S:=[gX1]) (S':=[gX1]) (by simp) VT.toList 6 _ (Upd.refl [gX1] w9))
  rw [hy1] at h
  exact h
 have O1:y1.heap[gO]? =_:=(v1.block gO (pag RO.out) (by simp;exact fun e=>nPO e.symm)).trans RO.out
 have cO:=(cell_of_row _ gO 0 _ _ _ O1).trans (show _=some (Value.int .i64 1) from rfl)
 have fO:=frozen_of_row _ gO 0 _ _ O1
 obtain ⟨y2,hy2⟩:∃ X,y1.setCell ⟨gO,0,none⟩ (.int .i64 9)=X:=⟨_,rfl⟩
 have v2:Upd [gO] [gO] y1 y2:=by rw [← hy2];exact (Upd.refl _ _).setCell (p:=⟨gO,0,none⟩) (by simp) _
 have O2:=heap_setCell_same y1 gO 0 _ _ (.int .i64 9) O1
 rw [hy2] at O2
 have E2:y2.heap[gE]? =_:=(v2.block gE (Nat.lt_of_lt_of_le (pag RE_9.out) v1.size) (by simp;exact nEO)).trans ((v1.block gE (pag RE_9.out) (by simp;exact nEP)).trans RE_9.out)
 have Q2:y2.heap[gQ]? =_:=(v2.block gQ (Nat.lt_of_lt_of_le (pag RQ.out) v1.size) (by simp;exact nQO)).trans ((v1.block gQ (pag RQ.out) (by simp;exact fun e=>nPQ e.symm)).trans RQ.out)
 have HLS:Hid ((Instr.loadAt 46 (.pointer (some ⟨gE,4,none⟩))).run Tryz.prog y2=.ok (.agg SG) y2):=by rw [hSG];exact pct E2 (prj _ _ _ _ _ _) Tryz.underlying46 rfl (pea _ _)
 obtain ⟨y3,hy3⟩:∃ X,y2.setCells gQ 8 SG.toList=X:=⟨_,rfl⟩
 have TQ:Hid (y2.there gQ 8 SG.size):=pbq Q2 (by rw [hSG];exact (by decide:8+2≤19))
 have Q3:=pbd gQ _ SG.toList 8 y2 _ Q2
 rw [hy3,show pdN (evd1 TA a b TB c d) 8 SG.toList=evd1 TA a b TB a b by rw [hSG];rfl] at Q3
 have v3:Upd [gQ] [gQ] y2 y3:=by
  have h:=(Upd.setCellsIn (g:=gQ) (S:=[gQ]) (S':=[gQ]) (by simp) SG.toList 8 _ (Upd.refl [gQ] y2))
  rw [hy3] at h
  exact h
 have v123:Upd [gX1,gO,gQ] [gX1,gO,gQ] w9 y3:=((v1.widen (by simp)).trans (v2.widen (by simp))).trans (v3.widen (by simp))
 have P3:=Lib.hid ((v3.block gX1 (Nat.lt_of_lt_of_le (pag P1) v2.size) (by simp;exact nPQ)).trans ((v2.block gX1 (pag P1) (by simp;exact nPO)).trans P1))
 obtain ⟨EO,hEO⟩:∃ EO,EO=(evd1 TA a b TB c d).setIfInBounds 0 (.int .i64 9):=⟨_,rfl⟩
 rw [← hEO] at O2
 have O3:=Lib.hid ((v3.block gO (pag O2) (by simp;exact fun e=>nQO e.symm)).trans O2)
 have HEO:Hid (EO[0]? =some (.int .i64 9)):=by rw [hEO];rfl
 have HEOI:Hid ((Tryz.prog.info? 69).map (·.size)=some EO.size):=by rw [hEO,Array.size_setIfInBounds];exact evdI _ _ _ _ _ _ _ _ _ _ _ _ _ _ _
 have S3:=Lib.hid ((v123.block gS (pag RS_9.out) (by simp;omega)).trans RS_9.out)
 have M3:=Lib.hid ((v123.block gM (pag RM_9.out) (by simp;omega)).trans RM_9.out)
 have Q3H:=Lib.hid Q3
 have V3:=Lib.hid (UU_9.out.past v123 (fun k hk=>by simp at hk;rcases hk with rfl | rfl | rfl <;> omega))
 have HY1:=Lib.hid hy1
 have HY3:=Lib.hid hy3
 clear hVT hSG v1 v2 v3 v123 P1 O1 O2 E2 Q2 Q3 hEO hy1 hy3 bsz bsS bsM RS_9 RM_9 RE_9 RP RQ RO UU_9
 go_wp2_with (first | (refine wpList_load_atW (by rfl) 48 _ rfl gE 2 rfl VT HLV.out ?_) | (refine wpList_store_midAs rfl 48 _ _ rfl gX1 6 VT rfl rfl TP.out HVI.out HVO.out y1 HY1.out ?_) | (refine wpList_load_atW (by rfl) 46 _ rfl gE 4 rfl SG HLS.out ?_) | (refine wpList_store_midAs rfl 46 _ _ rfl gQ 8 SG rfl rfl TQ.out HGI.out HGO.out y3 HY3.out ?_) | (refine wpList_load_row rfl 30 _ rfl gS rfl _ (supV gM) _ _ S3.out Tryz.underlying30 rfl (supInfo gM) ?_) | (refine wpList_load_row rfl 69 _ rfl gX1 rfl _ (evd1 TA a b TA a b) _ _ P3.out Tryz.underlying69 rfl (evdI _ _ _ _ _ _ _ _ _ _ _ _ _ _ _) ?_))
 clear HY1 HY3 HLV HLS TP TQ HVI HVO HGI HGO cO fO hy2
 have HJ:Hid (Calls Tryz.prog 16 #[.agg (supV gM),.agg (evd1 TA a b TA a b)] y3 (Mk (.tuple #[.int .i64 0,.int .i64 25]) y3)):=by
  obtain ⟨hv1,hv2,hv3,ip,ia,ib,tz1,tz2,ic,id'⟩:=HV.out
  exact pcS gM 3 3 TA a b 3 TA a b 0 0 _ _ _ 1 p true false y3 M3.out (fun W u=>peQ W) (fun W u=>piH (peR (MtIs.of _ _ _ _ _ _ _ _ _ _ _ _ _ _ _ _ _ _ _ _ _ _) ip ia ib tz1 ia ib tz1 W (htab.upd (V3.out.trans u))) (by rw [hv1];rfl)) (fun W u=>ped (MtIs.of _ _ _ _ _ _ _ _ _ _ _ _ _ _ _ _ _ _ _ _ _ _) false W (fun W' u'=>pjq TA W'))
 refine HJ.out.mono ?_
 rintro e y4 ⟨rfl,hq⟩
 clear HJ
 have RS_10:=Lib.hid (paa S3.out hq)
 have RM_10:=Lib.hid (paa M3.out hq)
 have RP_10:=Lib.hid (paa P3.out hq)
 have RQ_10:=Lib.hid (paa Q3H.out hq)
 have RO_10:=Lib.hid (paa O3.out hq)
 have UU_10:=Lib.hid (V3.out.trans hq)
 clear S3 M3 P3 Q3H O3 V3 hq
 go_wp2_with (first | (refine wpList_load_row rfl 30 _ rfl gS rfl _ (supV gM) _ _ RS_10.out Tryz.underlying30 rfl (supInfo gM) ?_) | (refine wpList_load_row rfl 69 _ rfl gQ rfl _ (evd1 TA a b TB a b) _ _ RQ_10.out Tryz.underlying69 rfl (evdI _ _ _ _ _ _ _ _ _ _ _ _ _ _ _) ?_))
 have HJ:Hid (Calls Tryz.prog 16 #[.agg (supV gM),.agg (evd1 TA a b TB a b)] y4 (Mk (.tuple #[.int .i64 0,.int .i64 21]) y4)):=by
  obtain ⟨hv1,hv2,hv3,ip,ia,ib,tz1,tz2,ic,id'⟩:=HV.out
  exact pcS gM 3 3 TA a b 3 TB a b 0 0 _ _ _ 1 p false true y4 RM_10.out (fun W u=>peQ W) (fun W u=>piH (peR (MtIs.of _ _ _ _ _ _ _ _ _ _ _ _ _ _ _ _ _ _ _ _ _ _) ip ia ib tz1 ia ib tz2 W (htab.upd (UU_10.out.trans u))) (by rw [hv1,hv3];rfl)) (fun W u=>ped (MtIs.of _ _ _ _ _ _ _ _ _ _ _ _ _ _ _ _ _ _ _ _ _ _) true W (fun W' u'=>pgi TA TB HTA.out HTB.out W' (htab.upd ((UU_10.out.trans u).trans u'))))
 refine HJ.out.mono ?_
 rintro e y5 ⟨rfl,hq⟩
 clear HJ
 have RS_11:=Lib.hid (paa RS_10.out hq)
 have RM_11:=Lib.hid (paa RM_10.out hq)
 have RP_11:=Lib.hid (paa RP_10.out hq)
 have RQ_11:=Lib.hid (paa RQ_10.out hq)
 have RO_11:=Lib.hid (paa RO_10.out hq)
 have UU_11:=Lib.hid (UU_10.out.trans hq)
 clear RS_10 RM_10 RP_10 RQ_10 RO_10 UU_10 hq
 go_wp2_with (first | (refine wpList_load_row rfl 30 _ rfl gS rfl _ (supV gM) _ _ RS_11.out Tryz.underlying30 rfl (supInfo gM) ?_) | (refine wpList_load_row rfl 69 _ rfl gO rfl _ EO _ _ RO_11.out Tryz.underlying69 rfl HEOI.out ?_))
 have HJ:Hid (Calls Tryz.prog 16 #[.agg (supV gM),.agg EO] y5 (Mk (.tuple #[.int .i64 0,.int .i64 14]) y5)):=by
  obtain ⟨hv1,hv2,hv3,ip,ia,ib,tz1,tz2,ic,id'⟩:=HV.out
  exact pnZ _ _ HEO.out y5
 refine HJ.out.mono ?_
 rintro e y6 ⟨rfl,hq⟩
 clear HJ
 have RS_12:=Lib.hid (paa RS_11.out hq)
 have RM_12:=Lib.hid (paa RM_11.out hq)
 have RP_12:=Lib.hid (paa RP_11.out hq)
 have RQ_12:=Lib.hid (paa RQ_11.out hq)
 have RO_12:=Lib.hid (paa RO_11.out hq)
 have UU_12:=Lib.hid (UU_11.out.trans hq)
 clear RS_11 RM_11 RP_11 RQ_11 RO_11 UU_11 hq
 go_wp2_with fail
 refine (show Calls Tryz.prog 12 #[.int .i64 3] y6 (pdb 3 y6) from pfy 3 (by omega) (by omega) y6).mono ?_
 rintro e y7 ⟨F,HF,rfl,hq⟩
 have RS_13:=Lib.hid (paa RS_12.out hq)
 have RM_13:=Lib.hid (paa RM_12.out hq)
 have UU_13:=Lib.hid (UU_12.out.trans hq)
 clear RS_12 RM_12 UU_12 hq
 go_wp2_with fail
 refine (show Calls Tryz.prog 12 #[.int .i64 10] y7 (pdb 10 y7) from pfy 10 (by omega) (by omega) y7).mono ?_
 rintro e y8 ⟨A,HAA,rfl,hq⟩
 have RS_14:=Lib.hid (paa RS_13.out hq)
 have RM_14:=Lib.hid (paa RM_13.out hq)
 have UU_14:=Lib.hid (UU_13.out.trans hq)
 clear RS_13 RM_13 UU_13 hq
 obtain ⟨y9,Z_RD,W_RD,RD,hq⟩:=paC y8 61 #[.int .i64 0,.int .i64 0,.string ⟨#[]⟩,.string ⟨#[]⟩,.string ⟨#[]⟩] (dspV F A ⟨#[]⟩)
 obtain ⟨gD,hg_RD⟩:∃ g,y8.heap.size=g:=⟨_,rfl⟩
 rw [hg_RD] at Z_RD W_RD RD
 have lt_RS_RD:gS<gD:=by rw [← hg_RD];exact pag RS_14.out
 have lt_RM_RD:gM<gD:=by rw [← hg_RD];exact pag RM_14.out
 have wl_RD:w.heap.size≤gD:=by rw [← hg_RD];exact UU_14.out.size
 have RS_15:=Lib.hid (paa RS_14.out hq)
 have RM_15:=Lib.hid (paa RM_14.out hq)
 have UU_15:=Lib.hid (UU_14.out.trans hq)
 clear RS_14 RM_14 UU_14 hq
 go_wp2_with (first | (refine wpList_store_rowAs rfl 61 _ _ rfl gD (dspV F A ⟨#[]⟩) rfl rfl _ _ Z_RD.out (dspSInfo F A _) rfl (dspSOne F A _) y9 W_RD.out ?_) | (refine wpList_load_row rfl 61 _ rfl gD rfl _ (dspV F A ⟨#[]⟩) _ _ RD.out Tryz.underlying61 rfl (dspSInfo F A _) ?_))
 refine (pfz F A ⟨#[]⟩ 10 HF.out HAA.out (by omega) (by omega) y9 (htab.upd UU_15.out)).mono ?_
 rintro e y10 ⟨TC,HTC,htc,rfl,hq⟩
 have RS_16:=Lib.hid (paa RS_15.out hq)
 have RM_16:=Lib.hid (paa RM_15.out hq)
 have RD_16:=Lib.hid (paa RD.out hq)
 have UU_16:=Lib.hid (UU_15.out.trans hq)
 clear RS_15 RM_15 RD UU_15 hq
 have htcs:TC.size≤140737488355000:=by have:=pc7 10 (by omega);omega
 go_upto_region 14 with (fail)
 have HKD:Hid (∀ W,Upd [] [] y10 W→(Instr.loadAt 61 (.pointer (some ⟨gD,0,none⟩))).run Tryz.prog W=.ok (.agg (#[.int .i64 7,.int .i64 8,.string F,.string A,.string ⟨#[]⟩]:Array Value)) W):=fun W u=>pct (o:=0) (C:=dspV F A ⟨#[]⟩) (cs:=[.int .i64 7,.int .i64 8,.string F,.string A,.string ⟨#[]⟩]) (paa RD_16.out u) (fun j v hv=>by rw [Nat.zero_add];exact (List.getElem?_toArray ▸ hv:(#[.int .i64 7,.int .i64 8,.string F,.string A,.string ⟨#[]⟩]:Array Value)[j]? =some v)) Tryz.underlying61 rfl (dspSInfo F A ⟨#[]⟩)
 have ud0:Upd [] [] y10 y10.drew:=(Upd.refl _ _).drew
 have HVT:Hid (∀ W,Upd [] [] y10 W→Calls Tryz.prog 14 #[.int .i64 3,.int .i64 (x:Int),.string TC] W (pqr 3 x TC W)):=fun W u=>pex x hx TC htcs W (htab.upd (UU_16.out.trans u))
 refine @_root_.id ((∀ (a1 b1 gF:Nat) (W:World),Hid (a1=gP (nonceN x (bs TC)))→Hid (b1=sWith x (nonceN x (bs TC)) (bs TC))→a1<2305843009213691579→b1<1152921504606845789→Hid (W.heap[gF]? =some (.cells (evdF TC a1 b1 F A) 69 (0,0)))→Hid (Upd [] [] y10 W)→(?pj6:Nat→Nat→Nat→World→Prop) a1 b1 gF W)→_) (fun hJ=>?mj6) ?jj6
 case mj6 =>
  refine wp_region_noPanic ?_
  refine wp_region_held_drew (S:=fun wp=>(Instr.loadAt 61 (.pointer (some ⟨gD,0,none⟩))).run Tryz.prog wp=.ok (.agg (#[.int .i64 7,.int .i64 8,.string F,.string A,.string ⟨#[]⟩]:Array Value)) wp) (by kernel_rfl) ?_ (fun hHeld=>?_)
  · exact HKD.out _ ud0
  refine tkY 0 hHeld ?_
  refine tkY 1 hHeld ?_
  refine wpAnyH_take (i:=3) (v:=.agg (#[.int .i64 7,.int .i64 8,.string F,.string A,.string ⟨#[]⟩]:Array Value)) (by simp only [List.getElem?_toArray,List.getElem?_cons_succ,List.getElem?_cons_zero] <;> rfl) (by kernel_rfl) (by kernel_rfl) (by kernel_rfl) (fun _ _ _ h=>h) (pau (by rfl) _ _ rfl _ rfl (#[.int .i64 7,.int .i64 8,.string F,.string A,.string ⟨#[]⟩]:Array Value) (fun w hSw=>hSw)) hHeld ?_
  try simp only [Act.put,List.setIfInBounds_toArray,List.set_cons_zero,List.set_cons_succ]
  refine tkA [2,5] ?_
  refine tkC (fun K hK=>?_) ?_
  · go_simp;refine (HVT.out _ ud0).mono ?_;rintro e wv1 ⟨a1,b1,H1gF,H2gF,h1gF,h2gF,rfl,hq⟩;have ud1:=ud0.trans hq;clear hq;go_wp2_with fail
    refine tkK hK (HKD.out _ ud1) fun hHeld=>?_
    clear hK K
    refine tkY 4 hHeld ?_
    refine tk1 5 fun K hK=>?_
    go_simp;obtain ⟨gF,wv2,hgx,hwx,fC_2,hq⟩:=paw wv1 (.cells #[.int .i64 0,.int .i64 0,.int .i64 0,.string ⟨#[]⟩,.int .i64 0,.int .i64 0,.int .i64 0,.string ⟨#[]⟩,.int .i64 0,.int .i64 0,.int .i64 0,.int .i64 0,.string ⟨#[]⟩,.string ⟨#[]⟩,.string ⟨#[]⟩,.int .i64 0,.int .i64 0,.int .i64 0,.int .i64 0] 69);rw [← hgx,← hwx];have bC:y10.heap.size≤gF:=(by have:=ud1.size;omega);have ud2:=ud1.trans hq;clear hgx hwx hq
    refine tkK hK (HKD.out _ ud2) fun hHeld=>?_
    clear hK K
    refine tk1 6 fun K hK=>?_
    rw [if_pos (by rfl)];refine wp_store_row 69 _ _ rfl gF (evdF TC a1 b1 F A) rfl rfl _ _ fC_2.out (evdI _ _ _ _ _ _ _ _ _ _ _ _ _ _ _) rfl (evdO _ _ _ _ _ _ _ _ _ _ _ _ _ _ _) ?_;obtain ⟨wv3,hwx⟩:∃ W':World,W'=wv2.setRow gF (evdF TC a1 b1 F A):=⟨_,rfl⟩;have fC_3:Hid (wv3.heap[gF]? =some (.cells (evdF TC a1 b1 F A) 69 (0,0))):=(by show _=_;rw [hwx];exact setRow_heap _ _ _ _ _ _ fC_2.out);have ud3:=ud2.setRowNew bC (evdF TC a1 b1 F A);rw [← hwx] at ud3 ⊢;clear hwx
    refine tkK hK (HKD.out _ ud3) fun hHeld=>?_
    clear hK K
    refine wpAnyH_done (by kernel_rfl) ?_ _
    refine NoPanic.normal ?_
    exact hJ a1 b1 gF wv3 H1gF H2gF h1gF h2gF fC_3 (Lib.hid ud3)
  refine tkZ fun K hK=>?_
  go_simp;obtain ⟨gF,wv1,hgx,hwx,fC_1,hq⟩:=paF y10 (.cells #[.int .i64 0,.int .i64 0,.int .i64 0,.string ⟨#[]⟩,.int .i64 0,.int .i64 0,.int .i64 0,.string ⟨#[]⟩,.int .i64 0,.int .i64 0,.int .i64 0,.int .i64 0,.string ⟨#[]⟩,.string ⟨#[]⟩,.string ⟨#[]⟩,.int .i64 0,.int .i64 0,.int .i64 0,.int .i64 0] 69);rw [← hgx,← hwx];have bC:y10.heap.size≤gF:=(by omega);have ud1:=hq;clear hgx hwx hq
  refine tkK hK (HKD.out _ ud1) fun hHeld=>?_
  clear hK K
  refine tk1 2 fun K hK=>?_
  go_simp;refine (HVT.out _ ud1).mono ?_;rintro e wv2 ⟨a1,b1,H1gF,H2gF,h1gF,h2gF,rfl,hq⟩;have ud2:=ud1.trans hq;have fC_2:=Lib.hid (paa fC_1.out hq);clear hq;go_wp2_with fail
  refine tkK hK (HKD.out _ ud2) fun hHeld=>?_
  clear hK K
  refine tkY 4 hHeld ?_
  refine tk1 6 fun K hK=>?_
  rw [if_pos (by rfl)];refine wp_store_row 69 _ _ rfl gF (evdF TC a1 b1 F A) rfl rfl _ _ fC_2.out (evdI _ _ _ _ _ _ _ _ _ _ _ _ _ _ _) rfl (evdO _ _ _ _ _ _ _ _ _ _ _ _ _ _ _) ?_;obtain ⟨wv3,hwx⟩:∃ W':World,W'=wv2.setRow gF (evdF TC a1 b1 F A):=⟨_,rfl⟩;have fC_3:Hid (wv3.heap[gF]? =some (.cells (evdF TC a1 b1 F A) 69 (0,0))):=(by show _=_;rw [hwx];exact setRow_heap _ _ _ _ _ _ fC_2.out);have ud3:=ud2.setRowNew bC (evdF TC a1 b1 F A);rw [← hwx] at ud3 ⊢;clear hwx
  refine tkK hK (HKD.out _ ud3) fun hHeld=>?_
  clear hK K
  refine wpAnyH_done (by kernel_rfl) ?_ _
  refine NoPanic.normal ?_
  exact hJ a1 b1 gF wv3 H1gF H2gF h1gF h2gF fC_3 (Lib.hid ud3)
 intro a1 b1 gF y11 HA1 HB1 ha1 hb1 RF hq'
 have hq:=hq'.out
 clear hq' HKD HVT ud0
 have RS_17:=Lib.hid (paa RS_16.out hq)
 have RM_17:=Lib.hid (paa RM_16.out hq)
 have RD_17:=Lib.hid (paa RD_16.out hq)
 have UU_17:=Lib.hid (UU_16.out.trans hq)
 clear RS_16 RM_16 RD_16 UU_16 hq
 have hvf:verB (p:Int) (bs TC) (a1:Int) (b1:Int)=true:=by rw [HP.out,HA1.out,HB1.out];exact ver_with _ _ _
 have ip:pab (p:Int):=by unfold pab;omega
 have ia1:pab (a1:Int):=by unfold pab;omega
 have ib1:pab (b1:Int):=by unfold pab;omega
 have HVF:=Lib.hid (And.intro hvf (And.intro ip (And.intro ia1 ib1)))
 clear hvf ip ia1 ib1
 go_wp2_with (first | (refine wpList_load_row rfl 30 _ rfl gS rfl _ (supV gM) _ _ RS_17.out Tryz.underlying30 rfl (supInfo gM) ?_) | (refine wpList_load_row rfl 69 _ rfl gF rfl _ (evdF TC a1 b1 F A) _ _ RF.out Tryz.underlying69 rfl (evdI _ _ _ _ _ _ _ _ _ _ _ _ _ _ _) ?_))
 have HJ:Hid (Calls Tryz.prog 16 #[.agg (supV gM),.agg (evdF TC a1 b1 F A)] y11 (Mk (.tuple #[.int .i64 3,.int .i64 0]) y11)):=by
  obtain ⟨hvf,ip,ia1,ib1⟩:=HVF.out
  exact pde gM 3 3 TC a1 b1 0 ⟨#[]⟩ 0 0 7 8 F A ⟨#[]⟩ 1 p true true y11 RM_17.out (fun W u=>pkG (MtIs.of _ _ _ _ _ _ _ _ _ _ _ _ _ _ _ _ _ _ _ _ _ _) 10 HF.out HAA.out (by omega) (by omega) HTC.out W (htab.upd (UU_17.out.trans u))) (fun W u=>piH (pjr (MtIs.of _ _ _ _ _ _ _ _ _ _ _ _ _ _ _ _ _ _ _ _ _ _) ip ia1 ib1 htcs W (htab.upd (UU_17.out.trans u))) (by rw [hvf];rfl)) (fun W u=>pew (MtIs.of _ _ _ _ _ _ _ _ _ _ _ _ _ _ _ _ _ _ _ _ _ _) true (-1) rfl W HF.out (fun y W' hy=>pjx y A 9 10 hy HAA.out (by omega) (by omega) (by omega) W'))
 refine HJ.out.mono ?_
 rintro e y12 ⟨rfl,hq⟩
 clear HJ
 have RS_18:=Lib.hid (paa RS_17.out hq)
 have RM_18:=Lib.hid (paa RM_17.out hq)
 have RD_18:=Lib.hid (paa RD_17.out hq)
 have RF_18:=Lib.hid (paa RF.out hq)
 have UU_18:=Lib.hid (UU_17.out.trans hq)
 clear RS_17 RM_17 RD_17 RF UU_17 hq
 go_wp2_with fail
 refine (show Calls Tryz.prog 12 #[.int .i64 9] y12 (pdb 9 y12) from pfy 9 (by omega) (by omega) y12).mono ?_
 rintro e y13 ⟨A',HAE,rfl,hq⟩
 have RS_19:=Lib.hid (paa RS_18.out hq)
 have RM_19:=Lib.hid (paa RM_18.out hq)
 have RD_19:=Lib.hid (paa RD_18.out hq)
 have UU_19:=Lib.hid (UU_18.out.trans hq)
 clear RS_18 RM_18 RD_18 UU_18 hq
 have cA:=(cell_of_row _ gD 3 _ _ _ RD_19.out).trans (show _=some (Value.string A) from rfl)
 have fA:=frozen_of_row _ gD 3 _ _ RD_19.out
 obtain ⟨y14,hy14⟩:∃ X,y13.setCell ⟨gD,3,none⟩ (.string A')=X:=⟨_,rfl⟩
 have vS:Upd [gD] [gD] y13 y14:=by rw [← hy14];exact (Upd.refl _ _).setCell (p:=⟨gD,3,none⟩) (by simp) _
 have D14:=heap_setCell_same y13 gD 3 _ _ (.string A') RD_19.out
 rw [hy14,show (dspV F A ⟨#[]⟩).setIfInBounds 3 (.string A')=dspV F A' ⟨#[]⟩ from rfl] at D14
 have HD14:=Lib.hid D14
 have S14:=Lib.hid ((vS.block gS (pag RS_19.out) (by simp;omega)).trans RS_19.out)
 have M14:=Lib.hid ((vS.block gM (pag RM_19.out) (by simp;omega)).trans RM_19.out)
 have V14:Hid (Upd [] [] w y14):=by
  have hgd:w.heap.size≤gD:=wl_RD
  have h:=UU_19.out.setNew (p:=⟨gD,3,none⟩) hgd (.string A')
  rw [hy14] at h
  exact h
 have HLD:Hid ((Instr.loadAt 61 (.pointer (some ⟨gD,0,none⟩))).run Tryz.prog y14=.ok (.agg (#[.int .i64 7,.int .i64 8,.string F,.string A',.string ⟨#[]⟩]:Array Value)) y14):=pct (o:=0) (C:=dspV F A' ⟨#[]⟩) (cs:=[.int .i64 7,.int .i64 8,.string F,.string A',.string ⟨#[]⟩]) HD14.out (fun j v hv=>by rw [Nat.zero_add];exact (List.getElem?_toArray ▸ hv:(#[.int .i64 7,.int .i64 8,.string F,.string A',.string ⟨#[]⟩]:Array Value)[j]? =some v)) Tryz.underlying61 rfl (dspSInfo F A' ⟨#[]⟩)
 clear D14 vS RD_19 RS_19 RM_19 UU_19
 go_upto_region 17 with (fail)
 clear cA fA hy14 HLD
 have HKD:Hid (∀ W,Upd [] [] y14 W→(Instr.loadAt 61 (.pointer (some ⟨gD,0,none⟩))).run Tryz.prog W=.ok (.agg (#[.int .i64 7,.int .i64 8,.string F,.string A',.string ⟨#[]⟩]:Array Value)) W):=fun W u=>pct (o:=0) (C:=dspV F A' ⟨#[]⟩) (cs:=[.int .i64 7,.int .i64 8,.string F,.string A',.string ⟨#[]⟩]) (paa HD14.out u) (fun j v hv=>by rw [Nat.zero_add];exact (List.getElem?_toArray ▸ hv:(#[.int .i64 7,.int .i64 8,.string F,.string A',.string ⟨#[]⟩]:Array Value)[j]? =some v)) Tryz.underlying61 rfl (dspSInfo F A' ⟨#[]⟩)
 have ud0:Upd [] [] y14 y14.drew:=(Upd.refl _ _).drew
 have HVT:Hid (∀ (TE:ByteArray),Hid (bs TE=pcs 9)→∀ (W:World),Upd [] [] y14 W→Calls Tryz.prog 14 #[.int .i64 3,.int .i64 (x:Int),.string TE] W (pqr 3 x TE W)):=fun TE ht W u=>pex x hx TE (by rw [← pac,ht.out];have:=pc7 9 (by omega);omega) W (htab.upd (V14.out.trans u))
 have HCL:Hid (∀ W,Upd [] [] y14 W→Calls Tryz.prog 15 #[.agg (#[.int .i64 7,.int .i64 8,.string F,.string A',.string ⟨#[]⟩]:Array Value)] W (MkS (pcs 9) W)):=fun W u=>pfz F A' ⟨#[]⟩ 9 HF.out HAE.out (by omega) (by omega) W (htab.upd (V14.out.trans u))
 refine @_root_.id ((∀ (TE:ByteArray) (a2 b2 gG:Nat) (W:World),Hid (bs TE=pcs 9)→Hid (a2=gP (nonceN x (bs TE)))→Hid (b2=sWith x (nonceN x (bs TE)) (bs TE))→a2<2305843009213691579→b2<1152921504606845789→Hid (W.heap[gG]? =some (.cells (evdF TE a2 b2 F A') 69 (0,0)))→Hid (Upd [] [] y14 W)→(?pj11:ByteArray→Nat→Nat→Nat→World→Prop) TE a2 b2 gG W)→_) (fun hJ=>?mj11) ?jj11
 case mj11 =>
  refine wp_region_noPanic ?_
  refine wp_region_held_drew (S:=fun wp=>(Instr.loadAt 61 (.pointer (some ⟨gD,0,none⟩))).run Tryz.prog wp=.ok (.agg (#[.int .i64 7,.int .i64 8,.string F,.string A',.string ⟨#[]⟩]:Array Value)) wp) (by kernel_rfl) ?_ (fun hHeld=>?_)
  · exact HKD.out _ ud0
  refine tkY 0 hHeld ?_
  refine wpAnyH_take (i:=1) (v:=.agg (#[.int .i64 7,.int .i64 8,.string F,.string A',.string ⟨#[]⟩]:Array Value)) (by simp only [List.getElem?_toArray,List.getElem?_cons_succ,List.getElem?_cons_zero] <;> rfl) (by kernel_rfl) (by kernel_rfl) (by kernel_rfl) (fun _ _ _ h=>h) (pau (by rfl) _ _ rfl _ rfl (#[.int .i64 7,.int .i64 8,.string F,.string A',.string ⟨#[]⟩]:Array Value) (fun w hSw=>hSw)) hHeld ?_
  try simp only [Act.put,List.setIfInBounds_toArray,List.set_cons_zero,List.set_cons_succ]
  refine wpAnyH_take (i:=4) (v:=.agg (#[.int .i64 7,.int .i64 8,.string F,.string A',.string ⟨#[]⟩]:Array Value)) (by simp only [List.getElem?_toArray,List.getElem?_cons_succ,List.getElem?_cons_zero] <;> rfl) (by kernel_rfl) (by kernel_rfl) (by kernel_rfl) (fun _ _ _ h=>h) (pau (by rfl) _ _ rfl _ rfl (#[.int .i64 7,.int .i64 8,.string F,.string A',.string ⟨#[]⟩]:Array Value) (fun w hSw=>hSw)) hHeld ?_
  try simp only [Act.put,List.setIfInBounds_toArray,List.set_cons_zero,List.set_cons_succ]
  refine tkA [2,6] ?_
  refine tkC (fun K hK=>?_) ?_
  · go_simp;refine (HCL.out _ ud0).mono ?_;rintro e wv1 ⟨TE,HTE,_,rfl,hq⟩;have ud1:=ud0.trans hq;clear hq;go_wp2_with fail
    refine tkK hK (HKD.out _ ud1) fun hHeld=>?_
    clear hK K
    refine tkA [3,6] ?_
    refine tkC (fun K hK=>?_) ?_
    · go_simp;refine (HVT.out TE HTE _ ud1).mono ?_;rintro e wv2 ⟨a2,b2,H1gG,H2gG,h1gG,h2gG,rfl,hq⟩;have ud2:=ud1.trans hq;clear hq;go_wp2_with fail
      refine tkK hK (HKD.out _ ud2) fun hHeld=>?_
      clear hK K
      refine tkY 5 hHeld ?_
      refine tk1 6 fun K hK=>?_
      go_simp;obtain ⟨gG,wv3,hgx,hwx,fC_3,hq⟩:=paw wv2 (.cells #[.int .i64 0,.int .i64 0,.int .i64 0,.string ⟨#[]⟩,.int .i64 0,.int .i64 0,.int .i64 0,.string ⟨#[]⟩,.int .i64 0,.int .i64 0,.int .i64 0,.int .i64 0,.string ⟨#[]⟩,.string ⟨#[]⟩,.string ⟨#[]⟩,.int .i64 0,.int .i64 0,.int .i64 0,.int .i64 0] 69);rw [← hgx,← hwx];have bC:y14.heap.size≤gG:=(by have:=ud2.size;omega);have ud3:=ud2.trans hq;clear hgx hwx hq
      refine tkK hK (HKD.out _ ud3) fun hHeld=>?_
      clear hK K
      refine tk1 7 fun K hK=>?_
      rw [if_pos (by rfl)];refine wp_store_row 69 _ _ rfl gG (evdF TE a2 b2 F A') rfl rfl _ _ fC_3.out (evdI _ _ _ _ _ _ _ _ _ _ _ _ _ _ _) rfl (evdO _ _ _ _ _ _ _ _ _ _ _ _ _ _ _) ?_;obtain ⟨wv4,hwx⟩:∃ W':World,W'=wv3.setRow gG (evdF TE a2 b2 F A'):=⟨_,rfl⟩;have fC_4:Hid (wv4.heap[gG]? =some (.cells (evdF TE a2 b2 F A') 69 (0,0))):=(by show _=_;rw [hwx];exact setRow_heap _ _ _ _ _ _ fC_3.out);have ud4:=ud3.setRowNew bC (evdF TE a2 b2 F A');rw [← hwx] at ud4 ⊢;clear hwx
      refine tkK hK (HKD.out _ ud4) fun hHeld=>?_
      clear hK K
      refine wpAnyH_done (by kernel_rfl) ?_ _
      refine NoPanic.normal ?_
      exact hJ TE a2 b2 gG wv4 HTE H1gG H2gG h1gG h2gG fC_4 (Lib.hid ud4)
    refine tkZ fun K hK=>?_
    go_simp;obtain ⟨gG,wv2,hgx,hwx,fC_2,hq⟩:=paw wv1 (.cells #[.int .i64 0,.int .i64 0,.int .i64 0,.string ⟨#[]⟩,.int .i64 0,.int .i64 0,.int .i64 0,.string ⟨#[]⟩,.int .i64 0,.int .i64 0,.int .i64 0,.int .i64 0,.string ⟨#[]⟩,.string ⟨#[]⟩,.string ⟨#[]⟩,.int .i64 0,.int .i64 0,.int .i64 0,.int .i64 0] 69);rw [← hgx,← hwx];have bC:y14.heap.size≤gG:=(by have:=ud1.size;omega);have ud2:=ud1.trans hq;clear hgx hwx hq
    refine tkK hK (HKD.out _ ud2) fun hHeld=>?_
    clear hK K
    refine tk1 3 fun K hK=>?_
    go_simp;refine (HVT.out TE HTE _ ud2).mono ?_;rintro e wv3 ⟨a2,b2,H1gG,H2gG,h1gG,h2gG,rfl,hq⟩;have ud3:=ud2.trans hq;have fC_3:=Lib.hid (paa fC_2.out hq);clear hq;go_wp2_with fail
    refine tkK hK (HKD.out _ ud3) fun hHeld=>?_
    clear hK K
    refine tkY 5 hHeld ?_
    refine tk1 7 fun K hK=>?_
    rw [if_pos (by rfl)];refine wp_store_row 69 _ _ rfl gG (evdF TE a2 b2 F A') rfl rfl _ _ fC_3.out (evdI _ _ _ _ _ _ _ _ _ _ _ _ _ _ _) rfl (evdO _ _ _ _ _ _ _ _ _ _ _ _ _ _ _) ?_;obtain ⟨wv4,hwx⟩:∃ W':World,W'=wv3.setRow gG (evdF TE a2 b2 F A'):=⟨_,rfl⟩;have fC_4:Hid (wv4.heap[gG]? =some (.cells (evdF TE a2 b2 F A') 69 (0,0))):=(by show _=_;rw [hwx];exact setRow_heap _ _ _ _ _ _ fC_3.out);have ud4:=ud3.setRowNew bC (evdF TE a2 b2 F A');rw [← hwx] at ud4 ⊢;clear hwx
    refine tkK hK (HKD.out _ ud4) fun hHeld=>?_
    clear hK K
    refine wpAnyH_done (by kernel_rfl) ?_ _
    refine NoPanic.normal ?_
    exact hJ TE a2 b2 gG wv4 HTE H1gG H2gG h1gG h2gG fC_4 (Lib.hid ud4)
  refine tkZ fun K hK=>?_
  go_simp;obtain ⟨gG,wv1,hgx,hwx,fC_1,hq⟩:=paF y14 (.cells #[.int .i64 0,.int .i64 0,.int .i64 0,.string ⟨#[]⟩,.int .i64 0,.int .i64 0,.int .i64 0,.string ⟨#[]⟩,.int .i64 0,.int .i64 0,.int .i64 0,.int .i64 0,.string ⟨#[]⟩,.string ⟨#[]⟩,.string ⟨#[]⟩,.int .i64 0,.int .i64 0,.int .i64 0,.int .i64 0] 69);rw [← hgx,← hwx];have bC:y14.heap.size≤gG:=(by omega);have ud1:=hq;clear hgx hwx hq
  refine tkK hK (HKD.out _ ud1) fun hHeld=>?_
  clear hK K
  refine tk1 2 fun K hK=>?_
  go_simp;refine (HCL.out _ ud1).mono ?_;rintro e wv2 ⟨TE,HTE,_,rfl,hq⟩;have ud2:=ud1.trans hq;have fC_2:=Lib.hid (paa fC_1.out hq);clear hq;go_wp2_with fail
  refine tkK hK (HKD.out _ ud2) fun hHeld=>?_
  clear hK K
  refine tk1 3 fun K hK=>?_
  go_simp;refine (HVT.out TE HTE _ ud2).mono ?_;rintro e wv3 ⟨a2,b2,H1gG,H2gG,h1gG,h2gG,rfl,hq⟩;have ud3:=ud2.trans hq;have fC_3:=Lib.hid (paa fC_2.out hq);clear hq;go_wp2_with fail
  refine tkK hK (HKD.out _ ud3) fun hHeld=>?_
  clear hK K
  refine tkY 5 hHeld ?_
  refine tk1 7 fun K hK=>?_
  rw [if_pos (by rfl)];refine wp_store_row 69 _ _ rfl gG (evdF TE a2 b2 F A') rfl rfl _ _ fC_3.out (evdI _ _ _ _ _ _ _ _ _ _ _ _ _ _ _) rfl (evdO _ _ _ _ _ _ _ _ _ _ _ _ _ _ _) ?_;obtain ⟨wv4,hwx⟩:∃ W':World,W'=wv3.setRow gG (evdF TE a2 b2 F A'):=⟨_,rfl⟩;have fC_4:Hid (wv4.heap[gG]? =some (.cells (evdF TE a2 b2 F A') 69 (0,0))):=(by show _=_;rw [hwx];exact setRow_heap _ _ _ _ _ _ fC_3.out);have ud4:=ud3.setRowNew bC (evdF TE a2 b2 F A');rw [← hwx] at ud4 ⊢;clear hwx
  refine tkK hK (HKD.out _ ud4) fun hHeld=>?_
  clear hK K
  refine wpAnyH_done (by kernel_rfl) ?_ _
  refine NoPanic.normal ?_
  exact hJ TE a2 b2 gG wv4 HTE H1gG H2gG h1gG h2gG fC_4 (Lib.hid ud4)
 intro TE a2 b2 gG y15 HTE HA2 HB2 ha2 hb2 RG hq'
 have hq:=hq'.out
 clear hq' HKD HVT HCL ud0
 have RS_20:=Lib.hid (paa S14.out hq)
 have RM_20:=Lib.hid (paa M14.out hq)
 have RD_20:=Lib.hid (paa HD14.out hq)
 have UU_20:=Lib.hid (V14.out.trans hq)
 clear S14 M14 HD14 V14 hq
 have htes:TE.size≤140737488355000:=by rw [← pac,HTE.out];have:=pc7 9 (by omega);omega
 have hvf:verB (p:Int) (bs TE) (a2:Int) (b2:Int)=true:=by rw [HP.out,HA2.out,HB2.out];exact ver_with _ _ _
 have ip:pab (p:Int):=by unfold pab;omega
 have ia1:pab (a2:Int):=by unfold pab;omega
 have ib1:pab (b2:Int):=by unfold pab;omega
 have HVG:=Lib.hid (And.intro hvf (And.intro ip (And.intro ia1 ib1)))
 clear hvf ip ia1 ib1
 go_wp2_with (first | (refine wpList_load_row rfl 30 _ rfl gS rfl _ (supV gM) _ _ RS_20.out Tryz.underlying30 rfl (supInfo gM) ?_) | (refine wpList_load_row rfl 69 _ rfl gG rfl _ (evdF TE a2 b2 F A') _ _ RG.out Tryz.underlying69 rfl (evdI _ _ _ _ _ _ _ _ _ _ _ _ _ _ _) ?_))
 have HJ:Hid (Calls Tryz.prog 16 #[.agg (supV gM),.agg (evdF TE a2 b2 F A')] y15 (Mk (.tuple #[.int .i64 0,.int .i64 25]) y15)):=by
  obtain ⟨hvf,ip,ia1,ib1⟩:=HVG.out
  exact pde gM 3 3 TE a2 b2 0 ⟨#[]⟩ 0 0 7 8 F A' ⟨#[]⟩ 1 p true false y15 RM_20.out (fun W u=>pkG (MtIs.of _ _ _ _ _ _ _ _ _ _ _ _ _ _ _ _ _ _ _ _ _ _) 9 HF.out HAE.out (by omega) (by omega) HTE.out W (htab.upd (UU_20.out.trans u))) (fun W u=>piH (pjr (MtIs.of _ _ _ _ _ _ _ _ _ _ _ _ _ _ _ _ _ _ _ _ _ _) ip ia1 ib1 htes W (htab.upd (UU_20.out.trans u))) (by rw [hvf];rfl)) (fun W u=>pew (MtIs.of _ _ _ _ _ _ _ _ _ _ _ _ _ _ _ _ _ _ _ _ _ _) false 0 rfl W HF.out (fun y W' hy=>pjw y A' 9 hy HAE.out (by omega) (by omega) W'))
 refine HJ.out.mono ?_
 rintro e y16 ⟨rfl,hq⟩
 clear HJ
 have RS_21:=Lib.hid (paa RS_20.out hq)
 have RM_21:=Lib.hid (paa RM_20.out hq)
 have RD_21:=Lib.hid (paa RD_20.out hq)
 have RG_21:=Lib.hid (paa RG.out hq)
 have UU_21:=Lib.hid (UU_20.out.trans hq)
 clear RS_20 RM_20 RD_20 RG UU_20 hq
 obtain rfl:TC=⟨#[99,108,97,105,109,32,55,32,56,32,51,32,49,48]⟩:=paM (HTC.out.trans pqu)
 have HUF:=UU_21
 go_wp2_with fail
 go_ret
 exact ⟨rfl,HUF.out⟩
end Go.Proofs.YtheobkejohifaaaGreatDoor
