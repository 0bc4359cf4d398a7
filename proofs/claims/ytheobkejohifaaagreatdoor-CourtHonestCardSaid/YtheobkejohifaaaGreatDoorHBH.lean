/- court.Judge at any setup and any evidence, the accused found or not. -/
import Derived.Test.YtheobkejohifaaaGreatDoorHAA
import Derived.Test.YtheobkejohifaaaGreatDoorHBG
namespace Go.Proofs.YtheobkejohifaaaGreatDoor
open Go.RowKit
set_option maxRecDepth 100000
def phc (o:Option Nat) (PF PG PP:Bool→Prop) (who:Int) (w:World) (e:Ending) (w':World):Prop :=
 ∃ x y:Int,((o=none∧x=0∧y=34)∨∃ i,o=some i∧((PF false∧x=0∧y=11)∨(PF true∧PG false∧x=0∧y=21)∨(PF true∧PG true∧PP false∧x=0∧y=25)∨(PF true∧PG true∧PP true∧x=who∧y=0)))∧e=.returned (.tuple #[.int .i64 x,.int .i64 y])∧Upd [] [] w w'
set_option maxHeartbeats 8000000 in
theorem pgt (gM:Nat) (mn mc:Nat) (ca:Option Addr) (cn cc:Nat) (pa:Option Addr) (pn pc:Nat) (ka:Option Addr) (kn kc:Nat) (sq dep:Int) (kind who aw:Int) (aT:ByteArray) (ar as' bw:Int) (bT:ByteArray) (br bs' low high:Int) (F A B:ByteArray) (ci ck c1 c2:Int) (f1 f2 f3:Nat) (hk:crtF kind=some (crtV false f1 f2 f3)) (hkb:-9223372036854775808≤kind∧kind≤9223372036854775807)
 (l:List Mem) (hln:mn=l.length) (hlc:mn≤mc) (hlm:mn≤1000000) (o:Option Nat) (wt pub:Int) (hi:pb6 who l=o) (hm:∀ i,o=some i→l[i]? =some ⟨who,wt,pub⟩) (PF PG PP:Bool→Prop) (w:World) (hM:pez w (some ⟨gM,0,none⟩) l)
 (hb1:∀ (A:Array Value) (W:World),(callFunc f1 A).run Tryz.prog W=.ok (.enter f1 A) W)
 (hb2:∀ (A:Array Value) (W:World),(callFunc f2 A).run Tryz.prog W=.ok (.enter f2 A) W)
 (hb3:∀ (A:Array Value) (W:World),(callFunc f3 A).run Tryz.prog W=.ok (.enter f3 A) W)
 (hF:∀ i:Nat,o=some i→∀ W,Upd [] [] w W→Calls Tryz.prog f1 #[.agg (mtG (some ⟨gM,0,none⟩) mn mc ca cn cc pa pn pc ka kn kc sq dep kind who aw aT ar as' bw bT br bs' low high F A B ci ck c1 c2 (i:Int) who wt pub)] W (MkPB PF W))
 (hG:∀ i:Nat,o=some i→PF true→∀ W,Upd [] [] w W→Calls Tryz.prog f2 #[.agg (mtG (some ⟨gM,0,none⟩) mn mc ca cn cc pa pn pc ka kn kc sq dep kind who aw aT ar as' bw bT br bs' low high F A B ci ck c1 c2 (i:Int) who wt pub)] W (MkPB PG W))
 (hP:∀ i:Nat,o=some i→PF true→PG true→∀ W,Upd [] [] w W→Calls Tryz.prog f3 #[.agg (mtG (some ⟨gM,0,none⟩) mn mc ca cn cc pa pn pc ka kn kc sq dep kind who aw aT ar as' bw bT br bs' low high F A B ci ck c1 c2 (i:Int) who wt pub)] W (MkPB PP W)) :
 Calls Tryz.prog 16 #[.agg #[.slice (some ⟨gM,0,none⟩) mn mc,.slice ca cn cc,.slice pa pn pc,.slice ka kn kc,.int .i64 sq,.int .i64 dep],.agg #[.int .i64 kind,.int .i64 who,.int .i64 aw,.string aT,.int .i64 ar,.int .i64 as',.int .i64 bw,.string bT,.int .i64 br,.int .i64 bs',.int .i64 low,.int .i64 high,.string F,.string A,.string B,.int .i64 ci,.int .i64 ck,.int .i64 c1,.int .i64 c2]] w (phc o PF PG PP who w):=by
 obtain ⟨gS,hgS⟩:∃ g,w.heap.size=g:=⟨_,rfl⟩
 obtain ⟨w0,hw0⟩:∃ W,w.alloc (.cells #[.slice (some ⟨gM,0,none⟩) mn mc,.slice ca cn cc,.slice pa pn pc,.slice ka kn kc,.int .i64 sq,.int .i64 dep] 30)=W:=⟨_,rfl⟩
 have r0:w0.heap[gS]? =some (.cells #[.slice (some ⟨gM,0,none⟩) mn mc,.slice ca cn cc,.slice pa pn pc,.slice ka kn kc,.int .i64 sq,.int .i64 dep] 30 (0,0)):=by rw [← hgS,← hw0];exact heap_alloc_new _ _
 have u0:Upd [] [] w w0:=by rw [← hw0];exact (Upd.refl _ _).alloc _
 obtain ⟨gE,hgE⟩:∃ g,w0.heap.size=g:=⟨_,rfl⟩
 obtain ⟨w1,hw1⟩:∃ W,w0.alloc (.cells #[.int .i64 kind,.int .i64 who,.int .i64 aw,.string aT,.int .i64 ar,.int .i64 as',.int .i64 bw,.string bT,.int .i64 br,.int .i64 bs',.int .i64 low,.int .i64 high,.string F,.string A,.string B,.int .i64 ci,.int .i64 ck,.int .i64 c1,.int .i64 c2] 69)=W:=⟨_,rfl⟩
 have r1:w1.heap[gE]? =some (.cells #[.int .i64 kind,.int .i64 who,.int .i64 aw,.string aT,.int .i64 ar,.int .i64 as',.int .i64 bw,.string bT,.int .i64 br,.int .i64 bs',.int .i64 low,.int .i64 high,.string F,.string A,.string B,.int .i64 ci,.int .i64 ck,.int .i64 c1,.int .i64 c2] 69 (0,0)):=by rw [← hgE,← hw1];exact heap_alloc_new _ _
 have u1:Upd [] [] w0 w1:=by rw [← hw1];exact (Upd.refl _ _).alloc _
 have U1:=Lib.hid (u0.trans u1)
 have HS:=Lib.hid (paa r0 u1)
 have HE:=Lib.hid r1
 have HM:=Lib.hid (hM.upd (u0.trans u1))
 have ud0:Upd [] [] w1 w1.drew:=(Upd.refl _ _).drew
 have HK:Hid (∀ W,Upd [] [] w1 W→W.cell? ⟨gE,0,none⟩=some (.int .i64 kind)):=fun W u=>cell_of_row _ gE 0 _ _ _ (paa HE.out u)
 have hmf:∀ (fn:Fn) (first cap:Array Value) (w:World),(Instr.makeFunc fn first cap).run Tryz.prog w=.ok (.func fn first cap) w:=fun _ _ _ _=>rfl
 have HF:=Lib.hid hF
 have HG:=Lib.hid hG
 have HP:=Lib.hid hP
 have HKK:=Lib.hid hk
 have HB1':=Lib.hid hb1
 have HB2':=Lib.hid hb2
 have HB3':=Lib.hid hb3
 have HKB:=Lib.hid hkb
 have HI:=Lib.hid (And.intro hi hm)
 have HL:=Lib.hid hln
 have hci:(Tryz.prog.info? 96).map (·.size)=some (#[.bool false,.func (.func f1) #[] #[],.func (.func f2) #[] #[],.func (.func f3) #[] #[]]:Array Value).size:=by show _=some 4;kernel_rfl
 have HCI:=Lib.hid hci
 clear r0 u0 r1 u1 hM hF hG hP hci hk hkb hi hm hln hb1 hb2 hb3
 go_enter Tryz.func16,Tryz.ntmps16
 go_upto_region 1 with (fail)
 refine @_root_.id ((∀ (bM gC:Nat) (W:World),Hid (W.heap[gC]? =some (.cells #[.bool false,.func (.func f1) #[] #[],.func (.func f2) #[] #[],.func (.func f3) #[] #[]] 96 (0,0)))→Hid (Upd [] [] w1 W)→(?pj1:Nat→Nat→World→Prop) bM gC W)→_) (fun hJ=>?mj1) ?jj1
 case mj1 =>
  refine wp_region_noPanic ?_
  refine wp_region_held_drew (S:=fun wp=>wp.cell? ⟨gE,0,none⟩=some (.int .i64 kind)) (by kernel_rfl) ?_ (fun hHeld=>?_)
  · exact HK.out _ ud0
  refine tkY 1 hHeld ?_
  refine tkY 2 hHeld ?_
  refine tkA [0,7] ?_
  refine tkC (fun K hK=>?_) ?_
  · go_simp;refine (pc5 _).mono ?_;rintro e wv1 ⟨bM,rfl,HMF,hq⟩;have ud1:=ud0.trans hq;clear hq;have HM_1:=HMF;clear HMF;go_wp2_with fail
    refine tkK hK (HK.out _ ud1) fun hHeld=>?_
    clear hK K
    refine tkA [3,7] ?_
    refine tkC (fun K hK=>?_) ?_
    · have hlk:=(HM_1.out.look_ok (x:=kind) undC (plr wv1) HKB.out).trans (congrArg (fun z=>Result.ok z wv1) (show _=Value.tuple #[.agg #[.bool false,.func (.func f1) #[] #[],.func (.func f2) #[] #[],.func (.func f3) #[] #[]],.bool true] from (by rw [HKK.out];rfl)));go_wp2_with fail;clear hlk HM_1
      refine tkK hK (HK.out _ ud1) fun hHeld=>?_
      clear hK K
      refine tkY 4 hHeld ?_
      refine tkY 5 hHeld ?_
      refine tkY 6 hHeld ?_
      refine tk1 7 fun K hK=>?_
      go_simp;obtain ⟨gC,wv2,hgx,hwx,fC_2,hq⟩:=paw wv1 (.cells #[.bool false,.nilFunc,.nilFunc,.nilFunc] 96);rw [← hgx,← hwx];have bC:w1.heap.size≤gC:=(by have:=ud1.size;omega);have ud2:=ud1.trans hq;clear hgx hwx hq
      refine tkK hK (HK.out _ ud2) fun hHeld=>?_
      clear hK K
      refine tk1 8 fun K hK=>?_
      rw [if_pos (by rfl)];refine wp_store_row 96 _ _ rfl gC #[.bool false,.func (.func f1) #[] #[],.func (.func f2) #[] #[],.func (.func f3) #[] #[]] rfl rfl _ _ fC_2.out HCI.out rfl (by simp [Value.oneCell']) ?_;obtain ⟨wv3,hwx⟩:∃ W':World,W'=wv2.setRow gC #[.bool false,.func (.func f1) #[] #[],.func (.func f2) #[] #[],.func (.func f3) #[] #[]]:=⟨_,rfl⟩;have fC_3:Hid (wv3.heap[gC]? =some (.cells #[.bool false,.func (.func f1) #[] #[],.func (.func f2) #[] #[],.func (.func f3) #[] #[]] 96 (0,0))):=(by show _=_;rw [hwx];exact setRow_heap _ _ _ _ _ _ fC_2.out);have ud3:=ud2.setRowNew bC #[.bool false,.func (.func f1) #[] #[],.func (.func f2) #[] #[],.func (.func f3) #[] #[]];rw [← hwx] at ud3 ⊢;clear hwx
      refine tkK hK (HK.out _ ud3) fun hHeld=>?_
      clear hK K
      refine tkY 9 hHeld ?_
      refine wpAnyH_done (by kernel_rfl) ?_ _
      refine NoPanic.normal ?_
      exact hJ bM gC wv3 fC_3 (Lib.hid ud3)
    refine tkZ fun K hK=>?_
    go_simp;obtain ⟨gC,wv2,hgx,hwx,fC_2,hq⟩:=paw wv1 (.cells #[.bool false,.nilFunc,.nilFunc,.nilFunc] 96);rw [← hgx,← hwx];have bC:w1.heap.size≤gC:=(by have:=ud1.size;omega);have ud2:=ud1.trans hq;have HM_2:=Lib.hid (HM_1.out.upd hq (by simp));clear HM_1;clear hgx hwx hq
    refine tkK hK (HK.out _ ud2) fun hHeld=>?_
    clear hK K
    refine tk1 3 fun K hK=>?_
    have hlk:=(HM_2.out.look_ok (x:=kind) undC (plr wv2) HKB.out).trans (congrArg (fun z=>Result.ok z wv2) (show _=Value.tuple #[.agg #[.bool false,.func (.func f1) #[] #[],.func (.func f2) #[] #[],.func (.func f3) #[] #[]],.bool true] from (by rw [HKK.out];rfl)));go_wp2_with fail;clear hlk HM_2
    refine tkK hK (HK.out _ ud2) fun hHeld=>?_
    clear hK K
    refine tkY 4 hHeld ?_
    refine tkY 5 hHeld ?_
    refine tkY 6 hHeld ?_
    refine tk1 8 fun K hK=>?_
    rw [if_pos (by rfl)];refine wp_store_row 96 _ _ rfl gC #[.bool false,.func (.func f1) #[] #[],.func (.func f2) #[] #[],.func (.func f3) #[] #[]] rfl rfl _ _ fC_2.out HCI.out rfl (by simp [Value.oneCell']) ?_;obtain ⟨wv3,hwx⟩:∃ W':World,W'=wv2.setRow gC #[.bool false,.func (.func f1) #[] #[],.func (.func f2) #[] #[],.func (.func f3) #[] #[]]:=⟨_,rfl⟩;have fC_3:Hid (wv3.heap[gC]? =some (.cells #[.bool false,.func (.func f1) #[] #[],.func (.func f2) #[] #[],.func (.func f3) #[] #[]] 96 (0,0))):=(by show _=_;rw [hwx];exact setRow_heap _ _ _ _ _ _ fC_2.out);have ud3:=ud2.setRowNew bC #[.bool false,.func (.func f1) #[] #[],.func (.func f2) #[] #[],.func (.func f3) #[] #[]];rw [← hwx] at ud3 ⊢;clear hwx
    refine tkK hK (HK.out _ ud3) fun hHeld=>?_
    clear hK K
    refine tkY 9 hHeld ?_
    refine wpAnyH_done (by kernel_rfl) ?_ _
    refine NoPanic.normal ?_
    exact hJ bM gC wv3 fC_3 (Lib.hid ud3)
  refine tkZ fun K hK=>?_
  go_simp;obtain ⟨gC,wv1,hgx,hwx,fC_1,hq⟩:=paF w1 (.cells #[.bool false,.nilFunc,.nilFunc,.nilFunc] 96);rw [← hgx,← hwx];have bC:w1.heap.size≤gC:=(by omega);have ud1:=hq;clear hgx hwx hq
  refine tkK hK (HK.out _ ud1) fun hHeld=>?_
  clear hK K
  refine tk1 0 fun K hK=>?_
  go_simp;refine (pc5 _).mono ?_;rintro e wv2 ⟨bM,rfl,HMF,hq⟩;have ud2:=ud1.trans hq;have fC_2:=Lib.hid (paa fC_1.out hq);clear hq;have HM_2:=HMF;clear HMF;go_wp2_with fail
  refine tkK hK (HK.out _ ud2) fun hHeld=>?_
  clear hK K
  refine tk1 3 fun K hK=>?_
  have hlk:=(HM_2.out.look_ok (x:=kind) undC (plr wv2) HKB.out).trans (congrArg (fun z=>Result.ok z wv2) (show _=Value.tuple #[.agg #[.bool false,.func (.func f1) #[] #[],.func (.func f2) #[] #[],.func (.func f3) #[] #[]],.bool true] from (by rw [HKK.out];rfl)));go_wp2_with fail;clear hlk HM_2
  refine tkK hK (HK.out _ ud2) fun hHeld=>?_
  clear hK K
  refine tkY 4 hHeld ?_
  refine tkY 5 hHeld ?_
  refine tkY 6 hHeld ?_
  refine tk1 8 fun K hK=>?_
  rw [if_pos (by rfl)];refine wp_store_row 96 _ _ rfl gC #[.bool false,.func (.func f1) #[] #[],.func (.func f2) #[] #[],.func (.func f3) #[] #[]] rfl rfl _ _ fC_2.out HCI.out rfl (by simp [Value.oneCell']) ?_;obtain ⟨wv3,hwx⟩:∃ W':World,W'=wv2.setRow gC #[.bool false,.func (.func f1) #[] #[],.func (.func f2) #[] #[],.func (.func f3) #[] #[]]:=⟨_,rfl⟩;have fC_3:Hid (wv3.heap[gC]? =some (.cells #[.bool false,.func (.func f1) #[] #[],.func (.func f2) #[] #[],.func (.func f3) #[] #[]] 96 (0,0))):=(by show _=_;rw [hwx];exact setRow_heap _ _ _ _ _ _ fC_2.out);have ud3:=ud2.setRowNew bC #[.bool false,.func (.func f1) #[] #[],.func (.func f2) #[] #[],.func (.func f3) #[] #[]];rw [← hwx] at ud3 ⊢;clear hwx
  refine tkK hK (HK.out _ ud3) fun hHeld=>?_
  clear hK K
  refine tkY 9 hHeld ?_
  refine wpAnyH_done (by kernel_rfl) ?_ _
  refine NoPanic.normal ?_
  exact hJ bM gC wv3 fC_3 (Lib.hid ud3)
 intro bM gC w3 fC U3
 skip
 have HSL:Hid (∀ W,Upd [] [] w1 W→W.cell? ⟨gS,0,none⟩=some (.slice (some ⟨gM,0,none⟩) mn mc)):=fun W u=>cell_of_row _ gS 0 _ _ _ (paa HS.out u)
 have ck':=cell_of_row _ gC 0 _ _ _ fC.out
 have cl:=HSL.out w3 U3.out
 have cl0:w3.cell? ⟨gS,0,none⟩=some (.slice (some ⟨gM,0,none⟩) mn mc):=cell_of_row _ gS 0 _ _ _ (paa HS.out U3.out)
 have HIX:=Lib.hid (po1 who l (some ⟨gM,0,none⟩) mn mc gE w3 HL.out hlc hlm (HM.out.upd U3.out) (cell_of_row _ gE 1 _ _ _ (paa HE.out U3.out)))
 go_wp2_with fail
 refine HIX.out.mono ?_
 rintro e w4 ⟨rfl,hq⟩
 rw [HI.out.1]
 have U4:=Lib.hid (U3.out.trans hq)
 rcases o with _ | i
 case none =>
  have U5:=Lib.hid (U1.out.trans U4.out)
  rw [show idxV none=(-1:Int) from rfl]
  clear hq HIX cl cl0 ck'
  go_wp2_with fail
  go_ret2
  exact ⟨0,34,.inl ⟨rfl,rfl,rfl⟩,rfl,U5.out⟩
 rw [show idxV (some i)=(i:Int) from rfl]
 have fC4:=Lib.hid (paa fC.out hq)
 obtain ⟨gM',hgM',hgM,HMc⟩:=(HM.out.upd U4.out).row (HI.out.2 i rfl)
 obtain rfl:gM=gM':=by injection hgM' with h;injection h
 have hi64:i<l.length:=(List.getElem?_eq_some_iff.1 (HI.out.2 i rfl)).1
 have i0:(0:Int)≤(i:Int):=by omega
 have i1:(i:Int)<(mn:Int):=by have:=HL.out;omega
 have HKB:Hid (∀ W,Upd [] [] w4 W→(Instr.loadAt 30 (.pointer (some ⟨gS,0,none⟩))).run Tryz.prog W=.ok (.agg #[.slice (some ⟨gM,0,none⟩) mn mc,.slice ca cn cc,.slice pa pn pc,.slice ka kn kc,.int .i64 sq,.int .i64 dep]) W∧(Instr.loadAt 69 (.pointer (some ⟨gE,0,none⟩))).run Tryz.prog W=.ok (.agg #[.int .i64 kind,.int .i64 who,.int .i64 aw,.string aT,.int .i64 ar,.int .i64 as',.int .i64 bw,.string bT,.int .i64 br,.int .i64 bs',.int .i64 low,.int .i64 high,.string F,.string A,.string B,.int .i64 ci,.int .i64 ck,.int .i64 c1,.int .i64 c2]) W∧(Instr.loadAt 64 (.pointer (some ⟨gM,i * 3,none⟩))).run Tryz.prog W=.ok (.agg #[.int .i64 who,.int .i64 wt,.int .i64 pub]) W):=by
  intro W u
  have q:=U4.out.trans u
  exact ⟨po3 (l:=([.slice (some ⟨gM,0,none⟩) mn mc,.slice ca cn cc,.slice pa pn pc,.slice ka kn kc,.int .i64 sq,.int .i64 dep]:List Value)) rfl (paa HS.out q),po2 (paa HE.out q),HMc W u⟩
 have ue0:Upd [] [] w4 w4.drew:=(Upd.refl _ _).drew
 have HMI:Hid ((Tryz.prog.info? 103).map (·.size)=some (#[.slice (some ⟨gM,0,none⟩) mn mc,.slice ca cn cc,.slice pa pn pc,.slice ka kn kc,.int .i64 sq,.int .i64 dep,.int .i64 kind,.int .i64 who,.int .i64 aw,.string aT,.int .i64 ar,.int .i64 as',.int .i64 bw,.string bT,.int .i64 br,.int .i64 bs',.int .i64 low,.int .i64 high,.string F,.string A,.string B,.int .i64 ci,.int .i64 ck,.int .i64 c1,.int .i64 c2,.int .i64 (i:Int),.int .i64 who,.int .i64 wt,.int .i64 pub]:Array Value).size):=pku rfl
 have HMO:Hid ((#[.slice (some ⟨gM,0,none⟩) mn mc,.slice ca cn cc,.slice pa pn pc,.slice ka kn kc,.int .i64 sq,.int .i64 dep,.int .i64 kind,.int .i64 who,.int .i64 aw,.string aT,.int .i64 ar,.int .i64 as',.int .i64 bw,.string bT,.int .i64 br,.int .i64 bs',.int .i64 low,.int .i64 high,.string F,.string A,.string B,.int .i64 ci,.int .i64 ck,.int .i64 c1,.int .i64 c2,.int .i64 (i:Int),.int .i64 who,.int .i64 wt,.int .i64 pub]:Array Value).all (·.oneCell')=true):=by show _=_;simp [Value.oneCell']
 clear hq HIX HSL ck' cl cl0 fC U3
 go_upto_region 10 with (fail)
 refine @_root_.id ((∀ (gT:Nat) (W:World),Hid (W.heap[gT]? =some (.cells #[.slice (some ⟨gM,0,none⟩) mn mc,.slice ca cn cc,.slice pa pn pc,.slice ka kn kc,.int .i64 sq,.int .i64 dep,.int .i64 kind,.int .i64 who,.int .i64 aw,.string aT,.int .i64 ar,.int .i64 as',.int .i64 bw,.string bT,.int .i64 br,.int .i64 bs',.int .i64 low,.int .i64 high,.string F,.string A,.string B,.int .i64 ci,.int .i64 ck,.int .i64 c1,.int .i64 c2,.int .i64 (i:Int),.int .i64 who,.int .i64 wt,.int .i64 pub] 103 (0,0)))→Hid (Upd [] [] w4 W)→(?pj16:Nat→World→Prop) gT W)→_) (fun hJ=>?mj16) ?jj16
 case mj16 =>
  refine wp_region_noPanic ?_
  refine wp_region_held_drew (S:=fun wp=>(Instr.loadAt 30 (.pointer (some ⟨gS,0,none⟩))).run Tryz.prog wp=.ok (.agg #[.slice (some ⟨gM,0,none⟩) mn mc,.slice ca cn cc,.slice pa pn pc,.slice ka kn kc,.int .i64 sq,.int .i64 dep]) wp∧(Instr.loadAt 69 (.pointer (some ⟨gE,0,none⟩))).run Tryz.prog wp=.ok (.agg #[.int .i64 kind,.int .i64 who,.int .i64 aw,.string aT,.int .i64 ar,.int .i64 as',.int .i64 bw,.string bT,.int .i64 br,.int .i64 bs',.int .i64 low,.int .i64 high,.string F,.string A,.string B,.int .i64 ci,.int .i64 ck,.int .i64 c1,.int .i64 c2]) wp∧(Instr.loadAt 64 (.pointer (some ⟨gM,i * 3,none⟩))).run Tryz.prog wp=.ok (.agg #[.int .i64 who,.int .i64 wt,.int .i64 pub]) wp) (by kernel_rfl) ?_ (fun hHeld=>?_)
  · exact HKB.out _ ue0
  refine wpAnyH_take (i:=0) (v:=.agg (#[.slice (some ⟨gM,0,none⟩) mn mc,.slice ca cn cc,.slice pa pn pc,.slice ka kn kc,.int .i64 sq,.int .i64 dep]:Array Value)) (by simp only [List.getElem?_toArray,List.getElem?_cons_zero] <;> rfl) (by kernel_rfl) (by kernel_rfl) (by kernel_rfl) (fun _ _ _ h=>h) (pau (by rfl) _ _ rfl _ rfl (#[.slice (some ⟨gM,0,none⟩) mn mc,.slice ca cn cc,.slice pa pn pc,.slice ka kn kc,.int .i64 sq,.int .i64 dep]:Array Value) (fun w hSw=>hSw.1)) hHeld ?_
  try simp only [Act.put,List.setIfInBounds_toArray,List.set_cons_zero,List.set_cons_succ]
  refine wpAnyH_take (i:=1) (v:=.agg (#[.int .i64 kind,.int .i64 who,.int .i64 aw,.string aT,.int .i64 ar,.int .i64 as',.int .i64 bw,.string bT,.int .i64 br,.int .i64 bs',.int .i64 low,.int .i64 high,.string F,.string A,.string B,.int .i64 ci,.int .i64 ck,.int .i64 c1,.int .i64 c2]:Array Value)) (by simp only [List.getElem?_toArray,List.getElem?_cons_succ,List.getElem?_cons_zero] <;> rfl) (by kernel_rfl) (by kernel_rfl) (by kernel_rfl) (fun _ _ _ h=>h) (pau (by rfl) _ _ rfl _ rfl (#[.int .i64 kind,.int .i64 who,.int .i64 aw,.string aT,.int .i64 ar,.int .i64 as',.int .i64 bw,.string bT,.int .i64 br,.int .i64 bs',.int .i64 low,.int .i64 high,.string F,.string A,.string B,.int .i64 ci,.int .i64 ck,.int .i64 c1,.int .i64 c2]:Array Value) (fun w hSw=>hSw.2.1)) hHeld ?_
  try simp only [Act.put,List.setIfInBounds_toArray,List.set_cons_zero,List.set_cons_succ]
  refine tkY 2 hHeld ?_
  refine tkY 3 hHeld ?_
  refine tkY 4 hHeld ?_
  refine tkY 5 hHeld ?_
  refine wpAnyH_take (i:=6) (v:=.agg (#[.int .i64 who,.int .i64 wt,.int .i64 pub]:Array Value)) (by simp only [List.getElem?_toArray,List.getElem?_cons_succ,List.getElem?_cons_zero] <;> rfl) (by kernel_rfl) (by kernel_rfl) (by kernel_rfl) (fun _ _ _ h=>h) (pau (by rfl) _ _ rfl _ rfl (#[.int .i64 who,.int .i64 wt,.int .i64 pub]:Array Value) (fun w hSw=>hSw.2.2)) hHeld ?_
  try simp only [Act.put,List.setIfInBounds_toArray,List.set_cons_zero,List.set_cons_succ]
  refine tkY 7 hHeld ?_
  refine tk1 8 fun K hK=>?_
  go_simp;obtain ⟨gT,wx1,hgx,hwx,fT_1,hq⟩:=paF w4 (.cells #[.slice none 0 0,.slice none 0 0,.slice none 0 0,.slice none 0 0,.int .i64 0,.int .i64 0,.int .i64 0,.int .i64 0,.int .i64 0,.string ⟨#[]⟩,.int .i64 0,.int .i64 0,.int .i64 0,.string ⟨#[]⟩,.int .i64 0,.int .i64 0,.int .i64 0,.int .i64 0,.string ⟨#[]⟩,.string ⟨#[]⟩,.string ⟨#[]⟩,.int .i64 0,.int .i64 0,.int .i64 0,.int .i64 0,.int .i64 0,.int .i64 0,.int .i64 0,.int .i64 0] 103);rw [← hgx,← hwx];have bT':w4.heap.size≤gT:=(by omega);have ue1:=hq;clear hgx hwx hq
  refine tkK hK (HKB.out _ ue1) fun hHeld=>?_
  clear hK K
  refine tk1 9 fun K hK=>?_
  rw [if_pos (by rfl)];refine wp_store_row 103 _ _ rfl gT #[.slice (some ⟨gM,0,none⟩) mn mc,.slice ca cn cc,.slice pa pn pc,.slice ka kn kc,.int .i64 sq,.int .i64 dep,.int .i64 kind,.int .i64 who,.int .i64 aw,.string aT,.int .i64 ar,.int .i64 as',.int .i64 bw,.string bT,.int .i64 br,.int .i64 bs',.int .i64 low,.int .i64 high,.string F,.string A,.string B,.int .i64 ci,.int .i64 ck,.int .i64 c1,.int .i64 c2,.int .i64 (i:Int),.int .i64 who,.int .i64 wt,.int .i64 pub] rfl rfl _ _ fT_1.out HMI.out rfl HMO.out ?_;obtain ⟨wx2,hwx⟩:∃ W':World,W'=wx1.setRow gT #[.slice (some ⟨gM,0,none⟩) mn mc,.slice ca cn cc,.slice pa pn pc,.slice ka kn kc,.int .i64 sq,.int .i64 dep,.int .i64 kind,.int .i64 who,.int .i64 aw,.string aT,.int .i64 ar,.int .i64 as',.int .i64 bw,.string bT,.int .i64 br,.int .i64 bs',.int .i64 low,.int .i64 high,.string F,.string A,.string B,.int .i64 ci,.int .i64 ck,.int .i64 c1,.int .i64 c2,.int .i64 (i:Int),.int .i64 who,.int .i64 wt,.int .i64 pub]:=⟨_,rfl⟩;have fT_2:Hid (wx2.heap[gT]? =some (.cells #[.slice (some ⟨gM,0,none⟩) mn mc,.slice ca cn cc,.slice pa pn pc,.slice ka kn kc,.int .i64 sq,.int .i64 dep,.int .i64 kind,.int .i64 who,.int .i64 aw,.string aT,.int .i64 ar,.int .i64 as',.int .i64 bw,.string bT,.int .i64 br,.int .i64 bs',.int .i64 low,.int .i64 high,.string F,.string A,.string B,.int .i64 ci,.int .i64 ck,.int .i64 c1,.int .i64 c2,.int .i64 (i:Int),.int .i64 who,.int .i64 wt,.int .i64 pub] 103 (0,0))):=(by show _=_;rw [hwx];exact setRow_heap _ _ _ _ _ _ fT_1.out);have ue2:=ue1.setRowNew bT' #[.slice (some ⟨gM,0,none⟩) mn mc,.slice ca cn cc,.slice pa pn pc,.slice ka kn kc,.int .i64 sq,.int .i64 dep,.int .i64 kind,.int .i64 who,.int .i64 aw,.string aT,.int .i64 ar,.int .i64 as',.int .i64 bw,.string bT,.int .i64 br,.int .i64 bs',.int .i64 low,.int .i64 high,.string F,.string A,.string B,.int .i64 ci,.int .i64 ck,.int .i64 c1,.int .i64 c2,.int .i64 (i:Int),.int .i64 who,.int .i64 wt,.int .i64 pub];rw [← hwx] at ue2 ⊢;clear hwx
  refine tkK hK (HKB.out _ ue2) fun hHeld=>?_
  clear hK K
  refine wpAnyH_done (by kernel_rfl) ?_ _
  refine NoPanic.normal ?_
  exact hJ gT wx2 fT_2 (Lib.hid ue2)
 intro gT w5 fT V5
 skip
 have U5:=Lib.hid (U4.out.trans V5.out)
 have V0:=Lib.hid (show Upd [] [] w w5 from U1.out.trans U5.out)
 have HCC:Hid (∀ W,Upd [] [] w5 W→W.cell? ⟨gC,1,none⟩=some (.func (.func f1) #[] #[])∧W.cell? ⟨gC,2,none⟩=some (.func (.func f2) #[] #[])∧W.cell? ⟨gC,3,none⟩=some (.func (.func f3) #[] #[])∧W.cell? ⟨gE,1,none⟩=some (.int .i64 who)):=by
  intro W u
  have q:=paa (paa fC4.out V5.out) u
  exact ⟨cell_of_row _ gC 1 _ _ _ q,cell_of_row _ gC 2 _ _ _ q,cell_of_row _ gC 3 _ _ _ q,cell_of_row _ gE 1 _ _ _ (paa HE.out (U5.out.trans u))⟩
 obtain ⟨MT,hMT⟩:∃ MT,MT=(mtG (some ⟨gM,0,none⟩) mn mc ca cn cc pa pn pc ka kn kc sq dep kind who aw aT ar as' bw bT br bs' low high F A B ci ck c1 c2 (i:Int) who wt pub):=⟨_,rfl⟩
 have hMT2:#[.slice (some ⟨gM,0,none⟩) mn mc,.slice ca cn cc,.slice pa pn pc,.slice ka kn kc,.int .i64 sq,.int .i64 dep,.int .i64 kind,.int .i64 who,.int .i64 aw,.string aT,.int .i64 ar,.int .i64 as',.int .i64 bw,.string bT,.int .i64 br,.int .i64 bs',.int .i64 low,.int .i64 high,.string F,.string A,.string B,.int .i64 ci,.int .i64 ck,.int .i64 c1,.int .i64 c2,.int .i64 (i:Int),.int .i64 who,.int .i64 wt,.int .i64 pub]=MT:=hMT.symm
 rw [hMT2] at fT HMI
 have HF:=Lib.hid (HF.out i rfl)
 have HG:=Lib.hid (HG.out i rfl)
 have HP:=Lib.hid (HP.out i rfl)
 rw [← hMT] at HF HG HP
 obtain ⟨x1,x2,x3,x4⟩:=HCC.out w5 (Upd.refl _ _)
 clear hMT hMT2 HMO HKB ue0 HS HE HM fC4 U4 V5 U5 HMc
 go_wp2_with (first | (refine wpList_load_row rfl 103 _ rfl gT rfl _ MT _ _ fT.out Tryz.underlying103 rfl HMI.out ?_))
 rw [HB1'.out]
 simp only [Oper.upon]
 refine (HF.out w5 V0.out).mono ?_
 rintro e w6 ⟨b1,HB1,rfl,hq⟩
 have V6:=Lib.hid (V0.out.trans hq)
 have X6:=Lib.hid hq
 have fT6:=Lib.hid (paa fT.out hq)
 obtain ⟨x1,x2,x3,x4⟩:=HCC.out w6 hq
 clear hq HF fT V0
 cases b1 with
 | false =>
  go_wp2_with fail
  go_ret2
  exact ⟨0,_,.inr ⟨i,rfl,.inl ⟨HB1.out,rfl,rfl⟩⟩,rfl,V6.out⟩
 | true =>
  go_wp2_with (first | (refine wpList_load_row rfl 103 _ rfl gT rfl _ MT _ _ fT6.out Tryz.underlying103 rfl HMI.out ?_))
  rw [HB2'.out]
  simp only [Oper.upon]
  refine (HG.out HB1.out w6 V6.out).mono ?_
  rintro e w7 ⟨b2,HB2,rfl,hq⟩
  have V7:=Lib.hid (V6.out.trans hq)
  have X7:=Lib.hid (X6.out.trans hq)
  have fT7:=Lib.hid (paa fT6.out hq)
  obtain ⟨x1,x2,x3,x4⟩:=HCC.out w7 X7.out
  clear hq HG fT6 V6 X6
  cases b2 with
  | false =>
   go_wp2_with fail
   go_ret2
   exact ⟨0,_,.inr ⟨i,rfl,.inr (.inl ⟨HB1.out,HB2.out,rfl,rfl⟩)⟩,rfl,V7.out⟩
  | true =>
   go_wp2_with (first | (refine wpList_load_row rfl 103 _ rfl gT rfl _ MT _ _ fT7.out Tryz.underlying103 rfl HMI.out ?_))
   rw [HB3'.out]
   simp only [Oper.upon]
   refine (HP.out HB1.out HB2.out w7 V7.out).mono ?_
   rintro e w8 ⟨b3,HB3,rfl,hq⟩
   have V8:=Lib.hid (V7.out.trans hq)
   obtain ⟨x1,x2,x3,x4⟩:=HCC.out w8 (X7.out.trans hq)
   clear hq HP fT7 V7 X7
   cases b3 with
   | false =>
    go_wp2_with fail
    go_ret2
    exact ⟨0,_,.inr ⟨i,rfl,.inr (.inr (.inl ⟨HB1.out,HB2.out,HB3.out,rfl,rfl⟩))⟩,rfl,V8.out⟩
   | true =>
    go_wp2_with fail
    go_ret2
    exact ⟨who,0,.inr ⟨i,rfl,.inr (.inr (.inr ⟨HB1.out,HB2.out,HB3.out,rfl,rfl⟩))⟩,rfl,V8.out⟩
theorem piA (gM:Nat) (mn mc:Nat) (ca:Option Addr) (cn cc:Nat) (pa:Option Addr) (pn pc:Nat) (ka:Option Addr) (kn kc:Nat) (sq dep:Int) (kind who aw:Int) (aT:ByteArray) (ar as' bw:Int) (bT:ByteArray) (br bs' low high:Int) (F A B:ByteArray) (ci ck c1 c2:Int) (f1 f2 f3:Nat) (hk:crtF kind=some (crtV false f1 f2 f3)) (hkb:-9223372036854775808≤kind∧kind≤9223372036854775807)
 (l:List Mem) (hln:mn=l.length) (hlc:mn≤mc) (hlm:mn≤1000000) (i:Nat) (wt pub:Int) (hi:pb6 who l=some i) (hm:l[i]? =some ⟨who,wt,pub⟩) (PF PG PP:Bool→Prop) (w:World) (hM:pez w (some ⟨gM,0,none⟩) l)
 (hb1:∀ (A:Array Value) (W:World),(callFunc f1 A).run Tryz.prog W=.ok (.enter f1 A) W)
 (hb2:∀ (A:Array Value) (W:World),(callFunc f2 A).run Tryz.prog W=.ok (.enter f2 A) W)
 (hb3:∀ (A:Array Value) (W:World),(callFunc f3 A).run Tryz.prog W=.ok (.enter f3 A) W)
 (hF:∀ W,Upd [] [] w W→Calls Tryz.prog f1 #[.agg (mtG (some ⟨gM,0,none⟩) mn mc ca cn cc pa pn pc ka kn kc sq dep kind who aw aT ar as' bw bT br bs' low high F A B ci ck c1 c2 (i:Int) who wt pub)] W (MkPB PF W))
 (hG:PF true→∀ W,Upd [] [] w W→Calls Tryz.prog f2 #[.agg (mtG (some ⟨gM,0,none⟩) mn mc ca cn cc pa pn pc ka kn kc sq dep kind who aw aT ar as' bw bT br bs' low high F A B ci ck c1 c2 (i:Int) who wt pub)] W (MkPB PG W))
 (hP:PF true→PG true→∀ W,Upd [] [] w W→Calls Tryz.prog f3 #[.agg (mtG (some ⟨gM,0,none⟩) mn mc ca cn cc pa pn pc ka kn kc sq dep kind who aw aT ar as' bw bT br bs' low high F A B ci ck c1 c2 (i:Int) who wt pub)] W (MkPB PP W)) :
 Calls Tryz.prog 16 #[.agg #[.slice (some ⟨gM,0,none⟩) mn mc,.slice ca cn cc,.slice pa pn pc,.slice ka kn kc,.int .i64 sq,.int .i64 dep],.agg #[.int .i64 kind,.int .i64 who,.int .i64 aw,.string aT,.int .i64 ar,.int .i64 as',.int .i64 bw,.string bT,.int .i64 br,.int .i64 bs',.int .i64 low,.int .i64 high,.string F,.string A,.string B,.int .i64 ci,.int .i64 ck,.int .i64 c1,.int .i64 c2]] w (pnX PF PG PP who w):=by
 refine (pgt gM mn mc ca cn cc pa pn pc ka kn kc sq dep kind who aw aT ar as' bw bT br bs' low high F A B ci ck c1 c2 f1 f2 f3 hk hkb l hln hlc hlm (some i) wt pub hi (fun j hj=>by cases hj;exact hm) PF PG PP w hM hb1 hb2 hb3 (fun j hj=>by cases hj;exact hF) (fun j hj=>by cases hj;exact hG) (fun j hj=>by cases hj;exact hP)).mono ?_
 rintro e w' ⟨x,y,h,r⟩
 rcases h with ⟨h,_⟩ | ⟨j,_,h⟩
 · cases h
 · exact ⟨x,y,h,r⟩
end Go.Proofs.YtheobkejohifaaaGreatDoor
