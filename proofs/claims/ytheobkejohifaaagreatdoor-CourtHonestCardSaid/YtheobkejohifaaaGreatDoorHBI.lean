/- Evidence and what follows. -/
import Derived.Test.YtheobkejohifaaaGreatDoorHAX
import Derived.Test.YtheobkejohifaaaGreatDoorHBG
import Derived.Test.YtheobkejohifaaaGreatDoorHBA
import Derived.Test.YtheobkejohifaaaGreatDoorHAA
import Derived.Test.YtheobkejohifaaaGreatDoorHAO
import Derived.Test.YtheobkejohifaaaGreatDoorHAY
import Derived.Test.YtheobkejohifaaaGreatDoorHAC
import Derived.Test.YtheobkejohifaaaGreatDoorHAD
import Derived.Test.YtheobkejohifaaaGreatDoorHBH
import Derived.Test.YtheobkejohifaaaGreatDoorHAZ
import Derived.Test.YtheobkejohifaaaGreatDoorHBB
import Derived.Test.YtheobkejohifaaaGreatDoorHAT
import Derived.Test.YtheobkejohifaaaGreatDoorHBF
import Derived.Test.YtheobkejohifaaaGreatDoorHBE
namespace Go.Proofs.YtheobkejohifaaaGreatDoor
open Go.RowKit
set_option maxRecDepth 100000
structure EvdG where
 kind:Int
 who:Int
 aw:Int
 aT:ByteArray
 ar:Int
 as':Int
 bw:Int
 bT:ByteArray
 br:Int
 bs':Int
 low:Int
 high:Int
 F:ByteArray
 A:ByteArray
 B:ByteArray
 ci:Int
 ck:Int
 c1:Int
 c2:Int
def EvdG.L (e:EvdG):List Value:=[.int .i64 e.kind,.int .i64 e.who,.int .i64 e.aw,.string e.aT,.int .i64 e.ar,.int .i64 e.as',.int .i64 e.bw,.string e.bT,.int .i64 e.br,.int .i64 e.bs',.int .i64 e.low,.int .i64 e.high,.string e.F,.string e.A,.string e.B,.int .i64 e.ci,.int .i64 e.ck,.int .i64 e.c1,.int .i64 e.c2]
def EvdG.V (e:EvdG):Array Value:=e.L.toArray
def evd0:EvdG:=⟨0,0,0,⟨#[]⟩,0,0,0,⟨#[]⟩,0,0,0,0,⟨#[]⟩,⟨#[]⟩,⟨#[]⟩,0,0,0,0⟩
section
variable {w wr w' : World} {gC gQ gR gV gA gB : Nat} {CA EV EA EB : Array Value} {q0 q1 q2 : Int}
end
set_option maxHeartbeats 8000000 in
theorem plB (SU EV:Array Value) (kind:Int) (hE:EV[0]? =some (.int .i64 kind)) (hk:crtF kind=none) (hkb:pab kind) (w:World):Calls Tryz.prog 16 #[.agg SU,.agg EV] w (Mk (.tuple #[.int .i64 0,.int .i64 14]) w):=by
 have HE0:=Lib.hid hE
 obtain ⟨gS,hgS⟩:∃ g,w.heap.size=g:=⟨_,rfl⟩
 obtain ⟨w0,hw0⟩:∃ W,w.alloc (.cells SU 30)=W:=⟨_,rfl⟩
 have u0:Upd [] [] w w0:=by rw [← hw0];exact (Upd.refl _ _).alloc _
 obtain ⟨gE,hgE⟩:∃ g,w0.heap.size=g:=⟨_,rfl⟩
 obtain ⟨w1,hw1⟩:∃ W,w0.alloc (.cells EV 69)=W:=⟨_,rfl⟩
 have r1:w1.heap[gE]? =some (.cells EV 69 (0,0)):=by rw [← hgE,← hw1];exact heap_alloc_new _ _
 have u1:Upd [] [] w0 w1:=by rw [← hw1];exact (Upd.refl _ _).alloc _
 have U1:=Lib.hid (u0.trans u1)
 have ud0:Upd [] [] w1 w1.drew:=(Upd.refl _ _).drew
 have HK:Hid (∀ W,Upd [] [] w1 W→W.cell? ⟨gE,0,none⟩=some (.int .i64 kind)):=fun W u=>(cell_of_row _ gE 0 _ _ _ (paa r1 u)).trans HE0.out
 have HKK:=Lib.hid hk
 have HKB:=Lib.hid hkb
 have HCI:Hid ((Tryz.prog.info? 96).map (·.size)=some (#[.bool false,.nilFunc,.nilFunc,.nilFunc]:Array Value).size):=by show _=some 4;kernel_rfl
 clear u0 r1 u1 hk hkb hE
 go_enter Tryz.func16,Tryz.ntmps16
 go_upto_region 1 with (fail)
 refine @_root_.id ((∀ (bM gC:Nat) (W:World),Hid (Upd [] [] w1 W)→(?pj1:Nat→Nat→World→Prop) bM gC W)→_) (fun hJ=>?mj1) ?jj1
 case mj1 =>
  refine wp_region_noPanic ?_
  refine wp_region_held_drew (S:=fun wp=>wp.cell? ⟨gE,0,none⟩=some (.int .i64 kind)) (by kernel_rfl) ?_ (fun hHeld=>?_)
  · exact HK.out _ ud0
  refine tkY 1 hHeld ?_
  refine tkY 2 hHeld ?_
  refine tkA [0,7] ?_
  refine tkC (fun K hK=>?_) ?_
  · go_simp;refine (pc5 _).mono ?_;rintro e wv1 ⟨bM,rfl,HMF,hq⟩;have ud1:=ud0.trans hq;clear hq;have HM_1:=HMF;clear HMF;go_wp2_with fail
    refine tkK hK (HK.out _ ud1) fun hHeld=>?_
    clear hK K
    refine tkA [3,7] ?_
    refine tkC (fun K hK=>?_) ?_
    · have hlk:=(HM_1.out.look_ok (x:=kind) undC (plr wv1) HKB.out).trans (congrArg (fun z=>Result.ok z wv1) (show _=Value.tuple #[.agg #[.bool false,.nilFunc,.nilFunc,.nilFunc],.bool false] from (by rw [HKK.out];rfl)));go_wp2_with fail;clear hlk HM_1
      refine tkK hK (HK.out _ ud1) fun hHeld=>?_
      clear hK K
      refine tkY 4 hHeld ?_
      refine tkY 5 hHeld ?_
      refine tkY 6 hHeld ?_
      refine tk1 7 fun K hK=>?_
      go_simp;obtain ⟨gC,wv2,hgx,hwx,fC_2,hq⟩:=paw wv1 (.cells #[.bool false,.nilFunc,.nilFunc,.nilFunc] 96);rw [← hgx,← hwx];have bC:w1.heap.size≤gC:=(by have:=ud1.size;omega);have ud2:=ud1.trans hq;clear hgx hwx hq
      refine tkK hK (HK.out _ ud2) fun hHeld=>?_
      clear hK K
      refine tk1 8 fun K hK=>?_
      rw [if_pos (by rfl)];refine wp_store_row 96 _ _ rfl gC #[.bool false,.nilFunc,.nilFunc,.nilFunc] rfl rfl _ _ fC_2.out HCI.out rfl (by simp [Value.oneCell']) ?_;obtain ⟨wv3,hwx⟩:∃ W':World,W'=wv2.setRow gC #[.bool false,.nilFunc,.nilFunc,.nilFunc]:=⟨_,rfl⟩;have ud3:=ud2.setRowNew bC #[.bool false,.nilFunc,.nilFunc,.nilFunc];rw [← hwx] at ud3 ⊢;clear hwx
      refine tkK hK (HK.out _ ud3) fun hHeld=>?_
      clear hK K
      refine tkY 9 hHeld ?_
      refine wpAnyH_done (by kernel_rfl) ?_ _
      refine NoPanic.normal ?_
      exact hJ bM gC wv3 (Lib.hid ud3)
    refine tkZ fun K hK=>?_
    go_simp;obtain ⟨gC,wv2,hgx,hwx,fC_2,hq⟩:=paw wv1 (.cells #[.bool false,.nilFunc,.nilFunc,.nilFunc] 96);rw [← hgx,← hwx];have bC:w1.heap.size≤gC:=(by have:=ud1.size;omega);have ud2:=ud1.trans hq;have HM_2:=Lib.hid (HM_1.out.upd hq (by simp));clear HM_1;clear hgx hwx hq
    refine tkK hK (HK.out _ ud2) fun hHeld=>?_
    clear hK K
    refine tk1 3 fun K hK=>?_
    have hlk:=(HM_2.out.look_ok (x:=kind) undC (plr wv2) HKB.out).trans (congrArg (fun z=>Result.ok z wv2) (show _=Value.tuple #[.agg #[.bool false,.nilFunc,.nilFunc,.nilFunc],.bool false] from (by rw [HKK.out];rfl)));go_wp2_with fail;clear hlk HM_2
    refine tkK hK (HK.out _ ud2) fun hHeld=>?_
    clear hK K
    refine tkY 4 hHeld ?_
    refine tkY 5 hHeld ?_
    refine tkY 6 hHeld ?_
    refine tk1 8 fun K hK=>?_
    rw [if_pos (by rfl)];refine wp_store_row 96 _ _ rfl gC #[.bool false,.nilFunc,.nilFunc,.nilFunc] rfl rfl _ _ fC_2.out HCI.out rfl (by simp [Value.oneCell']) ?_;obtain ⟨wv3,hwx⟩:∃ W':World,W'=wv2.setRow gC #[.bool false,.nilFunc,.nilFunc,.nilFunc]:=⟨_,rfl⟩;have ud3:=ud2.setRowNew bC #[.bool false,.nilFunc,.nilFunc,.nilFunc];rw [← hwx] at ud3 ⊢;clear hwx
    refine tkK hK (HK.out _ ud3) fun hHeld=>?_
    clear hK K
    refine tkY 9 hHeld ?_
    refine wpAnyH_done (by kernel_rfl) ?_ _
    refine NoPanic.normal ?_
    exact hJ bM gC wv3 (Lib.hid ud3)
  refine tkZ fun K hK=>?_
  go_simp;obtain ⟨gC,wv1,hgx,hwx,fC_1,hq⟩:=paF w1 (.cells #[.bool false,.nilFunc,.nilFunc,.nilFunc] 96);rw [← hgx,← hwx];have bC:w1.heap.size≤gC:=(by omega);have ud1:=hq;clear hgx hwx hq
  refine tkK hK (HK.out _ ud1) fun hHeld=>?_
  clear hK K
  refine tk1 0 fun K hK=>?_
  go_simp;refine (pc5 _).mono ?_;rintro e wv2 ⟨bM,rfl,HMF,hq⟩;have ud2:=ud1.trans hq;have fC_2:=Lib.hid (paa fC_1.out hq);clear hq;have HM_2:=HMF;clear HMF;go_wp2_with fail
  refine tkK hK (HK.out _ ud2) fun hHeld=>?_
  clear hK K
  refine tk1 3 fun K hK=>?_
  have hlk:=(HM_2.out.look_ok (x:=kind) undC (plr wv2) HKB.out).trans (congrArg (fun z=>Result.ok z wv2) (show _=Value.tuple #[.agg #[.bool false,.nilFunc,.nilFunc,.nilFunc],.bool false] from (by rw [HKK.out];rfl)));go_wp2_with fail;clear hlk HM_2
  refine tkK hK (HK.out _ ud2) fun hHeld=>?_
  clear hK K
  refine tkY 4 hHeld ?_
  refine tkY 5 hHeld ?_
  refine tkY 6 hHeld ?_
  refine tk1 8 fun K hK=>?_
  rw [if_pos (by rfl)];refine wp_store_row 96 _ _ rfl gC #[.bool false,.nilFunc,.nilFunc,.nilFunc] rfl rfl _ _ fC_2.out HCI.out rfl (by simp [Value.oneCell']) ?_;obtain ⟨wv3,hwx⟩:∃ W':World,W'=wv2.setRow gC #[.bool false,.nilFunc,.nilFunc,.nilFunc]:=⟨_,rfl⟩;have ud3:=ud2.setRowNew bC #[.bool false,.nilFunc,.nilFunc,.nilFunc];rw [← hwx] at ud3 ⊢;clear hwx
  refine tkK hK (HK.out _ ud3) fun hHeld=>?_
  clear hK K
  refine tkY 9 hHeld ?_
  refine wpAnyH_done (by kernel_rfl) ?_ _
  refine NoPanic.normal ?_
  exact hJ bM gC wv3 (Lib.hid ud3)
 intro bM gC w3 U3
 go_wp2_with fail
 go_ret2
 exact ⟨rfl,U1.out.trans U3.out⟩
theorem po4 {a b:Nat} (ha:memN a) (hb:memN b):memN (a * b % Pn):=by
 have e:(a * b % Pn) ^ Qn % Pn=1:=by
  rw [← Nat.pow_mod,Nat.mul_pow,Nat.mul_mod,ha.2.2,hb.2.2]
  unfold Pn
  decide
 have h:=pgB e 1
 rwa [Nat.pow_one,Nat.mod_mod] at h
theorem pqs:memN 1:=⟨by omega,by unfold Pn;decide,by rw [Nat.one_pow];unfold Pn;decide⟩
theorem pkH (j:Nat):∀ (ds:List Dl) (c:Nat),memN c→(∀ d∈ds,memN (d.coms.getD j 0))→memN (ds.foldl (fun c d=>c * pP (d.coms.getD j 0) 1 % Pn) c)
 | [],c,hc,_=>hc
 | d :: r,c,hc,h=>by
  have h1:memN (pP (d.coms.getD j 0) 1):=by
   have:=pgB (h d (by simp)).2.2 1
   exact this
  exact pkH j r _ (po4 hc h1) (fun x hx=>h x (by simp [hx]))
theorem po5 {ds:List Dl} {j:Nat} (h:∀ d∈ds,memN (d.coms.getD j 0)):memN (mixN ds j):=pkH j ds 1 pqs h
theorem po6 {ds:List Dl} {k:Nat} (h:∀ j,j<k→∀ d∈ds,memN (d.coms.getD j 0)):∀ c∈mixL ds k,memN c:=by
 intro c hc
 obtain ⟨j,hj,rfl⟩:=List.mem_map.1 hc
 exact po5 (h j (List.mem_range.1 hj))
theorem prN (k:Nat):pab (gP k:Int):=by
 have:=pqD k
 unfold pab
 unfold Pn at this
 omega
section
variable {M : Array Value} {aw ar as' bw br bs' low high id pub : Int} {aT bT F A B : ByteArray}
theorem pjE (h:MtIs M aw aT ar as' bw bT br bs' low high F A B id pub) (ha:aT.size≤900000000) (hb:bT.size≤900000000) (w:World) (htab:Tabs w) :
 Calls Tryz.prog 92 #[.agg M] w (MkPB (ConR (bs aT) (bs bT)) w):=by
 obtain ⟨g,hg⟩:∃ g,w.heap.size=g:=⟨_,rfl⟩
 obtain ⟨w0,hw0⟩:∃ W,w.alloc (.cells M 103)=W:=⟨_,rfl⟩
 have r0:w0.heap[g]? =some (.cells M 103 (0,0)):=by rw [← hg,← hw0];exact heap_alloc_new _ _
 have u0:=Lib.hid (show Upd [] [] w w0 by rw [← hw0];exact (Upd.refl _ _).alloc _)
 have c0:=(cell_of_row _ g 9 _ _ _ r0).trans h.a1
 have c1:=(cell_of_row _ g 13 _ _ _ r0).trans h.b1
 have HC:=Lib.hid (pqi aT bT ha hb w0 (htab.upd u0.out))
 clear h r0
 go_enter Tryz.func92,Tryz.ntmps92
 go_wp2_with fail
 refine HC.out.mono ?_
 rintro e w1 ⟨b,HB,rfl,hq⟩
 have U1:=Lib.hid (u0.out.trans hq)
 clear hq HC
 go_wp2_with fail
 go_ret
 exact ⟨b,HB,rfl,U1.out⟩
end
theorem po7 (who:Int) (L:List Mem):∃ (o:Option Nat) (wt pub:Int),pb6 who L=o∧∀ i,o=some i→L[i]? =some ⟨who,wt,pub⟩:=by
 cases h:pb6 who L with
 | none=>exact ⟨none,0,0,rfl,fun i h=>by cases h⟩
 | some i =>
  have h':=h
  unfold pb6 at h'
  rw [List.findIdx?_eq_some_iff_getElem] at h'
  obtain ⟨hl,hw,_⟩:=h'
  refine ⟨some i,L[i].weight,L[i].pub,rfl,fun j hj=>?_⟩
  injection hj with hj
  subst hj
  rw [List.getElem?_eq_getElem hl,← (beq_iff_eq.1 hw)]
theorem pcP.toT {Q:Bool→Prop} {f:FuncId} {args:Array Value} {W:World} (h:Calls Tryz.prog f args W (pcP Q W)):Calls Tryz.prog f args W (MkPB Q W):=h
theorem MkPB.weak {Q R:Bool→Prop} {f:FuncId} {args:Array Value} {W:World} (h:Calls Tryz.prog f args W (MkPB Q W)) (hr:∀ b,Q b→R b):Calls Tryz.prog f args W (MkPB R W):=by
 refine h.mono ?_
 rintro e w' ⟨b,hb,rfl,u⟩
 exact ⟨b,hr b hb.out,rfl,u⟩
theorem Mk.toPB {q:Bool} {f:FuncId} {args:Array Value} {W:World} (h:Calls Tryz.prog f args W (Mk (.bool q) W)):Calls Tryz.prog f args W (MkPB (·=q) W):=by
 refine h.mono ?_
 rintro e w' ⟨rfl,u⟩
 exact ⟨q,rfl,rfl,u⟩
theorem pkI {ws:List Nat} {i:Nat} {who wt pub:Int} (h:(pdc ws)[i]? =some ⟨who,wt,pub⟩):pab pub∧∃ x,ws[i]? =some x:=by
 have hl:=(List.getElem?_eq_some_iff.1 h).1
 rw [pfY] at hl
 obtain ⟨x,hx⟩:∃ x,ws[i]? =some x:=⟨_,List.getElem?_eq_getElem hl⟩
 rw [pbb hx] at h
 injection h with h
 have e:(gP (secN i):Int)=pub:=congrArg Mem.pub h
 rw [← e]
 exact ⟨prN _,x,hx⟩
theorem po8 (l:List Int):∀ c∈mixL (dsN (wsN l (pax l)) pbx (pax l)) (needN (wsN l (pax l)).sum),memN c:=by
 refine po6 (fun j hj d hd=>?_)
 obtain ⟨hg,hl⟩:=pkn (pfX l) _ _ d hd
 rw [List.getD_eq_getElem?_getD,List.getElem?_eq_getElem (by omega)]
 exact hg.1 _ (List.getElem_mem _)
section
variable {M : Array Value} {aw ar as' bw br bs' low high id pub : Int} {aT bT F A B : ByteArray}
set_option maxHeartbeats 4000000 in
theorem piB (h:MtIs M aw aT ar as' bw bT br bs' low high F A B id pub) (ht:aT.size≤900000) (ht2:bT.size≤900000) (hla:∃ ev,pb3 (bs aT) ev) (hlb:∃ ev,pb3 (bs bT) ev) (w:World) (htab:Tabs w) :
 Calls Tryz.prog 99 #[.agg M] w (pcP (fun b=>∃ x y,pb3 (bs aT) x∧pb3 (bs bT) y∧b=(decide (x.n=y.n) && decide (x.x≠y.x))) w):=by
 obtain ⟨g,hg⟩:∃ g,w.heap.size=g:=⟨_,rfl⟩
 obtain ⟨w0,hw0⟩:∃ W,w.alloc (.cells M 103)=W:=⟨_,rfl⟩
 have r0:=Lib.hid (show w0.heap[g]? =some (.cells M 103 (0,0)) by rw [← hg,← hw0];exact heap_alloc_new _ _)
 have u0:=Lib.hid (show Upd [] [] w w0 by rw [← hw0];exact (Upd.refl _ _).alloc _)
 have HK:Hid (∀ W,Upd [] [] w0 W→W.cell? ⟨g,9,none⟩=some (.string aT)∧W.cell? ⟨g,13,none⟩=some (.string bT)):=fun W u=>⟨(cell_of_row _ g 9 _ _ _ (paa r0.out u)).trans h.a1,(cell_of_row _ g 13 _ _ _ (paa r0.out u)).trans h.b1⟩
 have HB:=Lib.hid (fun W (u:Upd [] [] w W)=>pc6 bT ht2 W (htab.upd u))
 have HA:=Lib.hid (pc6 aT ht w0 (htab.upd u0.out))
 obtain ⟨c1,c2⟩:=HK.out w0 (Upd.refl _ _)
 have HLA:=Lib.hid hla
 have HLB:=Lib.hid hlb
 clear h hla hlb
 go_enter Tryz.func99,Tryz.ntmps99
 go_wp2_with fail
 refine HA.out.mono ?_
 rintro e w1 ⟨EV,b1,HI,HR,rfl,hq⟩
 obtain ⟨ev,HEV⟩:∃ ev,Hid (pb3 (bs aT) ev∧EV=ev.V.toArray):=by
  rcases HR.out with ⟨_,ev,hp,he⟩ | ⟨_,hn⟩
  · exact ⟨ev,hp,he⟩
  · obtain ⟨ev,hp⟩:=HLA.out;exact absurd hp (hn ev)
 obtain ⟨n1,hn1⟩:∃ n,n=ev.n:=⟨_,rfl⟩
 obtain ⟨x1,hx1⟩:∃ x,x=ev.x:=⟨_,rfl⟩
 have HE4:Hid (EV[4]? =some (.int .i64 n1)):=by show _=_;rw [HEV.out.2,hn1];rfl
 have HE5:Hid (EV[5]? =some (.string x1)):=by show _=_;rw [HEV.out.2,hx1];rfl
 have HN1:=Lib.hid (And.intro hn1 hx1)
 obtain ⟨w2,Z2,W2,R2,hq2⟩:=paC w1 53 evZ.toArray EV
 rw [← paz] at Z2 W2
 obtain ⟨gE,hgE⟩:∃ g,w1.heap.size=g:=⟨_,rfl⟩
 rw [hgE] at Z2 W2 R2
 have V2:=Lib.hid (hq.trans hq2)
 have HZ1:Hid ((#[.int .i64 0,.int .i64 0,.int .i64 0,.int .i64 0,.int .i64 0,.string ⟨#[]⟩,.int .u8 0,.int .u8 0,.int .u8 0,.int .u8 0,.int .u8 0,.int .u8 0,.int .u8 0,.int .u8 0,.int .u8 0,.int .u8 0,.int .u8 0,.int .u8 0,.int .u8 0,.int .u8 0,.int .u8 0,.int .u8 0,.int .u8 0,.int .u8 0,.int .u8 0,.int .u8 0,.int .u8 0,.int .u8 0,.int .u8 0,.int .u8 0,.int .u8 0,.int .u8 0,.int .u8 0,.int .u8 0,.int .u8 0,.int .u8 0,.int .u8 0,.int .u8 0,.int .i64 0,.int .i64 0]:Array Value).size=EV.size):=by show _=_;rw [paz];exact HI.out.2.2
 obtain ⟨c1,c2⟩:=HK.out w2 V2.out
 clear hq hq2 HA hn1 hx1
 go_wp2_with (first | (refine wpList_store_rowAs rfl 53 _ _ rfl gE EV rfl rfl _ _ Z2.out HI.out.1 HZ1.out HI.out.2.1 w2 W2.out ?_))
 refine (HB.out w2 (u0.out.trans V2.out)).mono ?_
 rintro e w3 ⟨EW,b2,HI2,HR2,rfl,hq⟩
 obtain ⟨ew,HEW⟩:∃ ev,Hid (pb3 (bs bT) ev∧EW=ev.V.toArray):=by
  rcases HR2.out with ⟨_,ev,hp,he⟩ | ⟨_,hn⟩
  · exact ⟨ev,hp,he⟩
  · obtain ⟨ev,hp⟩:=HLB.out;exact absurd hp (hn ev)
 obtain ⟨n2,hn2⟩:∃ n,n=ew.n:=⟨_,rfl⟩
 obtain ⟨x2,hx2⟩:∃ x,x=ew.x:=⟨_,rfl⟩
 have HF4:Hid (EW[4]? =some (.int .i64 n2)):=by show _=_;rw [HEW.out.2,hn2];rfl
 have HF5:Hid (EW[5]? =some (.string x2)):=by show _=_;rw [HEW.out.2,hx2];rfl
 have HN2:=Lib.hid (And.intro hn2 hx2)
 obtain ⟨w4,Z4,W4,R4,hq4⟩:=paC w3 53 evZ.toArray EW
 rw [← paz] at Z4 W4
 obtain ⟨gF,hgF⟩:∃ g,w3.heap.size=g:=⟨_,rfl⟩
 rw [hgF] at Z4 W4 R4
 have V4:=Lib.hid ((V2.out.trans hq).trans hq4)
 have e4:w4.cell? ⟨gE,4,none⟩=some (.int .i64 n1):=(cell_of_row _ gE 4 _ _ _ (paa R2.out (hq.trans hq4))).trans HE4.out
 have e5:w4.cell? ⟨gE,5,none⟩=some (.string x1):=(cell_of_row _ gE 5 _ _ _ (paa R2.out (hq.trans hq4))).trans HE5.out
 have f4:w4.cell? ⟨gF,4,none⟩=some (.int .i64 n2):=(cell_of_row _ gF 4 _ _ _ R4.out).trans HF4.out
 have f5:w4.cell? ⟨gF,5,none⟩=some (.string x2):=(cell_of_row _ gF 5 _ _ _ R4.out).trans HF5.out
 have HZ2:Hid ((#[.int .i64 0,.int .i64 0,.int .i64 0,.int .i64 0,.int .i64 0,.string ⟨#[]⟩,.int .u8 0,.int .u8 0,.int .u8 0,.int .u8 0,.int .u8 0,.int .u8 0,.int .u8 0,.int .u8 0,.int .u8 0,.int .u8 0,.int .u8 0,.int .u8 0,.int .u8 0,.int .u8 0,.int .u8 0,.int .u8 0,.int .u8 0,.int .u8 0,.int .u8 0,.int .u8 0,.int .u8 0,.int .u8 0,.int .u8 0,.int .u8 0,.int .u8 0,.int .u8 0,.int .u8 0,.int .u8 0,.int .u8 0,.int .u8 0,.int .u8 0,.int .u8 0,.int .i64 0,.int .i64 0]:Array Value).size=EW.size):=by show _=_;rw [paz];exact HI2.out.2.2
 clear hq hq4 HB c1 c2 hgE hn2 hx2 HR HR2
 by_cases hn:n1=n2
 · by_cases hx:x1=x2
   · have g1:decide (n1=n2)=true:=decide_eq_true hn
     have g2:decide (x1≠x2)=false:=decide_eq_false (fun h=>h hx)
     have HRS:Hid (∃ x y,pb3 (bs aT) x∧pb3 (bs bT) y∧false=(decide (x.n=y.n) && decide (x.x≠y.x))):=⟨ev,ew,HEV.out.1,HEW.out.1,by rw [← HN1.out.1,← HN2.out.1,← HN1.out.2,← HN2.out.2,g1,g2];rfl⟩
     subst hn hx
     go_wp2_with (first | (refine wpList_store_rowAs rfl 53 _ _ rfl gF EW rfl rfl _ _ Z4.out HI2.out.1 HZ2.out HI2.out.2.1 w4 W4.out ?_))
     go_ret
     exact ⟨false,HRS.out,rfl,u0.out.trans V4.out⟩
   · have g1:decide (n1=n2)=true:=decide_eq_true hn
     have g3:(x1.toList == x2.toList)=false:=by rw [← Bool.not_eq_true];exact fun h=>hx (paM (pbA.1 h))
     have g2:decide (x1≠x2)=true:=decide_eq_true hx
     have HRS:Hid (∃ x y,pb3 (bs aT) x∧pb3 (bs bT) y∧true=(decide (x.n=y.n) && decide (x.x≠y.x))):=⟨ev,ew,HEV.out.1,HEW.out.1,by rw [← HN1.out.1,← HN2.out.1,← HN1.out.2,← HN2.out.2,g1,g2];rfl⟩
     subst hn
     go_wp2_with (first | (refine wpList_store_rowAs rfl 53 _ _ rfl gF EW rfl rfl _ _ Z4.out HI2.out.1 HZ2.out HI2.out.2.1 w4 W4.out ?_))
     go_ret
     exact ⟨true,HRS.out,rfl,u0.out.trans V4.out⟩
 · have g1:decide (n1=n2)=false:=decide_eq_false hn
   have HRS:Hid (∃ x y,pb3 (bs aT) x∧pb3 (bs bT) y∧false=(decide (x.n=y.n) && decide (x.x≠y.x))):=⟨ev,ew,HEV.out.1,HEW.out.1,by rw [← HN1.out.1,← HN2.out.1,g1];rfl⟩
   go_wp2_with (first | (refine wpList_store_rowAs rfl 53 _ _ rfl gF EW rfl rfl _ _ Z4.out HI2.out.1 HZ2.out HI2.out.2.1 w4 W4.out ?_))
   go_ret
   exact ⟨false,HRS.out,rfl,u0.out.trans V4.out⟩
end
section
variable {M : Array Value} {aw ar as' bw br bs' low high id pub : Int} {aT bT F A B : ByteArray}
set_option maxHeartbeats 4000000 in
theorem pfA (h:MtIs M aw aT ar as' bw bT br bs' low high F A B id pub) (ht:aT.size≤900000) (w:World) (htab:Tabs w) :
 Calls Tryz.prog 100 #[.agg M] w (pcP (fun b=>b=true ↔ ∃ ep d,pfM (bs aT) ep d) w):=by
 obtain ⟨g,hg⟩:∃ g,w.heap.size=g:=⟨_,rfl⟩
 obtain ⟨w0,hw0⟩:∃ W,w.alloc (.cells M 103)=W:=⟨_,rfl⟩
 have r0:=Lib.hid (show w0.heap[g]? =some (.cells M 103 (0,0)) by rw [← hg,← hw0];exact heap_alloc_new _ _)
 have u0:=Lib.hid (show Upd [] [] w w0 by rw [← hw0];exact (Upd.refl _ _).alloc _)
 have c1:=(cell_of_row _ g 9 _ _ _ r0.out).trans h.a1
 have HP:=Lib.hid (pjz aT ht w0 (htab.upd u0.out))
 clear h
 go_enter Tryz.func100,Tryz.ntmps100
 go_wp2_with fail
 refine HP.out.mono ?_
 rintro e w1 ⟨ep,cv,bv,d,ok,HR,HRI,rfl,hq⟩
 obtain ⟨DV,hDV⟩:∃ DV:Array Value,DV=#[cv,.int .i64 d.point,bv]:=⟨_,rfl⟩
 rw [← hDV]
 have HIV:Hid ((Tryz.prog.info? 153).map (·.size)=some DV.size):=by rw [hDV];exact pcm _ _ _
 obtain ⟨a1,n1,k1,e1⟩:∃ a n k,cv=.slice a n k:=by obtain ⟨a,k,e,_⟩:=HRI.out.1;exact ⟨a,_,k,e⟩
 obtain ⟨a2,n2,k2,e2⟩:∃ a n k,bv=.slice a n k:=by obtain ⟨a,k,e,_⟩:=HRI.out.2;exact ⟨a,_,k,e⟩
 have HOV:Hid (DV.all (·.oneCell')=true):=by rw [hDV,e1,e2];show _=_;simp [Value.oneCell']
 have HZV:Hid ((#[.slice none 0 0,.int .i64 0,.slice none 0 0]:Array Value).size=DV.size):=by rw [hDV];rfl
 obtain ⟨w6,Z6,W6,R6,hq6⟩:=paC w1 153 #[.slice none 0 0,.int .i64 0,.slice none 0 0] DV
 obtain ⟨gX,hgX⟩:∃ g,w1.heap.size=g:=⟨_,rfl⟩
 rw [hgX] at Z6 W6 R6
 have U6:=Lib.hid ((u0.out.trans hq).trans hq6)
 clear hq hq6 HP c1 hDV e1 e2 R6
 go_wp2_with (first | (refine wpList_store_rowAs rfl 153 _ _ rfl gX DV rfl rfl _ _ Z6.out HIV.out HZV.out HOV.out w6 W6.out ?_))
 go_ret
 refine ⟨ok,?_,rfl,U6.out⟩
 show ok=true ↔ _
 rcases HR.out with ⟨h,hp,_⟩ | ⟨h,hn⟩
 · exact ⟨fun _=>⟨ep,d,hp⟩,fun _=>h⟩
 · exact ⟨(fun hk=>by rw [h] at hk;cases hk),fun ⟨n,d',hp⟩=>absurd hp (hn n d')⟩
set_option maxHeartbeats 4000000 in
theorem phd (h:MtIs M aw aT ar as' bw bT br bs' low high F A B id pub) (x y:Nat) (h1:pab low) (h2:pab high) (hF:bs F=be x) (hA:bs A=be y) (hx:x<9223372036854775808) (hy:y<9223372036854775808) (w:World) (htab:Tabs w) :
 Calls Tryz.prog 96 #[.agg M] w (pcP (fun b=>b=true ↔ bs aT=pbI low high x y) w):=by
 obtain ⟨g,hg⟩:∃ g,w.heap.size=g:=⟨_,rfl⟩
 obtain ⟨w0,hw0⟩:∃ W,w.alloc (.cells M 103)=W:=⟨_,rfl⟩
 have r0:w0.heap[g]? =some (.cells M 103 (0,0)):=by rw [← hg,← hw0];exact heap_alloc_new _ _
 have HU0:=Lib.hid (show Upd [] [] w w0 by rw [← hw0];exact (Upd.refl _ _).alloc _)
 have HK:Hid (∀ W,Upd [] [] w0 W→W.cell? ⟨g,9,none⟩=some (.string aT)∧(Instr.loadAt 61 (.pointer (some ⟨g,16,none⟩))).run Tryz.prog W=.ok (.agg (dspG low high F A B)) W):=by
  intro W u
  have q:=paa r0 u
  refine ⟨(cell_of_row _ g 9 _ _ _ q).trans h.a1,run_loadAt_mid W g 16 61 [.int .i64 low,.int .i64 high,.string F,.string A,.string B] _ (fun j v hv=>?_) Tryz.underlying61 rfl (by kernel_rfl)⟩
  match j,hv with
  | 0,hv=>simp at hv;subst hv;exact (cell_of_row _ g 16 _ _ _ q).trans h.d0
  | 1,hv=>simp at hv;subst hv;exact (cell_of_row _ g 17 _ _ _ q).trans h.d1
  | 2,hv=>simp at hv;subst hv;exact (cell_of_row _ g 18 _ _ _ q).trans h.d2
  | 3,hv=>simp at hv;subst hv;exact (cell_of_row _ g 19 _ _ _ q).trans h.d3
  | 4,hv=>simp at hv;subst hv;exact (cell_of_row _ g 20 _ _ _ q).trans h.d4
 have ud0:Upd [] [] w0 w0.drew:=(Upd.refl _ _).drew
 have HC:=Lib.hid (fun W (u:Upd [] [] w W)=>ppr low high F A B x y h1 h2 hF hA hx hy W (htab.upd u))
 clear h r0 hF hA
 go_enter Tryz.func96,Tryz.ntmps96
 go_upto_region 1 with (fail)
 refine wp_region_noPanic ?_
 refine wp_region_held_drew (S:=fun wp=>wp.cell? ⟨g,9,none⟩=some (.string aT)∧(Instr.loadAt 61 (.pointer (some ⟨g,16,none⟩))).run Tryz.prog wp=.ok (.agg (dspG low high F A B)) wp) (by kernel_rfl) ?_ (fun hHeld=>?_)
 · exact HK.out _ ud0
 refine tkY 0 hHeld ?_
 refine tkY 1 hHeld ?_
 refine tkY 2 hHeld ?_
 refine tkY 3 hHeld ?_
 refine tkY 4 hHeld ?_
 refine tkY 5 hHeld ?_
 refine wpAnyH_take (i:=6) (v:=.agg (dspG low high F A B)) (by simp only [List.getElem?_toArray,List.getElem?_cons_succ,List.getElem?_cons_zero] <;> rfl) (by kernel_rfl) (by kernel_rfl) (by kernel_rfl) (fun _ _ _ h=>h) (pau (by rfl) _ _ rfl _ rfl (dspG low high F A B) (fun w hSw=>hSw.2)) hHeld ?_
 try simp only [Act.put,List.setIfInBounds_toArray,List.set_cons_zero,List.set_cons_succ]
 refine tk1 7 fun K hK=>?_
 go_simp;refine (HC.out _ (HU0.out.trans ud0)).mono ?_;rintro e wv1 ⟨y1,HY,_,rfl,hq⟩;have ud1:=ud0.trans hq;clear hq;go_wp2_with fail
 refine tkK hK (HK.out _ ud1) fun hHeld=>?_
 clear hK K
 refine tkY 8 hHeld ?_
 refine tkY 9 hHeld ?_
 refine wpAnyH_done (by kernel_rfl) ?_ _
 refine NoPanic.normal ?_
 go_wp2_with fail
 go_ret
 refine ⟨_,?_,rfl,HU0.out.trans ud1⟩
 show (aT.toList == y1.toList)=true ↔ _
 rw [pbA,HY.out]
end
def cmpZ (a b:Nat):Int:=if a<b then -1 else if a=b then 0 else 1
theorem piC {a b:Nat}:cmpZ a b≠0 ↔ a≠b:=by
 unfold cmpZ
 split
 · exact ⟨fun _=>by omega,fun _=>by omega⟩
 · split
   · exact ⟨fun h=>absurd rfl h,fun h=>absurd (by assumption) h⟩
   · exact ⟨fun _=>by assumption,fun _=>by omega⟩
theorem piD (u v:Value) (l r:List Nat) (w:World) (hu:Wd w u l) (hv:Wd w v r) (hlt:r.length<l.length):Calls Tryz.prog 192 #[u,v] w (pfu 1 w):=by
 obtain ⟨ao,cap,rfl,_,_⟩:=hu.form
 obtain ⟨bo,cbp,rfl,_,_⟩:=hv.form
 have hb:((l.length:Int) != (r.length:Int))=true:=by rw [bne_iff_ne];omega
 have hb2:((l.length:Int) == (r.length:Int))=false:=by rw [beq_eq_false_iff_ne];omega
 have hb3:(l.length == r.length)=false:=by rw [beq_eq_false_iff_ne];omega
 have hl2:¬ (l.length:Int)<(r.length:Int):=by omega
 have hl3:¬ l.length<r.length:=by omega
 clear hu hv
 go_enter Tryz.func192,Tryz.ntmps192
 go_wp2_with fail
 go_ret
 exact ⟨rfl,Upd.refl _ _⟩
theorem pjF (u v:Value) (w:World) (hu:Wd w u []) (hv:Wd w v []):Calls Tryz.prog 192 #[u,v] w (pfu 0 w):=by
 obtain ⟨ao,cap,rfl⟩:=hu.none'
 obtain ⟨bo,cbp,rfl⟩:=hv.none'
 clear hu hv
 go_enter Tryz.func192,Tryz.ntmps192
 go_wp2_with fail
 refine wp_loop_rounds 1 ?_
 rw [rounds_succ]
 go_wp2_with fail
 go_ret
 exact ⟨rfl,Upd.refl _ _⟩
theorem phe (u v:Value) (d e:Nat) (w:World) (hu:Wd w u [d]) (hv:Wd w v [e]) (hde:e<d):Calls Tryz.prog 192 #[u,v] w (pfu 1 w):=by
 obtain ⟨g,cap,rfl,_,_,_,c1⟩:=hu.one
 obtain ⟨h,cbp,rfl,_,_,_,c2⟩:=hv.one
 have b1:((d:Int) != (e:Int))=true:=by rw [bne_iff_ne];omega
 have b2:((d:Int) == (e:Int))=false:=by rw [beq_eq_false_iff_ne];omega
 have b3:¬ (d:Int)<(e:Int):=by omega
 have b4:(d == e)=false:=by rw [beq_eq_false_iff_ne];omega
 have b5:¬ d<e:=by omega
 clear hu hv
 go_enter Tryz.func192,Tryz.ntmps192
 go_wp2_with fail
 refine wp_loop_rounds 2 ?_
 rw [rounds_succ]
 go_wp2_with fail
 go_quiet (fail)
 go_wp2_with fail
 go_quiet (fail)
 go_wp2_with fail
 go_ret
 exact ⟨rfl,((Upd.refl _ _).drewN _).drewN _⟩
theorem phf (u v:Value) (a b:Nat) (ha:a<4294967296) (hb:b<4294967296) (w:World) (hu:Wd w u (dw a)) (hv:Wd w v (dw b)):Calls Tryz.prog 192 #[u,v] w (pfu (cmpZ a b) w):=by
 by_cases h0:a=0
 · subst h0
   rw [paW] at hu
   by_cases h1:b=0
   · subst h1;rw [paW] at hv;exact pjF u v w hu hv
   · rw [pcr (by omega) hb] at hv
     rw [show cmpZ 0 b=-1 by unfold cmpZ;rw [if_pos (by omega)]]
     exact pdv u v _ _ w hu hv (by show 0<1;omega)
 · rw [pcr (by omega) ha] at hu
   by_cases h1:b=0
   · subst h1
     rw [paW] at hv
     rw [show cmpZ a 0=1 by unfold cmpZ;rw [if_neg (by omega),if_neg (by omega)]]
     exact piD u v _ _ w hu hv (by show 0<1;omega)
   · rw [pcr (by omega) hb] at hv
     rcases Nat.lt_trichotomy a b with h | h | h
     · rw [show cmpZ a b=-1 by unfold cmpZ;rw [if_pos h]];exact peu u v a b w hu hv h
     · subst h
       rw [show cmpZ a a=0 by unfold cmpZ;rw [if_neg (by omega),if_pos rfl]]
       exact pet u v a w hu hv
     · rw [show cmpZ a b=1 by unfold cmpZ;rw [if_neg (by omega),if_neg (by omega)]]
       exact phe u v a b w hu hv h
theorem piE (s t:ByteArray) (d c:Nat) (hs:bs s=be d) (ht:bs t=be c) (hd:d<4294967296) (hc:c<4294967296) (w:World):Calls Tryz.prog 149 #[.string s,.string t] w (pfu (cmpZ d c) w):=by
 have z1:s.size≤1000000000:=by rw [paq hs];exact Nat.le_trans (paE 4 _ (Nat.lt_of_lt_of_le (by assumption) (by decide))) (by omega)
 have z2:t.size≤1000000000:=by rw [paq ht];exact Nat.le_trans (paE 4 _ (Nat.lt_of_lt_of_le (by assumption) (by decide))) (by omega)
 have HS:=pbe s w z1
 have HT:=Lib.hid (fun w'=>pbe t w' z2)
 rw [hs,paK] at HS
 simp only [ht,paK] at HT
 have HS:=Lib.hid HS
 clear hs ht z1 z2
 go_enter Tryz.func149,Tryz.ntmps149
 go_wp2_with fail
 refine HS.out.mono ?_
 rintro e w1 ⟨v,HV,rfl,hu1⟩
 have HU1:=Lib.hid hu1
 clear hu1 HS
 go_wp2_with fail
 refine (HT.out w1).mono ?_
 rintro e w2 ⟨u,HU,rfl,hu2⟩
 have HM:=Lib.hid (phf v u d c hd hc w2 (HV.out.upd hu2) HU.out)
 have HU2:=Lib.hid (HU1.out.trans hu2)
 obtain ⟨z,hz⟩:∃ z,z=cmpZ d c:=⟨_,rfl⟩
 rw [← hz] at HM
 have HZ:=Lib.hid hz
 clear hu2 HT HU1 HV HU hz
 go_wp2_with fail
 refine HM.out.mono ?_
 rintro e w3 ⟨rfl,hu3⟩
 have HU3:=Lib.hid (HU2.out.trans hu3)
 clear hu3 HM HU2
 go_wp2_with fail
 go_ret
 exact ⟨by rw [← HZ.out];rfl,HU3.out⟩
theorem pqt (u v:Value) (w:World) (hu:Wd w u []) (hv:Wd w v []):Calls Tryz.prog 33 #[u,v] w (fun e w'=>∃ v',Hid (Wd w' v' [])∧e=.returned v'∧Upd [] [] w w'):=by
 obtain ⟨ao,cap,rfl⟩:=hu.none'
 obtain ⟨bo,cbp,rfl⟩:=hv.none'
 have hmk:(Instr.makeSlice 86 (.int .i64 0) (.int .i64 0)).run Tryz.prog w=.ok (.slice (some ⟨w.heap.size,0,none⟩) 0 0) (w.alloc (.cells (pco (List.replicate 0 0)).toArray 129)):=pbH w 0 (by omega)
 obtain ⟨w0,hw0⟩:∃ w0,w0=w.alloc (.cells (pco (List.replicate 0 0)).toArray 129):=⟨_,rfl⟩
 have b0:WB w0 w.heap.size []:=by rw [hw0];exact heap_alloc_new _ _
 have u0:Upd [] [] w w0:=by rw [hw0];exact (Upd.refl _ _).alloc _
 rw [← hw0] at hmk
 have hT:=pcq _ _ _ (b0.slice (by simp [maxLen])) pjs
 rw [show valW []=0 from rfl,paW] at hT
 have HT:=Lib.hid hT
 have HU:=Lib.hid u0
 clear hu hv hw0 u0 hT b0
 go_enter Tryz.func33,Tryz.ntmps33
 go_wp2_with fail
 refine wp_loop_rounds 1 ?_
 rw [rounds_succ]
 go_wp2_with fail
 refine HT.out.mono ?_
 rintro e w1 ⟨v,HV,rfl,rfl⟩
 go_wp2_with fail
 go_ret
 exact ⟨v,HV,rfl,HU.out⟩
set_option maxHeartbeats 1000000 in
theorem mul_one (u v:Value) (d:Nat) (h0:0<d) (hd:d<65536) (w:World) (hu:Wd w u [d]) (hv:Wd w v [d]):Calls Tryz.prog 33 #[u,v] w (fun e w'=>∃ v',Hid (Wd w' v' [d * d])∧e=.returned v'∧Upd [] [] w w'):=by
 obtain ⟨g,cap,rfl,_,_,hg,c1⟩:=hu.one
 obtain ⟨h,cbp,rfl,_,_,hh,c2⟩:=hv.one
 have hmk:(Instr.makeSlice 86 (.int .i64 2) (.int .i64 2)).run Tryz.prog w=.ok (.slice (some ⟨w.heap.size,0,none⟩) 2 2) (w.alloc (.cells (pco (List.replicate 2 0)).toArray 129)):=pbH w 2 (by omega)
 obtain ⟨w0,hw0⟩:∃ w0,w0=w.alloc (.cells (pco (List.replicate 2 0)).toArray 129):=⟨_,rfl⟩
 have b0:WB w0 w.heap.size [0,0]:=by rw [hw0];exact heap_alloc_new _ _
 have u0:Upd [] [] w w0:=by rw [hw0];exact (Upd.refl _ _).alloc _
 rw [← hw0] at hmk
 obtain ⟨G,hG⟩:∃ G,G=w.heap.size:=⟨_,rfl⟩
 rw [← hG] at hmk b0
 have hdd:d * d<4294967296:=by have:=Nat.mul_lt_mul'' hd hd;omega
 have hdp:0<d * d:=Nat.mul_pos h0 h0
 have d1:w0.cell? ⟨g,0,none⟩=some (.int .u32 (d:Int)):=(u0.cell hg (by simp)).trans c1
 have d2:w0.cell? ⟨h,0,none⟩=some (.int .u32 (d:Int)):=(u0.cell hh (by simp)).trans c2
 have k0:w0.cell? ⟨G,0,none⟩=some (.int .u32 0):=b0.cell (j:=0) rfl
 have k1:w0.cell? ⟨G,1,none⟩=some (.int .u32 0):=b0.cell (j:=1) rfl
 have f0:=b0.frozen 0
 have f1:=b0.frozen 1
 obtain ⟨m,hm⟩:∃ m,m=d * d:=⟨_,rfl⟩
 have b2:WB ((w0.setCell ⟨G,0,none⟩ (.int .u32 (m:Int))).setCell ⟨G,1,none⟩ (.int .u32 0)) G [m,0]:=(b0.set 0 m).set 1 0
 have u2:Upd [] [] w ((w0.setCell ⟨G,0,none⟩ (.int .u32 (m:Int))).setCell ⟨G,1,none⟩ (.int .u32 0)):=(u0.setNew (p:=⟨G,0,none⟩) (by rw [hG];exact Nat.le_refl _) _).setNew (p:=⟨G,1,none⟩) (by rw [hG];exact Nat.le_refl _) _
 have hT:=pcq _ _ _ (b2.slice (by simp [maxLen])) (fun d hd=>by simp at hd;omega)
 rw [show valW [m,0]=m by simp [valW],pcr (by omega) (by omega)] at hT
 have HT:=Lib.hid hT
 have HU:=Lib.hid u2
 have hne1:g≠G:=by omega
 have hne2:h≠G:=by omega
 have m32:m<4294967296:=by omega
 have hmi:(d:Int) * (d:Int)=(m:Int):=by rw [hm];simp
 have a1:IntKind.u64.wrap (m:Int)=(m:Int):=by show (m:Int) % 18446744073709551616=_;omega
 have a2:IntKind.u32.wrap (m:Int)=(m:Int):=by show (m:Int) % 4294967296=_;omega
 have a3:(m:Int) / 4294967296=0:=by omega
 have a4:m / 4294967296=0:=by omega
 rw [← hm]
 clear hu hv c1 c2 hw0 u0 hT b2 u2 b0 hG hg hh hm hdd hdp
 go_enter Tryz.func33,Tryz.ntmps33
 go_wp2_with fail
 refine wp_loop_rounds 2 ?_
 rw [rounds_succ]
 go_wp2_with fail
 refine wp_loop_rounds 2 ?_
 rw [rounds_succ]
 go_wp2_with fail
 rw [rounds_succ]
 go_wp2_with fail
 rw [rounds_succ]
 go_wp2_with fail
 refine HT.out.mono ?_
 rintro e w1 ⟨v,HV,rfl,rfl⟩
 go_wp2_with fail
 go_ret
 exact ⟨v,HV,rfl,HU.out⟩
theorem plC (u v:Value) (d:Nat) (hd:d<65536) (w:World) (hu:Wd w u (dw d)) (hv:Wd w v (dw d)):Calls Tryz.prog 33 #[u,v] w (fun e w'=>∃ v',Hid (Wd w' v' (dw (d * d)))∧e=.returned v'∧Upd [] [] w w'):=by
 by_cases h0:d=0
 · subst h0
   rw [paW] at hu hv
   rw [show 0 * 0=0 from rfl,paW]
   exact pqt u v w hu hv
 · have hdd:d * d<4294967296:=by have:=Nat.mul_lt_mul'' hd hd;omega
   rw [pcr (by omega) (by omega)] at hu hv
   rw [pcr (Nat.mul_pos (by omega) (by omega)) hdd]
   exact mul_one u v d (by omega) hd w hu hv
theorem pey (s t:ByteArray) (d:Nat) (hs:bs s=be d) (ht:bs t=be d) (hd:d<65536) (w:World):Calls Tryz.prog 13 #[.string s,.string t] w (pdb (d * d) w):=by
 have z1:s.size≤1000000000:=by rw [paq hs];exact Nat.le_trans (paE 2 _ (Nat.lt_of_lt_of_le (by assumption) (by decide))) (by omega)
 have z2:t.size≤1000000000:=by rw [paq ht];exact Nat.le_trans (paE 2 _ (Nat.lt_of_lt_of_le (by assumption) (by decide))) (by omega)
 have HS:=pbe s w z1
 have HT:=Lib.hid (fun w'=>pbe t w' z2)
 rw [hs,paK] at HS
 simp only [ht,paK] at HT
 have HS:=Lib.hid HS
 clear hs ht z1 z2
 go_enter Tryz.func13,Tryz.ntmps13
 go_wp2_with fail
 refine HS.out.mono ?_
 rintro e w1 ⟨v,HV,rfl,hu1⟩
 have HU1:=Lib.hid hu1
 clear hu1 HS
 go_wp2_with fail
 refine (HT.out w1).mono ?_
 rintro e w2 ⟨u,HU,rfl,hu2⟩
 have HM:=Lib.hid (plC v u d hd w2 (HV.out.upd hu2) HU.out)
 have HU2:=Lib.hid (HU1.out.trans hu2)
 clear hu2 HT HU1 HV HU
 go_wp2_with fail
 refine HM.out.mono ?_
 rintro e w3 ⟨z,HZ,rfl,hu3⟩
 have hdd:d * d<4294967296:=by have:=Nat.mul_lt_mul'' hd hd;omega
 have HN:=paQ z (dw (d * d)) w3 HZ.out (poU _) (by by_cases h0:d * d=0;(· rw [h0,paW];simp);(· rw [pcr (by omega) hdd];simp))
 rw [pg6] at HN
 have HN:=Lib.hid HN
 have HU3:=Lib.hid (HU2.out.trans hu3)
 clear hu3 HM HU2 HZ hdd
 go_wp2_with fail
 refine HN.out.mono ?_
 rintro e w4 ⟨r,HR,rfl,hu4⟩
 have HU4:=Lib.hid (HU3.out.trans hu4)
 clear hu4 HN HU3
 go_wp2_with fail
 go_ret
 exact ⟨r,HR,rfl,HU4.out⟩
theorem piF {d:Nat} (hd:d<4294967296):(dw d).length≤1:=by
 by_cases h:d=0
 · rw [h,paW];exact Nat.zero_le _
 · rw [pcr (by omega) hd];exact Nat.le_refl _
theorem plD (s:ByteArray) (d:Nat) (hs:bs s=be d) (hd:d<4294967296) (w:World) :
 Calls Tryz.prog 230 #[.string s,.string ⟨#[138,0,176,218,162,135,68,214,164,195,198,36,84,110,75,89]⟩] w (fun e w'=>∃ q r:ByteArray,Hid (bs r=be d)∧e=.returned (.tuple #[.string q,.string r,.bool true])∧Upd [] [] w w'):=by
 have HM:=Lib.hid (pbe modB w (by decide))
 have z1:s.size≤1000000000:=by rw [paq hs];exact Nat.le_trans (paE 4 _ (Nat.lt_of_lt_of_le (by assumption) (by decide))) (by omega)
 have HS:=Lib.hid (fun w'=>pbe s w' z1)
 simp only [hs,paK] at HS
 have HLN:=Lib.hid (piF hd)
 have HDV:Hid (∀ (u v:Value) (w:World),Wd w u (dw d)→Wd w v (dw (natB (bs modB)))→Calls Tryz.prog 265 #[u,v] w (fun e w'=>e=.returned (.tuple #[.slice none 0 0,u])∧Upd [] [] w w')):=by
  intro u v w hu hv
  have HC:=Lib.hid (pdv u v _ _ w hu hv (by have:=pev pcc;have:=HLN.out;omega))
  clear hu hv
  go_enter Tryz.func265,Tryz.ntmps265
  go_wp2_with fail
  refine HC.out.mono ?_
  rintro e w1 ⟨rfl,hu⟩
  have HU:=Lib.hid hu
  clear hu
  go_wp2_with fail
  go_ret2
  exact ⟨rfl,HU.out⟩
 clear hs z1
 go_enter Tryz.func230,Tryz.ntmps230
 go_wp2_with fail
 refine HM.out.mono ?_
 rintro e w1 ⟨v,HV,rfl,hu1⟩
 obtain ⟨ao,cap,rfl,_,_⟩:=HV.out.form
 have hne:((((dw (natB (bs modB))).length:Nat):Int) == 0)=false:=by rw [beq_eq_false_iff_ne];have:=pev pcc;omega
 obtain ⟨L,hL⟩:∃ L,L=(dw (natB (bs modB))).length:=⟨_,rfl⟩
 rw [← hL] at hne HV ⊢
 have hne2:(L == 0)=false:=by rw [beq_eq_false_iff_ne,hL];have:=pev pcc;omega
 have hne3:¬ L=0:=by rw [hL];have:=pev pcc;omega
 have HU1:=Lib.hid hu1
 clear hu1 HM hL
 go_wp2_with fail
 refine (HS.out w1).mono ?_
 rintro e w2 ⟨u,HUU,rfl,hu2⟩
 have HD:=Lib.hid (HDV.out u _ w2 HUU.out (HV.out.upd hu2))
 have HU2:=Lib.hid (HU1.out.trans hu2)
 clear hu2 HS HU1 HDV HV hne hne2 hne3
 go_wp2_with fail
 refine HD.out.mono ?_
 rintro e w3 ⟨rfl,hu3⟩
 have HN0:=Lib.hid (paQ (.slice none 0 0) [] w3 (Wd.nil w3) pjs (by simp))
 have HN1:=Lib.hid (fun w' (q:Upd [] [] w3 w')=>paQ u (dw d) w' ((HUU.out.upd hu3).upd q) (poU _) (by have:=HLN.out;omega))
 have HU3:=Lib.hid (HU2.out.trans hu3)
 clear hu3 HD HU2 HUU
 go_wp2_with fail
 refine HN0.out.mono ?_
 rintro e w4 ⟨q,_,rfl,hu4⟩
 have HN:=HN1.out w4 hu4
 rw [pg6] at HN
 have HN:=Lib.hid HN
 have HU4:=Lib.hid (HU3.out.trans hu4)
 clear hu4 HN0 HN1 HU3
 go_wp2_with fail
 refine HN.out.mono ?_
 rintro e w5 ⟨r,HR,rfl,hu5⟩
 have HU5:=Lib.hid (HU4.out.trans hu5)
 clear hu5 HN HU4
 go_wp2_with fail
 go_ret3
 exact ⟨q,r,HR,rfl,HU5.out⟩
theorem pfB (s:ByteArray) (d:Nat) (hs:bs s=be d) (hd:d<4294967296) (w:World):Calls Tryz.prog 193 #[.string s] w (pdb d w):=by
 have HQ:=Lib.hid (plD s d hs hd w)
 clear hs
 go_enter Tryz.func193,Tryz.ntmps193
 go_wp2_with fail
 refine HQ.out.mono ?_
 rintro e w1 ⟨q,r,HR,rfl,hu⟩
 have HU:=Lib.hid hu
 clear hu HQ
 go_wp2_with fail
 go_ret
 exact ⟨r,HR,rfl,HU.out⟩
theorem piG (s:ByteArray) (d:Nat) (hs:bs s=be d) (hd:d<65536) (w:World):Calls Tryz.prog 150 #[.string s] w (pdb (d * d) w):=by
 have HQ:=Lib.hid (pfB s d hs (by omega) w)
 have HDD:Hid (d * d<4294967296):=by have:=Nat.mul_lt_mul'' hd hd;show _<_;omega
 clear hs
 go_enter Tryz.func150,Tryz.ntmps150
 go_wp2_with fail
 refine HQ.out.mono ?_
 rintro e w1 ⟨r,HR,rfl,hu⟩
 have HM:=Lib.hid (pey r r d HR.out HR.out hd w1)
 have HU:=Lib.hid hu
 clear hu HQ
 go_wp2_with fail
 refine HM.out.mono ?_
 rintro e w2 ⟨z,HZ,rfl,hu⟩
 have HT:=Lib.hid (pfB z (d * d) HZ.out HDD.out w2)
 have HU2:=Lib.hid (HU.out.trans hu)
 clear hu HM HU
 go_wp2_with fail
 refine HT.out.mono ?_
 rintro e w3 ⟨y,HY,rfl,hu⟩
 have HU3:=Lib.hid (HU2.out.trans hu)
 clear hu HT HU2
 go_wp2_with fail
 go_ret
 exact ⟨y,HY,rfl,HU3.out⟩
theorem prO (a b:Int) (x y z:ByteArray):(Tryz.prog.info? 61).map (·.size)=some (dspG a b x y z).size:=by show _=some 5;kernel_rfl
theorem prR (a b:Int) (x y z:ByteArray):(dspG a b x y z).all (·.oneCell')=true:=by simp [dspG,Value.oneCell']
section
variable {M : Array Value} {aw ar as' bw br bs' low high id pub : Int} {aT bT F A B : ByteArray}
set_option maxHeartbeats 4000000 in
theorem pfO (h:MtIs M aw aT ar as' bw bT br bs' low high F A B id pub) (x y:Nat) (h1:pab low) (hF:bs F=be x) (hA:bs A=be y) (hx:x<65536) (hy:y<4294967296) (w:World) :
 Calls Tryz.prog 97 #[.agg M] w (pcP (fun b=>b=true ↔ 0≤low∧low<1048576∧high=low+1∧x * x≠y) w):=by
 suffices HS:∀ P:Bool→Prop,Hid (∀ b,(b=true ↔ 0≤low∧low<1048576∧high=low+1∧x * x≠y)→P b)→Calls Tryz.prog 97 #[.agg M] w (pcP P w) from HS _ (fun _ h=>h)
 intro P HP
 obtain ⟨g,hg⟩:∃ g,w.heap.size=g:=⟨_,rfl⟩
 obtain ⟨w0,hw0⟩:∃ W,w.alloc (.cells M 103)=W:=⟨_,rfl⟩
 have r0:w0.heap[g]? =some (.cells M 103 (0,0)):=by rw [← hg,← hw0];exact heap_alloc_new _ _
 have HU0:=Lib.hid (show Upd [] [] w w0 by rw [← hw0];exact (Upd.refl _ _).alloc _)
 have HLD:Hid ((Instr.loadAt 61 (.pointer (some ⟨g,16,none⟩))).run Tryz.prog w0=.ok (.agg (dspG low high F A B)) w0):=by
  have q:=r0
  refine run_loadAt_mid w0 g 16 61 [.int .i64 low,.int .i64 high,.string F,.string A,.string B] _ (fun j v hv=>?_) Tryz.underlying61 rfl (by kernel_rfl)
  match j,hv with
  | 0,hv=>simp at hv;subst hv;exact (cell_of_row _ g 16 _ _ _ q).trans h.d0
  | 1,hv=>simp at hv;subst hv;exact (cell_of_row _ g 17 _ _ _ q).trans h.d1
  | 2,hv=>simp at hv;subst hv;exact (cell_of_row _ g 18 _ _ _ q).trans h.d2
  | 3,hv=>simp at hv;subst hv;exact (cell_of_row _ g 19 _ _ _ q).trans h.d3
  | 4,hv=>simp at hv;subst hv;exact (cell_of_row _ g 20 _ _ _ q).trans h.d4
 obtain ⟨w2,Z2,W2,R2,hq2⟩:=paC w0 61 #[.int .i64 0,.int .i64 0,.string ⟨#[]⟩,.string ⟨#[]⟩,.string ⟨#[]⟩] (dspG low high F A B)
 obtain ⟨gD,hgD⟩:∃ g,w0.heap.size=g:=⟨_,rfl⟩
 rw [hgD] at Z2 W2 R2
 have U2:=Lib.hid (HU0.out.trans hq2)
 have c0:w2.cell? ⟨gD,0,none⟩=some (.int .i64 low):=cell_of_row _ gD 0 _ _ _ R2.out
 have c1:w2.cell? ⟨gD,1,none⟩=some (.int .i64 high):=cell_of_row _ gD 1 _ _ _ R2.out
 have HK:Hid (∀ W,Upd [] [] w2 W→W.cell? ⟨gD,2,none⟩=some (.string F)∧W.cell? ⟨gD,3,none⟩=some (.string A)):=fun W u=>⟨cell_of_row _ gD 2 _ _ _ (paa R2.out u),cell_of_row _ gD 3 _ _ _ (paa R2.out u)⟩
 have HS:=Lib.hid (fun W=>piG F x hF hx W)
 have HC:=Lib.hid (fun (z:ByteArray) (hz:bs z=be (x * x)) W=>piE z A (x * x) y hz hA (by have:=Nat.mul_lt_mul'' hx hx;omega) hy W)
 obtain ⟨DV,hDV⟩:∃ DV,DV=dspG low high F A B:=⟨_,rfl⟩
 have HDI:Hid ((Tryz.prog.info? 61).map (·.size)=some DV.size):=by rw [hDV];exact prO _ _ _ _ _
 have HDO:Hid (DV.all (·.oneCell')=true):=by rw [hDV];exact prR _ _ _ _ _
 have HDZ:Hid ((#[.int .i64 0,.int .i64 0,.string ⟨#[]⟩,.string ⟨#[]⟩,.string ⟨#[]⟩]:Array Value).size=DV.size):=by rw [hDV];rfl
 rw [← hDV] at HLD W2
 have H1:=Lib.hid h1
 clear h r0 hF hA hDV hq2 R2 h1
 by_cases g1:low<0
 · skip
   go_enter Tryz.func97,Tryz.ntmps97
   go_wp2_with (first | (refine wpList_load_atW (by rfl) 61 _ rfl g 16 rfl DV HLD.out ?_) | (refine wpList_store_rowAs rfl 61 _ _ rfl gD DV rfl rfl _ _ Z2.out HDI.out HDZ.out HDO.out w2 W2.out ?_))
   go_ret
   exact ⟨false,HP.out _ ⟨(fun h=>by cases h),fun h=>absurd h.1 (by omega)⟩,rfl,U2.out⟩
 · by_cases g2:1048576≤low
   · skip
     go_enter Tryz.func97,Tryz.ntmps97
     go_wp2_with (first | (refine wpList_load_atW (by rfl) 61 _ rfl g 16 rfl DV HLD.out ?_) | (refine wpList_store_rowAs rfl 61 _ _ rfl gD DV rfl rfl _ _ Z2.out HDI.out HDZ.out HDO.out w2 W2.out ?_))
     go_ret
     exact ⟨false,HP.out _ ⟨(fun h=>by cases h),fun h=>absurd h.2.1 (by omega)⟩,rfl,U2.out⟩
   · have hwr:IntKind.i64.wrap (low+1)=low+1:=pap (by omega) (by omega)
     by_cases g3:high=low+1
     · have g4:(high != low+1)=false:=by rw [g3];simp
       subst g3
       go_enter Tryz.func97,Tryz.ntmps97
       go_upto_region 4 with (first | (refine wpList_load_atW (by rfl) 61 _ rfl g 16 rfl DV HLD.out ?_) | (refine wpList_store_rowAs rfl 61 _ _ rfl gD DV rfl rfl _ _ Z2.out HDI.out HDZ.out HDO.out w2 W2.out ?_))
       have ud0:Upd [] [] w2 w2.drew:=(Upd.refl _ _).drew
       refine wp_region_noPanic ?_
       refine wp_region_held_drew (S:=fun wp=>wp.cell? ⟨gD,2,none⟩=some (.string F)∧wp.cell? ⟨gD,3,none⟩=some (.string A)) (by kernel_rfl) ?_ (fun hHeld=>?_)
       · exact HK.out _ ud0
       refine tkY 0 hHeld ?_
       refine tkY 1 hHeld ?_
       refine tkY 3 hHeld ?_
       refine tkY 4 hHeld ?_
       refine tk1 2 fun K hK=>?_
       go_simp;refine (HS.out _).mono ?_;rintro e wv1 ⟨z,HZ,rfl,hq⟩;have ud1:=ud0.trans hq;clear hq;go_wp2_with fail
       refine tkK hK (HK.out _ ud1) fun hHeld=>?_
       clear hK K
       refine tk1 5 fun K hK=>?_
       go_simp;refine (HC.out z HZ.out _).mono ?_;rintro e wv2 ⟨rfl,hq⟩;have ud2:=ud1.trans hq;clear hq;go_wp2_with fail
       refine tkK hK (HK.out _ ud2) fun hHeld=>?_
       clear hK K
       refine tkY 6 hHeld ?_
       refine tkY 7 hHeld ?_
       refine wpAnyH_done (by kernel_rfl) ?_ _
       refine NoPanic.normal ?_
       go_wp2_with fail
       go_ret
       exact ⟨_,HP.out _ ⟨(fun h=>⟨by omega,by omega,by trivial,piC.1 (bne_iff_ne.1 h)⟩),fun h=>bne_iff_ne.2 (piC.2 h.2.2.2)⟩,rfl,U2.out.trans ud2⟩
     · have g4:(high != low+1)=true:=by rw [bne_iff_ne];exact g3
       go_enter Tryz.func97,Tryz.ntmps97
       go_wp2_with (first | (refine wpList_load_atW (by rfl) 61 _ rfl g 16 rfl DV HLD.out ?_) | (refine wpList_store_rowAs rfl 61 _ _ rfl gD DV rfl rfl _ _ Z2.out HDI.out HDZ.out HDO.out w2 W2.out ?_))
       go_ret
       exact ⟨false,HP.out _ ⟨(fun h=>by cases h),fun h=>absurd h.2.2.1 g3⟩,rfl,U2.out⟩
end
end Go.Proofs.YtheobkejohifaaaGreatDoor
