/- sortesref33.Case.Event and what follows. -/
import Derived.Test.YtmjlkkbbnkanpaaGreatDoorHAA
import Derived.Test.YtmjlkkbbnkanpaaGreatDoorHAS
import Derived.Test.YtmjlkkbbnkanpaaGreatDoorHAX
import Derived.Maps.OwnSet
import Derived.Test.YtmjlkkbbnkanpaaGreatDoorHAC
import Derived.Test.YtmjlkkbbnkanpaaGreatDoorHAO
import Derived.Test.YtmjlkkbbnkanpaaGreatDoorHAT
import Derived.Test.YtmjlkkbbnkanpaaGreatDoorHAP
import Derived.Test.YtmjlkkbbnkanpaaGreatDoorHAF
namespace Go.Proofs.YtmjlkkbbnkanpaaGreatDoor
open Go.RowKit
set_option maxRecDepth 100000
theorem manyN_le (l:List Int):1≤manyN l∧manyN l≤4:=by
 have:=nxtN_lt l 0 4 (by omega)
 unfold manyN
 omega
theorem secsOf_get {n k:Nat} (h:k<n):(secsOf n)[k]? =some (secN k):=by simp [secsOf,h]
theorem secN_lt (k:Nat):secN k<1152921504606845789:=keyN_lt _
theorem CaseRd.memb {l:List Int} {w:World} {L K P KM S C KS:Value} (h:CaseRd l w L K P KM S C KS) {k:Nat} (hk:k<manyN l):∃ g cap,L=.slice (some ⟨g,0,none⟩) (manyN l) cap∧g<w.heap.size∧w.cell? ⟨g,k * 3,none⟩=some (.int .i64 ((k+1:Nat):Int))∧w.cell? ⟨g,k * 3+2,none⟩=some (.int .i64 (gP (secN k):Int)):=by
 obtain ⟨ao,cap,e,h1,h2,h3⟩:=h.made.crew
 have hg:(wsN l (manyN l)).length=manyN l:=by simp [wsN]
 obtain ⟨x,hx⟩:∃ x,(wsN l (manyN l))[k]? =some x:=⟨_,List.getElem?_eq_getElem (by omega)⟩
 obtain ⟨g,ea,hgs,c0,c1,c2⟩:=h3 k _ (crewOf_get hx)
 rw [hg,ea] at e
 exact ⟨g,cap,e,hgs,c0,c2⟩
theorem CaseRd.sec {l:List Int} {w:World} {L K P KM S C KS:Value} (h:CaseRd l w L K P KM S C KS) {k:Nat} (hk:k<manyN l):∃ g cap,S=.slice (some ⟨g,0,none⟩) (manyN l) cap∧g<w.heap.size∧w.cell? ⟨g,k,none⟩=some (.int .i64 (secN k:Int)):=by
 obtain ⟨ao,cap,e,h1,h2,h3⟩:=h.made.secs
 have hl:(secsOf (manyN l)).length=manyN l:=by simp [secsOf]
 rcases h3 with h3 | ⟨b,eb,hb,hc⟩
 · omega
 · rw [hl,eb] at e
   exact ⟨b,cap,e,hb,hc k _ (secsOf_get hk)⟩
def EvG.from (e:EvG) (who:Int):EvG:={ e with h:=who }
theorem EvG.from_ok {e:EvG} (h:e.ok) {who:Int} (hw:i64in who):(e.from who).ok:=⟨h.1,h.2.1,hw,h.2.2.2.1,h.2.2.2.2.1,h.2.2.2.2.2.1,h.2.2.2.2.2.2⟩
theorem EvG.signed_ok {e:EvG} (h:e.ok) (x:Nat):(e.signed x).ok:=by
 have h1:gP (nonceN x e.text)<2305843009213691579:=gP_lt _
 have h2:sWith x (nonceN x e.text) e.text<1152921504606845789:=sWith_lt _ _ _
 exact ⟨h.1,h.2.1,h.2.2.1,h.2.2.2.1,h.2.2.2.2.1,h.2.2.2.2.2.1,by show i64in (_:Int);unfold i64in;simp only [EvG.signed];omega,by show i64in (_:Int);unfold i64in;simp only [EvG.signed];omega⟩
theorem EvG.set2 (e:EvG) (who:Int):(e.V.toArray).setIfInBounds 2 (.int .i64 who)=(e.from who).V.toArray:=by
 simp [EvG.V,EvG.from]
set_option maxHeartbeats 4000000 in
theorem event33_any (l:List Int) (L K P KM S C KS:Value) (w:World) (hC:CaseRd l w L K P KM S C KS) (k:Nat) (hk:k<manyN l) (ev:EvG) (he:ev.ok) (hxs:ev.x.size≤1000000) :
 Calls Tryz.prog 32 #[.agg (csV L K P KM S C KS),.int .i64 (k:Int),.agg ev.V.toArray] w (MkEvR ((ev.from ((k+1:Nat):Int)).signed (secN k)) w):=by
 have hk4:k<4:=by have:=manyN_le l;omega
 have hp:ev.p.length=32:=he.2.2.2.2.2.1
 obtain ⟨gm,mc,hL,hgm,hm0,_⟩:=hC.memb hk
 obtain ⟨gs,sc,hS,hgs,hs0⟩:=hC.sec hk
 obtain ⟨n,hn⟩:∃ n,n=manyN l:=⟨_,rfl⟩
 rw [← hn] at hL hS hk
 obtain ⟨id,hid⟩:∃ id:Int,id=((k+1:Nat):Int):=⟨_,rfl⟩
 rw [← hid] at hm0 ⊢
 have hidi:i64in id:=by unfold i64in;omega
 obtain ⟨CA,hCA⟩:∃ A,A=csV L K P KM S C KS:=⟨_,rfl⟩
 obtain ⟨EV,hEV⟩:∃ A,A=ev.V.toArray:=⟨_,rfl⟩
 obtain ⟨gC,hgC⟩:∃ g,w.heap.size=g:=⟨_,rfl⟩
 obtain ⟨w0,hw0⟩:∃ W,w.alloc (.cells CA 34)=W:=⟨_,rfl⟩
 have r0:w0.heap[gC]? =some (.cells CA 34 (0,0)):=by rw [← hgC,← hw0];exact heap_alloc_new _ _
 have u0:Upd [] [] w w0:=by rw [← hw0];exact (Upd.refl _ _).alloc _
 obtain ⟨gE,hgE⟩:∃ g,w0.heap.size=g:=⟨_,rfl⟩
 obtain ⟨w1,hw1⟩:∃ W,w0.alloc (.cells EV 66)=W:=⟨_,rfl⟩
 have r1:w1.heap[gE]? =some (.cells EV 66 (0,0)):=by rw [← hgE,← hw1];exact heap_alloc_new _ _
 have u1:Upd [] [] w0 w1:=by rw [← hw1];exact (Upd.refl _ _).alloc _
 obtain ⟨gR,hgR⟩:∃ g,w1.heap.size=g:=⟨_,rfl⟩
 obtain ⟨w2,hw2⟩:∃ W,w1.alloc (.cells #[.int .i64 0,.int .i64 0,.int .i64 0,.int .i64 0,.int .i64 0,.string ⟨#[]⟩,.int .u8 0,.int .u8 0,.int .u8 0,.int .u8 0,.int .u8 0,.int .u8 0,.int .u8 0,.int .u8 0,.int .u8 0,.int .u8 0,.int .u8 0,.int .u8 0,.int .u8 0,.int .u8 0,.int .u8 0,.int .u8 0,.int .u8 0,.int .u8 0,.int .u8 0,.int .u8 0,.int .u8 0,.int .u8 0,.int .u8 0,.int .u8 0,.int .u8 0,.int .u8 0,.int .u8 0,.int .u8 0,.int .u8 0,.int .u8 0,.int .u8 0,.int .u8 0,.int .i64 0,.int .i64 0] 66)=W:=⟨_,rfl⟩
 have r2:w2.heap[gR]? =some (.cells evZ.toArray 66 (0,0)):=by rw [← hgR,← hw2,zero_ev];exact heap_alloc_new _ _
 have u2:Upd [] [] w1 w2:=by rw [← hw2];exact (Upd.refl _ _).alloc _
 have lCE:gC<gE:=by rw [← hgE];exact blk_lt r0
 have lER:gE<gR:=by rw [← hgR];exact blk_lt r1
 have U2:Upd [] [] w w2:=(u0.trans u1).trans u2
 have C2:=row_updH r0 (u1.trans u2)
 have E2:=row_updH r1 u2
 have HG:Hid (w.heap.size=gC∧gC<gE∧gE<gR):=⟨hgC,lCE,lER⟩
 have HR2:=Lib.hid r2
 have cL:w2.cell? ⟨gC,0,none⟩=some (.slice (some ⟨gm,0,none⟩) n mc):=by rw [cell_of_row _ gC 0 _ _ _ C2,hCA,← hL];rfl
 have cM:w2.cell? ⟨gm,k * 3,none⟩=some (.int .i64 id):=(U2.cell (p:=⟨gm,k * 3,none⟩) hgm (by simp)).trans hm0
 have e2:w2.cell? ⟨gE,2,none⟩=some (.int .i64 ev.h):=by rw [cell_of_row _ gE 2 _ _ _ E2,hEV];rfl
 have f2:w2.frozen? ⟨gE,2,none⟩=false:=frozen_of_row _ _ _ _ _ E2
 obtain ⟨W3,hW3⟩:∃ W,w2.setCell ⟨gE,2,none⟩ (.int .i64 id)=W:=⟨_,rfl⟩
 obtain ⟨EX,hEX⟩:∃ E,E=(ev.from id).V.toArray:=⟨_,rfl⟩
 have E3:Hid (W3.heap[gE]? =some (.cells EX 66 (0,0))):=by
  show _=_
  rw [← hW3,heap_setCell_same _ _ _ _ _ _ E2,hEV,EvG.set2,hEX]
 have U3:Upd [] [] w W3:=by rw [← hW3];exact U2.setNew (p:=⟨gE,2,none⟩) (by show w.heap.size≤gE;omega) _
 have uS:Upd [gE] [gE] w2 W3:=by
  have h:=(Upd.setCellsIn (g:=gE) (S:=[gE]) (S':=[gE]) (by simp) [.int .i64 id] 2 _ (Upd.refl [gE] w2))
  rw [← hW3]
  exact h
 have R3:Hid (W3.heap[gR]? =some (.cells evZ.toArray 66 (0,0))):=(uS.block gR (blk_lt r2) (by simp;omega)).trans r2
 have C3:Hid (W3.heap[gC]? =some (.cells CA 34 (0,0))):=(uS.block gC (blk_lt C2) (by simp;omega)).trans C2
 have HU3:=Lib.hid U3
 have HW3:=Lib.hid hW3
 have i0:(0:Int)≤(k:Int):=by omega
 have i1:(k:Int)<(n:Int):=by omega
 have cS:∀ W,Upd [] [] W3 W→W.cell? ⟨gC,6,none⟩=some (.slice (some ⟨gs,0,none⟩) n sc)∧W.cell? ⟨gs,k,none⟩=some (.int .i64 (secN k:Int)):=fun W u=>by
  refine ⟨?_,(u.cell (p:=⟨gs,k,none⟩) (Nat.lt_of_lt_of_le hgs U3.size) (by simp)).trans ((U3.cell (p:=⟨gs,k,none⟩) hgs (by simp)).trans hs0)⟩
  rw [cell_of_row _ gC 6 _ _ _ (row_updH C3.out u),hCA,← hS]
  rfl
 obtain ⟨x,hx⟩:∃ x,x=secN k:=⟨_,rfl⟩
 have hxq:x<1152921504606845789:=by rw [hx];exact secN_lt k
 rw [← hx] at cS ⊢
 have HEI:Hid ((Tryz.prog.info? 66).map (·.size)=some EX.size):=by rw [hEX];exact EvG.info (e:=ev.from id) hp
 have HSG:Hid (∀ W,Calls Tryz.prog 77 #[.int .i64 (x:Int),.agg EX] W (MkEvR ((ev.from id).signed x) W)):=fun W=>by
  rw [hEX]
  exact sign30_any (ev.from id) (EvG.from_ok he hidi) hxs x hxq W
 have HK:Hid (∀ W,Upd [] [] W3 W→W.cell? ⟨gC,6,none⟩=some (.slice (some ⟨gs,0,none⟩) n sc)∧W.cell? ⟨gs,k,none⟩=some (.int .i64 (x:Int))∧(Instr.loadAt 66 (.pointer (some ⟨gE,0,none⟩))).run Tryz.prog W=.ok (.agg EX) W):=fun W u=>by
  obtain ⟨c1,c2⟩:=cS W u
  refine ⟨c1,c2,EvG.load (e:=ev.from id) hp hEX ?_⟩
  show W.heap[gE]? =_
  rw [← hEX]
  exact row_updH E3.out u
 have HK2:Hid (∀ W V,Upd [] [] W3 W→(W.setRow gR V).cell? ⟨gC,6,none⟩=some (.slice (some ⟨gs,0,none⟩) n sc)∧(W.setRow gR V).cell? ⟨gs,k,none⟩=some (.int .i64 (x:Int))∧(Instr.loadAt 66 (.pointer (some ⟨gE,0,none⟩))).run Tryz.prog (W.setRow gR V)=.ok (.agg EX) (W.setRow gR V)):=fun W V u=>by
  obtain ⟨c1,c2⟩:=cS W u
  have hb:∀ b,b≠gR→(W.setRow gR V).heap[b]? =W.heap[b]?:=fun b hb=>setRow_other _ _ _ _ hb
  refine ⟨(World.cell?_of_block (a:=⟨gC,6,none⟩) (hb gC (by omega))).trans c1,(World.cell?_of_block (a:=⟨gs,k,none⟩) (hb gs (by omega))).trans c2,EvG.load (e:=ev.from id) hp hEX ?_⟩
  show (W.setRow gR V).heap[gE]? =_
  rw [← hEX,hb gE (by omega)]
  exact row_updH E3.out u
 have HEL:Hid (EX.size=40):=by rw [hEX];exact EvG.V_len (e:=ev.from id) hp
 have HP:=Lib.hid hp
 rw [← hCA,← hEV]
 clear hCA hEV hEX hn hid hidi hx hxq hS hL cS r0 u0 r1 u1 r2 u2 U2 C2 E2 U3 uS hC he hxs hm0 hs0 hp hW3 hgs hgm hk hk4 lCE lER
 go_enter Tryz.func32,Tryz.ntmps32
 go_upto_region 2 with (fail)
 rw [HW3.out]
 have ud0:Upd [] [] W3 W3.drew:=(Upd.refl _ _).drew
 refine wp_region_noPanic ?_
 refine wp_region_held_drew (S:=fun wp=>wp.cell? ⟨gC,6,none⟩=some (.slice (some ⟨gs,0,none⟩) n sc)∧wp.cell? ⟨gs,k,none⟩=some (.int .i64 (x:Int))∧(Instr.loadAt 66 (.pointer (some ⟨gE,0,none⟩))).run Tryz.prog wp=.ok (.agg EX) wp) (by kernel_rfl) ?_ (fun hHeld=>?_)
 · exact HK.out _ ud0
 refine tkY 0 hHeld ?_
 refine tkY 1 hHeld ?_
 refine tkY 2 hHeld ?_
 refine tkY 3 hHeld ?_
 refine tkY 4 hHeld ?_
 refine tkL 5 hHeld EX (fun w hSw=>hSw.2.2) ?_
 refine tk1 6 fun K hK=>?_
 go_simp;refine (HSG.out _).mono ?_;rintro e wv1 ⟨EW,HEW,rfl,hq⟩;have ud1:=ud0.trans hq;clear hq;go_wp2_with fail
 refine tkK hK (HK.out _ ud1) fun hHeld=>?_
 clear hK K
 refine tk1 7 fun K hK=>?_
 rw [if_pos (by rfl)];refine wp_store_row 66 _ _ rfl gR EW rfl rfl _ _ (row_updH R3.out ud1) (by rw [HEW.out];exact EvG.info (e:=(ev.from id).signed x) HP.out) (by rw [HEW.out,evZ_len];exact (EvG.V_len (e:=(ev.from id).signed x) HP.out).symm) (by rw [HEW.out];exact EvG.one _) ?_
 refine tkK hK (HK2.out _ _ ud1) fun hHeld=>?_
 clear hK K
 refine wpAnyH_done (by kernel_rfl) ?_ _
 refine NoPanic.normal ?_
 go_wp2_with fail
 exact bodyPost_ret (results_cell_row rfl _ _ gR _ EW _ _ rfl (setRow_heap _ _ _ _ _ _ (row_updH R3.out ud1)) Tryz.underlying66 rfl (by rw [HEW.out];exact EvG.info (e:=(ev.from id).signed x) HP.out)) rfl ⟨EW,HEW,rfl,(HU3.out.trans ud1).setRowNew (by have:=HG.out;omega) _⟩
def supV (g:Nat):Array Value:=#[.slice (some ⟨g,0,none⟩) 1 1,.slice none 0 0,.slice none 0 0,.slice none 0 0,.int .i64 0,.int .i64 0]
theorem supInfo (g:Nat):(Tryz.prog.info? 30).map (·.size)=some (supV g).size:=by
 show _=some 6
 kernel_rfl
def MkThree (w:World) (e:Ending) (w':World):Prop :=
 ∃ (x p gM:Nat),Hid (x=keyN three)∧Hid (p=gP x)∧x<1152921504606845789∧p<2305843009213691579∧e=.returned (.tuple #[.agg (supV gM),.int .i64 (x:Int)])∧Hid (w'.heap[gM]? =some (.cells #[.int .i64 3,.int .i64 1,.int .i64 (p:Int)] 52 (0,0)))∧Upd [] [] w w'
set_option maxHeartbeats 2000000 in
theorem three_any (w:World) (htab:Tabs w):Calls Tryz.prog 11 #[] w (MkThree w):=by
 obtain ⟨g,hg⟩:∃ g,w.heap.size=g:=⟨_,rfl⟩
 obtain ⟨w0,hw0⟩:∃ W,w.alloc (.cells #[.slice none 0 0,.slice none 0 0,.slice none 0 0,.slice none 0 0,.int .i64 0,.int .i64 0] 30)=W:=⟨_,rfl⟩
 have r0:=Lib.hid (show w0.heap[g]? =some (.cells #[.slice none 0 0,.slice none 0 0,.slice none 0 0,.slice none 0 0,.int .i64 0,.int .i64 0] 30 (0,0)) by rw [← hg,← hw0];exact heap_alloc_new _ _)
 have u0:Upd [] [] w w0:=by rw [← hw0];exact (Upd.refl _ _).alloc _
 have HU0:=Lib.hid u0
 have HG:=Lib.hid hg
 clear u0
 go_enter Tryz.func11,Tryz.ntmps11
 go_wp2_with fail
 refine (key_any ⟨#[116,104,114,101,101]⟩ w0 (by decide) (htab.upd HU0.out)).mono ?_
 rintro e w1 ⟨x,p,HX,HP,hx,hp,rfl,hq⟩
 rw [show bs ⟨#[116,104,114,101,101]⟩=three from rfl] at HX HP
 have HPX:Hid (p=gP x):=by show _=_;rw [HP.out,HX.out]
 have r1:=Lib.hid (row_updH r0.out hq)
 have U1:=Lib.hid (HU0.out.trans hq)
 obtain ⟨gM,hgM⟩:∃ g,w1.heap.size=g:=⟨_,rfl⟩
 obtain ⟨w2,hw2⟩:∃ W,w1.alloc (.cells #[.int .i64 3,.int .i64 1,.int .i64 (p:Int)] 52)=W:=⟨_,rfl⟩
 have rM:w2.heap[gM]? =some (.cells #[.int .i64 3,.int .i64 1,.int .i64 (p:Int)] 52 (0,0)):=by rw [← hgM,← hw2];exact heap_alloc_new _ _
 have u2:Upd [] [] w1 w2:=by rw [← hw2];exact (Upd.refl _ _).alloc _
 have r2:=Lib.hid (row_updH r1.out u2)
 have hlt:g<gM:=by rw [← hgM];exact blk_lt r1.out
 obtain ⟨w3,hw3⟩:∃ W,w2.setRow g (supV gM)=W:=⟨_,rfl⟩
 have r3:(w2.setRow g (supV gM)).heap[g]? =some (.cells (supV gM) 30 (0,0)):=setRow_heap _ _ _ _ _ _ r2.out
 have rM3:(w2.setRow g (supV gM)).heap[gM]? =some (.cells #[.int .i64 3,.int .i64 1,.int .i64 (p:Int)] 52 (0,0)):=row_setRowO rM (by omega) _
 have U3:=(U1.out.trans u2).setRowNew (show w.heap.size≤g from Nat.le_of_eq HG.out) (supV gM)
 rw [hw3] at r3 rM3 U3
 have HW3:=Lib.hid hw3
 have R3:=Lib.hid r3
 have RM3:=Lib.hid rM3
 have HU3:=Lib.hid U3
 clear hq r0 r1 U1 rM u2 hw3 r3 rM3 U3 HP
 go_wp2_with (first | (refine wpList_store_rowAs rfl 30 _ _ rfl g (supV gM) rfl rfl _ _ r2.out (supInfo gM) rfl (by simp [supV,Value.oneCell']) w3 HW3.out ?_))
 refine bodyPost_ret (results_row_tmp rfl _ _ g _ (supV gM) _ _ rfl R3.out Tryz.underlying30 rfl (supInfo gM)) rfl ⟨x,p,gM,HX,HPX,hx,hp,rfl,RM3,HU3.out⟩
theorem ballot_no (c:UInt8) (hc:c≠32) (T:ByteArray) (hT:bs T=tOf c) (w:World) (htab:Tabs w):Calls Tryz.prog 144 #[.string T] w (Mk (.tuple #[.string ⟨#[]⟩,.bool false]) w):=by
 obtain ⟨m,hm⟩:=htab.m
 have hts:T.size=84:=by rw [← bs_length,hT,tOf_len]
 have HS:Hid (Calls Tryz.prog 188 #[.string T,.string ⟨#[32]⟩] w (fun e w'=>∃ g,e=.returned (.slice (some ⟨g,0,none⟩) 8 8)∧Upd [] [] w w')):=by
  refine (Tryz.strings_Split T ⟨#[32]⟩ m w (by omega) hm (by decide)).mono ?_
  rintro e w' ⟨rfl,rfl⟩
  rw [tOf_count hc hT]
  exact ⟨_,rfl,(Upd.refl _ _).alloc _⟩
 clear hm hts
 go_enter Tryz.func144,Tryz.ntmps144
 go_wp2_with fail
 refine HS.out.mono ?_
 rintro e w1 ⟨g,rfl,hq⟩
 have HU:=Lib.hid hq
 clear hq HS
 go_wp2_with fail
 go_ret2
 exact ⟨rfl,HU.out⟩
theorem contra_same (T:ByteArray) (w:World):Calls Tryz.prog 86 #[.string T,.string T] w (Mk (.bool false) w):=by
 go_enter Tryz.func86,Tryz.ntmps86
 go_wp2_with fail
 go_ret
 exact ⟨rfl,Upd.refl _ _⟩
set_option maxHeartbeats 4000000 in
theorem contra_two (T U:ByteArray) (hT:bs T=tOf 97) (hU:bs U=tOf 98) (w:World) (htab:Tabs w):Calls Tryz.prog 86 #[.string T,.string U] w (Mk (.bool true) w):=by
 obtain ⟨EV,hEV⟩:∃ EV,EV=(evV 97 0 0).toArray:=⟨_,rfl⟩
 obtain ⟨EW,hEW⟩:∃ EW,EW=(evV 98 0 0).toArray:=⟨_,rfl⟩
 have HEVI:Hid ((Tryz.prog.info? 66).map (·.size)=some EV.size):=by rw [hEV];exact evInfo _ 0 0
 have HEVO:Hid (EV.all (·.oneCell')=true):=by rw [hEV];exact evOne _ 0 0
 have HEVZ:Hid ((#[.int .i64 0,.int .i64 0,.int .i64 0,.int .i64 0,.int .i64 0,.string ⟨#[]⟩,.int .u8 0,.int .u8 0,.int .u8 0,.int .u8 0,.int .u8 0,.int .u8 0,.int .u8 0,.int .u8 0,.int .u8 0,.int .u8 0,.int .u8 0,.int .u8 0,.int .u8 0,.int .u8 0,.int .u8 0,.int .u8 0,.int .u8 0,.int .u8 0,.int .u8 0,.int .u8 0,.int .u8 0,.int .u8 0,.int .u8 0,.int .u8 0,.int .u8 0,.int .u8 0,.int .u8 0,.int .u8 0,.int .u8 0,.int .u8 0,.int .u8 0,.int .u8 0,.int .i64 0,.int .i64 0]:Array Value).size=EV.size):=by show _=_;rw [hEV,zero_ev,evZ_len];exact (evV_len _ 0 0).symm
 have HEWI:Hid ((Tryz.prog.info? 66).map (·.size)=some EW.size):=by rw [hEW];exact evInfo _ 0 0
 have HEWO:Hid (EW.all (·.oneCell')=true):=by rw [hEW];exact evOne _ 0 0
 have HEWZ:Hid ((#[.int .i64 0,.int .i64 0,.int .i64 0,.int .i64 0,.int .i64 0,.string ⟨#[]⟩,.int .u8 0,.int .u8 0,.int .u8 0,.int .u8 0,.int .u8 0,.int .u8 0,.int .u8 0,.int .u8 0,.int .u8 0,.int .u8 0,.int .u8 0,.int .u8 0,.int .u8 0,.int .u8 0,.int .u8 0,.int .u8 0,.int .u8 0,.int .u8 0,.int .u8 0,.int .u8 0,.int .u8 0,.int .u8 0,.int .u8 0,.int .u8 0,.int .u8 0,.int .u8 0,.int .u8 0,.int .u8 0,.int .u8 0,.int .u8 0,.int .u8 0,.int .u8 0,.int .i64 0,.int .i64 0]:Array Value).size=EW.size):=by show _=_;rw [hEW,zero_ev,evZ_len];exact (evV_len _ 0 0).symm
 have hne:(T.toList == U.toList)=false:=by
  rw [beq_eq_false_iff_ne,ByteArray.toList_eq,ByteArray.toList_eq]
  intro e
  have e':bs T=bs U:=e
  rw [hT,hU] at e'
  have:=List.append_cancel_left e'
  simp at this
 have HB1:=Lib.hid (ballot_no 97 (by decide) T hT w htab)
 have HB2:=Lib.hid (fun W (u:Upd [] [] w W)=>ballot_no 98 (by decide) U hU W (htab.upd u))
 have HE1:=Lib.hid (fun W (u:Upd [] [] w W)=>event_any 97 T hT W (htab.upd u))
 have HE2:=Lib.hid (fun W (u:Upd [] [] w W)=>event_any 98 U hU W (htab.upd u))
 rw [← hEV] at HE1
 rw [← hEW] at HE2
 have c0:EV[0]? =some (.int .i64 5):=by rw [hEV];rfl
 have d0:EW[0]? =some (.int .i64 5):=by rw [hEW];rfl
 have HC:=Lib.hid (And.intro c0 d0)
 clear hT hU hEV hEW c0 d0
 go_enter Tryz.func86,Tryz.ntmps86
 go_wp2_with fail
 refine HB1.out.mono ?_
 rintro e w1 ⟨rfl,hq⟩
 have U1:=Lib.hid hq
 clear hq HB1
 go_wp2_with fail
 refine (HB2.out w1 U1.out).mono ?_
 rintro e w2 ⟨rfl,hq⟩
 have U2:=Lib.hid (U1.out.trans hq)
 clear hq HB2 U1
 go_wp2_with fail
 refine (HE1.out w2 U2.out).mono ?_
 rintro e w3 ⟨rfl,hq⟩
 have U3:=Lib.hid (U2.out.trans hq)
 clear hq HE1 U2
 obtain ⟨w4,Z4,W4,R4,hq4⟩:=blk_new w3 66 #[.int .i64 0,.int .i64 0,.int .i64 0,.int .i64 0,.int .i64 0,.string ⟨#[]⟩,.int .u8 0,.int .u8 0,.int .u8 0,.int .u8 0,.int .u8 0,.int .u8 0,.int .u8 0,.int .u8 0,.int .u8 0,.int .u8 0,.int .u8 0,.int .u8 0,.int .u8 0,.int .u8 0,.int .u8 0,.int .u8 0,.int .u8 0,.int .u8 0,.int .u8 0,.int .u8 0,.int .u8 0,.int .u8 0,.int .u8 0,.int .u8 0,.int .u8 0,.int .u8 0,.int .u8 0,.int .u8 0,.int .u8 0,.int .u8 0,.int .u8 0,.int .u8 0,.int .i64 0,.int .i64 0] EV
 obtain ⟨gA,hgA⟩:∃ g,w3.heap.size=g:=⟨_,rfl⟩
 rw [hgA] at Z4 W4 R4
 have U4:=Lib.hid (U3.out.trans hq4)
 have hl4:gA<w4.heap.size:=blk_lt R4.out
 clear hq4 U3
 go_wp2_with (first | (refine wpList_store_rowAs rfl 66 _ _ rfl gA EV rfl rfl _ _ Z4.out HEVI.out HEVZ.out HEVO.out w4 W4.out ?_))
 refine (HE2.out w4 U4.out).mono ?_
 rintro e w5 ⟨rfl,hq⟩
 have R5:=Lib.hid (row_updH R4.out hq)
 have U5:=Lib.hid (U4.out.trans hq)
 have hl5:gA<w5.heap.size:=Nat.lt_of_lt_of_le hl4 hq.size
 clear hq HE2 U4 R4 Z4 W4
 obtain ⟨w6,Z6,W6,R6,hq6⟩:=blk_new w5 66 #[.int .i64 0,.int .i64 0,.int .i64 0,.int .i64 0,.int .i64 0,.string ⟨#[]⟩,.int .u8 0,.int .u8 0,.int .u8 0,.int .u8 0,.int .u8 0,.int .u8 0,.int .u8 0,.int .u8 0,.int .u8 0,.int .u8 0,.int .u8 0,.int .u8 0,.int .u8 0,.int .u8 0,.int .u8 0,.int .u8 0,.int .u8 0,.int .u8 0,.int .u8 0,.int .u8 0,.int .u8 0,.int .u8 0,.int .u8 0,.int .u8 0,.int .u8 0,.int .u8 0,.int .u8 0,.int .u8 0,.int .u8 0,.int .u8 0,.int .u8 0,.int .u8 0,.int .i64 0,.int .i64 0] EW
 obtain ⟨gB,hgB⟩:∃ g,w5.heap.size=g:=⟨_,rfl⟩
 rw [hgB] at Z6 W6 R6
 have cA:w6.cell? ⟨gA,0,none⟩=some (.int .i64 5):=(cell_of_row _ gA 0 _ _ _ (row_updH R5.out hq6)).trans HC.out.1
 have cB:w6.cell? ⟨gB,0,none⟩=some (.int .i64 5):=(cell_of_row _ gB 0 _ _ _ R6.out).trans HC.out.2
 have U6:=Lib.hid (U5.out.trans hq6)
 clear hq6 U5 R5 R6 HC
 go_wp2_with (first | (refine wpList_store_rowAs rfl 66 _ _ rfl gB EW rfl rfl _ _ Z6.out HEWI.out HEWZ.out HEWO.out w6 W6.out ?_))
 go_ret
 exact ⟨rfl,U6.out⟩
end Go.Proofs.YtmjlkkbbnkanpaaGreatDoor

namespace Go.Proofs.YtmjlkkbbnkanpaaGreatDoor
open Go.Maps
set_option maxRecDepth 100000
def RV (v:Value):Option (DataW Value × List MemPlace):=some (.held v,[])
def MapF (w:World) (b n:Nat) (f:Int→Option Value):Prop :=
 ∃ D:DataW Value,w.ownsMap Tryz.prog 3 RV b n D∧IsMap D∧∀ x:Int,Maps.has D (.int .i64 x)=(f x).isSome∧∀ v,f x=some v→∀ z,D.atKey (.int .i64 x) z=.held v
theorem keyI:Keyed Tryz.prog 3:=int_keyed Tryz.underlying3
theorem keyI_mk {x:Int} (hx:-9223372036854775808≤x∧x≤9223372036854775807):keyOf Tryz.prog 3 (.int .i64 x)=some (.int .i64 x):=keyOf_int_mk Tryz.underlying3 (WalkArith.wf_i64 hx)
theorem MapF.made (w:World):MapF (w.alloc (.map #[] 0)) w.heap.size 0 (fun _=>none) :=
 ⟨.map [],World.ownsMap_made _ _ _ _,isMap_empty,fun _=>⟨rfl,fun _ h=>by cases h⟩⟩
theorem MapF.lt {w:World} {b n:Nat} {f:Int→Option Value} (h:MapF w b n f):b<w.heap.size:=by
 obtain ⟨D,ho,_⟩:=h
 exact ho.lt
theorem MapF.upd {w w':World} {S S':List Nat} {b n:Nat} {f:Int→Option Value} (h:MapF w b n f) (u:Upd S S' w w') (hb:b ∉ S):MapF w' b n f:=by
 have hlt:=h.lt
 obtain ⟨D,⟨es,clock,hg,F,hs,hD⟩,hm,hf⟩:=h
 exact ⟨D,⟨es,clock,(u.block b hlt hb).trans hg,F,hs,hD⟩,hm,hf⟩
theorem MapF.look_ok {w:World} {b n:Nat} {f:Int→Option Value} {t e:TypeId} {x:Int} {z:Value} (h:MapF w b n f) (ht:Tryz.prog.underlying t=some (.map 3 e)) (hz:(zeroValue e).run Tryz.prog w=.ok z w) (hx:-9223372036854775808≤x∧x≤9223372036854775807) :
 (Instr.lookup t (.map (some b)) (.int .i64 x) true).run Tryz.prog w=.ok (.tuple #[(f x).getD z,.bool (f x).isSome]) w:=by
 obtain ⟨D,ho,_,hf⟩:=h
 obtain ⟨v,ps,hrun,hv⟩:=ho.look_ok keyI ht hz (zd:=.held z) (zp:=[]) rfl (keyI_mk hx)
 obtain ⟨h1,h2⟩:=hf x
 rw [hrun,h1]
 unfold RV at hv
 cases hfx:f x with
 | none =>
  rw [hfx] at h1
  rw [atKey_of_not_has h1] at hv
  cases hv
  rfl
 | some y =>
  rw [h2 y hfx] at hv
  cases hv
  rfl
theorem MapF.put {w:World} {b n:Nat} {f:Int→Option Value} {t e:TypeId} {x:Int} {v:Value} (h:MapF w b n f) (ht:Tryz.prog.underlying t=some (.map 3 e)) (hn:n<maxLen) (hx:-9223372036854775808≤x∧x≤9223372036854775807) :
 ∃ w',(Instr.mapUpdate t (.map (some b)) (.int .i64 x) v).run Tryz.prog w=.ok () w'∧MapF w' b (n+1) (fun y=>if y=x then some v else f y)∧Upd [b] [b] w w':=by
 obtain ⟨D,ho,hm,hf⟩:=h
 obtain ⟨w',hrun,ho',hg⟩:=ho.update keyI ht hn (d:=.held v) (ps:=[]) (keyI_mk hx) rfl
 refine ⟨w',hrun,⟨_,ho',hm.put _ _,fun y=>?_⟩,⟨hg.os,hg.tape,hg.output,hg.size,fun k hk hne=>hg.block k hk (fun e=>hne (by cases e;exact List.mem_cons_self)),fun k hk=>.inl hk⟩⟩
 show has _ _=(if y=x then some v else f y).isSome∧∀ v',(if y=x then some v else f y)=some v'→_
 by_cases hy:y=x
 · subst hy
   rw [if_pos rfl]
   exact ⟨has_put_same (k:=.int .i64 y) hm trivial _,fun v' hv' z=>by cases hv';exact atKey_put_same (k:=.int .i64 y) hm trivial _ _⟩
 · rw [if_neg hy]
   have hne:(Lit.int .i64 y)≠Lit.int .i64 x:=fun e=>hy (by cases e;rfl)
   exact ⟨(has_put_other hne _).trans (hf y).1,fun v' hv' z=>(atKey_put_other hne _ _).trans ((hf y).2 v' hv' z)⟩
end Go.Proofs.YtmjlkkbbnkanpaaGreatDoor

namespace Go.Proofs.YtmjlkkbbnkanpaaGreatDoor
open Go.RowKit
set_option maxRecDepth 100000
theorem wpList_ins_F (w:World) {ops:Array Oper} {rest:List Oper} {o:Oper} {a:Act} {Q:Exit→Act→World→Prop}
 (hg:o.guard=none) (m x v:Operand) (t:TypeId) (hop:o.op=Op.insert t m x v) (e:TypeId) (ht:Tryz.prog.underlying t=some (.map 3 e)) (b n:Nat) (f:Int→Option Value)
 (hm:a.eval m=.map (some b)) (h:MapF w b n f) (hn:n<maxLen) (key:Int) (val:Value) (hx:a.eval x=.int .i64 key) (hv:a.eval v=val) (hk:-9223372036854775808≤key∧key≤9223372036854775807)
 (hK:∀ w',MapF w' b (n+1) (fun y=>if y=key then some val else f y)→Upd [b] [b] w w'→wpList Tryz.prog ops Q rest (a.put o.dst undef) w') :
 wpList Tryz.prog ops Q (o :: rest) a w:=by
 refine wpList_plain hg fun K' hK'=>?_
 obtain ⟨w',hrun,r1,r2⟩:=h.put (x:=key) (v:=val) ht hn hk
 unfold Oper.wp
 simp [execOp,hop,hm,hx,hv,hrun,Result.andThen]
 exact hK' _ _ (hK w' r1 r2)
theorem Upd.ownAtN {B:Nat} {a b c:World} (h:Upd [] [] a b) (k:Upd [B] [B] b c) (hB:a.heap.size≤B):Upd [] [] a c :=
 ⟨k.os.trans h.os,k.tape.trans h.tape,k.output.trans h.output,Nat.le_trans h.size k.size,fun i hi _=>(k.block i (Nat.lt_of_lt_of_le hi h.size) (by simp;omega)).trans (h.block i hi (by simp)),fun _ hk=>absurd hk (by simp)⟩
def fnV (n:Nat):Value:=.func (.func n) #[] #[]
def crtV (k:Bool) (f g p:Nat):Value:=.agg #[.bool k,fnV f,fnV g,fnV p]
def crtF (y:Int):Option Value :=
 if y=7 then some (crtV true 95 96 98) else
 if y=6 then some (crtV true 95 96 97) else
 if y=5 then some (crtV false 93 82 94) else
 if y=4 then some (crtV false 91 84 92) else
 if y=3 then some (crtV false 89 82 90) else
 if y=2 then some (crtV false 87 82 88) else
 if y=1 then some (crtV false 81 84 85) else none
theorem undC:Tryz.prog.underlying 101=some (.map 3 99):=by kernel_rfl
theorem zeroC (w:World):(zeroValue 99).run Tryz.prog w=.ok (.agg #[.bool false,.nilFunc,.nilFunc,.nilFunc]) w:=by kernel_rfl
set_option maxHeartbeats 4000000 in
theorem courts_any (w:World):Calls Tryz.prog 42 #[] w (fun e w'=>∃ b,e=.returned (.map (some b))∧Hid (MapF w' b 7 crtF)∧Upd [] [] w w'):=by
 have hF0:=MapF.made w
 have u0:Upd [] [] w (w.alloc (.map #[] 0)):=(Upd.refl _ _).alloc _
 have HU0:=Lib.hid u0
 have hmm:=@run_makeMap Tryz.prog
 clear u0
 go_enter Tryz.func42,Tryz.ntmps42
 go_upto_region 4 with (fail)
 go_wp2_with (first | (refine wpList_ins_F _ rfl _ _ _ 101 rfl _ undC w.heap.size 0 _ rfl hF0 (by unfold maxLen;omega) _ _ rfl rfl (by omega) ?_;intro w1 hF1 hU1) | (refine wpList_ins_F _ rfl _ _ _ 101 rfl _ undC w.heap.size 1 _ rfl hF1 (by unfold maxLen;omega) _ _ rfl rfl (by omega) ?_;intro w2 hF2 hU2) | (refine wpList_ins_F _ rfl _ _ _ 101 rfl _ undC w.heap.size 2 _ rfl hF2 (by unfold maxLen;omega) _ _ rfl rfl (by omega) ?_;intro w3 hF3 hU3) | (refine wpList_ins_F _ rfl _ _ _ 101 rfl _ undC w.heap.size 3 _ rfl hF3 (by unfold maxLen;omega) _ _ rfl rfl (by omega) ?_;intro w4 hF4 hU4) | (refine wpList_ins_F _ rfl _ _ _ 101 rfl _ undC w.heap.size 4 _ rfl hF4 (by unfold maxLen;omega) _ _ rfl rfl (by omega) ?_;intro w5 hF5 hU5) | (refine wpList_ins_F _ rfl _ _ _ 101 rfl _ undC w.heap.size 5 _ rfl hF5 (by unfold maxLen;omega) _ _ rfl rfl (by omega) ?_;intro w6 hF6 hU6) | (refine wpList_ins_F _ rfl _ _ _ 101 rfl _ undC w.heap.size 6 _ rfl hF6 (by unfold maxLen;omega) _ _ rfl rfl (by omega) ?_;intro w7 hF7 hU7))
 go_ret
 refine ⟨_,rfl,?_,?_⟩
 · exact hF7
 · exact ((((((HU0.out.ownAtN hU1 (Nat.le_refl _)).ownAtN hU2 (Nat.le_refl _)).ownAtN hU3 (Nat.le_refl _)).ownAtN hU4 (Nat.le_refl _)).ownAtN hU5 (Nat.le_refl _)).ownAtN hU6 (Nat.le_refl _)).ownAtN hU7 (Nat.le_refl _)
def evdL (kind who aw:Int) (aT:ByteArray) (ar as' bw:Int) (bT:ByteArray) (br bs' low high:Int) (F A B:ByteArray):List Value :=
 [.int .i64 kind,.int .i64 who,.int .i64 aw,.string aT,.int .i64 ar,.int .i64 as',.int .i64 bw,.string bT,.int .i64 br,.int .i64 bs',.int .i64 low,.int .i64 high,.string F,.string A,.string B,.int .i64 0,.int .i64 0,.int .i64 0,.int .i64 0]
def mtL (m1 m2 m3 m4:Value) (kind who aw:Int) (aT:ByteArray) (ar as' bw:Int) (bT:ByteArray) (br bs' low high:Int) (F A B:ByteArray) (id wt pub:Int):List Value :=
 [m1,m2,m3,m4,.int .i64 0,.int .i64 0,.int .i64 kind,.int .i64 who,.int .i64 aw,.string aT,.int .i64 ar,.int .i64 as',.int .i64 bw,.string bT,.int .i64 br,.int .i64 bs',.int .i64 low,.int .i64 high,.string F,.string A,.string B,.int .i64 0,.int .i64 0,.int .i64 0,.int .i64 0,.int .i64 0,.int .i64 id,.int .i64 wt,.int .i64 pub]
structure MtIs (M:Array Value) (aw:Int) (aT:ByteArray) (ar as' bw:Int) (bT:ByteArray) (br bs' low high:Int) (F A B:ByteArray) (id pub:Int):Prop where
 sz:M.size=29
 a0:M[8]? =some (.int .i64 aw)
 a1:M[9]? =some (.string aT)
 a2:M[10]? =some (.int .i64 ar)
 a3:M[11]? =some (.int .i64 as')
 b0:M[12]? =some (.int .i64 bw)
 b1:M[13]? =some (.string bT)
 b2:M[14]? =some (.int .i64 br)
 b3:M[15]? =some (.int .i64 bs')
 d0:M[16]? =some (.int .i64 low)
 d1:M[17]? =some (.int .i64 high)
 d2:M[18]? =some (.string F)
 d3:M[19]? =some (.string A)
 d4:M[20]? =some (.string B)
 i:M[26]? =some (.int .i64 id)
 p:M[28]? =some (.int .i64 pub)
theorem MtIs.of (m1 m2 m3 m4:Value) (kind who aw:Int) (aT:ByteArray) (ar as' bw:Int) (bT:ByteArray) (br bs' low high:Int) (F A B:ByteArray) (id wt pub:Int) :
 MtIs (mtL m1 m2 m3 m4 kind who aw aT ar as' bw bT br bs' low high F A B id wt pub).toArray aw aT ar as' bw bT br bs' low high F A B id pub :=
 ⟨rfl,rfl,rfl,rfl,rfl,rfl,rfl,rfl,rfl,rfl,rfl,rfl,rfl,rfl,rfl,rfl⟩
theorem mtInfo {M:Array Value} (h:M.size=29):(Tryz.prog.info? 106).map (·.size)=some M.size:=by
 rw [h]
 kernel_rfl
section
variable {M : Array Value} {aw ar as' bw br bs' low high id pub : Int} {aT bT F A B : ByteArray}
set_option maxHeartbeats 2000000 in
theorem theirs_any (h:MtIs M aw aT ar as' bw bT br bs' low high F A B id pub) (vw vr vs:Int) (vT:ByteArray) (hp:i64in pub) (hr:i64in vr) (hs:i64in vs) (ht:vT.size≤140737488355000) (w:World) (htab:Tabs w) :
 Calls Tryz.prog 83 #[.agg M,.agg #[.int .i64 vw,.string vT,.int .i64 vr,.int .i64 vs]] w (MkB (decide (vw=id) && verB pub (bs vT) vr vs) w):=by
 obtain ⟨g,hg⟩:∃ g,w.heap.size=g:=⟨_,rfl⟩
 obtain ⟨w0,hw0⟩:∃ W,w.alloc (.cells M 106)=W:=⟨_,rfl⟩
 have r0:w0.heap[g]? =some (.cells M 106 (0,0)):=by rw [← hg,← hw0];exact heap_alloc_new _ _
 have u0:Upd [] [] w w0:=by rw [← hw0];exact (Upd.refl _ _).alloc _
 obtain ⟨gV,hgV⟩:∃ g,w0.heap.size=g:=⟨_,rfl⟩
 obtain ⟨w1,hw1⟩:∃ W,w0.alloc (.cells #[.int .i64 vw,.string vT,.int .i64 vr,.int .i64 vs] 39)=W:=⟨_,rfl⟩
 have r1:w1.heap[gV]? =some (.cells #[.int .i64 vw,.string vT,.int .i64 vr,.int .i64 vs] 39 (0,0)):=by rw [← hgV,← hw1];exact heap_alloc_new _ _
 have u1:Upd [] [] w0 w1:=by rw [← hw1];exact (Upd.refl _ _).alloc _
 have U1:=Lib.hid (u0.trans u1)
 have q0:=row_updH r0 u1
 have cI:=(cell_of_row _ g 26 _ _ _ q0).trans h.i
 have cP:=(cell_of_row _ g 28 _ _ _ q0).trans h.p
 have c0:=(cell_of_row _ gV 0 _ _ _ r1).trans (show _=some (Value.int .i64 vw) from rfl)
 have c1:=(cell_of_row _ gV 1 _ _ _ r1).trans (show _=some (Value.string vT) from rfl)
 have c2:=(cell_of_row _ gV 2 _ _ _ r1).trans (show _=some (Value.int .i64 vr) from rfl)
 have c3:=(cell_of_row _ gV 3 _ _ _ r1).trans (show _=some (Value.int .i64 vs) from rfl)
 have HV:=Lib.hid (verify_any pub vT vr vs w1 hp hr hs ht (htab.upd U1.out))
 clear h r0 u0 r1 u1 q0 hp hr hs ht
 by_cases hid':vw=id
 · have hb:(vw == id)=true:=by rw [beq_iff_eq];exact hid'
   have HD:Hid (decide (vw=id)=true):=decide_eq_true hid'
   clear hid'
   go_enter Tryz.func83,Tryz.ntmps83
   go_wp2_with fail
   refine HV.out.mono ?_
   rintro e w2 ⟨b,HB,rfl,hq⟩
   have U2:=Lib.hid (U1.out.trans hq)
   clear hq HV
   go_wp2_with fail
   go_ret
   exact ⟨b,by show _=_;rw [HB.out,HD.out,Bool.true_and],rfl,U2.out⟩
 · have hb:(vw == id)=false:=by rw [beq_eq_false_iff_ne];exact hid'
   have HD:Hid (decide (vw=id)=false):=decide_eq_false hid'
   go_enter Tryz.func83,Tryz.ntmps83
   go_wp2_with fail
   go_ret
   exact ⟨false,by show _=_;rw [HD.out,Bool.false_and],rfl,U1.out⟩
theorem pass_any (w:World):Calls Tryz.prog 81 #[.agg M] w (Mk (.bool true) w):=by
 go_enter Tryz.func81,Tryz.ntmps81
 go_wp2_with fail
 go_ret
 exact ⟨rfl,(Upd.refl _ _).alloc _⟩
set_option maxHeartbeats 2000000 in
theorem one_any (h:MtIs M aw aT ar as' bw bT br bs' low high F A B id pub) (hp:i64in pub) (hr:i64in ar) (hs:i64in as') (ht:aT.size≤140737488355000) (w:World) (htab:Tabs w) :
 Calls Tryz.prog 82 #[.agg M] w (MkB (decide (aw=id) && verB pub (bs aT) ar as') w):=by
 obtain ⟨g,hg⟩:∃ g,w.heap.size=g:=⟨_,rfl⟩
 obtain ⟨w0,hw0⟩:∃ W,w.alloc (.cells M 106)=W:=⟨_,rfl⟩
 have r0:=Lib.hid (show w0.heap[g]? =some (.cells M 106 (0,0)) by rw [← hg,← hw0];exact heap_alloc_new _ _)
 have u0:=Lib.hid (show Upd [] [] w w0 by rw [← hw0];exact (Upd.refl _ _).alloc _)
 have c0:=(cell_of_row _ g 8 _ _ _ r0.out).trans h.a0
 have c1:=(cell_of_row _ g 9 _ _ _ r0.out).trans h.a1
 have c2:=(cell_of_row _ g 10 _ _ _ r0.out).trans h.a2
 have c3:=(cell_of_row _ g 11 _ _ _ r0.out).trans h.a3
 have HT:=Lib.hid (theirs_any h aw ar as' aT hp hr hs ht w0 (htab.upd u0.out))
 have HI:=Lib.hid (mtInfo h.sz)
 clear h
 go_enter Tryz.func82,Tryz.ntmps82
 go_wp2_with (first | (refine wpList_load_row rfl 106 _ rfl g rfl _ M _ _ r0.out Tryz.underlying106 rfl HI.out ?_))
 refine HT.out.mono ?_
 rintro e w1 ⟨b,HB,rfl,hq⟩
 have U1:=Lib.hid (u0.out.trans hq)
 clear hq HT
 go_wp2_with fail
 go_ret
 exact ⟨b,HB,rfl,U1.out⟩
end
structure EvdG where
 kind:Int
 who:Int
 aw:Int
 aT:ByteArray
 ar:Int
 as':Int
 bw:Int
 bT:ByteArray
 br:Int
 bs':Int
 low:Int
 high:Int
 F:ByteArray
 A:ByteArray
 B:ByteArray
 ci:Int
 ck:Int
 c1:Int
 c2:Int
def EvdG.L (e:EvdG):List Value:=[.int .i64 e.kind,.int .i64 e.who,.int .i64 e.aw,.string e.aT,.int .i64 e.ar,.int .i64 e.as',.int .i64 e.bw,.string e.bT,.int .i64 e.br,.int .i64 e.bs',.int .i64 e.low,.int .i64 e.high,.string e.F,.string e.A,.string e.B,.int .i64 e.ci,.int .i64 e.ck,.int .i64 e.c1,.int .i64 e.c2]
def EvdG.V (e:EvdG):Array Value:=e.L.toArray
def evd0:EvdG:=⟨0,0,0,⟨#[]⟩,0,0,0,⟨#[]⟩,0,0,0,0,⟨#[]⟩,⟨#[]⟩,⟨#[]⟩,0,0,0,0⟩
theorem EvdG.info (e:EvdG):(Tryz.prog.info? 48).map (·.size)=some e.V.size:=by
 show _=some 19
 kernel_rfl
theorem EvdG.one (e:EvdG):e.V.all (·.oneCell')=true:=by simp [EvdG.V,EvdG.L,Value.oneCell']
theorem EvdG.built (k who:Int):Tryz.prog.built 48 [(0,.int .i64 k),(1,.int .i64 who)]=some { evd0 with kind:=k,who:=who:EvdG }.V:=by kernel_rfl
theorem row_setCellO {w:World} {g i b:Nat} {v:Value} {o:Obj} (h:w.heap[b]? =some o) (hne:b≠g):(w.setCell ⟨g,i,none⟩ v).heap[b]? =some o:=by
 have u:=(Upd.setCellsIn (g:=g) (S:=[g]) (S':=[g]) (by simp) [v] i _ (Upd.refl [g] w))
 exact (u.block b (blk_lt h) (by simp [hne])).trans h
theorem row_setCellsQ {w:World} {g i b:Nat} {l:List Value} {o:Obj} (h:w.heap[b]? =some o) (hne:b≠g):(w.setCells g i l).heap[b]? =some o:=by
 have u:=(Upd.setCellsIn (g:=g) (S:=[g]) (S':=[g]) (by simp) l i _ (Upd.refl [g] w))
 exact (u.block b (blk_lt h) (by simp [hne])).trans h
structure GuSt (w wr:World) (gC gQ gR gV gA gB:Nat) (CA EV EA EB:Array Value) (q0 q1 q2:Int):Prop where
 c:wr.heap[gC]? =some (.cells CA 34 (0,0))
 q:wr.heap[gQ]? =some (.cells #[.int .i64 q0,.int .i64 q1,.int .i64 q2] 50 (0,0))
 r:wr.heap[gR]? =some (.cells evd0.V 48 (0,0))
 v:wr.heap[gV]? =some (.cells EV 48 (0,0))
 a:wr.heap[gA]? =some (.cells EA 66 (0,0))
 b:wr.heap[gB]? =some (.cells EB 66 (0,0))
 up:Upd [] [] w wr
 base:w.heap.size≤gC∧gC<gQ∧gQ<gR∧gR<gV∧gV<gA∧gA<gB
section
variable {w wr w' : World} {gC gQ gR gV gA gB : Nat} {CA EV EA EB : Array Value} {q0 q1 q2 : Int}
theorem GuSt.quiet (h:GuSt w wr gC gQ gR gV gA gB CA EV EA EB q0 q1 q2) (u:Upd [] [] wr w'):GuSt w w' gC gQ gR gV gA gB CA EV EA EB q0 q1 q2 :=
 ⟨row_updH h.c u,row_updH h.q u,row_updH h.r u,row_updH h.v u,row_updH h.a u,row_updH h.b u,h.up.trans u,h.base⟩
theorem GuSt.setA (h:GuSt w wr gC gQ gR gV gA gB CA EV EA EB q0 q1 q2) (i:Nat) (v:Value):GuSt w (wr.setCell ⟨gA,i,none⟩ v) gC gQ gR gV gA gB CA EV (EA.setIfInBounds i v) EB q0 q1 q2:=by
 have hb:=h.base
 exact ⟨row_setCellO h.c (by omega),row_setCellO h.q (by omega),row_setCellO h.r (by omega),row_setCellO h.v (by omega),heap_setCell_same _ _ _ _ _ _ h.a,row_setCellO h.b (by omega),h.up.setNew (p:=⟨gA,i,none⟩) (by show w.heap.size≤gA;omega) _,h.base⟩
theorem GuSt.setB (h:GuSt w wr gC gQ gR gV gA gB CA EV EA EB q0 q1 q2) (i:Nat) (v:Value):GuSt w (wr.setCell ⟨gB,i,none⟩ v) gC gQ gR gV gA gB CA EV EA (EB.setIfInBounds i v) q0 q1 q2:=by
 have hb:=h.base
 exact ⟨row_setCellO h.c (by omega),row_setCellO h.q (by omega),row_setCellO h.r (by omega),row_setCellO h.v (by omega),row_setCellO h.a (by omega),heap_setCell_same _ _ _ _ _ _ h.b,h.up.setNew (p:=⟨gB,i,none⟩) (by show w.heap.size≤gB;omega) _,h.base⟩
theorem GuSt.setV (h:GuSt w wr gC gQ gR gV gA gB CA EV EA EB q0 q1 q2) (i:Nat) (l:List Value):GuSt w (wr.setCells gV i l) gC gQ gR gV gA gB CA (setAll EV i l) EA EB q0 q1 q2:=by
 have hb:=h.base
 exact ⟨row_setCellsQ h.c (by omega),row_setCellsQ h.q (by omega),row_setCellsQ h.r (by omega),heap_setCells gV _ l i wr EV h.v,row_setCellsQ h.a (by omega),row_setCellsQ h.b (by omega),Upd.setCellsNew (by omega) l i _ h.up,h.base⟩
theorem GuSt.other (h:GuSt w wr gC gQ gR gV gA gB CA EV EA EB q0 q1 q2) {g:Nat} (hg:gB<g) (i:Nat) (v:Value):GuSt w (wr.setCell ⟨g,i,none⟩ v) gC gQ gR gV gA gB CA EV EA EB q0 q1 q2:=by
 have hb:=h.base
 exact ⟨row_setCellO h.c (by omega),row_setCellO h.q (by omega),row_setCellO h.r (by omega),row_setCellO h.v (by omega),row_setCellO h.a (by omega),row_setCellO h.b (by omega),h.up.setNew (p:=⟨g,i,none⟩) (by show w.heap.size≤g;omega) _,h.base⟩
end
theorem wp_buildTo {P:Program} {o:Oper} {a:Act} {w:World} {K:Act→World→Prop} {Q:Exit→Act→World→Prop} (t:TypeId) (parts:Array (Nat × Operand)) (ho:o.op=.build t parts) (cells:Array Value) (hf:P.built t (parts.map fun (i,x)=>(i,a.eval x)).toList=some cells) (h:K (a.put o.dst (.agg cells)) w):o.wp P a w K Q:=by
 refine wp_build t parts ho (by rw [hf];rfl) ?_
 rw [hf]
 exact h
def evCs (q n:Int) (x:ByteArray):EvG:=⟨q,4,0,0,n,x,zero32,0,0⟩
theorem evCs_built (q n:Int) (x:ByteArray):Tryz.prog.built 66 [(0,.int .i64 q),(1,.int .i64 4),(4,.int .i64 n),(5,.string x)]=some (evCs q n x).V.toArray:=by kernel_rfl
theorem evCs_ok {q n:Int} (x:ByteArray) (hq:i64in q) (hn:i64in n):(evCs q n x).ok:=⟨hq,by unfold i64in;simp [evCs],by unfold i64in;simp [evCs],by unfold i64in;simp [evCs],hn,rfl,by unfold i64in;simp [evCs],by unfold i64in;simp [evCs]⟩
theorem mod33_any (a m:Int) (w:World) (_ha:-9223372036854775808≤a∧a≤9223372036854775807) (hm:1≤m∧m≤4611686018427387903) :
 Calls Tryz.prog 19 #[.int .i64 a,.int .i64 m] w (RetZ .i64 m (a % m) w):=by
 obtain ⟨r,hr⟩:∃ r,r=a.tmod m:=⟨_,rfl⟩
 have h1:r<m:=by rw [hr];exact Int.tmod_lt_of_pos a (by omega)
 have h2:-m<r:=by rw [hr];exact Int.lt_tmod_of_pos a (by omega)
 obtain ⟨s,hs⟩:∃ s,s=r+m:=⟨_,rfl⟩
 have h3:0≤s∧s≤9223372036854775807:=by omega
 have e2:(r+m).tmod m=a % m:=by
  rw [Int.tmod_eq_emod_of_nonneg (by omega),Int.add_emod_right]
  have:=Int.tmod_eq_emod (a:=a) (b:=m)
  have h5:=Int.emod_nonneg a (show m≠0 by omega)
  have h6:=Int.emod_lt_of_pos a (show 0<m by omega)
  rw [← hr] at this
  split at this
  · have h7:r=a % m:=by omega
    rw [h7,Int.emod_emod]
  · have h7:r=a % m - m:=by omega
    rw [h7,Int.sub_emod_right,Int.emod_emod]
 have e2':(r+m) % m=a % m:=by rw [← e2,Int.tmod_eq_emod_of_nonneg (by omega)]
 have HE:=Lib.hid e2
 have HE':=Lib.hid e2'
 clear e2 e2'
 go_enter Tryz.func19,Tryz.ntmps19
 go_wp2_with fail
 go_ret
 refine retZ_mod (by omega) ?_
 first | exact HE.out | exact HE'.out | (rw [← hr];first | exact HE.out | exact HE'.out)
theorem be_le3 {x:Nat} (h:x<16777216):(be x).length≤3:=be_len_le 3 x (Nat.lt_of_lt_of_le h (by decide))
theorem small_lim (s:ByteArray) (x lim:Nat) (w:World) (hs:bs s=be x) (hl:lim≤7) (hb:(be x).length≤lim) :
 Calls Tryz.prog 71 #[.string s,.int .i64 (lim:Int)] w (fun e w'=>e=.returned (.tuple #[.int .i64 (x:Int),.bool true])∧w=w'):=by
 have hlt:x<9223372036854775808:=by
  have:=be_small (Nat.le_trans hb hl)
  have e:(256:Nat) ^ 7=72057594037927936:=by decide
  omega
 have HC:=Lib.hid (canon_is s x w hs (by omega))
 go_enter Tryz.func71,Tryz.ntmps71
 go_wp2_with fail
 refine HC.out.mono ?_
 rintro e w' ⟨r,HR,rfl,rfl⟩
 have hl2:r.size≤lim:=by rw [size_of_be HR.out];exact hb
 have hrs:r.size≤1000000000000:=by omega
 have hxr:x=natB (bs r):=by rw [HR.out,natB_be]
 have HXR:=Lib.hid hxr
 have HI:=Lib.hid (int_any s x w (by rw [size_of_be hs];omega) (by rw [hs,natB_be]) hlt)
 clear hb hs hxr HC
 go_wp2_with fail
 refine HI.out.mono ?_
 rintro e w' ⟨rfl,rfl⟩
 go_wp2_with fail
 go_ret2
 exact ⟨rfl,rfl⟩
theorem mul_small (a b:ByteArray) (x y:Nat) (w:World) (ha:bs a=be x) (hb:bs b=be y) (hx:x<1000000) (hy:y<1000000):Calls Tryz.prog 70 #[.string a,.string b] w (MkNat (x * y) w):=by
 have h1:=Lib.hid (small_lim a x 3 w ha (by omega) (be_le3 (by omega)))
 have h2:=Lib.hid (small_lim b y 4 w hb (by omega) (Nat.le_trans (be_le3 (by omega)) (by omega)))
 obtain ⟨z,hz⟩:∃ z,z=x * y:=⟨_,rfl⟩
 have hz1:(x:Int) * (y:Int)=(z:Int):=by rw [hz];simp
 have hz2:z≤1000000000000:=by
  rw [hz]
  have:=Nat.mul_le_mul (Nat.le_of_lt hx) (Nat.le_of_lt hy)
  omega
 rw [← hz]
 clear ha hb hz
 go_enter Tryz.func70,Tryz.ntmps70
 go_wp2_with fail
 refine h1.out.mono ?_
 rintro e w' ⟨rfl,rfl⟩
 go_wp2_with fail
 refine h2.out.mono ?_
 rintro e w' ⟨rfl,rfl⟩
 go_wp2_with fail
 refine (of_int z w (by omega)).mono ?_
 rintro e w1 ⟨r,HR,rfl,hu⟩
 go_wp2_with fail
 go_ret
 exact ⟨r,HR,rfl,hu⟩
def modL:List UInt8:=[138,0,176,218,162,135,68,214,164,195,198,36,84,110,75,89]
theorem modL_be:be (natB modL)=modL:=by rw [← canon_be];rfl
theorem modL_big:1000000<natB modL:=by decide
theorem rest_small (a:ByteArray) (x:Nat) (w:World) (ha:bs a=be x) (hx:x≤1000000):Calls Tryz.prog 69 #[.string a] w (MkNat x w):=by
 have HQ:=Lib.hid (quo_any a ⟨#[138,0,176,218,162,135,68,214,164,195,198,36,84,110,75,89]⟩ x (natB modL) w ha (by rw [modL_be];rfl) (by have:=modL_big;omega) (by have:=be_le3 (x:=x) (by omega);omega) (by rw [modL_be];decide))
 have hm:x % natB modL=x:=Nat.mod_eq_of_lt (by have:=modL_big;omega)
 rw [hm] at HQ
 go_enter Tryz.func69,Tryz.ntmps69
 go_wp2_with fail
 refine HQ.out.mono ?_
 rintro e w1 ⟨b1,b2,HB1,HB2,rfl,hu⟩
 go_wp2_with fail
 go_ret
 exact ⟨b2,HB2,rfl,hu⟩
theorem square10_small (a:ByteArray) (x:Nat) (w:World) (ha:bs a=be x) (hx:x<1000):Calls Tryz.prog 26 #[.string a] w (MkNat (x * x) w):=by
 have hxx:x * x≤1000000:=by
  have:=Nat.mul_le_mul (Nat.le_of_lt hx) (Nat.le_of_lt hx)
  omega
 go_enter Tryz.func26,Tryz.ntmps26
 go_wp2_with fail
 refine (mul_small a a x x w ha ha (by omega) (by omega)).mono ?_
 rintro e w1 ⟨b,HB,rfl,hu⟩
 go_wp2_with fail
 refine (rest_small b (x * x) w1 HB.out hxx).mono ?_
 rintro e w2 ⟨c,HC,rfl,hu2⟩
 go_wp2_with fail
 go_ret
 exact ⟨c,HC,rfl,hu.trans hu2⟩
theorem bytesLess_irr:∀ l:List UInt8,Op.bytesLess l l=false
 | []=>rfl
 | a :: l=>by simp [Op.bytesLess,bytesLess_irr l]
def CmpE (x y:Nat) (r:Int):Prop:=r=0 ↔ x=y
theorem rcmp_eq (a b:ByteArray) (x y:Nat) (w:World) (ha:bs a=be x) (hb:bs b=be y) (lx:(be x).length≤1000000) (ly:(be y).length≤1000000) :
 Calls Tryz.prog 25 #[.string a,.string b] w (fun e w'=>∃ r:Int,Hid (CmpE x y r)∧(-1≤r∧r≤1)∧e=.returned (.int .i64 r)∧w=w'):=by
 have HA:=Lib.hid (canon_is a x w ha lx)
 have HB:=Lib.hid (canon_is b y w hb ly)
 clear ha hb lx ly
 go_enter Tryz.func25,Tryz.ntmps25
 go_wp2_with fail
 refine HA.out.mono ?_
 rintro e w' ⟨p,HP,rfl,rfl⟩
 go_wp2_with fail
 refine HB.out.mono ?_
 rintro e w' ⟨q,HQ,rfl,rfl⟩
 clear HA HB
 have HE:Hid (p=q ↔ x=y):=⟨fun h=>be_inj (by rw [← HP.out,← HQ.out,h]),fun h=>bs_injE (by rw [HP.out,HQ.out,h])⟩
 clear HP HQ
 by_cases hpq:p=q
 · have HZ:Hid (CmpE x y 0):=⟨fun _=>HE.out.1 hpq,fun _=>rfl⟩
   have hl2:(p.size:Int)=(q.size:Int):=by rw [hpq]
   have hn1:Op.bytesLess p.toList q.toList=false:=by rw [hpq];exact bytesLess_irr _
   have heq:(p.toList == q.toList)=true:=by rw [hpq];exact beq_self_eq_true _
   clear hpq HE
   go_wp2_with fail
   go_ret
   exact ⟨0,HZ,by omega,rfl,rfl⟩
 · have hne:x≠y:=fun h=>hpq (HE.out.2 h)
   have H1:Hid (CmpE x y 1):=⟨fun h=>by omega,fun h=>absurd h hne⟩
   have H2:Hid (CmpE x y (-1)):=⟨fun h=>by omega,fun h=>absurd h hne⟩
   have heq:(p.toList == q.toList)=false:=by
    rw [beq_eq_false_iff_ne]
    intro h
    rw [ByteArray.toList_eq,ByteArray.toList_eq] at h
    exact hpq (bs_injE h)
   clear hpq hne HE
   by_cases hl:p.size=q.size
   · have hl2:(p.size:Int)=(q.size:Int):=by omega
     cases hn1:Op.bytesLess p.toList q.toList
     · go_wp2_with fail
       go_ret
       exact ⟨1,H1,by omega,rfl,rfl⟩
     · go_wp2_with fail
       go_ret
       exact ⟨-1,H2,by omega,rfl,rfl⟩
   · have hl2:¬ (p.size:Int)=(q.size:Int):=by omega
     by_cases hlt:p.size<q.size
     · go_wp2_with fail
       go_ret
       exact ⟨-1,H2,by omega,rfl,rfl⟩
     · go_wp2_with fail
       go_ret
       exact ⟨1,H1,by omega,rfl,rfl⟩
end Go.Proofs.YtmjlkkbbnkanpaaGreatDoor
