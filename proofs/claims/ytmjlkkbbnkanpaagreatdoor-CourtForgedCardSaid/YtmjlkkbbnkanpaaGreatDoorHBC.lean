/- sortesref33.Case.cheat. -/
import Derived.Test.YtmjlkkbbnkanpaaGreatDoorHAA
import Derived.Test.YtmjlkkbbnkanpaaGreatDoorHBB
import Derived.Test.YtmjlkkbbnkanpaaGreatDoorHAY
namespace Go.Proofs.YtmjlkkbbnkanpaaGreatDoor
open Go.RowKit
set_option maxRecDepth 100000
def courtL (q0:Int):List UInt8:=[99,111,117,114,116,32] ++ Lib.itoa (q0 % 1000)
def flipL (x:List UInt8) (m:Nat):List UInt8:=x.set m (x.getD m 0 ^^^ 1)
def cheatD (l:List Int) (k n m:Nat) (q0:Int):Dl:={ dlAt (wsN l (manyN l)) (courtL q0) k with boxes:=(dlAt (wsN l (manyN l)) (courtL q0) k).boxes.set n (flipL ((dlAt (wsN l (manyN l)) (courtL q0) k).boxes.getD n []) m) }
def GuCheat (l:List Int) (k:Nat) (q0 q1 q2:Int) (X:EvdG):Prop:=∃ (d:Dl) (T:ByteArray) (n m r s ck c1 c2:Nat),DlFit d∧(n:Int)=q1 % (((wsN l (manyN l)).sum:Nat):Int)∧(m:Int)=q2 % 16∧d=cheatD l k n m q0∧bs T=dealtL (q2 % 8 / 7) d∧r=gP (nonceN (secN k) (bs T))∧s=sWith (secN k) (nonceN (secN k) (bs T)) (bs T)∧n<100∧ck<2305843009213691579∧c1<1152921504606845789∧c2<1152921504606845789 ∧
 X={ evd0 with kind:=5,who:=((k+1:Nat):Int),aw:=((k+1:Nat):Int),aT:=T,ar:=(r:Int),as':=(s:Int),ci:=(n:Int),ck:=(ck:Int),c1:=(c1:Int),c2:=(c2:Int) }
set_option maxHeartbeats 8000000 in
theorem cheat_any (l:List Int) (L K P KM S C KS:Value) (w:World) (hC:CaseRd l w L K P KM S C KS) (k:Nat) (hk:k<manyN l) (X0:EvdG) (hX0:X0={ evd0 with kind:=5,who:=((k+1:Nat):Int) }) (q0 q1 q2:Int) (hq0:i64in q0) (hq1:i64in q1) (hq2:i64in q2) :
 Calls Tryz.prog 30 #[.agg (csV L K P KM S C KS),.agg X0.V,.int .i64 (k:Int),.agg #[.int .i64 q0,.int .i64 q1,.int .i64 q2]] w (fun e w'=>∃ X:EvdG,Hid (GuCheat l k q0 q1 q2 X)∧e=.returned (.agg X.V)∧Upd [] [] w w'):=by
 have HCR:=Lib.hid hC
 have hn4:=manyN_le l
 obtain ⟨n,hn⟩:∃ n,n=manyN l:=⟨_,rfl⟩
 obtain ⟨gm0,mc,hL,_,_,_⟩:=hC.memb hk
 obtain ⟨gs,sc,hS,hgs,hs0⟩:=hC.sec hk
 rw [← hn] at hL hS hn4
 have HN:=Lib.hid hn
 have HKN:=Lib.hid hk
 obtain ⟨CA,hCA⟩:∃ A,A=csV L K P KM S C KS:=⟨_,rfl⟩
 have HCA:=Lib.hid hCA
 obtain ⟨EV,hEV⟩:∃ A:Array Value,A=X0.V:=⟨_,rfl⟩
 have HEV:=Lib.hid hEV
 have HX0:=Lib.hid hX0
 obtain ⟨id,hid⟩:∃ id:Int,id=((k+1:Nat):Int):=⟨_,rfl⟩
 have HID:=Lib.hid hid
 have HLS:Hid (L=.slice (some ⟨gm0,0,none⟩) n mc∧S=.slice (some ⟨gs,0,none⟩) n sc):=⟨hL,hS⟩
 obtain ⟨sx,hsx⟩:∃ x,x=secN k:=⟨_,rfl⟩
 have HSX:Hid (sx=secN k∧sx<1152921504606845789):=⟨hsx,by rw [hsx];exact secN_lt k⟩
 rw [← hsx] at hs0
 obtain ⟨gC,hgC⟩:∃ g,w.heap.size=g:=⟨_,rfl⟩
 obtain ⟨w0,hw0⟩:∃ W,w.alloc (.cells CA 34)=W:=⟨_,rfl⟩
 have r0:w0.heap[gC]? =some (.cells CA 34 (0,0)):=by rw [← hgC,← hw0];exact heap_alloc_new _ _
 have u0:Upd [] [] w w0:=by rw [← hw0];exact (Upd.refl _ _).alloc _
 obtain ⟨gV,hgV⟩:∃ g,w0.heap.size=g:=⟨_,rfl⟩
 obtain ⟨w1,hw1⟩:∃ W,w0.alloc (.cells EV 48)=W:=⟨_,rfl⟩
 have r1:w1.heap[gV]? =some (.cells EV 48 (0,0)):=by rw [← hgV,← hw1];exact heap_alloc_new _ _
 have u1:Upd [] [] w0 w1:=by rw [← hw1];exact (Upd.refl _ _).alloc _
 obtain ⟨gQ,hgQ⟩:∃ g,w1.heap.size=g:=⟨_,rfl⟩
 obtain ⟨w2,hw2⟩:∃ W,w1.alloc (.cells #[.int .i64 q0,.int .i64 q1,.int .i64 q2] 50)=W:=⟨_,rfl⟩
 have r2:w2.heap[gQ]? =some (.cells #[.int .i64 q0,.int .i64 q1,.int .i64 q2] 50 (0,0)):=by rw [← hgQ,← hw2];exact heap_alloc_new _ _
 have u2:Upd [] [] w1 w2:=by rw [← hw2];exact (Upd.refl _ _).alloc _
 obtain ⟨gR,hgR⟩:∃ g,w2.heap.size=g:=⟨_,rfl⟩
 obtain ⟨w3,hw3⟩:∃ W,w2.alloc (.cells #[.int .i64 0,.int .i64 0,.int .i64 0,.string ⟨#[]⟩,.int .i64 0,.int .i64 0,.int .i64 0,.string ⟨#[]⟩,.int .i64 0,.int .i64 0,.int .i64 0,.int .i64 0,.string ⟨#[]⟩,.string ⟨#[]⟩,.string ⟨#[]⟩,.int .i64 0,.int .i64 0,.int .i64 0,.int .i64 0] 48)=W:=⟨_,rfl⟩
 have r3:w3.heap[gR]? =some (.cells evd0.V 48 (0,0)):=by rw [← hgR,← hw3];exact heap_alloc_new _ _
 have u3:Upd [] [] w2 w3:=by rw [← hw3];exact (Upd.refl _ _).alloc _
 have l1:gC<gV:=by rw [← hgV];exact blk_lt r0
 have l2:gV<gQ:=by rw [← hgQ];exact blk_lt r1
 have l3:gQ<gR:=by rw [← hgR];exact blk_lt r2
 have S3:Hid (ChSt w w3 gC gV gQ gR CA EV q0 q1 q2):=⟨row_updH r0 ((u1.trans u2).trans u3),row_updH r1 (u2.trans u3),row_updH r2 u3,r3,((u0.trans u1).trans u2).trans u3,⟨Nat.le_of_eq hgC,l1,l2,l3⟩⟩
 have HQI:=Lib.hid (And.intro hq0 (And.intro hq1 hq2))
 obtain ⟨ws,hws⟩:∃ x,x=wsN l (manyN l):=⟨_,rfl⟩
 have HWO:Hid (WsOk ws):=by rw [hws];exact wsN_ok l
 have HWL:Hid (ws.length=n):=by show _=_;rw [hws,hn];simp [wsN]
 have HWS:=Lib.hid hws
 have HCW:Hid (∀ W,Upd [] [] w W→CrewAt W (.slice (some ⟨gm0,0,none⟩) n mc) ws):=fun W u=>by rw [← hL,hws];exact (hC.upd u).made.crew
 have HK3:Hid (∀ W,ChSt w W gC gV gQ gR CA EV q0 q1 q2→W.cell? ⟨gC,0,none⟩=some (.slice (some ⟨gm0,0,none⟩) n mc)∧W.cell? ⟨gQ,0,none⟩=some (.int .i64 q0)):=fun W h=>by
  refine ⟨?_,cell_of_row _ gQ 0 _ _ _ h.q⟩
  rw [cell_of_row _ gC 0 _ _ _ h.c,hCA,← hL];rfl
 have ud0:Upd [] [] w3 w3.drew:=(Upd.refl _ _).drew
 have i0:(0:Int)≤(k:Int):=by omega
 have i1:(k:Int)<(n:Int):=by omega
 have HSE:Hid (gs<w.heap.size∧w.cell? ⟨gs,k,none⟩=some (.int .i64 (sx:Int))):=⟨hgs,hs0⟩
 have HGR3:Hid (gR<w3.heap.size):=blk_lt r3
 rw [← hCA,← hEV]
 clear hC hn hCA hEV hX0 hid hL hS hsx hs0 hgs r0 r1 r2 r3 u0 u1 u2 u3 l1 l2 l3 hq0 hq1 hq2 hws hk
 go_enter Tryz.func30,Tryz.ntmps30
 go_upto_region 1 with (fail)
 refine @_root_.id ((∀ (m0:Int) (y1 sd:ByteArray) (g cap:Nat) (c:Value) (gb bc nb p:Nat) (cur:Array Value) (gD:Nat) (W:World),Hid (nb=(dlAt ws (courtL q0) k).boxes.length∧p=(dlAt ws (courtL q0) k).point)→Hid (DlB w3.heap.size W c gb bc cur (dlAt ws (courtL q0) k))→Hid (W.heap[gD]? =some (.cells (dlC c (p:Int) (.slice (some ⟨gb,0,none⟩) nb bc)) 132 (0,0)))→Hid (Upd [] [] w3 W)→Hid (w3.heap.size≤gD)→(?pj1:Int→ByteArray→ByteArray→Nat→Nat→Value→Nat→Nat→Nat→Nat→Array Value→Nat→World→Prop) m0 y1 sd g cap c gb bc nb p cur gD W)→_) (fun hJ=>?mj1) ?jj1
 case mj1 =>
  refine wp_region_noPanic ?_
  refine wp_region_held_drew (S:=fun wp=>wp.cell? ⟨gC,0,none⟩=some (.slice (some ⟨gm0,0,none⟩) n mc)∧wp.cell? ⟨gQ,0,none⟩=some (.int .i64 q0)) (by kernel_rfl) ?_ (fun hHeld=>?_)
  · exact HK3.out _ (S3.out.quiet ud0)
  refine tkY 0 hHeld ?_
  refine tkY 1 hHeld ?_
  refine tkY 2 hHeld ?_
  refine tkY 3 hHeld ?_
  refine tkY 4 hHeld ?_
  refine tkY 9 hHeld ?_
  refine tkA [5,12] ?_
  refine tkC (fun K hK=>?_) ?_
  · go_simp;refine (mod33_any q0 1000 _ HQI.out.1 (by omega)).mono ?_;rintro e wq ⟨m0,HM0,m00,m01,rfl,rfl⟩;go_wp2_with fail
    refine tkK hK (HK3.out _ (S3.out.quiet ud0)) fun hHeld=>?_
    clear hK K
    refine tkA [6,12] ?_
    refine tkC (fun K hK=>?_) ?_
    · go_simp;refine (decimal11_any m0 _ (by unfold i64in;omega)).mono ?_;rintro e wv1 ⟨y1,HY1,hy1,rfl,hq⟩;have ud1:=ud0.trans hq;clear hq;have hl1:=itoa_len m0 (by unfold i64in;omega);have t1:¬ 9223372036854775807<6+y1.size:=(by omega);obtain ⟨sd,hsd⟩:∃ s:ByteArray,s=ByteArray.mk #[99,111,117,114,116,32] ++ y1:=⟨_,rfl⟩;have HSD:Hid (bs sd=courtL q0):=(by show _=_;rw [hsd,bs_append,HY1.out,HM0.out];rfl);have hs1:sd.size≤100000:=(by rw [hsd,ByteArray.size_append,show (ByteArray.mk #[99,111,117,114,116,32]).size=6 from rfl];omega);have hsd':=hsd.symm;clear hsd hl1 hy1;go_wp2_with fail
      refine tkK hK (HK3.out _ (S3.out.quiet ud1)) fun hHeld=>?_
      clear hK K
      refine tkY 7 hHeld ?_
      refine tkA [8,12] ?_
      refine tkC (fun K hK=>?_) ?_
      · go_simp;refine (dealings8_own _ ws sd _ HWO.out (HCW.out _ (S3.out.up.trans ud1)) hs1).mono ?_;rintro e wv2 ⟨u,HDS,rfl,hq⟩;obtain ⟨g,cap,c,gb,bc,cur,rfl,hcp,hgl,e0,e1,e2,hDB⟩:=(HDS.out _ (NewAgree.refl _ _)).elem (dsN_at HWL.out HKN.out HN.out HSD.out) (dlAt_boxes HWO.out _ _);obtain ⟨nb,hnb⟩:∃ x,x=(dlAt ws (courtL q0) k).boxes.length:=⟨_,rfl⟩;obtain ⟨p,hpp⟩:∃ x,x=(dlAt ws (courtL q0) k).point:=⟨_,rfl⟩;rw [← hnb] at e2;rw [← hpp] at e1;have hlen:(dsN ws (bs sd) ws.length).length=n:=(by rw [dsN_len];exact HWL.out);rw [hlen] at hcp ⊢;have HDL:=Lib.hid (dl_load e0 e1 e2);have HGL:=Lib.hid hgl;have HLU:Hid (∀ W,Upd [] [] wv2 W→(Instr.loadAt 132 (.pointer (some ⟨g,k * 3,none⟩))).run Tryz.prog W=.ok (.agg (dlC c (p:Int) (.slice (some ⟨gb,0,none⟩) nb bc))) W):=(by intro W u;exact dl_load ((u.cell (p:=⟨g,_,none⟩) hgl (by simp)).trans e0) ((u.cell (p:=⟨g,_,none⟩) hgl (by simp)).trans e1) ((u.cell (p:=⟨g,_,none⟩) hgl (by simp)).trans e2));have HDB:=Lib.hid (hDB.mono (B':=w3.heap.size) (by have:=ud1.size;omega));have HNB:=Lib.hid (And.intro hnb hpp);have uq_2:=Upd.refl [] wv2;have ud2:=ud1.trans hq;clear hq hDB e0 e1 e2 hcp hgl HDS hnb hpp hlen;go_wp2_with fail
        refine tkK hK (HK3.out _ (S3.out.quiet ud2)) fun hHeld=>?_
        clear hK K
        refine tkY 10 hHeld ?_
        refine tkA [11,12] ?_
        refine tkC (fun K hK=>?_) ?_
        · refine wp_loadRun 132 _ rfl g (k * 3) rfl (dlC c (p:Int) (.slice (some ⟨gb,0,none⟩) nb bc)) (HLU.out _ uq_2) ?_
          refine tkK hK (HK3.out _ (S3.out.quiet ud2)) fun hHeld=>?_
          clear hK K
          refine tk1 12 fun K hK=>?_
          go_simp;obtain ⟨gD,wv3,hgx,hwx,fD_3,hq⟩:=alloc_let wv2 (.cells #[.slice none 0 0,.int .i64 0,.slice none 0 0] 132);rw [← hgx,← hwx];have bD:w3.heap.size≤gD:=(by have:=ud2.size;omega);have uq_3:=uq_2.trans hq;have HDB:=Lib.hid (HDB.out.upd hq);have ud3:=ud2.trans hq;clear hgx hwx hq
          refine tkK hK (HK3.out _ (S3.out.quiet ud3)) fun hHeld=>?_
          clear hK K
          refine tk1 13 fun K hK=>?_
          rw [if_pos (by rfl)];refine wp_store_row 132 _ _ rfl gD (dlC c (p:Int) (.slice (some ⟨gb,0,none⟩) nb bc)) rfl rfl _ _ fD_3.out (dlInfo _ _ _) rfl (dlC_one HDB.out.one rfl) ?_;obtain ⟨wv4,hwx⟩:∃ W':World,W'=wv3.setRow gD (dlC c (p:Int) (.slice (some ⟨gb,0,none⟩) nb bc)):=⟨_,rfl⟩;have fD_4:Hid (wv4.heap[gD]? =some (.cells (dlC c (p:Int) (.slice (some ⟨gb,0,none⟩) nb bc)) 132 (0,0))):=(by show _=_;rw [hwx];exact setRow_heap _ _ _ _ _ _ fD_3.out);have HDB':Hid (DlB w3.heap.size wv4 c gb bc cur (dlAt ws (courtL q0) k)):=(by rw [hwx];exact HDB.out.keep fD_3.out (fun x hx=>setRow_other _ _ _ _ hx));have ud4:=ud3.setRowNew bD (dlC c (p:Int) (.slice (some ⟨gb,0,none⟩) nb bc));rw [← hwx] at ud4 ⊢;clear hwx
          refine tkK hK (HK3.out _ (S3.out.quiet ud4)) fun hHeld=>?_
          clear hK K
          refine wpAnyH_done (by kernel_rfl) ?_ _
          refine NoPanic.normal ?_
          exact hJ m0 y1 sd g cap c gb bc nb p cur gD wv4 HNB HDB' fD_4 (Lib.hid ud4) (Lib.hid bD)
        refine tkZ fun K hK=>?_
        go_simp;obtain ⟨gD,wv3,hgx,hwx,fD_3,hq⟩:=alloc_let wv2 (.cells #[.slice none 0 0,.int .i64 0,.slice none 0 0] 132);rw [← hgx,← hwx];have bD:w3.heap.size≤gD:=(by have:=ud2.size;omega);have uq_3:=uq_2.trans hq;have HDB:=Lib.hid (HDB.out.upd hq);have ud3:=ud2.trans hq;clear hgx hwx hq
        refine tkK hK (HK3.out _ (S3.out.quiet ud3)) fun hHeld=>?_
        clear hK K
        refine tk1 11 fun K hK=>?_
        refine wp_loadRun 132 _ rfl g (k * 3) rfl (dlC c (p:Int) (.slice (some ⟨gb,0,none⟩) nb bc)) (HLU.out _ uq_3) ?_
        refine tkK hK (HK3.out _ (S3.out.quiet ud3)) fun hHeld=>?_
        clear hK K
        refine tk1 13 fun K hK=>?_
        rw [if_pos (by rfl)];refine wp_store_row 132 _ _ rfl gD (dlC c (p:Int) (.slice (some ⟨gb,0,none⟩) nb bc)) rfl rfl _ _ fD_3.out (dlInfo _ _ _) rfl (dlC_one HDB.out.one rfl) ?_;obtain ⟨wv4,hwx⟩:∃ W':World,W'=wv3.setRow gD (dlC c (p:Int) (.slice (some ⟨gb,0,none⟩) nb bc)):=⟨_,rfl⟩;have fD_4:Hid (wv4.heap[gD]? =some (.cells (dlC c (p:Int) (.slice (some ⟨gb,0,none⟩) nb bc)) 132 (0,0))):=(by show _=_;rw [hwx];exact setRow_heap _ _ _ _ _ _ fD_3.out);have HDB':Hid (DlB w3.heap.size wv4 c gb bc cur (dlAt ws (courtL q0) k)):=(by rw [hwx];exact HDB.out.keep fD_3.out (fun x hx=>setRow_other _ _ _ _ hx));have ud4:=ud3.setRowNew bD (dlC c (p:Int) (.slice (some ⟨gb,0,none⟩) nb bc));rw [← hwx] at ud4 ⊢;clear hwx
        refine tkK hK (HK3.out _ (S3.out.quiet ud4)) fun hHeld=>?_
        clear hK K
        refine wpAnyH_done (by kernel_rfl) ?_ _
        refine NoPanic.normal ?_
        exact hJ m0 y1 sd g cap c gb bc nb p cur gD wv4 HNB HDB' fD_4 (Lib.hid ud4) (Lib.hid bD)
      refine tkZ fun K hK=>?_
      go_simp;obtain ⟨gD,wv2,hgx,hwx,fD_2,hq⟩:=alloc_let wv1 (.cells #[.slice none 0 0,.int .i64 0,.slice none 0 0] 132);rw [← hgx,← hwx];have bD:w3.heap.size≤gD:=(by have:=ud1.size;omega);have ud2:=ud1.trans hq;clear hgx hwx hq
      refine tkK hK (HK3.out _ (S3.out.quiet ud2)) fun hHeld=>?_
      clear hK K
      refine tk1 8 fun K hK=>?_
      go_simp;refine (dealings8_own _ ws sd _ HWO.out (HCW.out _ (S3.out.up.trans ud2)) hs1).mono ?_;rintro e wv3 ⟨u,HDS,rfl,hq⟩;obtain ⟨g,cap,c,gb,bc,cur,rfl,hcp,hgl,e0,e1,e2,hDB⟩:=(HDS.out _ (NewAgree.refl _ _)).elem (dsN_at HWL.out HKN.out HN.out HSD.out) (dlAt_boxes HWO.out _ _);obtain ⟨nb,hnb⟩:∃ x,x=(dlAt ws (courtL q0) k).boxes.length:=⟨_,rfl⟩;obtain ⟨p,hpp⟩:∃ x,x=(dlAt ws (courtL q0) k).point:=⟨_,rfl⟩;rw [← hnb] at e2;rw [← hpp] at e1;have hlen:(dsN ws (bs sd) ws.length).length=n:=(by rw [dsN_len];exact HWL.out);rw [hlen] at hcp ⊢;have HDL:=Lib.hid (dl_load e0 e1 e2);have HGL:=Lib.hid hgl;have HLU:Hid (∀ W,Upd [] [] wv3 W→(Instr.loadAt 132 (.pointer (some ⟨g,k * 3,none⟩))).run Tryz.prog W=.ok (.agg (dlC c (p:Int) (.slice (some ⟨gb,0,none⟩) nb bc))) W):=(by intro W u;exact dl_load ((u.cell (p:=⟨g,_,none⟩) hgl (by simp)).trans e0) ((u.cell (p:=⟨g,_,none⟩) hgl (by simp)).trans e1) ((u.cell (p:=⟨g,_,none⟩) hgl (by simp)).trans e2));have HDB:=Lib.hid (hDB.mono (B':=w3.heap.size) (by have:=ud2.size;omega));have HNB:=Lib.hid (And.intro hnb hpp);have uq_3:=Upd.refl [] wv3;have ud3:=ud2.trans hq;have fD_3:=Lib.hid (row_updH fD_2.out hq);clear hq hDB e0 e1 e2 hcp hgl HDS hnb hpp hlen;go_wp2_with fail
      refine tkK hK (HK3.out _ (S3.out.quiet ud3)) fun hHeld=>?_
      clear hK K
      refine tkY 10 hHeld ?_
      refine tk1 11 fun K hK=>?_
      refine wp_loadRun 132 _ rfl g (k * 3) rfl (dlC c (p:Int) (.slice (some ⟨gb,0,none⟩) nb bc)) (HLU.out _ uq_3) ?_
      refine tkK hK (HK3.out _ (S3.out.quiet ud3)) fun hHeld=>?_
      clear hK K
      refine tk1 13 fun K hK=>?_
      rw [if_pos (by rfl)];refine wp_store_row 132 _ _ rfl gD (dlC c (p:Int) (.slice (some ⟨gb,0,none⟩) nb bc)) rfl rfl _ _ fD_3.out (dlInfo _ _ _) rfl (dlC_one HDB.out.one rfl) ?_;obtain ⟨wv4,hwx⟩:∃ W':World,W'=wv3.setRow gD (dlC c (p:Int) (.slice (some ⟨gb,0,none⟩) nb bc)):=⟨_,rfl⟩;have fD_4:Hid (wv4.heap[gD]? =some (.cells (dlC c (p:Int) (.slice (some ⟨gb,0,none⟩) nb bc)) 132 (0,0))):=(by show _=_;rw [hwx];exact setRow_heap _ _ _ _ _ _ fD_3.out);have HDB':Hid (DlB w3.heap.size wv4 c gb bc cur (dlAt ws (courtL q0) k)):=(by rw [hwx];exact HDB.out.keep fD_3.out (fun x hx=>setRow_other _ _ _ _ hx));have ud4:=ud3.setRowNew bD (dlC c (p:Int) (.slice (some ⟨gb,0,none⟩) nb bc));rw [← hwx] at ud4 ⊢;clear hwx
      refine tkK hK (HK3.out _ (S3.out.quiet ud4)) fun hHeld=>?_
      clear hK K
      refine wpAnyH_done (by kernel_rfl) ?_ _
      refine NoPanic.normal ?_
      exact hJ m0 y1 sd g cap c gb bc nb p cur gD wv4 HNB HDB' fD_4 (Lib.hid ud4) (Lib.hid bD)
    refine tkZ fun K hK=>?_
    go_simp;obtain ⟨gD,wv1,hgx,hwx,fD_1,hq⟩:=alloc_letD w3 (.cells #[.slice none 0 0,.int .i64 0,.slice none 0 0] 132);rw [← hgx,← hwx];have bD:w3.heap.size≤gD:=(by omega);have ud1:=hq;clear hgx hwx hq
    refine tkK hK (HK3.out _ (S3.out.quiet ud1)) fun hHeld=>?_
    clear hK K
    refine tk1 6 fun K hK=>?_
    go_simp;refine (decimal11_any m0 _ (by unfold i64in;omega)).mono ?_;rintro e wv2 ⟨y1,HY1,hy1,rfl,hq⟩;have ud2:=ud1.trans hq;have fD_2:=Lib.hid (row_updH fD_1.out hq);clear hq;have hl1:=itoa_len m0 (by unfold i64in;omega);have t1:¬ 9223372036854775807<6+y1.size:=(by omega);obtain ⟨sd,hsd⟩:∃ s:ByteArray,s=ByteArray.mk #[99,111,117,114,116,32] ++ y1:=⟨_,rfl⟩;have HSD:Hid (bs sd=courtL q0):=(by show _=_;rw [hsd,bs_append,HY1.out,HM0.out];rfl);have hs1:sd.size≤100000:=(by rw [hsd,ByteArray.size_append,show (ByteArray.mk #[99,111,117,114,116,32]).size=6 from rfl];omega);have hsd':=hsd.symm;clear hsd hl1 hy1;go_wp2_with fail
    refine tkK hK (HK3.out _ (S3.out.quiet ud2)) fun hHeld=>?_
    clear hK K
    refine tkY 7 hHeld ?_
    refine tk1 8 fun K hK=>?_
    go_simp;refine (dealings8_own _ ws sd _ HWO.out (HCW.out _ (S3.out.up.trans ud2)) hs1).mono ?_;rintro e wv3 ⟨u,HDS,rfl,hq⟩;obtain ⟨g,cap,c,gb,bc,cur,rfl,hcp,hgl,e0,e1,e2,hDB⟩:=(HDS.out _ (NewAgree.refl _ _)).elem (dsN_at HWL.out HKN.out HN.out HSD.out) (dlAt_boxes HWO.out _ _);obtain ⟨nb,hnb⟩:∃ x,x=(dlAt ws (courtL q0) k).boxes.length:=⟨_,rfl⟩;obtain ⟨p,hpp⟩:∃ x,x=(dlAt ws (courtL q0) k).point:=⟨_,rfl⟩;rw [← hnb] at e2;rw [← hpp] at e1;have hlen:(dsN ws (bs sd) ws.length).length=n:=(by rw [dsN_len];exact HWL.out);rw [hlen] at hcp ⊢;have HDL:=Lib.hid (dl_load e0 e1 e2);have HGL:=Lib.hid hgl;have HLU:Hid (∀ W,Upd [] [] wv3 W→(Instr.loadAt 132 (.pointer (some ⟨g,k * 3,none⟩))).run Tryz.prog W=.ok (.agg (dlC c (p:Int) (.slice (some ⟨gb,0,none⟩) nb bc))) W):=(by intro W u;exact dl_load ((u.cell (p:=⟨g,_,none⟩) hgl (by simp)).trans e0) ((u.cell (p:=⟨g,_,none⟩) hgl (by simp)).trans e1) ((u.cell (p:=⟨g,_,none⟩) hgl (by simp)).trans e2));have HDB:=Lib.hid (hDB.mono (B':=w3.heap.size) (by have:=ud2.size;omega));have HNB:=Lib.hid (And.intro hnb hpp);have uq_3:=Upd.refl [] wv3;have ud3:=ud2.trans hq;have fD_3:=Lib.hid (row_updH fD_2.out hq);clear hq hDB e0 e1 e2 hcp hgl HDS hnb hpp hlen;go_wp2_with fail
    refine tkK hK (HK3.out _ (S3.out.quiet ud3)) fun hHeld=>?_
    clear hK K
    refine tkY 10 hHeld ?_
    refine tk1 11 fun K hK=>?_
    refine wp_loadRun 132 _ rfl g (k * 3) rfl (dlC c (p:Int) (.slice (some ⟨gb,0,none⟩) nb bc)) (HLU.out _ uq_3) ?_
    refine tkK hK (HK3.out _ (S3.out.quiet ud3)) fun hHeld=>?_
    clear hK K
    refine tk1 13 fun K hK=>?_
    rw [if_pos (by rfl)];refine wp_store_row 132 _ _ rfl gD (dlC c (p:Int) (.slice (some ⟨gb,0,none⟩) nb bc)) rfl rfl _ _ fD_3.out (dlInfo _ _ _) rfl (dlC_one HDB.out.one rfl) ?_;obtain ⟨wv4,hwx⟩:∃ W':World,W'=wv3.setRow gD (dlC c (p:Int) (.slice (some ⟨gb,0,none⟩) nb bc)):=⟨_,rfl⟩;have fD_4:Hid (wv4.heap[gD]? =some (.cells (dlC c (p:Int) (.slice (some ⟨gb,0,none⟩) nb bc)) 132 (0,0))):=(by show _=_;rw [hwx];exact setRow_heap _ _ _ _ _ _ fD_3.out);have HDB':Hid (DlB w3.heap.size wv4 c gb bc cur (dlAt ws (courtL q0) k)):=(by rw [hwx];exact HDB.out.keep fD_3.out (fun x hx=>setRow_other _ _ _ _ hx));have ud4:=ud3.setRowNew bD (dlC c (p:Int) (.slice (some ⟨gb,0,none⟩) nb bc));rw [← hwx] at ud4 ⊢;clear hwx
    refine tkK hK (HK3.out _ (S3.out.quiet ud4)) fun hHeld=>?_
    clear hK K
    refine wpAnyH_done (by kernel_rfl) ?_ _
    refine NoPanic.normal ?_
    exact hJ m0 y1 sd g cap c gb bc nb p cur gD wv4 HNB HDB' fD_4 (Lib.hid ud4) (Lib.hid bD)
  refine tkZ fun K hK=>?_
  go_simp;obtain ⟨gD,wv1,hgx,hwx,fD_1,hq⟩:=alloc_letD w3 (.cells #[.slice none 0 0,.int .i64 0,.slice none 0 0] 132);rw [← hgx,← hwx];have bD:w3.heap.size≤gD:=(by omega);have ud1:=hq;clear hgx hwx hq
  refine tkK hK (HK3.out _ (S3.out.quiet ud1)) fun hHeld=>?_
  clear hK K
  refine tk1 5 fun K hK=>?_
  go_simp;refine (mod33_any q0 1000 _ HQI.out.1 (by omega)).mono ?_;rintro e wq ⟨m0,HM0,m00,m01,rfl,rfl⟩;go_wp2_with fail
  refine tkK hK (HK3.out _ (S3.out.quiet ud1)) fun hHeld=>?_
  clear hK K
  refine tk1 6 fun K hK=>?_
  go_simp;refine (decimal11_any m0 _ (by unfold i64in;omega)).mono ?_;rintro e wv2 ⟨y1,HY1,hy1,rfl,hq⟩;have ud2:=ud1.trans hq;have fD_2:=Lib.hid (row_updH fD_1.out hq);clear hq;have hl1:=itoa_len m0 (by unfold i64in;omega);have t1:¬ 9223372036854775807<6+y1.size:=(by omega);obtain ⟨sd,hsd⟩:∃ s:ByteArray,s=ByteArray.mk #[99,111,117,114,116,32] ++ y1:=⟨_,rfl⟩;have HSD:Hid (bs sd=courtL q0):=(by show _=_;rw [hsd,bs_append,HY1.out,HM0.out];rfl);have hs1:sd.size≤100000:=(by rw [hsd,ByteArray.size_append,show (ByteArray.mk #[99,111,117,114,116,32]).size=6 from rfl];omega);have hsd':=hsd.symm;clear hsd hl1 hy1;go_wp2_with fail
  refine tkK hK (HK3.out _ (S3.out.quiet ud2)) fun hHeld=>?_
  clear hK K
  refine tkY 7 hHeld ?_
  refine tk1 8 fun K hK=>?_
  go_simp;refine (dealings8_own _ ws sd _ HWO.out (HCW.out _ (S3.out.up.trans ud2)) hs1).mono ?_;rintro e wv3 ⟨u,HDS,rfl,hq⟩;obtain ⟨g,cap,c,gb,bc,cur,rfl,hcp,hgl,e0,e1,e2,hDB⟩:=(HDS.out _ (NewAgree.refl _ _)).elem (dsN_at HWL.out HKN.out HN.out HSD.out) (dlAt_boxes HWO.out _ _);obtain ⟨nb,hnb⟩:∃ x,x=(dlAt ws (courtL q0) k).boxes.length:=⟨_,rfl⟩;obtain ⟨p,hpp⟩:∃ x,x=(dlAt ws (courtL q0) k).point:=⟨_,rfl⟩;rw [← hnb] at e2;rw [← hpp] at e1;have hlen:(dsN ws (bs sd) ws.length).length=n:=(by rw [dsN_len];exact HWL.out);rw [hlen] at hcp ⊢;have HDL:=Lib.hid (dl_load e0 e1 e2);have HGL:=Lib.hid hgl;have HLU:Hid (∀ W,Upd [] [] wv3 W→(Instr.loadAt 132 (.pointer (some ⟨g,k * 3,none⟩))).run Tryz.prog W=.ok (.agg (dlC c (p:Int) (.slice (some ⟨gb,0,none⟩) nb bc))) W):=(by intro W u;exact dl_load ((u.cell (p:=⟨g,_,none⟩) hgl (by simp)).trans e0) ((u.cell (p:=⟨g,_,none⟩) hgl (by simp)).trans e1) ((u.cell (p:=⟨g,_,none⟩) hgl (by simp)).trans e2));have HDB:=Lib.hid (hDB.mono (B':=w3.heap.size) (by have:=ud2.size;omega));have HNB:=Lib.hid (And.intro hnb hpp);have uq_3:=Upd.refl [] wv3;have ud3:=ud2.trans hq;have fD_3:=Lib.hid (row_updH fD_2.out hq);clear hq hDB e0 e1 e2 hcp hgl HDS hnb hpp hlen;go_wp2_with fail
  refine tkK hK (HK3.out _ (S3.out.quiet ud3)) fun hHeld=>?_
  clear hK K
  refine tkY 10 hHeld ?_
  refine tk1 11 fun K hK=>?_
  refine wp_loadRun 132 _ rfl g (k * 3) rfl (dlC c (p:Int) (.slice (some ⟨gb,0,none⟩) nb bc)) (HLU.out _ uq_3) ?_
  refine tkK hK (HK3.out _ (S3.out.quiet ud3)) fun hHeld=>?_
  clear hK K
  refine tk1 13 fun K hK=>?_
  rw [if_pos (by rfl)];refine wp_store_row 132 _ _ rfl gD (dlC c (p:Int) (.slice (some ⟨gb,0,none⟩) nb bc)) rfl rfl _ _ fD_3.out (dlInfo _ _ _) rfl (dlC_one HDB.out.one rfl) ?_;obtain ⟨wv4,hwx⟩:∃ W':World,W'=wv3.setRow gD (dlC c (p:Int) (.slice (some ⟨gb,0,none⟩) nb bc)):=⟨_,rfl⟩;have fD_4:Hid (wv4.heap[gD]? =some (.cells (dlC c (p:Int) (.slice (some ⟨gb,0,none⟩) nb bc)) 132 (0,0))):=(by show _=_;rw [hwx];exact setRow_heap _ _ _ _ _ _ fD_3.out);have HDB':Hid (DlB w3.heap.size wv4 c gb bc cur (dlAt ws (courtL q0) k)):=(by rw [hwx];exact HDB.out.keep fD_3.out (fun x hx=>setRow_other _ _ _ _ hx));have ud4:=ud3.setRowNew bD (dlC c (p:Int) (.slice (some ⟨gb,0,none⟩) nb bc));rw [← hwx] at ud4 ⊢;clear hwx
  refine tkK hK (HK3.out _ (S3.out.quiet ud4)) fun hHeld=>?_
  clear hK K
  refine wpAnyH_done (by kernel_rfl) ?_ _
  refine NoPanic.normal ?_
  exact hJ m0 y1 sd g cap c gb bc nb p cur gD wv4 HNB HDB' fD_4 (Lib.hid ud4) (Lib.hid bD)
 intro m0 y1 sd g cap c gb bc nb p cur gD w4 HNB HDB fD4 U4 HGD
 skip
 obtain ⟨D0,hD0⟩:∃ D,D=dlAt ws (courtL q0) k:=⟨_,rfl⟩
 have HDG:Hid (DlGood D0 ws.sum∧D0.coms.length=needN ws.sum):=by rw [hD0];exact dlAt_good HWO.out _ _
 rw [← hD0] at HNB HDB
 have HD0:=Lib.hid hD0
 have hsum:=HWO.out.sum
 have hnb:nb=ws.sum:=HNB.out.1.trans HDG.out.1.2.2.2.2.1
 have HNS:=Lib.hid hnb
 have S4:=Lib.hid (S3.out.quiet U4.out)
 have HGD3:Hid (gR<gD):=by have:=HGR3.out;have:=HGD.out;show _<_;omega
 have hgb:w3.heap.size≤gb:=HDB.out.base
 have HGB3:Hid (gR<gb):=by have:=HGR3.out;show _<_;omega
 have q1c:w4.cell? ⟨gQ,1,none⟩=some (.int .i64 q1):=cell_of_row _ gQ 1 _ _ _ S4.out.q
 have d2c:w4.cell? ⟨gD,2,none⟩=some (.slice (some ⟨gb,0,none⟩) nb bc):=(cell_of_row _ gD 2 _ _ _ fD4.out).trans rfl
 have HM2:=Lib.hid (mod33_any q1 (nb:Int) w4 HQI.out.2.1 (by omega))
 have hnb1:1≤nb∧nb≤12:=by omega
 clear hD0 hsum hgb hnb
 go_wp2_with fail
 refine HM2.out.mono ?_
 rintro e w5 ⟨n9,HN9,n90,n91,rfl,rfl⟩
 obtain ⟨n9,rfl⟩:∃ y:Nat,n9=(y:Int):=⟨n9.toNat,by omega⟩
 have hn9:n9<D0.boxes.length:=by rw [← HNB.out.1];omega
 obtain ⟨bxl,hbxl⟩:∃ b,D0.boxes[n9]? =some b:=⟨_,List.getElem?_eq_getElem hn9⟩
 have hb16:=HDG.out.1.2.2.2.2.2 bxl (List.mem_of_getElem? hbxl)
 obtain ⟨ao8,cap8,e8,_,_,hget⟩:=HDB.out.rds.form
 obtain ⟨gb8,hgb8,_,hbc8⟩:=hget n9 bxl hbxl
 obtain rfl:gb=gb8:=by
  simp only [Value.slice.injEq] at e8
  have:=e8.1.trans hgb8
  simpa using this
 obtain ⟨bx,hbx⟩:∃ s:ByteArray,s=⟨bxl.toArray⟩:=⟨_,rfl⟩
 have hbb:bs bx=bxl:=by rw [hbx,bs_mk]
 have bxc:w4.cell? ⟨gb,n9,none⟩=some (.string bx):=by rw [hbc8,hbx];rfl
 have hbs:bx.size=16:=by rw [bs_size hbb];exact hb16
 have HBL:=Lib.hid (And.intro hbb (And.intro hbxl hn9))
 obtain ⟨kc,w5,hrun,hk1,hk2,HBB0,hq5⟩:=BB.make w4 9 bx Tryz.underlying9 (by rw [hbs];simp [maxLen])
 have HRN:=Lib.hid hrun
 have HBB:=Lib.hid HBB0
 have HQ5:=Lib.hid hq5
 obtain ⟨gY,hgY⟩:∃ g,g=w4.heap.size:=⟨_,rfl⟩
 rw [← hgY] at HBB HRN
 have HGY:Hid (w4.heap.size=gY):=hgY.symm
 have j0:(0:Int)≤(n9:Int):=by omega
 have j1:(n9:Int)<(nb:Int):=by omega
 clear HM2 hbxl hn9 hb16 e8 hget hgb8 hbc8 hbx hbb hrun HBB0 hq5 hgY
 rw [hbs] at HRN hk1
 go_wp2_with fail
 rw [HRN.out]
 have S5:=Lib.hid (S4.out.quiet HQ5.out)
 have DB5:=Lib.hid (HDB.out.upd HQ5.out)
 have fD5:=Lib.hid (row_updH fD4.out HQ5.out)
 have q2c:w5.cell? ⟨gQ,2,none⟩=some (.int .i64 q2):=cell_of_row _ gQ 2 _ _ _ S5.out.q
 have HM5:=Lib.hid (mod33_any q2 16 w5 HQI.out.2.2 (by omega))
 clear q1c d2c bxc j0 j1 HRN
 go_wp2_with fail
 refine HM5.out.mono ?_
 rintro e w6 ⟨m',HM,m0',m1',rfl,rfl⟩
 obtain ⟨m,rfl⟩:∃ y:Nat,m'=(y:Int):=⟨m'.toNat,by omega⟩
 have hm16:m<(bs bx).length:=by rw [bs_length,hbs];omega
 obtain ⟨b0,hb0⟩:∃ b,(bs bx)[m]? =some b:=⟨_,List.getElem?_eq_getElem hm16⟩
 have fc:=HBB.out.cell hb0
 have fz:w5.frozen? ⟨gY,m,none⟩=false:=HBB.out.frozen hm16
 have ex:bits .xor .u8 (b0.toNat:Int) 1=((b0 ^^^ 1).toNat:Int):=xor_u8 b0 1
 obtain ⟨b1,hb1⟩:∃ b,b=b0 ^^^ 1:=⟨_,rfl⟩
 rw [← hb1] at ex
 obtain ⟨W6,hW6⟩:∃ W,w5.setCell ⟨gY,m,none⟩ (.int .u8 (b1.toNat:Int))=W:=⟨_,rfl⟩
 have hgd:gD<w4.heap.size:=blk_lt fD4.out
 have hgy:=HGY.out
 have hgbl:gb<w4.heap.size:=blk_lt HDB.out.box
 have hS6:=S5.out.other (g:=gY) (by have:=HGD3.out;omega) m (.int .u8 (b1.toNat:Int))
 have hB6:=HBB.out.set hm16 b1
 have hD6:=row_setCellO (g:=gY) (i:=m) (v:=.int .u8 (b1.toNat:Int)) fD5.out (by omega)
 have hDB6:=DB5.out.setOther (g:=gY) (by have:=HQ5.out.size;intro x hx;have:=HDB.out.foot_lt x hx;omega) (by omega) m (.int .u8 (b1.toNat:Int))
 rw [hW6] at hS6 hB6 hD6 hDB6
 have S6:=Lib.hid hS6
 have B6:=Lib.hid hB6
 have fD6:=Lib.hid hD6
 have DB6:=Lib.hid hDB6
 have HW6:=Lib.hid hW6
 have HFL:Hid ((bs bx).set m b1=flipL bxl m):=by
  show _=_
  rw [flipL,← HBL.out.1,hb1]
  simp [List.getD_eq_getElem?_getD,hb0]
 have p0:(0:Int)≤(m:Int):=by omega
 have p1:(m:Int)<16:=by omega
 clear hb0 hb1 hW6 hS6 hB6 hD6 hDB6 hgd hgy hm16 HM5 q2c
 go_upto_region 6 with (fail)
 rw [HW6.out]
 obtain ⟨nx,hnx⟩:∃ s:ByteArray,s=⟨(flipL bxl m).toArray⟩:=⟨_,rfl⟩
 have hcv:=B6.out.text 9 Tryz.underlying9 kc
 rw [List.length_set,bs_length,hbs,HFL.out] at hcv
 have HCV:Hid ((convert 126 9 (.slice (some ⟨gY,0,none⟩) 16 kc)).run Tryz.prog W6=.ok (.string nx) W6):=by rw [hnx];exact hcv
 have HNX:Hid (bs nx=flipL bxl m):=by show _=_;rw [hnx,bs_mk]
 have d2c:W6.cell? ⟨gD,2,none⟩=some (.slice (some ⟨gb,0,none⟩) nb bc):=(cell_of_row _ gD 2 _ _ _ fD6.out).trans rfl
 clear hcv hnx
 go_wp2_with fail
 rw [HCV.out]
 have hn9:=HBL.out.2.2
 have bxc:W6.cell? ⟨gb,n9,none⟩=some (.string bx):=by
  obtain ⟨ao8,cap8,e8,_,_,hget⟩:=DB6.out.rds.form
  obtain ⟨gb8,hgb8,_,hbc8⟩:=hget n9 bxl HBL.out.2.1
  obtain rfl:gb=gb8:=by
   simp only [Value.slice.injEq] at e8
   have:=e8.1.trans hgb8
   simpa using this
  rw [hbc8,← HBL.out.1,strV_bs]
 have bxf:W6.frozen? ⟨gb,n9,none⟩=false:=frozen_of_row _ _ _ _ _ DB6.out.box
 obtain ⟨W7,hW7⟩:∃ W,W6.setCell ⟨gb,n9,none⟩ (.string nx)=W:=⟨_,rfl⟩
 have hS7:=S6.out.other HGB3.out n9 (.string nx)
 have hDB7:=DB6.out.setBox hn9 nx
 have hD7:=row_setCellO (g:=gb) (i:=n9) (v:=.string nx) fD6.out (by
  intro e
  have h1:=DB6.out.box
  rw [← e,fD6.out] at h1
  simp at h1)
 rw [hW7] at hS7 hDB7 hD7
 obtain ⟨D7,hD7e⟩:∃ D,D=cheatD l k n9 m q0:=⟨_,rfl⟩
 have hDe:({ D0 with boxes:=D0.boxes.set n9 (bs nx) }:Dl)=D7:=by
  rw [hD7e,cheatD,← HWS.out,← HD0.out,HNX.out,List.getD_eq_getElem?_getD,HBL.out.2.1]
  rfl
 rw [hDe] at hDB7
 have S7:=Lib.hid hS7
 have DB7:=Lib.hid hDB7
 have fD7:=Lib.hid hD7
 have HW7:=Lib.hid hW7
 have HD7:=Lib.hid hD7e
 have j0:(0:Int)≤(n9:Int):=by omega
 have j1:(n9:Int)<(nb:Int):=by rw [HNB.out.1];omega
 clear hS7 hDB7 hD7 hDe hW7 hD7e hn9
 go_upto_region 7 with (fail)
 rw [HW7.out]
 have HPT:=Lib.hid ((HCR.out.upd S7.out.up).made.pts)
 obtain ⟨po,pc,hP,hpc,_,hpts⟩:=HPT.out
 have hpl:(ptsOf (wsN l (manyN l))).length=n:=by rw [ptsOf_len,← HWS.out,HWL.out]
 rw [hpl] at hP hpc
 have HPS:=Lib.hid hpts
 have cP:W7.cell? ⟨gC,2,none⟩=some (.slice po n pc):=by rw [cell_of_row _ gC 2 _ _ _ S7.out.c,HCA.out,← hP];rfl
 have cL:W7.cell? ⟨gC,0,none⟩=some (.slice (some ⟨gm0,0,none⟩) n mc):=by rw [cell_of_row _ gC 0 _ _ _ S7.out.c,HCA.out,← HLS.out.1];rfl
 have HPL:=Lib.hid hpl
 have hwn:IntKind.i64.wrap ((n9:Int)+1)=(n9:Int)+1:=wrap_in (by omega) (by omega)
 clear hP hpts hpl hpc
 go_wp2_with fail
 go_loopw [12,13,14] (fun o i _j wr=>∃ (ov iv:Nat),o=.int .i64 (ov:Int)∧i=.int .i64 (iv:Int)∧ov<n∧iv≤n∧W7=wr) (fun _ i _ _=>n - (intOf i).toNat)
 case atStart=>exact ⟨0,0,rfl,rfl,by omega,Nat.zero_le _,by first | trivial | rfl⟩
 case round =>
  obtain ⟨ov,iv,rfl,rfl,hov,hiv,rfl⟩:=hrel
  by_cases hlt:iv<n
  · obtain ⟨pl,hpl⟩:∃ pl,(ptsOf (wsN l (manyN l)))[iv]? =some pl:=⟨_,List.getElem?_eq_getElem (by rw [HPL.out];exact hlt)⟩
    obtain ⟨gp,u,hpo,_,hcu,hsl⟩:=HPS.out iv pl hpl
    have HSLf:=hsl
    obtain ⟨xo,xc,rfl,hxc,hxm,_⟩:=hsl
    have hxm2:xc≤9223372036854775807:=Nat.le_trans hxm (by unfold maxLen;omega)
    obtain ⟨xn,hxn⟩:∃ x,x=pl.length:=⟨_,rfl⟩
    rw [← hxn] at hcu HSLf hxc
    have HSL:=Lib.hid HSLf
    have HXN:=Lib.hid hxn
    have hxn2:xn≤9223372036854775807:=by omega
    subst hpo
    have k0:(0:Int)≤(iv:Int):=by omega
    have k1:(iv:Int)<(n:Int):=by omega
    clear hpl hxn HSLf hxc hxm hxm2
    go_wp2_with fail
    go_loopw [12,14] (fun o j wr=>∃ (o2 jv:Nat),o=.int .i64 (o2:Int)∧j=.int .i64 (jv:Int)∧o2<n∧jv≤xn∧W7=wr) (fun _ j _=>xn - (intOf j).toNat)
    case atStart=>exact ⟨ov,0,rfl,rfl,hov,Nat.zero_le _,by first | trivial | rfl⟩
    case round =>
     obtain ⟨o2,jv,rfl,rfl,ho2,hjv,rfl⟩:=hrel
     by_cases hj:jv<xn
     · obtain ⟨x,hx⟩:∃ x,pl[jv]? =some x:=⟨_,List.getElem?_eq_getElem (by rw [← HXN.out];exact hj)⟩
       obtain ⟨xb,hxo,hcx⟩:=HSL.out.get hx
       subst hxo
       have m0:(0:Int)≤(jv:Int):=by omega
       have m1:(jv:Int)<(xn:Int):=by omega
       clear hx
       by_cases hxe:(x:Int)=(n9:Int)+1
       · have hxb:((x:Int) == (n9:Int)+1)=true:=by simpa using hxe
         rw [hxe] at hcx
         go_wp2_with fail
         exact ⟨⟨iv,jv+1,by go_num,by go_num,hlt,by omega,by first | trivial | rfl⟩,by first | (simp [intOf];done) | (simp [intOf];omega)⟩
       · have hxb:((x:Int) == (n9:Int)+1)=false:=by simpa using hxe
         go_wp2_with fail
         exact ⟨⟨o2,jv+1,by go_num,by go_num,ho2,by omega,by first | trivial | rfl⟩,by first | (simp [intOf];done) | (simp [intOf];omega)⟩
     · obtain rfl:jv=xn:=by omega
       go_wp2_with fail
       exact ⟨⟨o2,iv+1,by go_num,by go_num,ho2,by omega,by first | trivial | rfl⟩,by first | (simp [intOf];done) | (simp [intOf];omega)⟩
  · obtain rfl:n=iv:=by omega
    have HFT:Hid (DlFit D7):=by
     have hg:=HDG.out.1
     have hb:=dlAt_box HWO.out (courtL q0) k
     have hs:=HWO.out.sum
     rw [← HD0.out] at hb
     have e7:D7={ D0 with boxes:=D0.boxes.set n9 (bs nx) }:=by
      rw [HD7.out,cheatD,← HWS.out,← HD0.out,HNX.out,List.getD_eq_getElem?_getD,HBL.out.2.1]
      rfl
     rw [e7]
     refine ⟨fun x hx=>?_,?_,?_,?_,fun b hbm=>?_⟩
     · have:=(hg.1 x hx).2.1;unfold Pn at this;omega
     · have:=hg.2.1.2.1;unfold Pn at this;show D0.point<_;omega
     · have:=hg.2.2.2.1;show D0.coms.length≤100;omega
     · show (D0.boxes.set n9 (bs nx)).length≤100;rw [List.length_set];omega
     · rcases List.mem_or_eq_of_mem_set hbm with h | h
       · have:=hb.2 b h;omega
       · rw [h,bs_length,bs_size HNX.out]
         simp only [flipL,List.length_set]
         have:=hb.2 bxl (List.mem_of_getElem? HBL.out.2.1)
         omega
    have HDC:Hid (D7.point=p∧D7.boxes.length=nb):=by
     have e7:D7={ D0 with boxes:=D0.boxes.set n9 (bs nx) }:=by
      rw [HD7.out,cheatD,← HWS.out,← HD0.out,HNX.out,List.getD_eq_getElem?_getD,HBL.out.2.1]
      rfl
     rw [e7,HNB.out.1,HNB.out.2]
     exact ⟨rfl,by simp⟩
    obtain ⟨DW,hDW⟩:∃ D,D=dlC c (p:Int) (.slice (some ⟨gb,0,none⟩) nb bc):=⟨_,rfl⟩
    have HDW:=Lib.hid hDW
    have fD8:Hid (W7.heap[gD]? =some (.cells DW 132 (0,0))):=by rw [hDW];exact fD7
    have HDE:Hid (∀ (ep:Int) W,i64in ep→Upd [] [] W7 W→Calls Tryz.prog 74 #[.int .i64 ep,.agg DW] W (MkS (dealtL ep D7) W)):=fun ep W he u=>by
     have hd:=DB7.out.upd u
     have h2:=hd.rds
     rw [HDC.out.2] at h2
     rw [hDW,← HDC.out.1]
     exact dealt_any ep c (.slice (some ⟨gb,0,none⟩) nb bc) D7 W he HFT.out (Sl.of_digs rfl hd.com) h2
    have HKA:Hid (∀ W VX,ChSt w W gC gV gQ gR CA VX q0 q1 q2→VX[1]? =some (.int .i64 id)→W.heap[gD]? =some (.cells DW 132 (0,0))→W.cell? ⟨gV,1,none⟩=some (.int .i64 id)∧W.cell? ⟨gC,6,none⟩=some (.slice (some ⟨gs,0,none⟩) n sc)∧W.cell? ⟨gs,k,none⟩=some (.int .i64 (sx:Int))∧W.cell? ⟨gQ,2,none⟩=some (.int .i64 q2)∧(Instr.loadAt 132 (.pointer (some ⟨gD,0,none⟩))).run Tryz.prog W=.ok (.agg DW) W):=fun W VX h hv hd=>by
     refine ⟨?_,?_,(h.up.cell (p:=⟨gs,k,none⟩) HSE.out.1 (by simp)).trans HSE.out.2,cell_of_row _ gQ 2 _ _ _ h.q,dl_row_load HDW.out hd⟩
     · rw [cell_of_row _ gV 1 _ _ _ h.v];exact hv
     · rw [cell_of_row _ gC 6 _ _ _ h.c,HCA.out,← HLS.out.2];rfl
    have HE0:Hid (EV[1]? =some (.int .i64 id)):=by rw [HEV.out,HX0.out,HID.out];rfl
    have ua0:Upd [] [] W7 W7.drew:=(Upd.refl _ _).drew
    clear hDW ud0
    go_upto_region 16 with (fail)
    refine @_root_.id ((∀ (m8 dd:Int) (T:ByteArray) (r s:Nat) (V3:Array Value) (W:World),Hid (m8=q2 % 8∧m8 / 7=dd)→Hid (bs T=dealtL dd D7∧r=gP (nonceN (expN (sx:Int)) (bs T))∧s=sWith (expN (sx:Int)) (nonceN (expN (sx:Int)) (bs T)) (bs T))→Hid (V3=#[.int .i64 id,.string T,.int .i64 (r:Int),.int .i64 (s:Int)])→Hid (ChSt w W gC gV gQ gR CA (setAll EV 2 V3.toList) q0 q1 q2)→Hid (W.heap[gD]? =some (.cells DW 132 (0,0)))→Hid (DlB w3.heap.size W c gb bc (cur.setIfInBounds n9 (.string nx)) D7)→(?pj15:Int→Int→ByteArray→Nat→Nat→Array Value→World→Prop) m8 dd T r s V3 W)→_) (fun hJ=>?mj15) ?jj15
    case mj15 =>
     refine wp_region_noPanic ?_
     refine wp_region_held_drew (S:=fun wp=>wp.cell? ⟨gV,1,none⟩=some (.int .i64 id)∧wp.cell? ⟨gC,6,none⟩=some (.slice (some ⟨gs,0,none⟩) n sc)∧wp.cell? ⟨gs,k,none⟩=some (.int .i64 (sx:Int))∧wp.cell? ⟨gQ,2,none⟩=some (.int .i64 q2)∧(Instr.loadAt 132 (.pointer (some ⟨gD,0,none⟩))).run Tryz.prog wp=.ok (.agg DW) wp) (by kernel_rfl) ?_ (fun hHeld=>?_)
     · exact HKA.out _ _ (S7.out.quiet ua0) HE0.out (row_updH fD8.out ua0)
     refine tkY 0 hHeld ?_
     refine tkY 1 hHeld ?_
     refine tkY 2 hHeld ?_
     refine tkY 3 hHeld ?_
     refine tkY 4 hHeld ?_
     refine tkY 5 hHeld ?_
     refine tkY 6 hHeld ?_
     refine tkY 7 hHeld ?_
     refine tkY 8 hHeld ?_
     refine tkL 11 hHeld DW (fun w hSw=>hSw.2.2.2.2) ?_
     refine tk1 9 fun K hK=>?_
     go_simp;refine (mod33_any q2 8 _ HQI.out.2.2 (by omega)).mono ?_;rintro e wq ⟨m8,HM8,m80,m81,rfl,rfl⟩;obtain ⟨dd,hdd⟩:∃ d:Int,m8.tdiv 7=d:=⟨_,rfl⟩;have hdi:m8 / 7=dd:=(by rw [← hdd,Int.tdiv_eq_ediv_of_nonneg m80]);have hd0:0≤dd∧dd≤1:=(by omega);have hwd:IntKind.i64.wrap dd=dd:=wrap_in (by omega) (by omega);have HDI:=Lib.hid hdi;clear hdi;go_wp2_with fail
     refine tkK hK (HKA.out _ _ (S7.out.quiet ua0) HE0.out (row_updH fD8.out ua0)) fun hHeld=>?_
     clear hK K
     refine tkY 10 hHeld ?_
     refine tk1 12 fun K hK=>?_
     go_simp;refine (HDE.out dd _ (by unfold i64in;omega) ua0).mono ?_;rintro e wv1 ⟨T,HT,hT,rfl,hq⟩;have ua1:=ua0.trans hq;clear hq;have hTs:T.size≤140737488355000:=(by have:=dealtL_len HFT.out (ep:=dd) (by unfold i64in;omega);omega);go_wp2_with fail
     refine tkK hK (HKA.out _ _ (S7.out.quiet ua1) HE0.out (row_updH fD8.out ua1)) fun hHeld=>?_
     clear hK K
     refine tk1 13 fun K hK=>?_
     go_simp;refine (rvote5_any id (sx:Int) T _ (by have:=HSX.out.2;omega) hTs).mono ?_;rintro e wv2 ⟨r,s,HRS,hr,hs,rfl,hq⟩;have ua2:=ua1.trans hq;clear hq;obtain ⟨V3,hV3⟩:∃ V:Array Value,V=#[.int .i64 id,.string T,.int .i64 (r:Int),.int .i64 (s:Int)]:=⟨_,rfl⟩;rw [← hV3];have T2:=Lib.hid (S7.out.quiet ua2);have HV3:=Lib.hid hV3;clear hV3;go_wp2_with fail
     refine tkK hK (HKA.out _ _ (S7.out.quiet ua2) HE0.out (row_updH fD8.out ua2)) fun hHeld=>?_
     clear hK K
     refine tkY 14 hHeld ?_
     refine tk1 15 fun K hK=>?_
     rw [if_pos (by rfl)];refine wp_store_mid 39 _ _ rfl gV 2 V3 rfl rfl (there_of_row T2.out.v (by rw [HEV.out,HV3.out];exact (by decide:2+4≤19))) (by rw [HV3.out];exact vt4_info _ _ _ _) (by rw [HV3.out];exact vt4_one _ _ _ _) ?_;have hS8:=T2.out.setV 2 V3.toList;have hgv:=T2.out.base;have hgd3:=HGD3.out;have hD8:=row_setCellsQ (g:=gV) (i:=2) (l:=V3.toList) (row_updH fD8.out ua2) (by omega);have hB8:=(DB7.out.upd ua2).setOthers (g:=gV) (by have:=DB7.out.base;have:=HGR3.out;omega) (fun e x hx=>(by have h1:=T2.out.v;rw [← e,hx] at h1;simp at h1)) 2 V3.toList;obtain ⟨W8,hW8⟩:∃ W:World,W=wv2.setCells gV 2 V3.toList:=⟨_,rfl⟩;rw [← hW8] at hS8 hD8 hB8 ⊢;clear hW8 hgv hgd3;have S8:=Lib.hid hS8;have fD9:=Lib.hid hD8;have DB8:=Lib.hid hB8;clear hS8 hD8 hB8
     refine tkK hK (HKA.out _ _ S8.out (by rw [HEV.out,HV3.out,HX0.out,HID.out];rfl) fD9.out) fun hHeld=>?_
     clear hK K
     refine wpAnyH_done (by kernel_rfl) ?_ _
     refine NoPanic.normal ?_
     exact hJ m8 dd T r s V3 W8 (Lib.hid ⟨HM8.out,HDI.out⟩) (Lib.hid ⟨HT.out,HRS.out.1,HRS.out.2⟩) HV3 S8 fD9 DB8
    intro m8 dd T r s V3 w8 HM8 HTRS HV3 S8 fD9 DB8
    obtain ⟨X1,hX1⟩:∃ X:EvdG,X={ X0 with aw:=id,aT:=T,ar:=(r:Int),as':=(s:Int) }:=⟨_,rfl⟩
    obtain ⟨EV1,hEV1⟩:∃ V:Array Value,V=X1.V:=⟨_,rfl⟩
    have hS8:=S8.out
    rw [show setAll EV 2 V3.toList=EV1 by rw [HEV.out,hEV1,hX1,HV3.out,HX0.out];rfl] at hS8
    have S9:=Lib.hid hS8
    have HX1:=Lib.hid hX1
    have HEV1:=Lib.hid hEV1
    obtain ⟨gs2,sc2,hS2,hgs2,ho0⟩:=HCR.out.sec (k:=ov) (by rw [← HN.out];exact hov)
    rw [HLS.out.2] at hS2
    obtain rfl:gs=gs2:=by
     simp only [Value.slice.injEq,Option.some.injEq,Addr.mk.injEq] at hS2
     exact hS2.1.1
    obtain ⟨so,hso⟩:∃ x,x=secN ov:=⟨_,rfl⟩
    rw [← hso] at ho0
    have hsoq:so<1152921504606845789:=by rw [hso];exact secN_lt ov
    have HCM:Hid (∀ W,Upd [] [] w8 W→Calls Tryz.prog 75 #[.int .i64 (so:Int),.agg DW,.int .i64 (n9:Int)] W (MkCmp n9 W)):=fun W u=>by
     have hd:=DB8.out.upd u
     have h2:=hd.rds
     rw [HDC.out.2] at h2
     rw [HDW.out,← HDC.out.1]
     exact complain_any so n9 c (.slice (some ⟨gb,0,none⟩) nb bc) D7 W hsoq (by rw [HDC.out.1,HNB.out.2];exact HDG.out.1.2.1) h2 (by rw [HDC.out.2,HNB.out.1];exact HBL.out.2.2)
    have HKB:Hid (∀ W VX,ChSt w W gC gV gQ gR CA VX q0 q1 q2→W.heap[gD]? =some (.cells DW 132 (0,0))→W.cell? ⟨gC,6,none⟩=some (.slice (some ⟨gs,0,none⟩) n sc)∧W.cell? ⟨gs,ov,none⟩=some (.int .i64 (so:Int))∧(Instr.loadAt 132 (.pointer (some ⟨gD,0,none⟩))).run Tryz.prog W=.ok (.agg DW) W):=fun W VX h hd=>by
     refine ⟨?_,(h.up.cell (p:=⟨gs,ov,none⟩) hgs2 (by simp)).trans ho0,dl_row_load HDW.out hd⟩
     rw [cell_of_row _ gC 6 _ _ _ h.c,HCA.out,← HLS.out.2];rfl
    have ub0:Upd [] [] w8 w8.drew:=(Upd.refl _ _).drew
    have o0:(0:Int)≤(ov:Int):=by omega
    have o1:(ov:Int)<(n:Int):=by omega
    clear hX1 hEV1 hS8 S8 hS2 hgs2 ho0 hso hsoq ua0
    go_upto_region 17 with (fail)
    refine @_root_.id ((∀ (ck c1 c2:Nat) (V4:Array Value) (W:World),Hid (ck<2305843009213691579∧c1<1152921504606845789∧c2<1152921504606845789)→Hid (V4=#[.int .i64 (n9:Int),.int .i64 (ck:Int),.int .i64 (c1:Int),.int .i64 (c2:Int)])→Hid (ChSt w W gC gV gQ gR CA (setAll EV1 15 V4.toList) q0 q1 q2)→(?pj27:Nat→Nat→Nat→Array Value→World→Prop) ck c1 c2 V4 W)→_) (fun hJ=>?mj27) ?jj27
    case mj27 =>
     refine wp_region_noPanic ?_
     refine wp_region_held_drew (S:=fun wp=>wp.cell? ⟨gC,6,none⟩=some (.slice (some ⟨gs,0,none⟩) n sc)∧wp.cell? ⟨gs,ov,none⟩=some (.int .i64 (so:Int))∧(Instr.loadAt 132 (.pointer (some ⟨gD,0,none⟩))).run Tryz.prog wp=.ok (.agg DW) wp) (by kernel_rfl) ?_ (fun hHeld=>?_)
     · exact HKB.out _ _ (S9.out.quiet ub0) (row_updH fD9.out ub0)
     refine tkY 0 hHeld ?_
     refine tkY 1 hHeld ?_
     refine tkY 2 hHeld ?_
     refine tkY 3 hHeld ?_
     refine tkY 4 hHeld ?_
     refine tkL 5 hHeld DW (fun w hSw=>hSw.2.2) ?_
     refine tkY 6 hHeld ?_
     refine tk1 7 fun K hK=>?_
     go_simp;refine (HCM.out _ ub0).mono ?_;rintro e wv1 ⟨ck,c1,c2,hck,hc1,hc2,rfl,hq⟩;have ub1:=ub0.trans hq;clear hq;obtain ⟨V4,hV4⟩:∃ V:Array Value,V=#[.int .i64 (n9:Int),.int .i64 (ck:Int),.int .i64 (c1:Int),.int .i64 (c2:Int)]:=⟨_,rfl⟩;rw [← hV4];have T3:=Lib.hid (S9.out.quiet ub1);have HV4:=Lib.hid hV4;clear hV4;go_wp2_with fail
     refine tkK hK (HKB.out _ _ (S9.out.quiet ub1) (row_updH fD9.out ub1)) fun hHeld=>?_
     clear hK K
     refine tkY 8 hHeld ?_
     refine tk1 9 fun K hK=>?_
     rw [if_pos (by rfl)];refine wp_store_mid 46 _ _ rfl gV 15 V4 rfl rfl (there_of_row T3.out.v (by rw [HEV1.out,HV4.out];exact (by decide:15+4≤19))) (by rw [HV4.out];exact cmpInfo _ _ _ _) (by rw [HV4.out];simp [Value.oneCell']) ?_;have hS9:=T3.out.setV 15 V4.toList;have hgv:=T3.out.base;have hgd3:=HGD3.out;have hD9:=row_setCellsQ (g:=gV) (i:=15) (l:=V4.toList) (row_updH fD9.out ub1) (by omega);obtain ⟨W9,hW9⟩:∃ W:World,W=wv1.setCells gV 15 V4.toList:=⟨_,rfl⟩;rw [← hW9] at hS9 hD9 ⊢;clear hW9 hgv hgd3;have S10:=Lib.hid hS9;have fD10:=Lib.hid hD9;clear hS9 hD9
     refine tkK hK (HKB.out _ _ S10.out fD10.out) fun hHeld=>?_
     clear hK K
     refine wpAnyH_done (by kernel_rfl) ?_ _
     refine NoPanic.normal ?_
     exact hJ ck c1 c2 V4 W9 (Lib.hid ⟨hck,hc1,hc2⟩) HV4 S10
    intro ck c1 c2 V4 w10 HCK HV4 S10
    obtain ⟨X2,hX2⟩:∃ X:EvdG,X={ X1 with ci:=(n9:Int),ck:=(ck:Int),c1:=(c1:Int),c2:=(c2:Int) }:=⟨_,rfl⟩
    obtain ⟨EV2,hEV2⟩:∃ V:Array Value,V=X2.V:=⟨_,rfl⟩
    have hT4:=S10.out
    rw [show setAll EV1 15 V4.toList=EV2 by rw [HEV1.out,hEV2,hX2,HV4.out];rfl] at hT4
    have T4:=Lib.hid hT4
    have HX2:=Lib.hid hX2
    have HEV2:=Lib.hid hEV2
    obtain ⟨z9,hz9⟩:∃ W,w10.setRow gR EV2=W:=⟨_,rfl⟩
    have HZ9:=Lib.hid hz9
    have HRI:Hid ((Tryz.prog.info? 48).map (·.size)=some EV2.size):=by rw [HEV2.out];exact X2.info
    have HRZ:Hid (evd0.V.size=EV2.size):=by show _=_;rw [HEV2.out];rfl
    have HRO:Hid (EV2.all (·.oneCell')=true):=by rw [HEV2.out];exact X2.one
    have HR9:Hid (z9.heap[gR]? =some (.cells EV2 48 (0,0))):=by show _=_;rw [← hz9];exact setRow_heap _ _ _ _ _ _ T4.out.r
    have HU9:Hid (Upd [] [] w z9):=by show Upd _ _ _ _;rw [← hz9];exact T4.out.up.setRowNew (by have:=T4.out.base;omega) _
    clear hz9 hX2 hEV2 hT4 S10
    go_wp2_with (first | (refine wpList_load_row rfl 48 _ rfl gV rfl _ EV2 _ _ T4.out.v Tryz.underlying48 rfl HRI.out ?_) | (refine wpList_store_rowAs rfl 48 _ _ rfl gR EV2 rfl rfl _ _ T4.out.r HRI.out HRZ.out HRO.out z9 HZ9.out ?_))
    refine bodyPost_ret (results_cell_row rfl _ _ gR _ EV2 _ _ rfl HR9.out Tryz.underlying48 rfl HRI.out) rfl ⟨X2,?_,?_,HU9.out⟩
    · have hx:=HSX.out.1
      have e9:expN (sx:Int)=sx:=expN_of HSX.out.2
      have h1:=HTRS.out.2.1
      have h2:=HTRS.out.2.2
      rw [e9,hx] at h1 h2
      refine ⟨D7,T,n9,m,r,s,ck,c1,c2,HFT.out,?_,HM.out,HD7.out,?_,h1,h2,?_,HCK.out.1,HCK.out.2.1,HCK.out.2.2,?_⟩
      · rw [HN9.out,HNS.out,HWS.out]
      · rw [HTRS.out.1,← HM8.out.2,HM8.out.1]
      · have h3:=HFT.out.2.2.2.1
        rw [HDC.out.2] at h3
        have h4:=HBL.out.2.2
        rw [← HNB.out.1] at h4
        omega
      · rw [HX2.out,HX1.out,HX0.out,HID.out]
    · rw [HEV2.out]
end Go.Proofs.YtmjlkkbbnkanpaaGreatDoor
