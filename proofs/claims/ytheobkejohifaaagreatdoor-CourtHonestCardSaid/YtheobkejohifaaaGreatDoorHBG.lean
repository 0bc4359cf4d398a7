/- Votes in a slice that grows and what follows. -/
import Derived.Test.YtheobkejohifaaaGreatDoorHBF
import Derived.Test.YtheobkejohifaaaGreatDoorHAH
import Derived.Test.YtheobkejohifaaaGreatDoorHAO
import Derived.Test.YtheobkejohifaaaGreatDoorHAA
import Derived.Test.YtheobkejohifaaaGreatDoorHAW
import Derived.Test.YtheobkejohifaaaGreatDoorHAT
import Derived.Test.YtheobkejohifaaaGreatDoorHBE
namespace Go.Proofs.YtheobkejohifaaaGreatDoor
open Go.RowKit
set_option maxRecDepth 100000
theorem votJ:∃ i,Tryz.prog.info? 48=some i∧i.zero=some (.agg #[.int .i64 0,.string ByteArray.empty,.int .i64 0,.int .i64 0])∧i.size=4∧i.bytes=40:=by
 have h:(Tryz.prog.info? 48).map (fun i=>(i.zero,i.size,i.bytes))=some (some (.agg #[.int .i64 0,.string ByteArray.empty,.int .i64 0,.int .i64 0]),4,40):=by kernel_rfl
 obtain ⟨i,hi,he⟩:=Option.map_eq_some_iff.1 h
 simp only [Prod.mk.injEq] at he
 exact ⟨i,hi,he.1,he.2.1,he.2.2⟩
def Hv.V (v:Hv):List Value:=[.int .i64 v.who,.string v.T,.int .i64 v.r,.int .i64 v.s]
def pbn (l:List Hv):List Value:=l.flatMap Hv.V
theorem pjB (l:List Hv) (v:Hv):pbn (l ++ [v])=pbn l ++ v.V:=by simp [pbn]
theorem pgr:∀ {l:List Hv} {k:Nat} {v:Hv},l[k]? =some v→∀ j,j<4→(pbn l)[k * 4+j]? =v.V[j]?
 | [],k,v,h,_,_=>by simp at h
 | a :: l,0,v,h,j,hj=>by
  simp at h
  subst h
  have e:pbn (a :: l)=a.V ++ pbn l:=rfl
  rw [e,Nat.zero_mul,Nat.zero_add,List.getElem?_append_left (by show j<4;exact hj)]
 | a :: l,k+1,v,h,j,hj=>by
  have e:pbn (a :: l)=a.V ++ pbn l:=rfl
  have hl:a.V.length=4:=rfl
  rw [e,List.getElem?_append_right (by omega),hl,show (k+1) * 4+j - 4=k * 4+j by omega]
  exact pgr (by simpa using h) j hj
theorem pcR (wr:World) (u:Value) (k:Nat) (l:List Hv) (v:Hv) (hown:wr.ownsRow 0 48 4 u k (pbn l)) (hk:k≤1000000) :
 ∃ u' w',(Builtin.append_ #[36,36] 36 #[u,.slice (some ⟨wr.heap.size,0,none⟩) 1 1]).run Tryz.prog (wr.alloc (.cells v.V.toArray 48))=.ok u' w'∧w'.ownsRow 0 48 4 u' (k+1) (pbn (l ++ [v]))∧Upd (foot u) (foot u') wr w':=by
 obtain ⟨iu,u1,u2,u3,u4⟩:=votJ
 have h:=pcj (P:=Tryz.prog) 36 48 iu _ 4 40 Tryz.underlying36 u1 u2 u3 u4 rfl (by omega) (by omega) wr u k (pbn l) v.V rfl (by
  intro x hx
  simp [Hv.V] at hx
  rcases hx with rfl | rfl | rfl | rfl <;> rfl) hown hk
 rw [pjB]
 exact h
theorem pdR (v:Hv) (w:World):(Instr.buildSlice 36 1 #[(0,.agg v.V.toArray)]).run Tryz.prog w=.ok (.slice (some ⟨w.heap.size,0,none⟩) 1 1) (w.alloc (.cells v.V.toArray 48)):=by
 obtain ⟨ie,hi,hz,hs,_⟩:=votJ
 refine run_buildSlice w 36 48 1 _ v.V.toArray ie _ Tryz.underlying36 hi hz (by rw [hs];omega) (by rw [hs];omega) ?_
 rw [hs]
 first | rfl | kernel_rfl
def HvIn (w:World) (g:Nat) (l:List Hv):Prop:=g<w.heap.size∧∀ k v,l[k]? =some v→∀ j x,v.V[j]? =some x→w.cell? ⟨g,k * 4+j,none⟩=some x
theorem HvIn.upd {w w':World} {g:Nat} {l:List Hv} (h:HvIn w g l) (u:Upd [] [] w w'):HvIn w' g l :=
 ⟨Nat.lt_of_lt_of_le h.1 u.size,fun k v hv j x hx=>(u.cell (p:=⟨g,k * 4+j,none⟩) h.1 (by simp)).trans (h.2 k v hv j x hx)⟩
theorem pnU {w:World} {u:Value} {l:List Hv} {n:Nat} (hn:l.length=n) (h0:0<n) (h:w.ownsRow 0 48 4 u n (pbn l)):∃ g cap,u=.slice (some ⟨g,0,none⟩) n cap∧n≤cap∧cap≤maxLen∧HvIn w g l:=by
 subst hn
 obtain ⟨g,cap,cur,rfl,hg,h1,h2,h3,h4⟩:=pcd h h0
 refine ⟨g,cap,rfl,h1,h2,pag hg,fun k v hv j x hx=>?_⟩
 have hk:=(List.getElem?_eq_some_iff.1 hv).1
 have hj:j<4:=(List.getElem?_eq_some_iff.1 hx).1
 have a:=(pgr hv j hj).trans hx
 rw [← h4,List.getElem?_take_of_lt (by omega)] at a
 exact (cell_of_row w g (k * 4+j) _ _ _ hg).trans (by simpa using a)
theorem HvIn.load {w:World} {g k:Nat} {l:List Hv} {v:Hv} (h:HvIn w g l) (hv:l[k]? =some v):(Instr.loadAt 48 (.pointer (some ⟨g,k * 4,none⟩))).run Tryz.prog w=.ok (.agg v.V.toArray) w :=
 run_loadAt_mid w g (k * 4) 48 v.V _ (fun j x hx=>h.2 k v hv j x hx) Tryz.underlying48 rfl (by show _=some 4;kernel_rfl)
theorem pkE (l:List Int):1≤pax l∧pax l≤4:=by
 have:=pgH l 0 4 (by omega)
 unfold pax
 omega
theorem ply {n k:Nat} (h:k<n):(pbQ n)[k]? =some (secN k):=by simp [pbQ,h]
theorem pnV (k:Nat):secN k<1152921504606845789:=ppy _
theorem CaseRd.memb {l:List Int} {w:World} {L K P KM S C KS:Value} (h:CaseRd l w L K P KM S C KS) {k:Nat} (hk:k<pax l):∃ g cap,L=.slice (some ⟨g,0,none⟩) (pax l) cap∧g<w.heap.size∧w.cell? ⟨g,k * 3,none⟩=some (.int .i64 ((k+1:Nat):Int))∧w.cell? ⟨g,k * 3+2,none⟩=some (.int .i64 (gP (secN k):Int)):=by
 obtain ⟨ao,cap,e,h1,h2,h3⟩:=h.made.crew
 have hg:(wsN l (pax l)).length=pax l:=by simp [wsN]
 obtain ⟨x,hx⟩:∃ x,(wsN l (pax l))[k]? =some x:=⟨_,List.getElem?_eq_getElem (by omega)⟩
 obtain ⟨g,ea,hgs,c0,c1,c2⟩:=h3 k _ (pbb hx)
 rw [hg,ea] at e
 exact ⟨g,cap,e,hgs,c0,c2⟩
theorem CaseRd.sec {l:List Int} {w:World} {L K P KM S C KS:Value} (h:CaseRd l w L K P KM S C KS) {k:Nat} (hk:k<pax l):∃ g cap,S=.slice (some ⟨g,0,none⟩) (pax l) cap∧g<w.heap.size∧w.cell? ⟨g,k,none⟩=some (.int .i64 (secN k:Int)):=by
 obtain ⟨ao,cap,e,h1,h2,h3⟩:=h.made.secs
 have hl:(pbQ (pax l)).length=pax l:=by simp [pbQ]
 rcases h3 with h3 | ⟨b,eb,hb,hc⟩
 · omega
 · rw [hl,eb] at e
   exact ⟨b,cap,e,hb,hc k _ (ply hk)⟩
def EvG.from (e:EvG) (who:Int):EvG:={ e with h:=who }
theorem EvG.from_ok {e:EvG} (h:e.ok) {who:Int} (hw:pab who):(e.from who).ok:=⟨h.1,h.2.1,hw,h.2.2.2.1,h.2.2.2.2.1,h.2.2.2.2.2.1,h.2.2.2.2.2.2⟩
theorem EvG.signed_ok {e:EvG} (h:e.ok) (x:Nat):(e.signed x).ok:=by
 have h1:gP (nonceN x e.text)<2305843009213691579:=pqD _
 have h2:sWith x (nonceN x e.text) e.text<1152921504606845789:=pjN _ _ _
 exact ⟨h.1,h.2.1,h.2.2.1,h.2.2.2.1,h.2.2.2.2.1,h.2.2.2.2.2.1,by show pab (_:Int);unfold pab;simp only [EvG.signed];omega,by show pab (_:Int);unfold pab;simp only [EvG.signed];omega⟩
theorem EvG.set2 (e:EvG) (who:Int):(e.V.toArray).setIfInBounds 2 (.int .i64 who)=(e.from who).V.toArray:=by
 simp [EvG.V,EvG.from]
set_option maxHeartbeats 4000000 in
theorem pcD (l:List Int) (L K P KM S C KS:Value) (w:World) (hC:CaseRd l w L K P KM S C KS) (k:Nat) (hk:k<pax l) (ev:EvG) (he:ev.ok) (hxs:ev.x.size≤1000000) :
 Calls Tryz.prog 9 #[.agg (csV L K P KM S C KS),.int .i64 (k:Int),.agg ev.V.toArray] w (pjl ((ev.from ((k+1:Nat):Int)).signed (secN k)) w):=by
 have hk4:k<4:=by have:=pkE l;omega
 have hp:ev.p.length=32:=he.2.2.2.2.2.1
 obtain ⟨gm,mc,hL,hgm,hm0,_⟩:=hC.memb hk
 obtain ⟨gs,sc,hS,hgs,hs0⟩:=hC.sec hk
 obtain ⟨n,hn⟩:∃ n,n=pax l:=⟨_,rfl⟩
 rw [← hn] at hL hS hk
 obtain ⟨id,hid⟩:∃ id:Int,id=((k+1:Nat):Int):=⟨_,rfl⟩
 rw [← hid] at hm0 ⊢
 have hidi:pab id:=by unfold pab;omega
 obtain ⟨CA,hCA⟩:∃ A,A=csV L K P KM S C KS:=⟨_,rfl⟩
 obtain ⟨EV,hEV⟩:∃ A,A=ev.V.toArray:=⟨_,rfl⟩
 obtain ⟨gC,hgC⟩:∃ g,w.heap.size=g:=⟨_,rfl⟩
 obtain ⟨w0,hw0⟩:∃ W,w.alloc (.cells CA 34)=W:=⟨_,rfl⟩
 have r0:w0.heap[gC]? =some (.cells CA 34 (0,0)):=by rw [← hgC,← hw0];exact heap_alloc_new _ _
 have u0:Upd [] [] w w0:=by rw [← hw0];exact (Upd.refl _ _).alloc _
 obtain ⟨gE,hgE⟩:∃ g,w0.heap.size=g:=⟨_,rfl⟩
 obtain ⟨w1,hw1⟩:∃ W,w0.alloc (.cells EV 53)=W:=⟨_,rfl⟩
 have r1:w1.heap[gE]? =some (.cells EV 53 (0,0)):=by rw [← hgE,← hw1];exact heap_alloc_new _ _
 have u1:Upd [] [] w0 w1:=by rw [← hw1];exact (Upd.refl _ _).alloc _
 obtain ⟨gR,hgR⟩:∃ g,w1.heap.size=g:=⟨_,rfl⟩
 obtain ⟨w2,hw2⟩:∃ W,w1.alloc (.cells #[.int .i64 0,.int .i64 0,.int .i64 0,.int .i64 0,.int .i64 0,.string ⟨#[]⟩,.int .u8 0,.int .u8 0,.int .u8 0,.int .u8 0,.int .u8 0,.int .u8 0,.int .u8 0,.int .u8 0,.int .u8 0,.int .u8 0,.int .u8 0,.int .u8 0,.int .u8 0,.int .u8 0,.int .u8 0,.int .u8 0,.int .u8 0,.int .u8 0,.int .u8 0,.int .u8 0,.int .u8 0,.int .u8 0,.int .u8 0,.int .u8 0,.int .u8 0,.int .u8 0,.int .u8 0,.int .u8 0,.int .u8 0,.int .u8 0,.int .u8 0,.int .u8 0,.int .i64 0,.int .i64 0] 53)=W:=⟨_,rfl⟩
 have r2:w2.heap[gR]? =some (.cells evZ.toArray 53 (0,0)):=by rw [← hgR,← hw2,paz];exact heap_alloc_new _ _
 have u2:Upd [] [] w1 w2:=by rw [← hw2];exact (Upd.refl _ _).alloc _
 have lCE:gC<gE:=by rw [← hgE];exact pag r0
 have lER:gE<gR:=by rw [← hgR];exact pag r1
 have U2:Upd [] [] w w2:=(u0.trans u1).trans u2
 have C2:=paa r0 (u1.trans u2)
 have E2:=paa r1 u2
 have HG:Hid (w.heap.size=gC∧gC<gE∧gE<gR):=⟨hgC,lCE,lER⟩
 have HR2:=Lib.hid r2
 have cL:w2.cell? ⟨gC,0,none⟩=some (.slice (some ⟨gm,0,none⟩) n mc):=by rw [cell_of_row _ gC 0 _ _ _ C2,hCA,← hL];rfl
 have cM:w2.cell? ⟨gm,k * 3,none⟩=some (.int .i64 id):=(U2.cell (p:=⟨gm,k * 3,none⟩) hgm (by simp)).trans hm0
 have e2:w2.cell? ⟨gE,2,none⟩=some (.int .i64 ev.h):=by rw [cell_of_row _ gE 2 _ _ _ E2,hEV];rfl
 have f2:w2.frozen? ⟨gE,2,none⟩=false:=frozen_of_row _ _ _ _ _ E2
 obtain ⟨W3,hW3⟩:∃ W,w2.setCell ⟨gE,2,none⟩ (.int .i64 id)=W:=⟨_,rfl⟩
 obtain ⟨EX,hEX⟩:∃ E,E=(ev.from id).V.toArray:=⟨_,rfl⟩
 have E3:Hid (W3.heap[gE]? =some (.cells EX 53 (0,0))):=by
  show _=_
  rw [← hW3,heap_setCell_same _ _ _ _ _ _ E2,hEV,EvG.set2,hEX]
 have U3:Upd [] [] w W3:=by rw [← hW3];exact U2.setNew (p:=⟨gE,2,none⟩) (by show w.heap.size≤gE;omega) _
 have uS:Upd [gE] [gE] w2 W3:=by
  have h:=(Upd.setCellsIn (g:=gE) (S:=[gE]) (S':=[gE]) (by simp) [.int .i64 id] 2 _ (Upd.refl [gE] w2))
  rw [← hW3]
  exact h
 have R3:Hid (W3.heap[gR]? =some (.cells evZ.toArray 53 (0,0))):=(uS.block gR (pag r2) (by simp;omega)).trans r2
 have C3:Hid (W3.heap[gC]? =some (.cells CA 34 (0,0))):=(uS.block gC (pag C2) (by simp;omega)).trans C2
 have HU3:=Lib.hid U3
 have HW3:=Lib.hid hW3
 have i0:(0:Int)≤(k:Int):=by omega
 have i1:(k:Int)<(n:Int):=by omega
 have cS:∀ W,Upd [] [] W3 W→W.cell? ⟨gC,6,none⟩=some (.slice (some ⟨gs,0,none⟩) n sc)∧W.cell? ⟨gs,k,none⟩=some (.int .i64 (secN k:Int)):=fun W u=>by
  refine ⟨?_,(u.cell (p:=⟨gs,k,none⟩) (Nat.lt_of_lt_of_le hgs U3.size) (by simp)).trans ((U3.cell (p:=⟨gs,k,none⟩) hgs (by simp)).trans hs0)⟩
  rw [cell_of_row _ gC 6 _ _ _ (paa C3.out u),hCA,← hS]
  rfl
 obtain ⟨x,hx⟩:∃ x,x=secN k:=⟨_,rfl⟩
 have hxq:x<1152921504606845789:=by rw [hx];exact pnV k
 rw [← hx] at cS ⊢
 have HEI:Hid ((Tryz.prog.info? 53).map (·.size)=some EX.size):=by rw [hEX];exact EvG.info (e:=ev.from id) hp
 have HSG:Hid (∀ W,Calls Tryz.prog 26 #[.int .i64 (x:Int),.agg EX] W (pjl ((ev.from id).signed x) W)):=fun W=>by
  rw [hEX]
  exact pli (ev.from id) (EvG.from_ok he hidi) hxs x hxq W
 have HK:Hid (∀ W,Upd [] [] W3 W→W.cell? ⟨gC,6,none⟩=some (.slice (some ⟨gs,0,none⟩) n sc)∧W.cell? ⟨gs,k,none⟩=some (.int .i64 (x:Int))∧(Instr.loadAt 53 (.pointer (some ⟨gE,0,none⟩))).run Tryz.prog W=.ok (.agg EX) W):=fun W u=>by
  obtain ⟨c1,c2⟩:=cS W u
  refine ⟨c1,c2,EvG.load (e:=ev.from id) hp hEX ?_⟩
  show W.heap[gE]? =_
  rw [← hEX]
  exact paa E3.out u
 have HK2:Hid (∀ W V,Upd [] [] W3 W→(W.setRow gR V).cell? ⟨gC,6,none⟩=some (.slice (some ⟨gs,0,none⟩) n sc)∧(W.setRow gR V).cell? ⟨gs,k,none⟩=some (.int .i64 (x:Int))∧(Instr.loadAt 53 (.pointer (some ⟨gE,0,none⟩))).run Tryz.prog (W.setRow gR V)=.ok (.agg EX) (W.setRow gR V)):=fun W V u=>by
  obtain ⟨c1,c2⟩:=cS W u
  have hb:∀ b,b≠gR→(W.setRow gR V).heap[b]? =W.heap[b]?:=fun b hb=>setRow_other _ _ _ _ hb
  refine ⟨(World.cell?_of_block (a:=⟨gC,6,none⟩) (hb gC (by omega))).trans c1,(World.cell?_of_block (a:=⟨gs,k,none⟩) (hb gs (by omega))).trans c2,EvG.load (e:=ev.from id) hp hEX ?_⟩
  show (W.setRow gR V).heap[gE]? =_
  rw [← hEX,hb gE (by omega)]
  exact paa E3.out u
 have HEL:Hid (EX.size=40):=by rw [hEX];exact EvG.V_len (e:=ev.from id) hp
 have HP:=Lib.hid hp
 rw [← hCA,← hEV]
 clear hCA hEV hEX hn hid hidi hx hxq hS hL cS r0 u0 r1 u1 r2 u2 U2 C2 E2 U3 uS hC he hxs hm0 hs0 hp hW3 hgs hgm hk hk4 lCE lER
 go_enter Tryz.func9,Tryz.ntmps9
 go_upto_region 2 with (fail)
 rw [HW3.out]
 have ud0:Upd [] [] W3 W3.drew:=(Upd.refl _ _).drew
 refine wp_region_noPanic ?_
 refine wp_region_held_drew (S:=fun wp=>wp.cell? ⟨gC,6,none⟩=some (.slice (some ⟨gs,0,none⟩) n sc)∧wp.cell? ⟨gs,k,none⟩=some (.int .i64 (x:Int))∧(Instr.loadAt 53 (.pointer (some ⟨gE,0,none⟩))).run Tryz.prog wp=.ok (.agg EX) wp) (by kernel_rfl) ?_ (fun hHeld=>?_)
 · exact HK.out _ ud0
 refine tkY 0 hHeld ?_
 refine tkY 1 hHeld ?_
 refine tkY 2 hHeld ?_
 refine tkY 3 hHeld ?_
 refine tkY 4 hHeld ?_
 refine tkL 5 hHeld EX (fun w hSw=>hSw.2.2) ?_
 refine tk1 6 fun K hK=>?_
 go_simp;refine (HSG.out _).mono ?_;rintro e wv1 ⟨EW,HEW,rfl,hq⟩;have ud1:=ud0.trans hq;clear hq;go_wp2_with fail
 refine tkK hK (HK.out _ ud1) fun hHeld=>?_
 clear hK K
 refine tk1 7 fun K hK=>?_
 rw [if_pos (by rfl)];refine wp_store_row 53 _ _ rfl gR EW rfl rfl _ _ (paa R3.out ud1) (by rw [HEW.out];exact EvG.info (e:=(ev.from id).signed x) HP.out) (by rw [HEW.out,pce];exact (EvG.V_len (e:=(ev.from id).signed x) HP.out).symm) (by rw [HEW.out];exact EvG.one _) ?_
 refine tkK hK (HK2.out _ _ ud1) fun hHeld=>?_
 clear hK K
 refine wpAnyH_done (by kernel_rfl) ?_ _
 refine NoPanic.normal ?_
 go_wp2_with fail
 exact bodyPost_ret (results_cell_row rfl _ _ gR _ EW _ _ rfl (setRow_heap _ _ _ _ _ _ (paa R3.out ud1)) Tryz.underlying53 rfl (by rw [HEW.out];exact EvG.info (e:=(ev.from id).signed x) HP.out)) rfl ⟨EW,HEW,rfl,(HU3.out.trans ud1).setRowNew (by have:=HG.out;omega) _⟩
def evH (q k n:Int) (T:ByteArray):EvG:=⟨q,k,0,0,n,T,zero32,0,0⟩
theorem pgs {q k n:Int} (T:ByteArray) (hq:pab q) (hk:pab k) (hn:pab n):(evH q k n T).ok:=⟨hq,hk,by unfold pab evH;simp,by unfold pab evH;simp,hn,rfl,by unfold pab evH;simp,by unfold pab evH;simp⟩
section
variable {l : List Int} {k q0 q1 i n : Nat}
theorem pdS {ev F:EvG} {T:ByteArray} {x:Nat} (_hk:k<4) (h:HonE l k q0 i (ev.from ((k+1:Nat):Int))) (hi:i<12) (hF:F=(ev.from ((k+1:Nat):Int)).signed x) (hT:bs T=F.text):Hon l k q0 q1 i ⟨F.h,T,F.r,F.s⟩:=by
 have ho:F.ok:=by rw [hF];exact EvG.signed_ok h.1 x
 have hx:F.x.size≤1000:=by rw [hF];exact h.2.2.2.1
 have hl:=F.text_len ho (by omega)
 rw [← hT,pac] at hl
 refine ⟨⟨ho.2.2.1,by show T.size≤2000;omega,ho.2.2.2.2.2.2⟩,by show F.h=_;rw [hF];rfl,.inl ⟨hi,_,h,?_⟩⟩
 show bs T=_
 rw [hT,hF]
 rfl
theorem piy {T:ByteArray} (hk:k<4) (hn:n<6) (hq:q0≤8) (hz:T.size≤1000) (h:HonP l n ((q0+n:Nat):Int) (bs T)):HonE l k q0 (2 * n) ((evH ((2 * n:Nat):Int) 5 ((q0+n:Nat):Int) T).from ((k+1:Nat):Int)):=by
 have e:2 * n / 2=n:=by omega
 refine ⟨EvG.from_ok (e:=evH ((2 * n:Nat):Int) 5 ((q0+n:Nat):Int) T) (pgs T (by unfold pab;omega) (by unfold pab;omega) (by unfold pab;omega)) (by unfold pab;omega),rfl,rfl,hz,.inl ⟨by omega,rfl,?_,?_⟩⟩
 · rw [e];rfl
 · rw [e];exact h
theorem piz {T:ByteArray} (hk:k<4) (hn:n<6) (hT:bs T=pqq):HonE l k q0 (2 * n+1) ((evH ((2 * n+1:Nat):Int) 4 (n:Int) T).from ((k+1:Nat):Int)):=by
 have e:(2 * n+1) / 2=n:=by omega
 have hz:T.size≤1000:=by rw [← pac,hT];decide
 refine ⟨EvG.from_ok (e:=evH ((2 * n+1:Nat):Int) 4 (n:Int) T) (pgs T (by unfold pab;omega) (by unfold pab;omega) (by unfold pab;omega)) (by unfold pab;omega),rfl,rfl,hz,.inr ⟨by omega,rfl,?_,hT⟩⟩
 rw [e];rfl
theorem pnW {T:ByteArray} {r s:Int} (hk:k<4) (hq:q1≤255) (hr:pab r) (hs:pab s) (hT:bs T=pbI (q1:Int) ((q1+1:Nat):Int) q1 (q1 * q1)):Hon l k q0 q1 12 ⟨((k+1:Nat):Int),T,r,s⟩:=by
 have hq2:q1 * q1≤255 * 255:=Nat.mul_le_mul hq hq
 have hl:=pdw (lo:=(q1:Int)) (hi:=((q1+1:Nat):Int)) (x:=q1) (y:=q1 * q1) (by unfold pab;omega) (by unfold pab;omega) (by omega) (by omega)
 rw [← hT,pac] at hl
 exact ⟨⟨by show pab ((k+1:Nat):Int);unfold pab;omega,by show T.size≤2000;omega,hr,hs⟩,rfl,.inr ⟨rfl,hT⟩⟩
end
def HonL (l:List Int) (k q0 q1 m:Nat) (vs:List Hv):Prop:=vs.length=m∧∀ i v,vs[i]? =some v→Hon l k q0 q1 i v
theorem HonL.nil (l:List Int) (k q0 q1:Nat):HonL l k q0 q1 0 []:=⟨rfl,fun i v h=>by simp at h⟩
theorem HonL.snoc {l:List Int} {k q0 q1 m:Nat} {vs:List Hv} {v:Hv} (h:HonL l k q0 q1 m vs) (hv:Hon l k q0 q1 m v):HonL l k q0 q1 (m+1) (vs ++ [v]):=by
 refine ⟨by simp [h.1],fun i u hu=>?_⟩
 rcases Nat.lt_or_ge i vs.length with hi | hi
 · rw [List.getElem?_append_left hi] at hu
   exact h.2 i u hu
 · rw [List.getElem?_append_right hi] at hu
   have h0:i - vs.length=0:=by
    have:=(List.getElem?_eq_some_iff.1 hu).1
    simp at this
    omega
   rw [h0] at hu
   simp at hu
   subst hu
   have e:i=m:=by have:=h.1;omega
   rw [e]
   exact hv
def pkF:List UInt8:=[99,108,97,105,109]
def pcs (d:Nat):List UInt8:=pkF ++ [32,55,32,56,32,51,32] ++ Lib.itoa (d:Int)
theorem prh:Lib.itoa 7=[55]:=pfn 7 (by omega)
theorem pri:Lib.itoa 8=[56]:=pfn 8 (by omega)
theorem plz (d:Nat):Lib.join [pkF,[55],[56],[51],Lib.itoa (d:Int)] [32]=pcs d:=by
 simp [Lib.join,List.intercalate_cons_cons,pcs,pkF]
theorem pc7 (d:Nat) (h:d<1000000000):(pcs d).length≤40:=by
 have:=itoa_len (d:Int) (by unfold pab;omega)
 simp [pcs,pkF]
 omega
def dspV (F A B:ByteArray):Array Value:=#[.int .i64 7,.int .i64 8,.string F,.string A,.string B]
set_option maxHeartbeats 4000000 in
theorem pfz (F A B:ByteArray) (d:Nat) (hF:bs F=be 3) (hA:bs A=be d) (h0:0<d) (hd:d<1000000000) (w:World) (htab:Tabs w):Calls Tryz.prog 15 #[.agg (dspV F A B)] w (MkS (pcs d) w):=by
 obtain ⟨g,hg⟩:∃ g,w.heap.size=g:=⟨_,rfl⟩
 obtain ⟨w0,hw0⟩:∃ W,w.alloc (.cells (dspV F A B) 61)=W:=⟨_,rfl⟩
 have r0:w0.heap[g]? =some (.cells (dspV F A B) 61 (0,0)):=by rw [← hg,← hw0];exact heap_alloc_new _ _
 have HU0:=Lib.hid (show Upd [] [] w w0 by rw [← hw0];exact (Upd.refl _ _).alloc _)
 have HK:Hid (∀ W,Upd [] [] w0 W→W.cell? ⟨g,0,none⟩=some (.int .i64 7)∧W.cell? ⟨g,1,none⟩=some (.int .i64 8)∧W.cell? ⟨g,2,none⟩=some (.string F)∧W.cell? ⟨g,3,none⟩=some (.string A)):=by
  intro W u
  have q:=paa r0 u
  exact ⟨cell_of_row _ g 0 _ _ _ q,cell_of_row _ g 1 _ _ _ q,cell_of_row _ g 2 _ _ _ q,cell_of_row _ g 3 _ _ _ q⟩
 have ud0:Upd [] [] w0 w0.drew:=(Upd.refl _ _).drew
 have HDL:=Lib.hid (pc7 d hd)
 have HFA:=Lib.hid (And.intro hF hA)
 clear r0 hF hA
 go_enter Tryz.func15,Tryz.ntmps15
 go_upto_region 1 with (fail)
 refine wp_region_noPanic ?_
 refine wp_region_held_drew (S:=fun wp=>wp.cell? ⟨g,0,none⟩=some (.int .i64 7)∧wp.cell? ⟨g,1,none⟩=some (.int .i64 8)∧wp.cell? ⟨g,2,none⟩=some (.string F)∧wp.cell? ⟨g,3,none⟩=some (.string A)) (by kernel_rfl) ?_ (fun hHeld=>?_)
 · exact HK.out _ ud0
 refine tkY 0 hHeld ?_
 refine tkY 1 hHeld ?_
 refine tkY 3 hHeld ?_
 refine tkY 4 hHeld ?_
 refine tkY 6 hHeld ?_
 refine tkY 7 hHeld ?_
 refine tkY 9 hHeld ?_
 refine tkY 10 hHeld ?_
 refine tk1 2 fun K hK=>?_
 go_simp;refine (pna 7 ⟨#[55]⟩ prh (by unfold pab;omega) _ (htab.upd (HU0.out.trans ud0))).mono ?_;rintro e wv1 ⟨rfl,hq⟩;have ud1:=ud0.trans hq;clear hq;go_wp2_with fail
 refine tkK hK (HK.out _ ud1) fun hHeld=>?_
 clear hK K
 refine tk1 5 fun K hK=>?_
 go_simp;refine (pna 8 ⟨#[56]⟩ pri (by unfold pab;omega) _ (htab.upd (HU0.out.trans ud1))).mono ?_;rintro e wv2 ⟨rfl,hq⟩;have ud2:=ud1.trans hq;clear hq;go_wp2_with fail
 refine tkK hK (HK.out _ ud2) fun hHeld=>?_
 clear hK K
 refine tk1 8 fun K hK=>?_
 go_simp;refine (pfv F 3 HFA.out.1 (by omega) (by omega) _ (htab.upd (HU0.out.trans ud2))).mono ?_;rintro e wv3 ⟨y3,HY3,_,rfl,hq⟩;have ud3:=ud2.trans hq;clear hq;go_wp2_with fail
 refine tkK hK (HK.out _ ud3) fun hHeld=>?_
 clear hK K
 refine tk1 11 fun K hK=>?_
 go_simp;refine (pfv A d HFA.out.2 h0 hd _ (htab.upd (HU0.out.trans ud3))).mono ?_;rintro e wv4 ⟨y4,HY4,_,rfl,hq⟩;have ud4:=ud3.trans hq;clear hq;go_wp2_with fail
 refine tkK hK (HK.out _ ud4) fun hHeld=>?_
 clear hK K
 refine tk1 12 fun K hK=>?_
 go_simp
 refine tkK hK (HK.out _ (ud4.alloc _)) fun hHeld=>?_
 clear hK K
 refine tkY 13 hHeld ?_
 refine wpAnyH_done (by kernel_rfl) ?_ _
 refine NoPanic.normal ?_
 go_wp2_with fail
 have hXS:=pd3 wv4 [⟨#[99,108,97,105,109]⟩,⟨#[55]⟩,⟨#[56]⟩,y3,y4] 9
 have hjoin:Lib.join (([⟨#[99,108,97,105,109]⟩,⟨#[55]⟩,⟨#[56]⟩,y3,y4]:List ByteArray).map bs) [32]=pcs d:=by
  rw [← plz d,← HY4.out,show ([51]:List UInt8)=bs y3 from (HY3.out.trans pqM).symm]
  rfl
 have hj:=Tryz.strings_Join wv4.heap.size 0 5 [⟨#[99,108,97,105,109]⟩,⟨#[55]⟩,⟨#[56]⟩,y3,y4] ⟨#[32]⟩ _ hXS.2 hXS.1 (by simp) (by simp) (by
  show (Lib.join (_) [32]).length≤_
  have e:=congrArg List.length hjoin
  exact Nat.le_trans (Nat.le_of_eq e) (by have:=HDL.out;omega))
 refine hj.mono ?_
 rintro e w9 ⟨rfl,hb⟩
 have hu:=paA hb
 obtain ⟨T,hT⟩:∃ T:ByteArray,T=⟨(Lib.join (([⟨#[99,108,97,105,109]⟩,⟨#[55]⟩,⟨#[56]⟩,y3,y4]:List ByteArray).map (·.data.toList)) (⟨#[32]⟩:ByteArray).data.toList).toArray⟩:=⟨_,rfl⟩
 rw [← hT]
 have HB:Hid (bs T=pcs d):=by
  show _=_
  rw [hT,pc8]
  exact hjoin
 have HU:=Lib.hid ((HU0.out.trans (ud4.alloc _)).trans hu)
 clear hj hXS hjoin hb hu hT
 go_wp2_with fail
 go_ret
 exact ⟨T,HB,by rw [← HB.out,pac];exact Nat.le_refl _,rfl,HU.out⟩
section
variable {M : Array Value} {aw ar as' bw br bs' low high id pub : Int} {aT bT F A B : ByteArray}
theorem pkG (h:MtIs M aw aT ar as' bw bT br bs' 7 8 F A B id pub) (d:Nat) (hF:bs F=be 3) (hA:bs A=be d) (h0:0<d) (hd:d<1000000000) (hT:bs aT=pcs d) (w:World) (htab:Tabs w) :
 Calls Tryz.prog 96 #[.agg M] w (Mk (.bool true) w):=by
 obtain ⟨g,hg⟩:∃ g,w.heap.size=g:=⟨_,rfl⟩
 obtain ⟨w0,hw0⟩:∃ W,w.alloc (.cells M 103)=W:=⟨_,rfl⟩
 have r0:w0.heap[g]? =some (.cells M 103 (0,0)):=by rw [← hg,← hw0];exact heap_alloc_new _ _
 have HU0:=Lib.hid (show Upd [] [] w w0 by rw [← hw0];exact (Upd.refl _ _).alloc _)
 have HK:Hid (∀ W,Upd [] [] w0 W→W.cell? ⟨g,9,none⟩=some (.string aT)∧(Instr.loadAt 61 (.pointer (some ⟨g,16,none⟩))).run Tryz.prog W=.ok (.agg (dspV F A B)) W):=by
  intro W u
  have q:=paa r0 u
  refine ⟨(cell_of_row _ g 9 _ _ _ q).trans h.a1,run_loadAt_mid W g 16 61 [.int .i64 7,.int .i64 8,.string F,.string A,.string B] _ (fun j v hv=>?_) Tryz.underlying61 rfl (by kernel_rfl)⟩
  match j,hv with
  | 0,hv=>simp at hv;subst hv;exact (cell_of_row _ g 16 _ _ _ q).trans h.d0
  | 1,hv=>simp at hv;subst hv;exact (cell_of_row _ g 17 _ _ _ q).trans h.d1
  | 2,hv=>simp at hv;subst hv;exact (cell_of_row _ g 18 _ _ _ q).trans h.d2
  | 3,hv=>simp at hv;subst hv;exact (cell_of_row _ g 19 _ _ _ q).trans h.d3
  | 4,hv=>simp at hv;subst hv;exact (cell_of_row _ g 20 _ _ _ q).trans h.d4
 have ud0:Upd [] [] w0 w0.drew:=(Upd.refl _ _).drew
 have HFA:=Lib.hid (And.intro hF hA)
 have HT:=Lib.hid hT
 clear h r0 hF hA hT
 go_enter Tryz.func96,Tryz.ntmps96
 go_upto_region 1 with (fail)
 refine wp_region_noPanic ?_
 refine wp_region_held_drew (S:=fun wp=>wp.cell? ⟨g,9,none⟩=some (.string aT)∧(Instr.loadAt 61 (.pointer (some ⟨g,16,none⟩))).run Tryz.prog wp=.ok (.agg (dspV F A B)) wp) (by kernel_rfl) ?_ (fun hHeld=>?_)
 · exact HK.out _ ud0
 refine tkY 0 hHeld ?_
 refine tkY 1 hHeld ?_
 refine tkY 2 hHeld ?_
 refine tkY 3 hHeld ?_
 refine tkY 4 hHeld ?_
 refine tkY 5 hHeld ?_
 refine wpAnyH_take (i:=6) (v:=.agg (dspV F A B)) (by simp only [List.getElem?_toArray,List.getElem?_cons_succ,List.getElem?_cons_zero] <;> rfl) (by kernel_rfl) (by kernel_rfl) (by kernel_rfl) (fun _ _ _ h=>h) (pau (by rfl) _ _ rfl _ rfl (dspV F A B) (fun w hSw=>hSw.2)) hHeld ?_
 try simp only [Act.put,List.setIfInBounds_toArray,List.set_cons_zero,List.set_cons_succ]
 refine tk1 7 fun K hK=>?_
 go_simp;refine (pfz F A B d HFA.out.1 HFA.out.2 h0 hd _ (htab.upd (HU0.out.trans ud0))).mono ?_;rintro e wv1 ⟨y,HY,_,rfl,hq⟩;obtain rfl:y=aT:=(paM (HY.out.trans HT.out.symm));have ud1:=ud0.trans hq;clear hq;go_wp2_with fail
 refine tkK hK (HK.out _ ud1) fun hHeld=>?_
 clear hK K
 refine tkY 8 hHeld ?_
 refine tkY 9 hHeld ?_
 refine wpAnyH_done (by kernel_rfl) ?_ _
 refine NoPanic.normal ?_
 go_wp2_with fail
 go_ret
 exact ⟨rfl,HU0.out.trans ud1⟩
end
theorem dspSInfo (F A B:ByteArray):(Tryz.prog.info? 61).map (·.size)=some (dspV F A B).size:=by
 show _=some 5
 kernel_rfl
theorem dspSOne (F A B:ByteArray):(dspV F A B).all (·.oneCell')=true:=by simp [dspV,Value.oneCell']
section
variable {M : Array Value} {aw ar as' bw br bs' low high id pub : Int} {aT bT F A B : ByteArray}
set_option maxHeartbeats 4000000 in
theorem pew (h:MtIs M aw aT ar as' bw bT br bs' 7 8 F A B id pub) (q:Bool) (z:Int) (hq:(z != 0)=q) (w:World)
 (hF:bs F=be 3) (hC:∀ (y:ByteArray) (W:World),bs y=be 9→Calls Tryz.prog 149 #[.string y,.string A] W (pfu z W)) :
 Calls Tryz.prog 97 #[.agg M] w (Mk (.bool q) w):=by
 obtain ⟨g,hg⟩:∃ g,w.heap.size=g:=⟨_,rfl⟩
 obtain ⟨w0,hw0⟩:∃ W,w.alloc (.cells M 103)=W:=⟨_,rfl⟩
 have r0:w0.heap[g]? =some (.cells M 103 (0,0)):=by rw [← hg,← hw0];exact heap_alloc_new _ _
 have HU0:=Lib.hid (show Upd [] [] w w0 by rw [← hw0];exact (Upd.refl _ _).alloc _)
 have HL:Hid (∀ W,W.heap[g]? =some (.cells M 103 (0,0))→(Instr.loadAt 61 (.pointer (some ⟨g,16,none⟩))).run Tryz.prog W=.ok (.agg (dspV F A B)) W):=by
  intro W q
  refine run_loadAt_mid W g 16 61 [.int .i64 7,.int .i64 8,.string F,.string A,.string B] _ (fun j v hv=>?_) Tryz.underlying61 rfl (by kernel_rfl)
  match j,hv with
  | 0,hv=>simp at hv;subst hv;exact (cell_of_row _ g 16 _ _ _ q).trans h.d0
  | 1,hv=>simp at hv;subst hv;exact (cell_of_row _ g 17 _ _ _ q).trans h.d1
  | 2,hv=>simp at hv;subst hv;exact (cell_of_row _ g 18 _ _ _ q).trans h.d2
  | 3,hv=>simp at hv;subst hv;exact (cell_of_row _ g 19 _ _ _ q).trans h.d3
  | 4,hv=>simp at hv;subst hv;exact (cell_of_row _ g 20 _ _ _ q).trans h.d4
 obtain ⟨w1,Z1,W1,R1,hq1⟩:=paC w0 61 #[.int .i64 0,.int .i64 0,.string ⟨#[]⟩,.string ⟨#[]⟩,.string ⟨#[]⟩] (dspV F A B)
 obtain ⟨gD,hgD⟩:∃ g,w0.heap.size=g:=⟨_,rfl⟩
 rw [hgD] at Z1 W1 R1
 have HLD0:Hid ((Instr.loadAt 61 (.pointer (some ⟨g,16,none⟩))).run Tryz.prog (w0.alloc (.cells #[.int .i64 0,.int .i64 0,.string ⟨#[]⟩,.string ⟨#[]⟩,.string ⟨#[]⟩] 61))=.ok (.agg (dspV F A B)) _):=HL.out _ (paa r0 ((Upd.refl _ _).alloc _))
 have HLD1:Hid ((Instr.loadAt 61 (.pointer (some ⟨g,16,none⟩))).run Tryz.prog w0=.ok (.agg (dspV F A B)) w0):=HL.out _ r0
 have U1:=Lib.hid (HU0.out.trans hq1)
 have HDI:=Lib.hid (dspSInfo F A B)
 have HDO:=Lib.hid (dspSOne F A B)
 have k0:=(cell_of_row _ gD 0 _ _ _ R1.out).trans (show _=some (Value.int .i64 7) from rfl)
 have k1:=(cell_of_row _ gD 1 _ _ _ R1.out).trans (show _=some (Value.int .i64 8) from rfl)
 have HK:Hid (∀ W,Upd [] [] w1 W→W.cell? ⟨gD,2,none⟩=some (.string F)∧W.cell? ⟨gD,3,none⟩=some (.string A)):=by
  intro W u
  have q:=paa R1.out u
  exact ⟨cell_of_row _ gD 2 _ _ _ q,cell_of_row _ gD 3 _ _ _ q⟩
 have ud0:Upd [] [] w1 w1.drew:=(Upd.refl _ _).drew
 have HF:=Lib.hid hF
 have HC:=Lib.hid hC
 have HQ:=Lib.hid hq
 obtain ⟨D,hD⟩:∃ D,D=dspV F A B:=⟨_,rfl⟩
 have HDZ:Hid ((#[.int .i64 0,.int .i64 0,.string ⟨#[]⟩,.string ⟨#[]⟩,.string ⟨#[]⟩]:Array Value).size=D.size):=by rw [hD];rfl
 rw [← hD] at W1 HDI HDO HLD0 HLD1
 clear h r0 hF hC HL hq1 hq hD
 go_enter Tryz.func97,Tryz.ntmps97
 go_upto_region 4 with (first | (refine wpList_load_atW (by rfl) 61 _ rfl g 16 rfl D HLD0.out ?_) | (refine wpList_load_atW (by rfl) 61 _ rfl g 16 rfl D HLD1.out ?_) | (refine wpList_store_rowAs rfl 61 _ _ rfl gD D rfl rfl _ _ Z1.out HDI.out HDZ.out HDO.out w1 W1.out ?_))
 refine wp_region_noPanic ?_
 refine wp_region_held_drew (S:=fun wp=>wp.cell? ⟨gD,2,none⟩=some (.string F)∧wp.cell? ⟨gD,3,none⟩=some (.string A)) (by kernel_rfl) ?_ (fun hHeld=>?_)
 · exact HK.out _ ud0
 refine tkY 0 hHeld ?_
 refine tkY 1 hHeld ?_
 refine tkY 3 hHeld ?_
 refine tkY 4 hHeld ?_
 refine tk1 2 fun K hK=>?_
 go_simp;refine (pqo F HF.out _).mono ?_;rintro e wv1 ⟨y,HY,rfl,hq⟩;have ud1:=ud0.trans hq;clear hq;go_wp2_with fail
 refine tkK hK (HK.out _ ud1) fun hHeld=>?_
 clear hK K
 refine tk1 5 fun K hK=>?_
 go_simp;refine (HC.out y _ HY.out).mono ?_;rintro e wv2 ⟨rfl,hq⟩;have ud2:=ud1.trans hq;clear hq;go_wp2_with fail
 refine tkK hK (HK.out _ ud2) fun hHeld=>?_
 clear hK K
 refine tkY 6 hHeld ?_
 refine tkY 7 hHeld ?_
 refine wpAnyH_done (by kernel_rfl) ?_ _
 refine NoPanic.normal ?_
 go_wp2_with fail
 go_ret
 first | exact ⟨rfl,U1.out.trans ud2⟩ | exact ⟨by show Ending.returned (.bool (z != 0))=_;rw [HQ.out],U1.out.trans ud2⟩
end
def pqr (who:Int) (x:Nat) (T:ByteArray) (w:World) (e:Ending) (w':World):Prop :=
 ∃ a b:Nat,Hid (a=gP (nonceN x (bs T)))∧Hid (b=sWith x (nonceN x (bs T)) (bs T))∧a<2305843009213691579∧b<1152921504606845789∧e=.returned (.agg #[.int .i64 who,.string T,.int .i64 (a:Int),.int .i64 (b:Int)])∧Upd [] [] w w'
theorem pex (x:Nat) (hx:x<1152921504606845789) (T:ByteArray) (hT:T.size≤140737488355000) (w:World) (htab:Tabs w):Calls Tryz.prog 14 #[.int .i64 3,.int .i64 (x:Int),.string T] w (pqr 3 x T w):=by
 obtain ⟨gR,hgR⟩:∃ g,w.heap.size=g:=⟨_,rfl⟩
 obtain ⟨w1,hw1⟩:∃ W,w.alloc (.cells #[.int .i64 0,.string ⟨#[]⟩,.int .i64 0,.int .i64 0] 48)=W:=⟨_,rfl⟩
 have r1:=Lib.hid (show w1.heap[gR]? =some (.cells #[.int .i64 0,.string ⟨#[]⟩,.int .i64 0,.int .i64 0] 48 (0,0)) by rw [← hgR,← hw1];exact heap_alloc_new _ _)
 have U1:=Lib.hid (show Upd [] [] w w1 by rw [← hw1];exact (Upd.refl _ _).alloc _)
 have HG:Hid (w.heap.size≤gR):=Nat.le_of_eq hgR
 go_enter Tryz.func14,Tryz.ntmps14
 go_wp2_with fail
 refine (pgE (x:Int) T w1 ⟨by omega,by omega⟩ hT (htab.upd U1.out)).mono ?_
 rintro e w2 ⟨a,b,HA,HB,ha,hb,rfl,hq⟩
 rw [show expN (x:Int)=x from pgD hx] at HA HB
 have r2:=Lib.hid (paa r1.out hq)
 have U2:=Lib.hid (U1.out.trans hq)
 have hvi:=Lib.hid (peP T (a:Int) (b:Int))
 obtain ⟨V,hV⟩:∃ V,V=voteV T (a:Int) (b:Int):=⟨_,rfl⟩
 obtain ⟨w3,hw3⟩:∃ W,w2.setRow gR (voteV T (a:Int) (b:Int))=W:=⟨_,rfl⟩
 have r3:(w2.setRow gR (voteV T (a:Int) (b:Int))).heap[gR]? =some (.cells (voteV T (a:Int) (b:Int)) 48 (0,0)):=setRow_heap _ _ _ _ _ _ r2.out
 have U3:=U2.out.setRowNew HG.out (voteV T (a:Int) (b:Int))
 rw [hw3] at r3 U3
 have HW3:=Lib.hid hw3
 have R3:=Lib.hid r3
 have HU3:=Lib.hid U3
 clear hq r1 hw3 r3 U3 hV
 go_wp2_with (first | (refine wpList_store_rowAs rfl 48 _ _ rfl gR (voteV T (a:Int) (b:Int)) rfl rfl _ _ r2.out hvi.out rfl (pjk _ _ _) w3 HW3.out ?_))
 refine bodyPost_ret (results_cell_row rfl _ _ gR _ (voteV T (a:Int) (b:Int)) _ _ rfl R3.out Tryz.underlying48 rfl hvi.out) rfl ⟨a,b,HA,HB,ha,hb,rfl,HU3.out⟩
def mbrV (id wt pub:Int):Array Value:=#[.int .i64 id,.int .i64 wt,.int .i64 pub]
theorem plA (id wt pub who:Int) (gE:Nat) (w:World) (hE:w.cell? ⟨gE,1,none⟩=some (.int .i64 who)):Calls Tryz.prog 41 #[.agg (mbrV id wt pub),.pointer (some ⟨gE,0,none⟩)] w (MkB (id == who) w):=by
 obtain ⟨g,hg⟩:∃ g,w.heap.size=g:=⟨_,rfl⟩
 obtain ⟨w0,hw0⟩:∃ W,w.alloc (.cells (mbrV id wt pub) 64)=W:=⟨_,rfl⟩
 have r0:w0.heap[g]? =some (.cells (mbrV id wt pub) 64 (0,0)):=by rw [← hg,← hw0];exact heap_alloc_new _ _
 have u0:Upd [] [] w w0:=by rw [← hw0];exact (Upd.refl _ _).alloc _
 have U0:=Lib.hid u0
 have c0:=(cell_of_row _ g 0 _ _ _ r0).trans (show _=some (Value.int .i64 id) from rfl)
 have c1:w0.cell? ⟨gE,1,none⟩=some (.int .i64 who):=(u0.cell (World.block_lt_of_cell? _ _ hE) (by simp)).trans hE
 clear r0 u0 hE
 go_enter Tryz.func41,Tryz.ntmps41
 go_wp2_with fail
 go_ret
 exact ⟨_,rfl,rfl,U0.out⟩
theorem pjC {who:Int} {l:List Mem} {k:Nat} {m:Mem} (h:l[k]? =some m) (he:m.id=who) (hp:∀ j,j<k→∀ x,l[j]? =some x→x.id≠who):pb6 who l=some k:=by
 obtain ⟨hl,hv⟩:=List.getElem?_eq_some_iff.1 h
 unfold pb6
 rw [List.findIdx?_eq_some_iff_getElem]
 refine ⟨hl,by rw [hv];simpa using he,fun j hj=>?_⟩
 simpa using hp j hj l[j] (List.getElem?_eq_getElem (by omega))
theorem pjD {who:Int} {l:List Mem} (hp:∀ j,j<l.length→∀ x,l[j]? =some x→x.id≠who):pb6 who l=none:=by
 unfold pb6
 rw [List.findIdx?_eq_none_iff]
 intro x hx
 obtain ⟨j,hj,rfl⟩:=List.getElem_of_mem hx
 simpa using hp j hj _ (List.getElem?_eq_getElem hj)
set_option maxHeartbeats 1000000 in
theorem po1 (who:Int) (l:List Mem) (ao:Option Addr) (n c gE:Nat) (w:World) (hn:n=l.length) (hc:n≤c) (hm:n≤1000000) (hM:pez w ao l) (hE:w.cell? ⟨gE,1,none⟩=some (.int .i64 who)) :
 Calls Tryz.prog 40 #[.slice ao n c,.func (.func 41) #[] #[.pointer (some ⟨gE,0,none⟩)]] w (Mk (.int .i64 (idxV (pb6 who l))) w):=by
 have HN:=Lib.hid hn
 have HM:=Lib.hid hM
 have HE:Hid (gE<w.heap.size∧w.cell? ⟨gE,1,none⟩=some (.int .i64 who)):=⟨World.block_lt_of_cell? _ _ hE,hE⟩
 clear hn hM hE
 go_enter Tryz.func40,Tryz.ntmps40
 go_wp2_with fail
 go_loopw [5,8] (fun _ i wr=>∃ k:Nat,i=.int .i64 (k:Int)∧k≤n∧Hid (∀ j,j<k→∀ m,l[j]? =some m→m.id≠who)∧Hid (Upd [] [] w wr)) (fun _ i _=>n - (intOf i).toNat)
 case atStart=>exact ⟨0,rfl,Nat.zero_le _,fun j hj=>absurd hj (by omega),Upd.refl _ _⟩
 case round =>
  obtain ⟨k,rfl,hk,HP,HU⟩:=hrel
  by_cases hlt:k<n
  · obtain ⟨⟨id,wt,pub⟩,hm'⟩:∃ m,l[k]? =some m:=⟨_,List.getElem?_eq_getElem (by rw [← HN.out];exact hlt)⟩
    obtain ⟨g,hg,hgl,HL⟩:=(HM.out.upd HU.out).row hm'
    have HLW:=Lib.hid (HL wr (Upd.refl _ _))
    have HJ:=Lib.hid (plA id wt pub who gE wr ((HU.out.cell HE.out.1 (by simp)).trans HE.out.2))
    have HMK:=Lib.hid hm'
    have i0:(0:Int)≤(k:Int):=by omega
    have i1:(k:Int)<(n:Int):=by omega
    subst hg
    clear HL hm' hgl
    go_wp2_with (first | (refine wpList_load_atW (by rfl) 64 _ rfl g (k * 3) rfl (mbrV id wt pub) HLW.out ?_) | (go_at_fn 41))
    refine HJ.out.mono ?_
    rintro e w1 ⟨b,HB,rfl,hq⟩
    have HU1:=Lib.hid (HU.out.trans hq)
    clear hq HJ HLW HU
    cases b with
    | false =>
     have HP1:Hid (∀ j,j<k+1→∀ m,l[j]? =some m→m.id≠who):=by
      intro j hj m hm
      by_cases hjk:j<k
      · exact HP.out j hjk m hm
      · obtain rfl:j=k:=by omega
        rw [HMK.out] at hm
        injection hm with hm
        rw [← hm]
        have:=HB.out
        intro e
        rw [show id=who from e] at this
        simp at this
     go_wp2_with fail
     exact ⟨⟨k+1,by go_num,by omega,HP1.out,HU1.out⟩,by first | (simp [intOf];done) | (simp [intOf];omega)⟩
    | true =>
     have HX:Hid (pb6 who l=some k):=pjC HMK.out (by have:=HB.out;exact (beq_iff_eq.1 this.symm)) HP.out
     go_wp2_with fail
     go_ret
     exact ⟨by rw [HX.out];rfl,HU1.out⟩
  · obtain rfl:k=n:=by omega
    have HX:Hid (pb6 who l=none):=pjD (by rw [← HN.out];exact HP.out)
    go_wp2_with fail
    go_ret
    exact ⟨by rw [HX.out];rfl,HU.out⟩
def mtG (ma:Option Addr) (mn mc:Nat) (ca:Option Addr) (cn cc:Nat) (pa:Option Addr) (pn pc:Nat) (ka:Option Addr) (kn kc:Nat) (sq dep:Int) (kind who aw:Int) (aT:ByteArray) (ar as' bw:Int) (bT:ByteArray) (br bs' low high:Int) (F A B:ByteArray) (ci ck c1 c2 i:Int) (id wt pub:Int):Array Value :=
 #[.slice ma mn mc,.slice ca cn cc,.slice pa pn pc,.slice ka kn kc,.int .i64 sq,.int .i64 dep,.int .i64 kind,.int .i64 who,.int .i64 aw,.string aT,.int .i64 ar,.int .i64 as',.int .i64 bw,.string bT,.int .i64 br,.int .i64 bs',.int .i64 low,.int .i64 high,.string F,.string A,.string B,.int .i64 ci,.int .i64 ck,.int .i64 c1,.int .i64 c2,.int .i64 i,.int .i64 id,.int .i64 wt,.int .i64 pub]
theorem MtIs.ofG (ma:Option Addr) (mn mc:Nat) (ca:Option Addr) (cn cc:Nat) (pa:Option Addr) (pn pc:Nat) (ka:Option Addr) (kn kc:Nat) (sq dep:Int) (kind who aw:Int) (aT:ByteArray) (ar as' bw:Int) (bT:ByteArray) (br bs' low high:Int) (F A B:ByteArray) (ci ck c1 c2 i:Int) (id wt pub:Int) :
 MtIs (mtG ma mn mc ca cn cc pa pn pc ka kn kc sq dep kind who aw aT ar as' bw bT br bs' low high F A B ci ck c1 c2 i id wt pub) aw aT ar as' bw bT br bs' low high F A B id pub :=
 ⟨rfl,rfl,rfl,rfl,rfl,rfl,rfl,rfl,rfl,rfl,rfl,rfl,rfl,rfl,rfl,rfl⟩
def MkPB (P:Bool→Prop) (w:World) (e:Ending) (w':World):Prop:=∃ b:Bool,Hid (P b)∧e=.returned (.bool b)∧Upd [] [] w w'
def pnX (PF PG PP:Bool→Prop) (who:Int) (w:World) (e:Ending) (w':World):Prop :=
 ∃ x y:Int,((PF false∧x=0∧y=11)∨(PF true∧PG false∧x=0∧y=21)∨(PF true∧PG true∧PP false∧x=0∧y=25)∨(PF true∧PG true∧PP true∧x=who∧y=0))∧e=.returned (.tuple #[.int .i64 x,.int .i64 y])∧Upd [] [] w w'
theorem po2 {kind who aw:Int} {aT:ByteArray} {ar as' bw:Int} {bT:ByteArray} {br bs' low high:Int} {F A B:ByteArray} {ci ck c1 c2:Int} {g:Nat} {W:World} (h:W.heap[g]? =some (.cells #[.int .i64 kind,.int .i64 who,.int .i64 aw,.string aT,.int .i64 ar,.int .i64 as',.int .i64 bw,.string bT,.int .i64 br,.int .i64 bs',.int .i64 low,.int .i64 high,.string F,.string A,.string B,.int .i64 ci,.int .i64 ck,.int .i64 c1,.int .i64 c2] 69 (0,0))) :
 (Instr.loadAt 69 (.pointer (some ⟨g,0,none⟩))).run Tryz.prog W=.ok (.agg #[.int .i64 kind,.int .i64 who,.int .i64 aw,.string aT,.int .i64 ar,.int .i64 as',.int .i64 bw,.string bT,.int .i64 br,.int .i64 bs',.int .i64 low,.int .i64 high,.string F,.string A,.string B,.int .i64 ci,.int .i64 ck,.int .i64 c1,.int .i64 c2]) W :=
 run_loadAt_mid W g 0 69 [.int .i64 kind,.int .i64 who,.int .i64 aw,.string aT,.int .i64 ar,.int .i64 as',.int .i64 bw,.string bT,.int .i64 br,.int .i64 bs',.int .i64 low,.int .i64 high,.string F,.string A,.string B,.int .i64 ci,.int .i64 ck,.int .i64 c1,.int .i64 c2] _ (pbM rfl h) Tryz.underlying69 rfl (by show _=some 19;kernel_rfl)
theorem po3 {l:List Value} {g:Nat} {W:World} (hl:l.length=6) (h:W.heap[g]? =some (.cells l.toArray 30 (0,0))) :
 (Instr.loadAt 30 (.pointer (some ⟨g,0,none⟩))).run Tryz.prog W=.ok (.agg l.toArray) W :=
 run_loadAt_mid W g 0 30 _ _ (pbM rfl h) Tryz.underlying30 rfl (by rw [hl];kernel_rfl)
end Go.Proofs.YtheobkejohifaaaGreatDoor
