/- sortesref08.Made and what follows. -/
import Derived.Test.YtmjlkkbbnkanpaaGreatDoorHAW
import Derived.Test.YtmjlkkbbnkanpaaGreatDoorHAA
import Derived.Test.YtmjlkkbbnkanpaaGreatDoorHAR
import Derived.Test.YtmjlkkbbnkanpaaGreatDoorHAQ
namespace Go.Proofs.YtmjlkkbbnkanpaaGreatDoor
open Go.RowKit
set_option maxRecDepth 100000
def firstL:List UInt8:=[102,105,114,115,116]
def coefAt (q:Nat):Nat→Nat→Nat
 | 0,_=>0
 | i+1,j=>(coefAt q i j+(polyN (sdL firstL i) q).getD j 0) % Qn
theorem coefAt_lt (q:Nat):∀ i j,coefAt q i j<Qn
 | 0,_=>qn_pos
 | _+1,_=>Nat.mod_lt _ qn_pos
def coefMix (q i t:Nat):List Nat:=(List.range q).map fun j=>if j<t then coefAt q (i+1) j else coefAt q i j
def coefL0 (q i:Nat):List Nat:=(List.range q).map (coefAt q i)
theorem coefMix_zero (q i:Nat):coefMix q i 0=coefL0 q i:=by simp [coefMix,coefL0]
theorem coefMix_all (q i:Nat):coefMix q i q=coefL0 q (i+1):=by
 unfold coefMix coefL0
 apply List.map_congr_left
 intro j hj
 rw [if_pos (List.mem_range.1 hj)]
theorem coefL0_len (q i:Nat):(coefL0 q i).length=q:=by simp [coefL0]
theorem coefL0_zero (q:Nat):coefL0 q 0=List.replicate q 0:=by
 apply List.ext_getElem
 · simp [coefL0]
 · intro i h1 h2
   simp [coefL0,coefAt]
theorem coefMix_get {q i t:Nat} (ht:t<q):(coefMix q i t)[t]? =some (coefAt q i t):=by simp [coefMix,ht]
theorem coefMix_set {q i t:Nat} (ht:t<q):(coefMix q i t).set t (coefAt q (i+1) t)=coefMix q i (t+1):=by
 apply List.ext_getElem?
 intro j
 rw [List.getElem?_set]
 by_cases hj:j<q
 · by_cases e:t=j
   · subst e
     simp [coefMix,ht]
   · have h1:(j<t) ↔ (j<t+1):=by omega
     simp [coefMix,e,hj,h1]
 · have e:t≠j:=by omega
   simp [coefMix,e,hj]
def grZ:Array Value:=#[.slice none 0 0,.slice none 0 0,.slice none 0 0,.slice none 0 0,.slice none 0 0]
def grV (L S C K P:Value):Array Value:=#[L,S,C,K,P]
theorem grInfo (L S C K P:Value):(Tryz.prog.info? 32).map (·.size)=some (grV L S C K P).size:=by
 show _=some 5
 kernel_rfl
structure GrSt (w1 wr:World) (g2 g5:Nat) (L S C:Value) (k:Nat) (cs:List Nat):Prop where
 row:wr.heap[g5]? =some (.cells (grV L S C (.slice none 0 0) (.slice none 0 0)) 32 (0,0))
 res:wr.heap[g2]? =some (.cells grZ 32 (0,0))
 co:wr.ownsRow 0 3 1 C k (digVals cs)
 up:Upd [] [] w1 wr
 base:g2<g5∧w1.heap.size≤g5
 off:∀ x,x∈foot C→g5<x
section
variable {w1 wr w' : World} {g2 g5 k : Nat} {L S C C' : Value} {cs cs' : List Nat}
theorem GrSt.lt (h:GrSt w1 wr g2 g5 L S C k cs):g5<wr.heap.size:=blk_lt h.row
theorem GrSt.quiet (h:GrSt w1 wr g2 g5 L S C k cs) (u:Upd [] [] wr w'):GrSt w1 w' g2 g5 L S C k cs :=
 ⟨row_updH h.row u,row_updH h.res u,row_up0 h.co u,h.up.trans u,h.base,h.off⟩
theorem GrSt.grown (h:GrSt w1 wr g2 g5 L S C k cs) (u:Upd (foot C) (foot C') wr w'):w'.heap[g5]? =some (.cells (grV L S C (.slice none 0 0) (.slice none 0 0)) 32 (0,0)) :=
 (u.block g5 h.lt (fun q=>Nat.lt_irrefl _ (h.off g5 q))).trans h.row
theorem GrSt.add (h:GrSt w1 wr g2 g5 L S C k cs) (u:Upd (foot C) (foot C') wr w') (hr:w'.ownsRow 0 3 1 C' (k+1) (digVals cs')):GrSt w1 (w'.setCell ⟨g5,2,none⟩ C') g2 g5 L S C' (k+1) cs':=by
 have hD:=h.lt
 have hoff:∀ x,x∈foot C'→g5<x:=fun x hx=>by
  rcases u.new x hx with e | e
  · exact h.off x e
  · omega
 have hsame:∀ x,x≠g5→(w'.setCell ⟨g5,2,none⟩ C').heap[x]? =w'.heap[x]?:=fun x hx=>Below.heap_setCell _ _ _ _ hx
 have hb:=h.base
 refine ⟨heap_setCell_same w' g5 2 _ _ C' (h.grown u),?_,?_,?_,h.base,hoff⟩
 · rw [hsame g2 (by omega),u.block g2 (by omega) (fun q=>by have:=h.off g2 q;omega)]
   exact h.res
 · exact row_same hr (fun x hx=>hsame x (by have:=hoff x hx;omega))
 · exact (h.up.past2 u (fun x hx=>by have:=h.off x hx;omega)).setNew (p:=⟨g5,2,none⟩) (by show w1.heap.size≤g5;omega) _
end
structure GqSt (w1 wr:World) (g2 g5:Nat) (L S:Value) (cb q cap:Nat) (cs:List Nat):Prop where
 row:wr.heap[g5]? =some (.cells (grV L S (.slice (some ⟨cb,0,none⟩) q cap) (.slice none 0 0) (.slice none 0 0)) 32 (0,0))
 res:wr.heap[g2]? =some (.cells grZ 32 (0,0))
 co:∃ cur,wr.heap[cb]? =some (.cells cur 3 (0,0))∧cur.toList.take q=digVals cs∧cur.size=cap
 len:cs.length=q
 fit:q≤cap∧cap≤maxLen
 up:Upd [] [] w1 wr
 base:g2<g5∧w1.heap.size≤g5∧g5<cb
theorem GrSt.done {w1 wr:World} {g2 g5 q:Nat} {L S C:Value} {cs:List Nat} (h:GrSt w1 wr g2 g5 L S C q cs) (hl:cs.length=q) (hq:0<q):∃ cb cap,C=.slice (some ⟨cb,0,none⟩) q cap∧GqSt w1 wr g2 g5 L S cb q cap cs:=by
 obtain ⟨g,cap,cur,rfl,hg,h1,h2,h3,h4⟩:=row_pos h.co hq
 have ho:=h.off g (by simp [foot,Value.ownBlock])
 exact ⟨g,cap,rfl,h.row,h.res,⟨cur,hg,by simpa using h4,by omega⟩,hl,⟨h1,h2⟩,h.up,h.base.1,h.base.2,ho⟩
section
variable {w1 wr w' : World} {g2 g5 cb q cap : Nat} {L S : Value} {cs : List Nat}
theorem GqSt.quiet (h:GqSt w1 wr g2 g5 L S cb q cap cs) (u:Upd [] [] wr w'):GqSt w1 w' g2 g5 L S cb q cap cs:=by
 obtain ⟨cur,hc,h4,h5⟩:=h.co
 exact ⟨row_updH h.row u,row_updH h.res u,⟨cur,row_updH hc u,h4,h5⟩,h.len,h.fit,h.up.trans u,h.base⟩
theorem GqSt.cell (h:GqSt w1 wr g2 g5 L S cb q cap cs) {j x:Nat} (hx:cs[j]? =some x):wr.cell? ⟨cb,j,none⟩=some (.int .i64 (x:Int))∧wr.frozen? ⟨cb,j,none⟩=false:=by
 obtain ⟨cur,hc,h4,_⟩:=h.co
 have hj:=(List.getElem?_eq_some_iff.1 hx).1
 have hl:=h.len
 refine ⟨?_,frozen_of_row _ cb j _ _ hc⟩
 rw [cell_of_row wr cb j _ _ _ hc]
 have e:(digVals cs)[j]? =some (digV x):=by simp [digVals,hx]
 rw [← h4,List.getElem?_take_of_lt (by omega)] at e
 simpa [digV] using e
theorem GqSt.set (h:GqSt w1 wr g2 g5 L S cb q cap cs) {j x:Nat} (_hj:j<q):GqSt w1 (wr.setCell ⟨cb,j,none⟩ (.int .i64 (x:Int))) g2 g5 L S cb q cap (cs.set j x):=by
 obtain ⟨cur,hc,h4,h5⟩:=h.co
 have hb:=h.base
 have hsame:∀ t,t≠cb→(wr.setCell ⟨cb,j,none⟩ (.int .i64 (x:Int))).heap[t]? =wr.heap[t]?:=fun t ht=>Below.heap_setCell _ _ _ _ ht
 refine ⟨(hsame g5 (by omega)).trans h.row,(hsame g2 (by omega)).trans h.res,⟨cur.setIfInBounds j (.int .i64 (x:Int)),heap_setCell_same wr cb j _ _ _ hc,?_,by simpa using h5⟩,by simp [h.len],h.fit,h.up.setNew (p:=⟨cb,j,none⟩) (by show w1.heap.size≤cb;omega) _,h.base⟩
 rw [Array.toList_setIfInBounds,List.take_set,h4]
 simp [digVals,digV]
end
theorem wsN_len (l:List Int) (n:Nat):(wsN l n).length=n:=by simp [wsN]
theorem dsN_good {ws:List Nat} (hw:WsOk ws) (seed:List UInt8) (k:Nat):∀ d∈dsN ws seed k,DlGood d ws.sum∧d.coms.length=needN ws.sum:=by
 intro d hd
 simp only [dsN,List.mem_map] at hd
 obtain ⟨i,_,rfl⟩:=hd
 have h1:=hw.sum
 have h2:=needN_pos h1.1
 have hc:(dlAt ws seed i).coms.length=needN ws.sum:=by rw [dlAt,dealN_coms,polyN_len]
 have hb:(dlAt ws seed i).boxes.length=ws.sum:=by rw [dlAt,dealN_boxes,boxKeys_len]
 exact ⟨⟨dealN_com,dealN_point,by rw [hc];exact h2.1,by rw [hc];exact h2.2,hb,dealN_box⟩,hc⟩
structure MadeRd (l:List Int) (W:World) (L S C K P:Value):Prop where
 crew:CrewAt W L (wsN l (manyN l))
 secs:Sl W S (secsOf (manyN l))
 coefs:Sl W C (coefL0 (needN (wsN l (manyN l)).sum) (manyN l))
 coms:Sl W K (mixL (dsN (wsN l (manyN l)) firstL (manyN l)) (needN (wsN l (manyN l)).sum))
 pts:PtsRd W P (ptsOf (wsN l (manyN l)))
theorem MadeRd.upd {l:List Int} {w w':World} {L S C K P:Value} (h:MadeRd l w L S C K P) (u:Upd [] [] w w'):MadeRd l w' L S C K P :=
 ⟨h.crew.upd u,h.secs.upd u,h.coefs.upd u,h.coms.upd u,h.pts.upd u⟩
def MkMade (l:List Int) (w:World) (e:Ending) (w':World):Prop:=∃ L S C K P:Value,Hid (∀ W,NewAgree w w' W→MadeRd l W L S C K P)∧e=.returned (.agg (grV L S C K P))∧Upd [] [] w w'
set_option maxHeartbeats 8000000 in
theorem made8_any (l:List Int) (v:Value) (w:World) (hv:RdO w v l) (hi:∀ x∈l,i64in x) (hl:l.length≤9223372036854775807) :
 Calls Tryz.prog 17 #[v] w (MkMade l w):=by
 obtain ⟨gR,hgR⟩:∃ g,w.heap.size=g:=⟨_,rfl⟩
 obtain ⟨w0,hw0⟩:∃ W,w.alloc (.cells grZ 32)=W:=⟨_,rfl⟩
 have s0:=Lib.hid (show w0.heap[gR]? =some (.cells grZ 32 (0,0)) by rw [← hgR,← hw0];exact heap_alloc_new _ _)
 have u0:=Lib.hid (show Upd [] [] w w0 by rw [← hw0];exact (Upd.refl _ _).alloc _)
 have HG:Hid (w.heap.size≤gR):=Nat.le_of_eq hgR
 have hw0':w.alloc (.cells #[.slice none 0 0,.slice none 0 0,.slice none 0 0,.slice none 0 0,.slice none 0 0] 32)=w0:=hw0
 have HCW:=Lib.hid (crew8_any l v w0 (hv.upd u0.out) hi hl)
 obtain ⟨n,hn⟩:∃ n,n=manyN l:=⟨_,rfl⟩
 obtain ⟨ws,hws⟩:∃ ws,ws=wsN l n:=⟨_,rfl⟩
 have HWS:Hid (WsOk ws):=by rw [hws,hn];exact wsN_ok l
 have HWL:Hid (ws.length=n):=by show _=_;rw [hws,wsN_len]
 have HNN:=Lib.hid hn
 have HWW:=Lib.hid hws
 have hn4:1≤n∧n≤4:=by have h1:=HWS.out.1;have h2:=HWS.out.2.1;have h3:=HWL.out;omega
 obtain ⟨T,hT⟩:∃ T,T=ws.sum:=⟨_,rfl⟩
 have hT12:1≤T∧T≤12:=by rw [hT];exact HWS.out.sum
 have HT:=Lib.hid hT
 obtain ⟨q,hq⟩:∃ q,q=needN T:=⟨_,rfl⟩
 have hq12:1≤q∧q≤T:=by rw [hq];exact needN_pos hT12.1
 have HQ:=Lib.hid hq
 clear hv hi hl hn hws hw0 hT hq
 go_enter Tryz.func17,Tryz.ntmps17
 go_wp2_with fail
 refine HCW.out.mono ?_
 rintro e w1 ⟨L,S,HL,HS,HAP,HNW,rfl,HU1⟩
 obtain ⟨la,lc,hlv,hlc,hlm,hM⟩:=mbs_of_row (crewPre_len l (manyN l)) HL.out
 have HCR1:Hid (CrewAt w1 L ws):=by
  rw [← HNN.out] at hlv hlc hM
  refine ⟨la,lc,by rw [hlv,HWL.out],by rw [HWL.out];exact hlc,Nat.le_trans hlm (by unfold maxLen;omega),?_⟩
  rw [HWW.out,← crewPre_all]
  exact hM
 have HSE1:Hid (Sl w1 S (secsOf n)):=by
  rw [HNN.out]
  exact Sl.of_digs (secsOf_len _) HS.out
 obtain ⟨sa,sc,hsv,_,_⟩:=row_slice HS.out
 have HLR:=HL
 have HSR:=HS
 have HNW0:=HNW
 have HSV:Hid (S=.slice sa n sc):=by rw [HNN.out];exact hsv
 have HUW0:=Lib.hid HU1.out.size
 rw [← HNN.out] at hlv hsv
 have U1:=Lib.hid (u0.out.trans HU1.out)
 have S1:=Lib.hid (row_updH s0.out HU1.out)
 obtain ⟨GV,hGV⟩:∃ GV,GV=grV L S (.slice none 0 0) (.slice none 0 0) (.slice none 0 0):=⟨_,rfl⟩
 have HB:Hid (Tryz.prog.built 32 [(0,L),(1,S)]=some GV):=by show _=_;rw [hGV,hlv,hsv];kernel_rfl
 have HI:Hid ((Tryz.prog.info? 32).map (·.size)=some GV.size):=by rw [hGV];exact grInfo _ _ _ _ _
 have HZ:Hid (grZ.size=GV.size):=by show _=_;rw [hGV];rfl
 have HO:Hid (GV.all (·.oneCell')=true):=by show _=_;rw [hGV,hlv,hsv];simp [grV,Value.oneCell']
 obtain ⟨w2,Z2,W2,R2,hq2⟩:=blk_new w1 32 grZ GV
 obtain ⟨g5,hg5⟩:∃ g,w1.heap.size=g:=⟨_,rfl⟩
 rw [hg5] at Z2 W2 R2
 have HG5:=Lib.hid hg5
 have U12:=Lib.hid hq2
 have HGS2:Hid (GrSt w1 w2 gR g5 L S (.slice none 0 0) 0 []) :=
  ⟨by rw [← hGV];exact R2.out,row_updH S1.out hq2,World.ownsRow_nil _ _ _ _,hq2,⟨by rw [← hg5];exact blk_lt S1.out,Nat.le_of_eq hg5⟩,(fun x h=>by cases h)⟩
 have HLV:Hid (L=.slice la n lc):=hlv
 have hz2:(w1.alloc (.cells grZ 32)).setRow g5 GV=w2:=W2.out
 clear hlv hlc hlm hM hsv hGV hq2 R2 W2 HL HS HAP HNW HU1 HCW
 go_wp2_with (first | (refine wpList_buildTo rfl 32 _ rfl _ rfl GV (Eq.trans (congrArg (fun z=>Tryz.prog.built 32 z) (by kernel_rfl)) HB.out) ?_) | (refine wpList_store_rowAs rfl 32 _ _ rfl g5 GV rfl rfl _ _ Z2.out HI.out HZ.out HO.out w2 hz2 ?_))
 clear Z2 HB HI HZ HO hz2 hg5
 refine (total8_any L ws w2 HWS.out (HCR1.out.upd U12.out)).mono ?_
 rintro e w3 ⟨rfl,hq⟩
 rw [← HT.out]
 have HGS3:=Lib.hid (HGS2.out.quiet hq)
 clear hq HGS2
 go_wp2_with fail
 refine (need8_any T w3 hT12.1 (by omega)).mono ?_
 rintro e w' ⟨rfl,rfl⟩
 rw [← HQ.out]
 go_wp2_with fail
 go_loopw [7] (fun i wr=>∃ (k:Nat) (C:Value),i=.int .i64 (k:Int)∧k≤q∧Hid (GrSt w1 wr gR g5 L S C k (List.replicate k 0))) (fun i _=>q - (intOf i).toNat)
 case atStart=>exact ⟨0,_,rfl,Nat.zero_le _,HGS3.out⟩
 case round =>
  obtain ⟨k,C,rfl,hk,HGS⟩:=hrel
  by_cases hlt:k<q
  · obtain ⟨C',w',hrun,hown',hup'⟩:=append_nat wr C (List.replicate k 0) k 0 List.length_replicate HGS.out.co (by omega)
    rw [show List.replicate k 0 ++ [0]=List.replicate (k+1) (0:Nat) from List.replicate_succ'.symm] at hown'
    obtain ⟨ao',cap',rfl,_,_⟩:=row_slice hown'
    have hrun2:(Builtin.append_ #[22,22] 22 #[C,.slice (some ⟨wr.heap.size,0,none⟩) 1 1]).run Tryz.prog (wr.alloc (.cells #[.int .i64 0] 3))=.ok (.slice ao' (k+1) cap') w':=hrun
    have HRN:=Lib.hid hrun2
    have hg0:=HGS.out.grown hup'
    have k0:w'.cell? ⟨g5,2,none⟩=some C:=cell_of_row _ g5 2 _ _ _ hg0
    have f0:w'.frozen? ⟨g5,2,none⟩=false:=frozen_of_row _ g5 2 _ _ hg0
    have HGN:=Lib.hid (HGS.out.add hup' hown')
    have c0:wr.cell? ⟨g5,2,none⟩=some C:=cell_of_row _ g5 2 _ _ _ HGS.out.row
    have x1:(k:Int)<(q:Int):=by omega
    clear hrun hrun2 hown' hup' hg0 HGS
    go_wp2_with (refine wpList_append_run _ rfl _ _ _ _ rfl _ _ (.slice ao' (k+1) cap') w' rfl rfl HRN.out ?_)
    exact ⟨⟨k+1,_,by go_num,by omega,HGN.out⟩,(by first | (simp [intOf];done) | (simp [intOf];omega))⟩
  · obtain rfl:q=k:=by omega
    obtain ⟨cb,cap,rfl,hgq⟩:=HGS.out.done List.length_replicate (by omega)
    rw [← coefL0_zero] at hgq
    have HGQ:=Lib.hid hgq
    obtain ⟨w4,hw4⟩:∃ W,W=wr:=⟨_,rfl⟩
    rw [← hw4] at HGQ ⊢
    have d0:w4.cell? ⟨g5,0,none⟩=some L:=cell_of_row _ g5 0 _ _ _ HGQ.out.row
    have x1:¬ (q:Int)<(q:Int):=by omega
    clear hgq HGS hw4
    go_wp2_with fail
    refine (dealings8_any L ws ⟨#[102,105,114,115,116]⟩ w4 HWS.out (HCR1.out.upd HGQ.out.up) (by decide)).mono ?_
    rintro e w5 ⟨dv,HDV,rfl,hq⟩
    have HGQ5:=Lib.hid (HGQ.out.quiet hq)
    have HCB:Hid (cb<w4.heap.size):=by obtain ⟨cur,hc,_⟩:=HGQ.out.co;exact blk_lt hc
    have hsf:bs ⟨#[102,105,114,115,116]⟩=firstL:=rfl
    rw [hsf,HWL.out] at HDV
    have HSZ:=Lib.hid hq.size
    have hlv:=HLV.out
    subst hlv
    clear hq hsf d0
    go_wp2_with fail
    go_loopw [9,10,11] (fun i _ _ wr=>∃ k:Nat,i=.int .i64 (k:Int)∧k≤n∧Hid (GqSt w1 wr gR g5 (.slice la n lc) S cb q cap (coefL0 q k))∧Hid (Upd [cb] [cb] w5 wr)) (fun i _ _ _=>n - (intOf i).toNat)
    case atStart=>exact ⟨0,rfl,Nat.zero_le _,HGQ5.out,Upd.refl _ _⟩
    case round =>
     obtain ⟨i,rfl,hi,HGI,HUI⟩:=hrel
     by_cases hli:i<n
     · obtain ⟨z,hz⟩:∃ z,ws[i]? =some z:=⟨_,List.getElem?_eq_getElem (by rw [HWL.out];exact hli)⟩
       obtain ⟨ao',cap',ev,_,_,hM⟩:=HCR1.out.upd HGI.out.up
       rw [HWL.out] at ev
       obtain ⟨g,eg,hg,c0,c1,c2⟩:=hM i _ (crewOf_get hz)
       injection ev with e1 e2 e3
       subst e1
       subst eg
       dsimp only [memC] at c0 c1 c2
       obtain ⟨I,hI⟩:∃ I,I=i+1:=⟨_,rfl⟩
       rw [← hI] at c0
       have HI:=Lib.hid hI
       have hI4:I≤4:=by omega
       have hitl:(Lib.itoa (I:Int)).length≤20:=itoa_len (I:Int) (by unfold i64in;omega)
       have i0:(0:Int)≤(i:Int):=by omega
       have i1:(i:Int)<(n:Int):=by omega
       have h6:(ByteArray.mk #[102,105,114,115,116,32]).size=6:=rfl
       clear hz c1 c2 hI e2 e3 hM hg
       go_wp2_with fail
       refine (text8_any I wr (by omega)).mono ?_
       rintro e w6 ⟨y,HY,hy,rfl,hq⟩
       have HGI6:=Lib.hid (HGI.out.quiet hq)
       have HUI6:=Lib.hid (HUI.out.trans (hq.widen (K:=[cb]) (by simp)))
       clear hq HGI HUI c0
       obtain ⟨sd,hsd⟩:∃ sd,sd=⟨#[102,105,114,115,116,32]⟩ ++ y:=⟨_,rfl⟩
       have hsd3:⟨#[102,105,114,115,116,32]⟩ ++ y=sd:=hsd.symm
       have hsds:sd.size≤1000000:=by rw [hsd];simp [ByteArray.size_append];omega
       have HSD:Hid (bs sd=sdL firstL i):=by
        show _=_
        rw [hsd,bs_append,HY.out]
        unfold sdL
        rw [HI.out]
        rfl
       clear hsd
       go_wp2_with fail
       refine (poly8_any sd q w6 hsds (by omega)).mono ?_
       rintro e w7 ⟨pv,HPR,rfl,HPU⟩
       rw [HSD.out] at HPR
       have HPQ:Hid (Upd [] [] w6 w7):=HPU.out.mono (fun _ h=>h) (fun _ h=>absurd h (by simp))
       have HGI7:=Lib.hid (HGI6.out.quiet HPQ.out)
       have HUI7:=Lib.hid (HUI6.out.trans (HPQ.out.widen (K:=[cb]) (by simp)))
       have HCB6:Hid (cb<w6.heap.size):=by obtain ⟨cur,hc,_⟩:=HGI6.out.co;exact blk_lt hc
       have HPN:Hid (∀ x,x∈foot pv→x≠cb):=fun x hx e=>by
        rcases HPU.out.new x hx with h | h
        · cases h
        · have:=HCB6.out;omega
       obtain ⟨pa,pc,hpv,hpc,_⟩:=row_slice HPR.out
       subst hpv
       clear hsd3 HPU HPQ HGI6 HUI6 HY hy hitl
       go_wp2_with fail
       go_loopw [11] (fun j wr'=>∃ t:Nat,j=.int .i64 (t:Int)∧t≤q∧Hid (GqSt w1 wr' gR g5 (.slice (some ⟨g,0,none⟩) n lc) S cb q cap (coefMix q i t))∧Hid (Upd [cb] [cb] w7 wr')) (fun j _=>q - (intOf j).toNat)
       case atStart=>exact ⟨0,rfl,Nat.zero_le _,(by show GqSt _ _ _ _ _ _ _ _ _ _;rw [coefMix_zero];exact HGI7.out),Upd.refl _ _⟩
       case round =>
        obtain ⟨t,rfl,ht,HGT,HUT⟩:=hrel
        by_cases hlt2:t<q
        · have hrow:=row_same HPR.out (fun x hx=>HUT.out.block x (row_foot_lt HPR.out x hx) (by have:=HPN.out x hx;simpa using this))
          obtain ⟨pt,hpt⟩:∃ pt,(polyN (sdL firstL i) q)[t]? =some pt:=⟨_,List.getElem?_eq_getElem (by rw [polyN_len];exact hlt2)⟩
          obtain ⟨pb,rfl,hpcell⟩:=(Sl.of_digs (polyN_len _ _) hrow).get hpt
          have hpb:pb≠cb:=HPN.out pb (by simp [foot,Value.ownBlock])
          have hptl:pt<Qn:=polyN_lt pt (List.mem_of_getElem? hpt)
          obtain ⟨ct,hct⟩:∃ ct,ct=coefAt q i t:=⟨_,rfl⟩
          have hctl:ct<Qn:=by rw [hct];exact coefAt_lt _ _ _
          have hcc:=HGT.out.cell (coefMix_get (q:=q) (i:=i) hlt2)
          rw [← hct] at hcc
          obtain ⟨c7,f7⟩:=hcc
          have HCN:Hid (coefAt q (i+1) t=(ct+pt) % Qn):=by
           show _=_
           rw [hct,coefAt,List.getD_eq_getElem?_getD,hpt]
           rfl
          have HPC:=Lib.hid hpcell
          have hpl:pb<wr.heap.size:=World.block_lt_of_cell? _ _ hpcell
          have HK:Hid (∀ W,Upd [] [] wr W→W.cell? ⟨g5,2,none⟩=some (.slice (some ⟨cb,0,none⟩) q cap)∧W.cell? ⟨pb,t,none⟩=some (.int .i64 (pt:Int))):=fun W u =>
           ⟨cell_of_row _ g5 2 _ _ _ (row_updH HGT.out.row u),(u.cell (p:=⟨pb,t,none⟩) hpl (by simp)).trans HPC.out⟩
          have ud0:Upd [] [] wr wr.drew:=(Upd.refl _ _).drew
          have t0:(0:Int)≤(t:Int):=by omega
          have t1:(t:Int)<(q:Int):=by omega
          have hct9:ct≤9223372036854775807:=by unfold Qn at hctl;omega
          have hpt9:pt≤9223372036854775807:=by unfold Qn at hptl;omega
          clear hrow hpt hct hpcell hctl hptl hpl
          go_upto_region 16 with (fail)
          refine wp_region_noPanic ?_
          refine wp_region_held_drew (S:=fun wp=>wp.cell? ⟨g5,2,none⟩=some (.slice (some ⟨cb,0,none⟩) q cap)∧wp.cell? ⟨pb,t,none⟩=some (.int .i64 (pt:Int))) (by kernel_rfl) ?_ (fun hHeld=>?_)
          · exact HK.out _ ud0
          refine tkY 0 hHeld ?_
          refine tkY 1 hHeld ?_
          refine tkY 2 hHeld ?_
          refine tkY 3 hHeld ?_
          refine tkY 4 hHeld ?_
          refine tkY 5 hHeld ?_
          refine tkY 6 hHeld ?_
          refine tkY 8 hHeld ?_
          refine tkY 9 hHeld ?_
          refine tkY 10 hHeld ?_
          refine tkY 11 hHeld ?_
          refine tk1 7 fun K hK=>?_
          go_simp
          refine tkK hK (HK.out _ ud0) fun hHeld=>?_
          clear hK K
          refine tk1 12 fun K hK=>?_
          go_simp;refine (rAddQ_n ct pt _ hct9 hpt9).mono ?_;rintro e wv1 ⟨r,HR,hr,rfl,rfl⟩;have HSE:Hid ((coefMix q i t).set t r=coefMix q i (t+1)):=(by show _=_;rw [← coefMix_set hlt2,HCN.out,HR.out]);have hfn:=(HGT.out.set (x:=r) hlt2).quiet ((Upd.refl [] _).drew);rw [HSE.out] at hfn;have HFN:=Lib.hid hfn;have HFU:=Lib.hid ((HUT.out.setCell (p:=⟨cb,t,none⟩) (by simp) (.int .i64 (r:Int))).drew);clear hfn;go_wp2_with fail
          refine tkK hK (HK.out _ ud0) fun hHeld=>?_
          clear hK K
          refine tkY 13 hHeld ?_
          refine tk1 14 fun K hK=>?_
          go_simp
          refine tkK hK (⟨(World.cell?_setCell_other wr _ _ _ (fun e=>absurd (Addr.mk.inj e).1 (by have:=HGT.out.base;omega))).trans (HK.out wr (Upd.refl _ _)).1,(World.cell?_setCell_other wr _ _ _ (fun e=>hpb (Addr.mk.inj e).1.symm)).trans (HK.out wr (Upd.refl _ _)).2⟩) fun hHeld=>?_
          clear hK K
          refine wpAnyH_done (by kernel_rfl) ?_ _
          refine NoPanic.normal ?_
          go_wp2_with fail
          exact ⟨⟨t+1,by go_num,by omega,HFN.out,HFU.out⟩,(by first | (simp [intOf];done) | (simp [intOf];omega))⟩
        · obtain rfl:t=q:=by omega
          have hgn:=HGT.out
          rw [coefMix_all] at hgn
          have HGN:=Lib.hid hgn
          have HUN:=Lib.hid (HUI7.out.trans HUT.out)
          have x2:¬ (t:Int)<(t:Int):=by omega
          clear hgn HGT HUT
          go_wp2_with fail
          exact ⟨⟨i+1,by go_num,by omega,HGN.out,HUN.out⟩,(by first | (simp [intOf];done) | (simp [intOf];omega))⟩
     · obtain rfl:n=i:=by omega
       have HDR:Hid (DsRd wr dv (dsN ws firstL n)):=HDV.out wr (fun x h1 h2=>HUI.out.block x h2 (by have:=HCB.out;simp;omega))
       have d0:wr.cell? ⟨g5,0,none⟩=some (.slice la n lc):=cell_of_row _ g5 0 _ _ _ HGI.out.row
       have x2:¬ (n:Int)<(n:Int):=by omega
       go_wp2_with fail
       refine (begin8_any (.slice la n lc) dv ws (dsN ws firstL n) wr HWS.out (HCR1.out.upd HGI.out.up) HDR.out (dsN_good HWS.out firstL n) (by rw [dsN_len,HWL.out])).mono ?_
       rintro e w8 ⟨c,p,HKC,HKP,HON,rfl,hq⟩
       have HGI8:=Lib.hid (HGI.out.quiet hq)
       have HWR:Hid (wr.heap.size≤w8.heap.size∧g5<wr.heap.size∧w1.heap.size≤wr.heap.size):=⟨hq.size,blk_lt HGI.out.row,HGI.out.up.size⟩
       have HB5:=Lib.hid HGI.out.base
       have HRW:Hid (gR<w0.heap.size∧w0.heap.size≤w1.heap.size):=⟨blk_lt s0.out,by have h1:=HUW0.out;exact h1⟩
       obtain ⟨KV,hKV⟩:∃ KV:Array Value,KV=#[c,p]:=⟨_,rfl⟩
       rw [← hKV]
       have HKI:Hid ((Tryz.prog.info? 28).map (·.size)=some KV.size):=by rw [hKV];exact kyInfo c p
       have HKO:Hid (KV.all (·.oneCell')=true):=by
        show _=_
        rw [hKV,Array.all_eq_true_iff_forall_mem]
        intro x hx
        have hx':x=c∨x=p:=by simpa using hx
        rcases hx' with e | e <;> rw [e]
        · exact HON.out.1
        · exact HON.out.2
       have TH:Hid (w8.there g5 3 KV.size):=there_of_row HGI8.out.row (by rw [hKV];exact (by decide:3+2≤5))
       obtain ⟨w9,hw9⟩:∃ W,w8.setCells g5 3 KV.toList=W:=⟨_,rfl⟩
       obtain ⟨GF,hGF⟩:∃ GF,GF=grV (.slice la n lc) S (.slice (some ⟨cb,0,none⟩) q cap) c p:=⟨_,rfl⟩
       have R9:Hid (w9.heap[g5]? =some (.cells GF 32 (0,0))):=by
        show _=_
        rw [← hw9,hKV,hGF]
        exact heap_setCell_same _ g5 4 _ _ p (heap_setCell_same w8 g5 3 _ _ c HGI8.out.row)
       have u9:Upd [g5] [g5] w8 w9:=by rw [← hw9];exact Upd.setCellsIn (by simp) _ _ _ (Upd.refl _ _)
       have hgne:gR≠g5:=by have:=HB5.out;omega
       have S9:Hid (w9.heap[gR]? =some (.cells grZ 32 (0,0))):=(u9.block gR (blk_lt HGI8.out.res) (by simpa using hgne)).trans HGI8.out.res
       have HGI3:Hid ((Tryz.prog.info? 32).map (·.size)=some GF.size):=by rw [hGF];exact grInfo _ _ _ _ _
       have HGZ3:Hid (grZ.size=GF.size):=by show _=_;rw [hGF];rfl
       have HSV2:=HSV
       have HGO3:Hid (GF.all (·.oneCell')=true):=by
        show _=_
        rw [hGF,HSV.out,Array.all_eq_true_iff_forall_mem]
        intro x hx
        have hx':x=.slice la n lc∨x=.slice sa n sc∨x=.slice (some ⟨cb,0,none⟩) q cap∨x=c∨x=p:=by simpa [grV] using hx
        rcases hx' with e | e | e | e | e <;> rw [e]
        · rfl
        · rfl
        · rfl
        · exact HON.out.1
        · exact HON.out.2
       obtain ⟨w10,hw10⟩:∃ W,w9.setRow gR GF=W:=⟨_,rfl⟩
       have S10:=Lib.hid (show w10.heap[gR]? =some (.cells GF 32 (0,0)) by rw [← hw10];exact setRow_heap _ _ _ _ _ _ S9.out)
       have hsame8:∀ x,x<w8.heap.size→x≠gR→x≠g5→w10.heap[x]? =w8.heap[x]?:=fun x h1 h2 h3=>by
        rw [← hw10]
        exact (setRow_other _ _ _ _ h2).trans (u9.block x h1 (by simpa using h3))
       have hup8:=HGI8.out.up
       have hold:∀ x,w0.heap.size≤x→x<w1.heap.size→w10.heap[x]? =w1.heap[x]?:=fun x h1 h2=>by
        have h3:=HRW.out
        have h4:=HB5.out
        have h5:=hup8.size
        exact (hsame8 x (by omega) (by omega) (by omega)).trans (hup8.block x h2 (by simp))
       have hsz10:w8.heap.size≤w10.heap.size:=by rw [← hw10];have:=u9.size;simpa using this
       have hw01:=u0.out.size
       have HAG:Hid (∀ W,NewAgree w w10 W→(∀ x,w0.heap.size≤x→x<w1.heap.size→W.heap[x]? =w1.heap[x]?)∧NewAgree wr w8 W∧W.heap[cb]? =w8.heap[cb]?):=by
        intro W hW
        have h3:=HRW.out
        have h4:=HB5.out
        have h5:=hup8.size
        have h6:=HWR.out
        have h7:=u0.out.size
        have hcb8:cb<w8.heap.size:=by obtain ⟨cur,hc,_⟩:=HGI8.out.co;exact blk_lt hc
        exact ⟨fun x h1 h2=>(hW x (by omega) (by omega)).trans (hold x h1 h2),fun x h1 h2=>(hW x (by omega) (by omega)).trans (hsame8 x h2 (by omega) (by omega)),(hW cb (by omega) (by omega)).trans (hsame8 cb hcb8 (by omega) (by omega))⟩
       have HFL:Hid (∀ W,NewAgree w w10 W→CrewAt W (.slice la n lc) ws):=fun W hW=>by
        have h:=row_same (w':=W) HLR.out (fun x hx=>(HAG.out W hW).1 x (HNW0.out x (.inl hx)) (row_foot_lt HLR.out x hx))
        obtain ⟨la',lc',e,h1,h2,hM⟩:=mbs_of_row (crewPre_len l (manyN l)) h
        rw [← HNN.out] at e h1 hM
        refine ⟨la',lc',by rw [e,HWL.out],by rw [HWL.out];exact h1,Nat.le_trans h2 (by unfold maxLen;omega),?_⟩
        rw [HWW.out,← crewPre_all]
        exact hM
       have HFS:Hid (∀ W,NewAgree w w10 W→Sl W S (secsOf n)):=fun W hW=>by
        rw [HNN.out]
        exact Sl.of_digs (secsOf_len _) (row_same (w':=W) HSR.out (fun x hx=>(HAG.out W hW).1 x (HNW0.out x (.inr hx)) (row_foot_lt HSR.out x hx)))
       have HFC:Hid (∀ W,NewAgree w w10 W→Sl W c (mixL (dsN ws firstL n) (needN ws.sum))):=fun W hW=>HKC.out W (HAG.out W hW).2.1
       have HFP:Hid (∀ W,NewAgree w w10 W→PtsRd W p (ptsOf ws)):=fun W hW=>HKP.out W (HAG.out W hW).2.1
       have HFQ:Hid (∀ W,NewAgree w w10 W→Sl W (.slice (some ⟨cb,0,none⟩) q cap) (coefL0 q n)):=fun W hW=>by
        obtain ⟨cur,hc,hc2,hc3⟩:=HGI8.out.co
        have h5:=(HAG.out W hW).2.2.trans hc
        refine Sl.of_digs (coefL0_len q n) ⟨by simp [digVals,coefL0_len],.inr ⟨cb,cap,cur,rfl,Nat.zero_le _,h5,HGI8.out.fit.1,HGI8.out.fit.2,?_,?_⟩⟩
        · omega
        · simpa using hc2
       have HUF:Hid (Upd [] [] w w10):=by
        rw [← hw10]
        have h4:=HB5.out
        exact ((U1.out.trans hup8).past2 u9 (fun x hx=>by have:=U1.out.size;simp at hx;omega)).setRowNew HG.out GF
       have HGF:=Lib.hid hGF
       have HW9:=Lib.hid hw9
       have HW10:=Lib.hid hw10
       clear hq hKV hGF hw9 hw10 hsame8 hup8 hold hsz10 hw01 u9 HKC HKP HON HDR d0 HGI HUI
       go_wp2_with (first | (refine wpList_store_midAs rfl 28 _ _ rfl g5 3 KV rfl rfl TH.out HKI.out HKO.out w9 HW9.out ?_) | (refine wpList_load_row rfl 32 _ rfl g5 rfl _ GF _ _ R9.out Tryz.underlying32 rfl HGI3.out ?_) | (refine wpList_store_rowAs rfl 32 _ _ rfl gR GF rfl rfl _ _ S9.out HGI3.out HGZ3.out HGO3.out w10 HW10.out ?_))
       refine bodyPost_ret (results_cell_row rfl _ _ gR _ GF _ _ rfl S10.out Tryz.underlying32 rfl HGI3.out) rfl ?_
       have e1:wsN l (manyN l)=ws:=by rw [HWW.out,HNN.out]
       refine ⟨.slice la n lc,S,.slice (some ⟨cb,0,none⟩) q cap,c,p,fun W hW=>⟨?_,?_,?_,?_,?_⟩,by rw [HGF.out],HUF.out⟩
       · rw [e1];exact HFL.out W hW
       · rw [← HNN.out];exact HFS.out W hW
       · rw [e1,← HT.out,← HQ.out,← HNN.out];exact HFQ.out W hW
       · rw [e1,← HNN.out]
         exact HFC.out W hW
       · rw [e1];exact HFP.out W hW
def csV (L K P KM S C KS:Value):Array Value:=#[L,K,P,KM,.int .i64 4,.int .i64 0,S,L,S,C,K,P,KS]
def csZ:Array Value:=#[.slice none 0 0,.slice none 0 0,.slice none 0 0,.slice none 0 0,.int .i64 0,.int .i64 0,.slice none 0 0,.slice none 0 0,.slice none 0 0,.slice none 0 0,.slice none 0 0,.slice none 0 0,.slice none 0 0]
theorem csInfo (L K P KM S C KS:Value):(Tryz.prog.info? 34).map (·.size)=some (csV L K P KM S C KS).size:=by
 show _=some 13
 kernel_rfl
def kskSeed (k:Nat):List UInt8:=[107,105,111,115,107,32] ++ Lib.itoa (k:Int)
def kskSec (k:Nat):Nat:=keyN (kskSeed k)
def kskMem (k:Nat):Mem:=⟨70+(k:Int),0,(gP (kskSec k):Int)⟩
def kskL (k:Nat):List Mem:=(List.range k).map kskMem
def kskS (k:Nat):List Nat:=(List.range k).map kskSec
theorem kskL_succ (k:Nat):kskL (k+1)=kskL k ++ [kskMem k]:=by simp [kskL,List.range_succ]
theorem kskS_succ (k:Nat):kskS (k+1)=kskS k ++ [kskSec k]:=by simp [kskS,List.range_succ]
theorem kskL_len (k:Nat):(kskL k).length=k:=by simp [kskL]
theorem kskS_len (k:Nat):(kskS k).length=k:=by simp [kskS]
structure CsSt (w1 wr:World) (g2 g4:Nat) (L K P KM S C KS:Value) (k:Nat):Prop where
 row:wr.heap[g4]? =some (.cells (csV L K P KM S C KS) 34 (0,0))
 res:wr.heap[g2]? =some (.cells csZ 34 (0,0))
 mem:wr.ownsRow 0 52 3 KM k (mbVals (kskL k))
 sec:wr.ownsRow 0 3 1 KS k (digVals (kskS k))
 up:Upd [] [] w1 wr
 base:g2<g4∧w1.heap.size≤g4
 offm:∀ x,x∈foot KM→g4<x
 offs:∀ x,x∈foot KS→g4<x
 apart:∀ x,x∈foot KM→x ∉ foot KS
section
variable {w1 wr w' : World} {g2 g4 k : Nat} {L K P KM S C KS KM' KS' : Value}
theorem CsSt.lt (h:CsSt w1 wr g2 g4 L K P KM S C KS k):g4<wr.heap.size:=blk_lt h.row
theorem CsSt.quiet (h:CsSt w1 wr g2 g4 L K P KM S C KS k) (u:Upd [] [] wr w'):CsSt w1 w' g2 g4 L K P KM S C KS k :=
 ⟨row_updH h.row u,row_updH h.res u,row_up0 h.mem u,row_up0 h.sec u,h.up.trans u,h.base,h.offm,h.offs,h.apart⟩
theorem CsSt.grownS (h:CsSt w1 wr g2 g4 L K P KM S C KS k) (u:Upd (foot KS) (foot KS') wr w'):w'.heap[g4]? =some (.cells (csV L K P KM S C KS) 34 (0,0)) :=
 (u.block g4 h.lt (fun q=>Nat.lt_irrefl _ (h.offs g4 q))).trans h.row
theorem CsSt.addS (h:CsSt w1 wr g2 g4 L K P KM S C KS k) (u:Upd (foot KS) (foot KS') wr w') (hr:w'.ownsRow 0 3 1 KS' (k+1) (digVals (kskS (k+1)))) :
 (w'.setCell ⟨g4,12,none⟩ KS').heap[g4]? =some (.cells (csV L K P KM S C KS') 34 (0,0))∧(w'.setCell ⟨g4,12,none⟩ KS').heap[g2]? =some (.cells csZ 34 (0,0))∧(w'.setCell ⟨g4,12,none⟩ KS').ownsRow 0 52 3 KM k (mbVals (kskL k))∧(w'.setCell ⟨g4,12,none⟩ KS').ownsRow 0 3 1 KS' (k+1) (digVals (kskS (k+1)))∧Upd [] [] w1 (w'.setCell ⟨g4,12,none⟩ KS')∧(∀ x,x∈foot KS'→g4<x)∧∀ x,x∈foot KM→x ∉ foot KS':=by
 have hD:=h.lt
 have hb:=h.base
 have hoff:∀ x,x∈foot KS'→g4<x:=fun x hx=>by
  rcases u.new x hx with e | e
  · exact h.offs x e
  · omega
 have hsame:∀ x,x≠g4→(w'.setCell ⟨g4,12,none⟩ KS').heap[x]? =w'.heap[x]?:=fun x hx=>Below.heap_setCell _ _ _ _ hx
 refine ⟨heap_setCell_same w' g4 12 _ _ KS' (h.grownS u),?_,?_,?_,?_,hoff,fun x hx hs=>?_⟩
 · rw [hsame g2 (by omega),u.block g2 (by omega) (fun q=>by have:=h.offs g2 q;omega)]
   exact h.res
 · exact row_same h.mem (fun x hx=>(hsame x (by have:=h.offm x hx;omega)).trans (u.block x (row_foot_lt h.mem x hx) (fun hs=>h.apart x hx hs)))
 · exact row_same hr (fun x hx=>hsame x (by have:=hoff x hx;omega))
 · exact (h.up.past2 u (fun x hx=>by have:=h.offs x hx;omega)).setNew (p:=⟨g4,12,none⟩) (by show w1.heap.size≤g4;omega) _
 · rcases u.new x hs with e | e
   · exact h.apart x hx e
   · have:=row_foot_lt h.mem x hx;omega
theorem CsSt.addM (h1:wr.heap[g4]? =some (.cells (csV L K P KM S C KS) 34 (0,0))) (h2:wr.heap[g2]? =some (.cells csZ 34 (0,0))) (hs:wr.ownsRow 0 3 1 KS (k+1) (digVals (kskS (k+1)))) (hup:Upd [] [] w1 wr) (hb:g2<g4∧w1.heap.size≤g4) (offm:∀ x,x∈foot KM→g4<x) (offs:∀ x,x∈foot KS→g4<x) (ap:∀ x,x∈foot KM→x ∉ foot KS)
 (u:Upd (foot KM) (foot KM') wr w') (hr:w'.ownsRow 0 52 3 KM' (k+1) (mbVals (kskL (k+1)))):w'.heap[g4]? =some (.cells (csV L K P KM S C KS) 34 (0,0))∧CsSt w1 (w'.setCell ⟨g4,3,none⟩ KM') g2 g4 L K P KM' S C KS (k+1):=by
 have hD:g4<wr.heap.size:=blk_lt h1
 have hoff:∀ x,x∈foot KM'→g4<x:=fun x hx=>by
  rcases u.new x hx with e | e
  · exact offm x e
  · omega
 have hsame:∀ x,x≠g4→(w'.setCell ⟨g4,3,none⟩ KM').heap[x]? =w'.heap[x]?:=fun x hx=>Below.heap_setCell _ _ _ _ hx
 have hg:w'.heap[g4]? =some (.cells (csV L K P KM S C KS) 34 (0,0)):=(u.block g4 hD (fun q=>Nat.lt_irrefl _ (offm g4 q))).trans h1
 refine ⟨hg,heap_setCell_same w' g4 3 _ _ KM' hg,?_,?_,?_,?_,hb,hoff,offs,fun x hx hsx=>?_⟩
 · rw [hsame g2 (by omega),u.block g2 (by omega) (fun q=>by have:=offm g2 q;omega)]
   exact h2
 · exact row_same hr (fun x hx=>hsame x (by have:=hoff x hx;omega))
 · exact row_same hs (fun x hx=>(hsame x (by have:=offs x hx;omega)).trans (u.block x (row_foot_lt hs x hx) (fun hm=>ap x hm hx)))
 · exact (hup.past2 u (fun x hx=>by have:=offm x hx;omega)).setNew (p:=⟨g4,3,none⟩) (by show w1.heap.size≤g4;omega) _
 · rcases u.new x hx with e | e
   · exact ap x e hsx
   · have:=row_foot_lt hs x hsx;omega
end
structure CaseRd (l:List Int) (W:World) (L K P KM S C KS:Value):Prop where
 made:MadeRd l W L S C K P
 kmem:∃ ao cap,KM=.slice ao 2 cap∧2≤cap∧cap≤maxLen∧MbsIn W ao (kskL 2)
 ksec:Sl W KS (kskS 2)
theorem CaseRd.upd {l:List Int} {w w':World} {L K P KM S C KS:Value} (h:CaseRd l w L K P KM S C KS) (u:Upd [] [] w w'):CaseRd l w' L K P KM S C KS:=by
 obtain ⟨ao,cap,e,h1,h2,hm⟩:=h.kmem
 exact ⟨h.made.upd u,⟨ao,cap,e,h1,h2,hm.upd u⟩,h.ksec.upd u⟩
def MkCase (l:List Int) (w:World) (e:Ending) (w':World):Prop:=∃ L K P KM S C KS:Value,Hid (CaseRd l w' L K P KM S C KS)∧e=.returned (.agg (csV L K P KM S C KS))∧Upd [] [] w w'
theorem suBuilt (L K P:Value) (la:Option Addr) (ln lc:Nat) (ka:Option Addr) (kn kc:Nat) (pa:Option Addr) (pn pc:Nat) (hL:L=.slice la ln lc) (hK:K=.slice ka kn kc) (hP:P=.slice pa pn pc) :
 Tryz.prog.built 30 [(0,L),(1,.agg #[K,P]),(3,.int .i64 4)]=some #[L,K,P,.slice none 0 0,.int .i64 4,.int .i64 0]:=by
 rw [hL,hK,hP]
 kernel_rfl
theorem csBuilt (L K P S C:Value) (la:Option Addr) (ln lc:Nat) (ka:Option Addr) (kn kc:Nat) (pa:Option Addr) (pn pc:Nat) (sa:Option Addr) (sn sc:Nat) (ca:Option Addr) (cn cc:Nat) (hL:L=.slice la ln lc) (hK:K=.slice ka kn kc) (hP:P=.slice pa pn pc) (hS:S=.slice sa sn sc) (hC:C=.slice ca cn cc) :
 Tryz.prog.built 34 [(0,.agg #[L,K,P,.slice none 0 0,.int .i64 4,.int .i64 0]),(1,S),(2,.agg (grV L S C K P))]=some (csV L K P (.slice none 0 0) S C (.slice none 0 0)):=by
 rw [hL,hK,hP,hS,hC]
 kernel_rfl
set_option maxHeartbeats 4000000 in
theorem make33_any (l:List Int) (v:Value) (w:World) (hv:RdO w v l) (hi:∀ x∈l,i64in x) (hl:l.length≤9223372036854775807) :
 Calls Tryz.prog 5 #[v] w (MkCase l w):=by
 obtain ⟨gR,hgR⟩:∃ g,w.heap.size=g:=⟨_,rfl⟩
 obtain ⟨w0,hw0⟩:∃ W,w.alloc (.cells csZ 34)=W:=⟨_,rfl⟩
 have s0:=Lib.hid (show w0.heap[gR]? =some (.cells csZ 34 (0,0)) by rw [← hgR,← hw0];exact heap_alloc_new _ _)
 have u0:=Lib.hid (show Upd [] [] w w0 by rw [← hw0];exact (Upd.refl _ _).alloc _)
 have HG:Hid (w.heap.size≤gR):=Nat.le_of_eq hgR
 have hw0':w.alloc (.cells #[.slice none 0 0,.slice none 0 0,.slice none 0 0,.slice none 0 0,.int .i64 0,.int .i64 0,.slice none 0 0,.slice none 0 0,.slice none 0 0,.slice none 0 0,.slice none 0 0,.slice none 0 0,.slice none 0 0] 34)=w0:=hw0
 have HMD:=Lib.hid (made8_any l v w0 (hv.upd u0.out) hi hl)
 clear hv hi hl hw0
 go_enter Tryz.func5,Tryz.ntmps5
 go_wp2_with fail
 refine HMD.out.mono ?_
 rintro e w1 ⟨L,S,C,K,P,HR,rfl,hq1⟩
 have HM1:=Lib.hid (HR.out w1 (NewAgree.refl _ _))
 obtain ⟨la,lc,hL,_,_,_⟩:=HM1.out.crew
 obtain ⟨sa,sc,hS,_,_⟩:=HM1.out.secs.form
 obtain ⟨ca,cc,hC,_,_⟩:=HM1.out.coefs.form
 obtain ⟨ka,kc,hK,_,_⟩:=HM1.out.coms.form
 obtain ⟨pa,pc,hP,_,_,_⟩:=HM1.out.pts
 have HLF:=Lib.hid (And.intro hL (And.intro hS (And.intro hC (And.intro hK hP))))
 obtain ⟨GV,hGV⟩:∃ GV,GV=grV L S C K P:=⟨_,rfl⟩
 rw [← hGV]
 have HI:Hid ((Tryz.prog.info? 32).map (·.size)=some GV.size):=by rw [hGV];exact grInfo _ _ _ _ _
 have HZ:Hid (grZ.size=GV.size):=by show _=_;rw [hGV];rfl
 have HO:Hid (GV.all (·.oneCell')=true):=by show _=_;rw [hGV,hL,hS,hC,hK,hP];simp [grV,Value.oneCell']
 obtain ⟨w2,Z2,W2,R2,hq2⟩:=blk_new w1 32 grZ GV
 obtain ⟨g3,hg3⟩:∃ g,w1.heap.size=g:=⟨_,rfl⟩
 rw [hg3] at Z2 W2 R2
 have hz2:(w1.alloc (.cells grZ 32)).setRow g3 GV=w2:=W2.out
 have R2g:w2.heap[g3]? =some (.cells (grV L S C K P) 32 (0,0)):=by rw [← hGV];exact R2.out
 have d0:w2.cell? ⟨g3,0,none⟩=some L:=cell_of_row _ g3 0 _ _ _ R2g
 have d1:w2.cell? ⟨g3,1,none⟩=some S:=cell_of_row _ g3 1 _ _ _ R2g
 have HLK:Hid ((Instr.loadAt 28 (.pointer (some ⟨g3,3,none⟩))).run Tryz.prog w2=.ok (.agg #[K,P]) w2) :=
  run_loadAt_mid w2 g3 3 28 [K,P] _ (fun j x hx=>by
   match j,hx with
   | 0,hx=>simp at hx;subst hx;exact cell_of_row _ g3 3 _ _ _ R2g
   | 1,hx=>simp at hx;subst hx;exact cell_of_row _ g3 4 _ _ _ R2g) Tryz.underlying28 rfl (kyInfo K P)
 obtain ⟨KV,hKV⟩:∃ KV:Array Value,KV=#[K,P]:=⟨_,rfl⟩
 obtain ⟨SU,hSU⟩:∃ SU:Array Value,SU=#[L,K,P,.slice none 0 0,.int .i64 4,.int .i64 0]:=⟨_,rfl⟩
 obtain ⟨CV,hCV⟩:∃ CV:Array Value,CV=csV L K P (.slice none 0 0) S C (.slice none 0 0):=⟨_,rfl⟩
 have HB1:Hid (Tryz.prog.built 30 [(0,L),(1,.agg KV),(3,.int .i64 4)]=some SU):=by show _=_;rw [hKV,hSU];exact suBuilt _ _ _ _ _ _ _ _ _ _ _ _ hL hK hP
 have HB2:Hid (Tryz.prog.built 34 [(0,.agg SU),(1,S),(2,.agg GV)]=some CV):=by show _=_;rw [hSU,hGV,hCV];exact csBuilt _ _ _ _ _ _ _ _ _ _ _ _ _ _ _ _ _ _ _ _ hL hK hP hS hC
 have HCI:Hid ((Tryz.prog.info? 34).map (·.size)=some CV.size):=by rw [hCV];exact csInfo _ _ _ _ _ _ _
 have HCZ:Hid (csZ.size=CV.size):=by show _=_;rw [hCV];rfl
 have HCO:Hid (CV.all (·.oneCell')=true):=by show _=_;rw [hCV,hL,hS,hC,hK,hP];simp [csV,Value.oneCell']
 rw [← hKV] at HLK
 obtain ⟨w3,Z3,W3,R3,hq3⟩:=blk_new w2 34 csZ CV
 obtain ⟨g4,hg4⟩:∃ g,w2.heap.size=g:=⟨_,rfl⟩
 rw [hg4] at Z3 W3 R3
 have hz3:(w2.alloc (.cells csZ 34)).setRow g4 CV=w3:=W3.out
 have HC3:Hid (CsSt w1 w3 gR g4 L K P (.slice none 0 0) S C (.slice none 0 0) 0) :=
  ⟨by rw [← hCV];exact R3.out,row_updH (row_updH (row_updH s0.out hq1) hq2) hq3,World.ownsRow_nil _ _ _ _,World.ownsRow_nil _ _ _ _,hq2.trans hq3,⟨by rw [← hg4];exact Nat.lt_of_lt_of_le (blk_lt s0.out) (Nat.le_trans hq1.size hq2.size),by rw [← hg4];exact hq2.size⟩,(fun x h=>by cases h),(fun x h=>by cases h),(fun x h=>by cases h)⟩
 have U1:=Lib.hid (u0.out.trans hq1)
 have HSZ:Hid (w0.heap.size≤w1.heap.size):=hq1.size
 clear hL hS hC hK hP hGV hq1 hq2 hq3 R2g hKV hSU hCV W2 W3 R3 HMD
 go_wp2_with (first | (refine wpList_store_rowAs rfl 32 _ _ rfl g3 GV rfl rfl _ _ Z2.out HI.out HZ.out HO.out w2 hz2 ?_) | (refine wpList_load_atW rfl 28 _ rfl g3 3 rfl KV HLK.out ?_) | (refine wpList_load_row rfl 32 _ rfl g3 rfl _ GV _ _ R2.out Tryz.underlying32 rfl HI.out ?_) | (refine wpList_buildTo rfl 30 _ rfl _ rfl SU (Eq.trans (congrArg (fun z=>Tryz.prog.built 30 z) (by kernel_rfl)) HB1.out) ?_) | (refine wpList_buildTo rfl 34 _ rfl _ rfl CV (Eq.trans (congrArg (fun z=>Tryz.prog.built 34 z) (by kernel_rfl)) HB2.out) ?_) | (refine wpList_store_rowAs rfl 34 _ _ rfl g4 CV rfl rfl _ _ Z3.out HCI.out HCZ.out HCO.out w3 hz3 ?_))
 clear d0 d1 HLK HB1 HB2 HCI HCZ HCO HI HZ HO hz2 hz3 hg3 hg4 Z2 Z3 R2 hw0' hgR
 have h6:(ByteArray.mk #[107,105,111,115,107,32]).size=6:=rfl
 go_loopw [5,6,7] (fun i _ _ wr=>∃ (k:Nat) (KM KS:Value),i=.int .i64 (k:Int)∧k≤2∧Hid (CsSt w1 wr gR g4 L K P KM S C KS k)) (fun i _ _ _=>2 - (intOf i).toNat)
 case atStart=>exact ⟨0,_,_,rfl,Nat.zero_le _,HC3.out⟩
 case round =>
  obtain ⟨k,KM,KS,rfl,hk,HC⟩:=hrel
  by_cases hlt:k<2
  · have hi:i64in (k:Int):=by unfold i64in;omega
    have hitl:=itoa_len (k:Int) hi
    have x1:(k:Int)<2:=by omega
    go_wp2_with fail
    refine (decimal11_any (k:Int) wr hi).mono ?_
    rintro e w4 ⟨y,HY,hy,rfl,hq⟩
    have HC4:=Lib.hid (HC.out.quiet hq)
    clear hq HC
    go_wp2_with fail
    refine (rkey_any _ w4 (by simp [ByteArray.size_append];omega)).mono ?_
    rintro e w5 ⟨a,b,HA,HB,ha,hb,rfl,hq⟩
    have HC5:=Lib.hid (HC4.out.quiet hq)
    clear hq HC4
    obtain ⟨KS',w6,hrunA,hownA,hupA⟩:=append_nat w5 KS (kskS k) k a (kskS_len k) HC5.out.sec (by omega)
    have hka:kskSec k=a:=by
     rw [HA.out,bs_append,HY.out]
     rfl
    rw [← hka,← kskS_succ] at hownA
    obtain ⟨sao,scap,hks,_,_⟩:=row_slice hownA
    obtain ⟨r1,r2,r3,r4,r5,r6,r7⟩:=HC5.out.addS hupA hownA
    have hgS:=HC5.out.grownS hupA
    have hkmm:kskMem k=⟨70+(k:Int),0,(b:Int)⟩:=by
     unfold kskMem kskSec
     rw [HB.out,bs_append,HY.out]
     rfl
    obtain ⟨w7,hw7⟩:∃ W,w6.setCell ⟨g4,12,none⟩ KS'=W:=⟨_,rfl⟩
    rw [hw7] at r1 r2 r3 r4 r5
    obtain ⟨KM',w8,hrunB,hownB,hupB⟩:=append_mb w7 KM (kskL k) k (70+(k:Int)) 0 (b:Int) (kskL_len k) r3 (by omega)
    rw [← hkmm,← kskL_succ] at hownB
    obtain ⟨mao,mcap,hkm,_,_⟩:=row_slice hownB
    obtain ⟨q1,q2⟩:=CsSt.addM r1 r2 r4 r5 HC5.out.base HC5.out.offm r6 r7 hupB hownB
    have c12:w5.cell? ⟨g4,12,none⟩=some KS:=cell_of_row _ g4 12 _ _ _ HC5.out.row
    have k12:w6.cell? ⟨g4,12,none⟩=some KS:=cell_of_row _ g4 12 _ _ _ hgS
    have f12:w6.frozen? ⟨g4,12,none⟩=false:=frozen_of_row _ g4 12 _ _ hgS
    have c3:w7.cell? ⟨g4,3,none⟩=some KM:=cell_of_row _ g4 3 _ _ _ r1
    have k3:w8.cell? ⟨g4,3,none⟩=some KM:=cell_of_row _ g4 3 _ _ _ q1
    have f3:w8.frozen? ⟨g4,3,none⟩=false:=frozen_of_row _ g4 3 _ _ q1
    subst hks
    subst hkm
    have HQ2:=Lib.hid q2
    have HRA:=Lib.hid hrunA
    have HRB:=Lib.hid hrunB
    clear hrunA hownA hupA hrunB hownB hupB r1 r2 r3 r4 r5 r6 r7 q1 q2 hgS hka hkmm HC5 HA HB HY hitl hy hi
    go_wp2_with (first | (refine wpList_append_run _ rfl _ _ _ _ rfl _ _ (.slice sao (k+1) scap) w6 rfl rfl HRA.out ?_) | (refine wpList_append_run _ rfl _ _ _ _ rfl _ _ (.slice mao (k+1) mcap) w8 rfl rfl HRB.out ?_))
    exact ⟨⟨k+1,_,_,by go_num,by omega,HQ2.out⟩,(by first | (simp [intOf];done) | (simp [intOf];omega))⟩
  · obtain rfl:k=2:=by omega
    obtain ⟨CF,hCF⟩:∃ CF,CF=csV L K P KM S C KS:=⟨_,rfl⟩
    have R9:Hid (wr.heap[g4]? =some (.cells CF 34 (0,0))):=by rw [hCF];exact HC.out.row
    have S9:=Lib.hid HC.out.res
    have HFI:Hid ((Tryz.prog.info? 34).map (·.size)=some CF.size):=by rw [hCF];exact csInfo _ _ _ _ _ _ _
    have HFZ:Hid (csZ.size=CF.size):=by show _=_;rw [hCF];rfl
    obtain ⟨mao,mcap,hkm,hm1,hm2⟩:=row_slice HC.out.mem
    obtain ⟨sao,scap,hks,_,_⟩:=row_slice HC.out.sec
    have HFO:Hid (CF.all (·.oneCell')=true):=by
     obtain ⟨hL,hS,hC,hK,hP⟩:=HLF.out
     show _=_
     rw [hCF,hL,hS,hC,hK,hP,hkm,hks]
     simp [csV,Value.oneCell']
    obtain ⟨wF,hwF⟩:∃ W,wr.setRow gR CF=W:=⟨_,rfl⟩
    have SF:=Lib.hid (show wF.heap[gR]? =some (.cells CF 34 (0,0)) by rw [← hwF];exact setRow_heap _ _ _ _ _ _ S9.out)
    have hb:=HC.out.base
    have hgl:=blk_lt s0.out
    have hsame:∀ x,x≠gR→wF.heap[x]? =wr.heap[x]?:=fun x hx=>by rw [← hwF];exact setRow_other _ _ _ _ hx
    have hnew:NewAgree w0 w1 wF:=fun x h1 h2=>(hsame x (by omega)).trans (HC.out.up.block x h2 (by simp))
    have HFR:Hid (CaseRd l wF L K P KM S C KS):=by
     refine ⟨HR.out wF hnew,?_,Sl.of_digs (kskS_len 2) (row_same HC.out.sec (fun x hx=>hsame x (by have:=HC.out.offs x hx;omega)))⟩
     obtain ⟨ao,cap,e,h1,h2,h3⟩:=mbs_of_row (kskL_len 2) (row_same (w':=wF) HC.out.mem (fun x hx=>hsame x (by have:=HC.out.offm x hx;omega)))
     exact ⟨ao,cap,e,h1,h2,h3⟩
    have HUF:Hid (Upd [] [] w wF):=by rw [← hwF];exact (U1.out.trans HC.out.up).setRowNew HG.out CF
    have HCF:=Lib.hid hCF
    have HWF:=Lib.hid hwF
    have x1:¬ ((2:Nat):Int)<2:=by omega
    clear hCF hkm hks hwF hb hgl hsame hnew HC HLF HR HM1
    go_wp2_with (first | (refine wpList_load_row rfl 34 _ rfl g4 rfl _ CF _ _ R9.out Tryz.underlying34 rfl HFI.out ?_) | (refine wpList_store_rowAs rfl 34 _ _ rfl gR CF rfl rfl _ _ S9.out HFI.out HFZ.out HFO.out wF HWF.out ?_))
    refine bodyPost_ret (results_cell_row rfl _ _ gR _ CF _ _ rfl SF.out Tryz.underlying34 rfl HFI.out) rfl ⟨L,K,P,KM,S,C,KS,HFR,by rw [HCF.out],HUF.out⟩
end Go.Proofs.YtmjlkkbbnkanpaaGreatDoor
