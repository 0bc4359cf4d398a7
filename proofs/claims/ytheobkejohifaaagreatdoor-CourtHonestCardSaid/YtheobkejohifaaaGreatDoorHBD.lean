/- deal.Read: the dealing with a text and what follows. -/
import Derived.Test.YtheobkejohifaaaGreatDoorHBB
import Derived.Test.YtheobkejohifaaaGreatDoorHBC
import Derived.Test.YtheobkejohifaaaGreatDoorHAQ
import Derived.Test.YtheobkejohifaaaGreatDoorHAY
import Derived.Test.YtheobkejohifaaaGreatDoorHAJ
import Derived.Test.YtheobkejohifaaaGreatDoorHAD
import Derived.BigQuiet
namespace Go.Proofs.YtheobkejohifaaaGreatDoor
open Go.RowKit
set_option maxRecDepth 100000
structure DrSt (w wr:World) (gD gR:Nat) (c b:Value) (p:Int) (cs:List Int) (bxs:List (List UInt8)):Prop where
 row:wr.heap[gD]? =some (.cells (dlC c p b) 153 (0,0))
 res:wr.heap[gR]? =some (.cells dlZ 153 (0,0))
 com:wr.ownsRow 0 3 1 c cs.length (pcw cs)
 box:paN wr b bxs
 up:Upd [] [] w wr
 base:w.heap.size≤gR∧gR<gD
 offc:∀ x,x∈foot c→gD<x
 offb:∀ x,x∈foot b→gD<x
 apart:∀ x,x∈foot c→x ∉ foot b
section
variable {w wr w1 w2 : World} {gD gR : Nat} {c b c' b' : Value} {p q : Int} {cs : List Int} {bxs : List (List UInt8)} {s : List UInt8}
theorem DrSt.quiet (h:DrSt w wr gD gR c b p cs bxs) (u:Upd [] [] wr w1):DrSt w w1 gD gR c b p cs bxs :=
 ⟨paa h.row u,paa h.res u,pai h.com (fun j hj=>u.block j (paf h.com j hj) (by simp)),h.box.same (fun j hj=>u.block j (h.box.lt j hj) (by simp)),h.up.trans u,h.base,h.offc,h.offb,h.apart⟩
theorem DrSt.lt (h:DrSt w wr gD gR c b p cs bxs):gD<wr.heap.size:=pag h.row
theorem DrSt.cells (h:DrSt w wr gD gR c b p cs bxs):wr.cell? ⟨gD,0,none⟩=some c∧wr.cell? ⟨gD,2,none⟩=some b:=⟨cell_of_row _ gD 0 _ _ _ h.row,cell_of_row _ gD 2 _ _ _ h.row⟩
theorem DrSt.addCom (h:DrSt w wr gD gR c b p cs bxs) (u:Upd (foot c) (foot c') wr w1) (hr:w1.ownsRow 0 3 1 c' (cs.length+1) (pcw (cs ++ [q]))):DrSt w (w1.setCell ⟨gD,0,none⟩ c') gD gR c' b p (cs ++ [q]) bxs:=by
 have hD:=h.lt
 have hoff:∀ x,x∈foot c'→gD<x:=fun x hx=>by
  rcases u.new x hx with e | e
  · exact h.offc x e
  · omega
 have hsame:∀ x,x≠gD→(w1.setCell ⟨gD,0,none⟩ c').heap[x]? =w1.heap[x]?:=fun x hx=>Below.heap_setCell _ _ _ _ hx
 have hRD:=h.base.2
 refine ⟨heap_setCell_same w1 gD 0 _ _ c' ((u.block gD h.lt (fun q=>Nat.lt_irrefl _ (h.offc gD q))).trans h.row),?_,?_,?_,?_,h.base,hoff,h.offb,fun x hx hb=>?_⟩
 · rw [hsame gR (by omega),u.block gR (by omega) (fun q=>by have:=h.offc gR q;omega)]
   exact h.res
 · have e:(cs ++ [q]).length=cs.length+1:=by simp
   rw [e]
   exact pai hr (fun x hx=>hsame x (by have:=hoff x hx;omega))
 · exact h.box.same (fun x hx=>(hsame x (by have:=h.offb x hx;omega)).trans (u.block x (h.box.lt x hx) (fun hc=>h.apart x hc hx)))
 · exact (h.up.past2 u (fun x hx=>by have:=h.offc x hx;have:=h.base;omega)).setNew (p:=⟨gD,0,none⟩) (by show w.heap.size≤gD;have:=h.base;omega) _
 · rcases u.new x hx with e | e
   · exact h.apart x e hb
   · have:=h.box.lt x hb;omega
theorem DrSt.addBox (h:DrSt w wr gD gR c b p cs bxs) (u:Upd (foot b) (foot b') wr w1) (hr:paN w1 b' (bxs ++ [s])):DrSt w (w1.setCell ⟨gD,2,none⟩ b') gD gR c b' p cs (bxs ++ [s]):=by
 have hD:=h.lt
 have hoff:∀ x,x∈foot b'→gD<x:=fun x hx=>by
  rcases u.new x hx with e | e
  · exact h.offb x e
  · omega
 have hsame:∀ x,x≠gD→(w1.setCell ⟨gD,2,none⟩ b').heap[x]? =w1.heap[x]?:=fun x hx=>Below.heap_setCell _ _ _ _ hx
 have hRD:=h.base.2
 refine ⟨heap_setCell_same w1 gD 2 _ _ b' ((u.block gD h.lt (fun q=>Nat.lt_irrefl _ (h.offb gD q))).trans h.row),?_,?_,?_,?_,h.base,h.offc,hoff,fun x hx hb=>?_⟩
 · rw [hsame gR (by omega),u.block gR (by omega) (fun q=>by have:=h.offb gR q;omega)]
   exact h.res
 · exact pai h.com (fun x hx=>(hsame x (by have:=h.offc x hx;omega)).trans (u.block x (paf h.com x hx) (fun hc=>h.apart x hx hc)))
 · exact hr.same (fun x hx=>hsame x (by have:=hoff x hx;omega))
 · exact (h.up.past2 u (fun x hx=>by have:=h.offb x hx;have:=h.base;omega)).setNew (p:=⟨gD,2,none⟩) (by show w.heap.size≤gD;have:=h.base;omega) _
 · rcases u.new x hb with e | e
   · exact h.apart x hx e
   · have:=paf h.com x hx;omega
theorem DrSt.setP (h:DrSt w wr gD gR c b p cs bxs) (q:Int):DrSt w (wr.setCell ⟨gD,1,none⟩ (.int .i64 q)) gD gR c b q cs bxs:=by
 have hsame:∀ x,x≠gD→(wr.setCell ⟨gD,1,none⟩ (.int .i64 q)).heap[x]? =wr.heap[x]?:=fun x hx=>Below.heap_setCell _ _ _ _ hx
 have hRD:=h.base.2
 refine ⟨heap_setCell_same wr gD 1 _ _ _ h.row,?_,?_,?_,?_,h.base,h.offc,h.offb,h.apart⟩
 · rw [hsame gR (by omega)]
   exact h.res
 · exact pai h.com (fun x hx=>hsame x (by have:=h.offc x hx;omega))
 · exact h.box.same (fun x hx=>hsame x (by have:=h.offb x hx;omega))
 · exact h.up.setNew (p:=⟨gD,1,none⟩) (by show w.heap.size≤gD;have:=h.base;omega) _
end
def prc (l:List UInt8) (w:World) (e:Ending) (w':World):Prop :=
 ∃ (cv bv:Value) (d:DlI) (ok:Bool),Hid ((ok=true∧IsDl l d∧d.fit)∨(ok=false∧(∀ d,¬ IsDl l d)∧cv=.slice none 0 0∧bv=.slice none 0 0∧d=⟨[],0,[]⟩))∧Hid (RdI w' cv d.coms∧RdS w' bv d.boxes)∧Hid (∀ x,x∈foot cv∨x∈foot bv→w.heap.size≤x)∧e=.returned (.tuple #[.agg #[cv,.int .i64 d.point,bv],.bool ok])∧Upd [] [] w w'
theorem drNo {l:List UInt8} {w W:World} (hn:∀ d,¬ IsDl l d) (u:Upd [] [] w W):prc l w (.returned (.tuple #[.agg dlZ,.bool false])) W :=
 ⟨_,_,⟨[],0,[]⟩,false,.inr ⟨rfl,hn,rfl,rfl,rfl⟩,⟨RdI.nil _,RdS.nil _⟩,(fun x hx=>by rcases hx with hx | hx <;> cases hx),rfl,u⟩
theorem pio:∀ W:List (List UInt8),W.length≤(Lib.join W [32]).length+1
 | []=>by simp
 | [x]=>by simp
 | x :: y :: r=>by
  have h:=pio (y :: r)
  rw [pbS]
  simp only [List.length_append,List.length_cons,List.length_nil] at h ⊢
  omega
theorem pjt {l:List UInt8} {W:List (List UInt8)} (h:pbP l W):W.length≤l.length+1:=by
 have:=pio W
 rw [h.2.2] at this
 exact this
theorem pkz:Tryz.prog.built 153 []=some dlZ:=by kernel_rfl
theorem pcQ {l:List UInt8} {P:List ByteArray} {d:DlI} (h:IsDl l d) (hW:pbP l (P.map bs)):P.length=3+d.coms.length+d.boxes.length∧(∀ x,P[0]? =some x→bs x=pg2)∧(∀ x,P[1]? =some x→bs x=Lib.itoa (d.coms.length:Int))∧(∀ j x,j<d.coms.length→P[2+j]? =some x→∃ c,d.coms[j]? =some c∧bs x=Lib.itoa c)∧(∀ x,P[2+d.coms.length]? =some x→bs x=Lib.itoa d.point)∧(∀ j x,j<d.boxes.length→P[3+d.coms.length+j]? =some x→∃ b,d.boxes[j]? =some b∧bs x=hexL b):=by
 have e:=h.words hW
 have hl:=congrArg List.length e
 simp only [DlI.words,List.length_map,List.length_cons,List.length_append] at hl
 have hg:∀ i x,P[i]? =some x→d.words[i]? =some (bs x):=fun i x hx=>by rw [← e,List.getElem?_map,hx];rfl
 refine ⟨by omega,fun x hx=>?_,fun x hx=>?_,fun j x hj hx=>?_,fun x hx=>?_,fun j x hj hx=>?_⟩
 · have:=hg 0 x hx
   simpa [DlI.words] using this.symm
 · have:=hg 1 x hx
   simpa [DlI.words] using this.symm
 · have:=hg (2+j) x hx
   rw [show 2+j=j+1+1 by omega] at this
   simp only [DlI.words,List.getElem?_cons_succ] at this
   rw [List.getElem?_append_left (by simpa using hj),List.getElem?_map] at this
   refine ⟨d.coms[j],List.getElem?_eq_getElem hj,?_⟩
   rw [List.getElem?_eq_getElem hj] at this
   simpa using this.symm
 · have:=hg (2+d.coms.length) x hx
   rw [show 2+d.coms.length=d.coms.length+1+1 by omega] at this
   simp only [DlI.words,List.getElem?_cons_succ] at this
   rw [List.getElem?_append_right (by simp)] at this
   simpa using this.symm
 · have:=hg (3+d.coms.length+j) x hx
   rw [show 3+d.coms.length+j=(d.coms.length+1+j)+1+1 by omega] at this
   simp only [DlI.words,List.getElem?_cons_succ] at this
   rw [List.getElem?_append_right (by simp;omega),List.length_map,show d.coms.length+1+j - d.coms.length=j+1 by omega,List.getElem?_cons_succ,List.getElem?_map] at this
   refine ⟨d.boxes[j],List.getElem?_eq_getElem hj,?_⟩
   rw [List.getElem?_eq_getElem hj] at this
   simpa using this.symm
set_option maxHeartbeats 8000000 in
theorem pip (s:ByteArray) (hs:s.size≤1000000) (w:World) (htab:Tabs w):Calls Tryz.prog 195 #[.string s] w (prc (bs s) w):=by
 obtain ⟨gR,hgR⟩:∃ g,w.heap.size=g:=⟨_,rfl⟩
 obtain ⟨w1,hw1⟩:∃ W,w.alloc (.cells dlZ 153)=W:=⟨_,rfl⟩
 have s1:=Lib.hid (show w1.heap[gR]? =some (.cells dlZ 153 (0,0)) by rw [← hgR,← hw1];exact heap_alloc_new _ _)
 have u1:=Lib.hid (show Upd [] [] w w1 by rw [← hw1];exact (Upd.refl _ _).alloc _)
 have HG:Hid (w.heap.size≤gR):=Nat.le_of_eq hgR
 have hw1':w.alloc (.cells #[.slice none 0 0,.int .i64 0,.slice none 0 0] 153)=w1:=hw1
 have HSP:=Lib.hid (pgZ s (by omega) w1 (htab.upd u1.out))
 obtain ⟨DZ,hDZ⟩:∃ DZ,DZ=dlZ:=⟨_,rfl⟩
 have HDZ:=Lib.hid hDZ
 have HB0:Hid (Tryz.prog.built 153 []=some DZ):=by rw [hDZ];exact pkz
 have HI0:Hid ((Tryz.prog.info? 153).map (·.size)=some DZ.size):=by rw [hDZ];exact pcm _ _ _
 have HO0:Hid (DZ.all (·.oneCell')=true):=by rw [hDZ];show _=_;simp [dlZ,Value.oneCell']
 have HS:=Lib.hid hs
 rw [← hDZ] at s1
 clear hw1 hs hDZ
 go_enter Tryz.func195,Tryz.ntmps195
 go_wp2_with fail
 refine HSP.out.mono ?_
 rintro e w2 ⟨P,HP,rfl,hw2⟩
 obtain ⟨gP,hgP⟩:∃ g,w1.heap.size=g:=⟨_,rfl⟩
 obtain ⟨n,hn⟩:∃ n,n=P.length:=⟨_,rfl⟩
 rw [← hn,hgP]
 have q2:Upd [] [] w1 w2:=by rw [hw2];exact (Upd.refl _ _).alloc _
 have U2:=Lib.hid (u1.out.trans q2)
 have S2:=Lib.hid (paa s1.out q2)
 have RP:w2.heap[gP]? =some (.cells (P.map Value.string).toArray 9 (0,0)):=by rw [hw2,← hgP];exact heap_alloc_new _ _
 have HPC:Hid (∀ W,Upd [] [] w2 W→∀ (j:Nat) (x:ByteArray),P[j]? =some x→W.cell? ⟨gP,j,none⟩=some (.string x)):=fun W u j x hx=>by
  rw [cell_of_row _ gP j _ _ _ (paa RP u),List.getElem?_toArray,List.getElem?_map,hx]
  rfl
 have HPS:Hid (∀ (j:Nat) (x:ByteArray),P[j]? =some x→x.size≤1000000):=fun j x hx=>Nat.le_trans (HP.out.2.1 x (List.mem_of_getElem? hx)) HS.out
 have HN:=Lib.hid hn
 have hn64:n≤1000001:=by
  have h:=pjt HP.out.1
  rw [List.length_map,pac] at h
  have:=HS.out
  omega
 have T2:=Lib.hid (htab.upd U2.out)
 have HGP:Hid (gR<gP∧gP<w2.heap.size):=⟨by rw [← hgP];exact pag s1.out,pag RP⟩
 clear HSP hw2 hgP hn q2 u1 s1 RP hw1'
 by_cases h3:n<3
 · have HNO:Hid (∀ d,¬ IsDl (bs s) d):=fun d hd=>by have:=(pcQ hd HP.out.1).1;have:=HN.out;omega
   have h3':(n:Int)<3:=by omega
   go_wp2_with (first | (refine wpList_buildTo rfl 153 _ rfl _ rfl DZ (Eq.trans (congrArg (fun z=>Tryz.prog.built 153 z) (by kernel_rfl)) HB0.out) ?_) | (refine wpList_store_row rfl 153 _ _ rfl gR DZ rfl rfl _ _ S2.out HI0.out rfl HO0.out ?_))
   refine bodyPost_ret (results_row_tmp rfl _ _ gR _ DZ _ _ rfl (setRow_heap _ _ _ _ _ _ S2.out) Tryz.underlying153 rfl HI0.out) rfl ?_
   rw [HDZ.out]
   exact drNo HNO.out (U2.out.setRowNew HG.out _)
 have h3':¬ (n:Int)<3:=by omega
 obtain ⟨x0,hx0⟩:∃ x,P[0]? =some x:=⟨_,List.getElem?_eq_getElem (by rw [← HN.out];omega)⟩
 obtain ⟨x1,hx1⟩:∃ x,P[1]? =some x:=⟨_,List.getElem?_eq_getElem (by rw [← HN.out];omega)⟩
 have c0:=HPC.out w2 (Upd.refl _ _) 0 x0 hx0
 have c1:=HPC.out w2 (Upd.refl _ _) 1 x1 hx1
 have j1:(1:Int)<(n:Int):=by omega
 have j0:(0:Int)<(n:Int):=by omega
 by_cases hx:bs x0=pg2
 case neg =>
  have HNO:Hid (∀ d,¬ IsDl (bs s) d):=fun d hd=>hx ((pcQ hd HP.out.1).2.1 x0 hx0)
  have g1:(x0.toList == [100,101,97,108])=false:=by rw [beq_eq_false_iff_ne,ByteArray.toList_eq];exact hx
  clear hx
  go_wp2_with (first | (refine wpList_buildTo rfl 153 _ rfl _ rfl DZ (Eq.trans (congrArg (fun z=>Tryz.prog.built 153 z) (by kernel_rfl)) HB0.out) ?_) | (refine wpList_store_row rfl 153 _ _ rfl gR DZ rfl rfl _ _ S2.out HI0.out rfl HO0.out ?_))
  refine bodyPost_ret (results_row_tmp rfl _ _ gR _ DZ _ _ rfl (setRow_heap _ _ _ _ _ _ S2.out) Tryz.underlying153 rfl HI0.out) rfl ?_
  rw [HDZ.out]
  exact drNo HNO.out (U2.out.setRowNew HG.out _)
 have g1:(x0.toList == [100,101,97,108])=true:=by rw [beq_iff_eq,ByteArray.toList_eq];exact hx
 have HX1:=Lib.hid hx1
 clear hx0 hx hx1
 by_cases hv:∃ v,Lib.atoiAll (bs x1)=.ok v
 case neg =>
  have hv':∀ v,Lib.atoiAll (bs x1)≠.ok v:=fun v e=>hv ⟨v,e⟩
  have HNO:Hid (∀ d,¬ IsDl (bs s) d):=fun d hd=>by
   have h:=pcQ hd HP.out.1
   have h1:=h.1
   have h2:=HN.out
   have hi:pab (d.coms.length:Int):=by unfold pab;omega
   exact hv' _ (by rw [h.2.2.1 x1 HX1.out];exact paH _ hi)
  have HA:=Lib.hid (pcU x1 w2 (by have:=HPS.out 1 x1 HX1.out;omega) hv' T2.out)
  clear hv hv'
  go_wp2_with fail
  refine HA.out.mono ?_
  rintro e w3 ⟨v,N,rfl,hvi,hq⟩
  have U3:=Lib.hid (U2.out.trans hq)
  have S3:=Lib.hid (paa S2.out hq)
  clear hq HA hvi
  go_wp2_with (first | (refine wpList_buildTo rfl 153 _ rfl _ rfl DZ (Eq.trans (congrArg (fun z=>Tryz.prog.built 153 z) (by kernel_rfl)) HB0.out) ?_) | (refine wpList_store_row rfl 153 _ _ rfl gR DZ rfl rfl _ _ S3.out HI0.out rfl HO0.out ?_))
  refine bodyPost_ret (results_row_tmp rfl _ _ gR _ DZ _ _ rfl (setRow_heap _ _ _ _ _ _ S3.out) Tryz.underlying153 rfl HI0.out) rfl ?_
  rw [HDZ.out]
  exact drNo HNO.out (U3.out.setRowNew HG.out _)
 obtain ⟨v,hv⟩:=hv
 have hvi:pab v:=Lib.atoiAll_bounds hv
 have HV:=Lib.hid hv
 have HA:=Lib.hid (pdW x1 v w2 (by have:=HPS.out 1 x1 HX1.out;omega) hv)
 have HVI:=Lib.hid hvi
 have HLEN:Hid (∀ d,IsDl (bs s) d→v=(d.coms.length:Int)∧n=3+d.coms.length+d.boxes.length):=fun d hd=>by
  have h:=pcQ hd HP.out.1
  have h1:=h.1
  have hnn:=HN.out
  have hi:pab (d.coms.length:Int):=by unfold pab;omega
  have:=HV.out
  rw [h.2.2.1 x1 HX1.out,paH _ hi] at this
  injection this with this
  exact ⟨this.symm,by omega⟩
 clear hv
 go_wp2_with fail
 refine HA.out.mono ?_
 rintro e w3 ⟨rfl,hq⟩
 have U3:=Lib.hid (U2.out.trans hq)
 have S3:=Lib.hid (paa S2.out hq)
 have Q3:=Lib.hid hq
 clear hq HA c0 c1 g1
 have hsub:IntKind.i64.wrap ((n:Int) - 3)=(n:Int) - 3:=IntWalk.i64_in _ (by omega)
 by_cases hneg:v<0
 · have HNO:Hid (∀ d,¬ IsDl (bs s) d):=fun d hd=>by have:=(HLEN.out d hd).1;omega
   clear hvi
   go_wp2_with (first | (refine wpList_buildTo rfl 153 _ rfl _ rfl DZ (Eq.trans (congrArg (fun z=>Tryz.prog.built 153 z) (by kernel_rfl)) HB0.out) ?_) | (refine wpList_store_row rfl 153 _ _ rfl gR DZ rfl rfl _ _ S3.out HI0.out rfl HO0.out ?_))
   refine bodyPost_ret (results_row_tmp rfl _ _ gR _ DZ _ _ rfl (setRow_heap _ _ _ _ _ _ S3.out) Tryz.underlying153 rfl HI0.out) rfl ?_
   rw [HDZ.out]
   exact drNo HNO.out (U3.out.setRowNew HG.out _)
 by_cases hgt:(n:Int) - 3<v
 · have HNO:Hid (∀ d,¬ IsDl (bs s) d):=fun d hd=>by have:=HLEN.out d hd;omega
   clear hvi
   go_wp2_with (first | (refine wpList_buildTo rfl 153 _ rfl _ rfl DZ (Eq.trans (congrArg (fun z=>Tryz.prog.built 153 z) (by kernel_rfl)) HB0.out) ?_) | (refine wpList_store_row rfl 153 _ _ rfl gR DZ rfl rfl _ _ S3.out HI0.out rfl HO0.out ?_))
   refine bodyPost_ret (results_row_tmp rfl _ _ gR _ DZ _ _ rfl (setRow_heap _ _ _ _ _ _ S3.out) Tryz.underlying153 rfl HI0.out) rfl ?_
   rw [HDZ.out]
   exact drNo HNO.out (U3.out.setRowNew HG.out _)
 obtain ⟨m,rfl⟩:∃ m:Nat,v=(m:Int):=⟨v.toNat,by omega⟩
 have hm:m+3≤n:=by omega
 clear hneg hgt hvi hsub HVI HV U2 S2
 have hadd:IntKind.i64.wrap (2+(m:Int))=2+(m:Int):=IntWalk.i64_in _ (by omega)
 have l1:¬ (n:Int)<2+(m:Int):=by omega
 have l2:¬ (2+(m:Int))<2:=by omega
 obtain ⟨gD,hgD⟩:∃ g,w3.heap.size=g:=⟨_,rfl⟩
 obtain ⟨w4,hw4⟩:∃ W,w3.alloc (.cells #[.slice none 0 0,.int .i64 0,.slice none 0 0] 153)=W:=⟨_,rfl⟩
 have q4:Upd [] [] w3 w4:=by rw [← hw4];exact (Upd.refl _ _).alloc _
 have HD4:Hid (DrSt w w4 gD gR (.slice none 0 0) (.slice none 0 0) 0 [] []) :=
  ⟨by rw [← hgD,← hw4];exact heap_alloc_new _ _,by rw [← HDZ.out];exact paa S3.out q4,World.ownsRow_nil _ _ _ _,pcV _,U3.out.trans q4,⟨HG.out,by rw [← hgD];exact pag S3.out⟩,(fun x h=>by cases h),(fun x h=>by cases h),(fun x h=>by cases h)⟩
 have Q4:=Lib.hid (Q3.out.trans q4)
 have HGD:Hid (w2.heap.size≤gD):=by rw [← hgD];exact Q3.out.size
 clear q4 Q3 U3 S3
 go_wp2_with fail
 rw [show 2+m - 2=m by omega]
 clear hw4 hgD hadd l1 l2 h3'
 go_loopw [9,10,11,54] (fun _ _ _ i wr=>∃ (k:Nat) (c:Value) (cs:List Int),i=.int .i64 (k:Int)∧k≤m∧Hid (DrSt w wr gD gR c (.slice none 0 0) 0 cs [])∧Hid (cs.length=k∧(∀ c∈cs,pab c)∧∀ d,IsDl (bs s) d→cs=d.coms.take k)∧Hid (Upd [] [] w2 wr)) (fun _ _ _ i _=>m - (intOf i).toNat)
 case atStart=>exact ⟨0,.slice none 0 0,[],rfl,Nat.zero_le _,HD4.out,⟨rfl,(fun _ h=>by cases h),(fun d _=>by simp)⟩,Q4.out⟩
 case round =>
  obtain ⟨k,c,cs,rfl,hk,HDS,HCS,HU⟩:=hrel
  by_cases hlt:k<m
  · obtain ⟨x,hx⟩:∃ x,P[2+k]? =some x:=⟨_,List.getElem?_eq_getElem (by rw [← HN.out];omega)⟩
    have hcell:=HPC.out wr HU.out (2+k) x hx
    have hxs:=HPS.out _ x hx
    have HX:=Lib.hid hx
    have i0:(0:Int)≤(k:Int):=by omega
    have i1:(k:Int)<(m:Int):=by omega
    have TW:=Lib.hid (T2.out.upd HU.out)
    clear hx
    by_cases hv:∃ v,Lib.atoiAll (bs x)=.ok v
    case neg =>
     have hv':∀ v,Lib.atoiAll (bs x)≠.ok v:=fun v e=>hv ⟨v,e⟩
     have HNO:Hid (∀ d,¬ IsDl (bs s) d):=fun d hd=>by
      have h:=pcQ hd HP.out.1
      have h0:=(HLEN.out d hd).1
      obtain ⟨c,hc,he⟩:=h.2.2.2.1 k x (by omega) HX.out
      exact hv' c (by rw [he];exact paH _ (hd.1.1 c (List.mem_of_getElem? hc)))
     have HA:=Lib.hid (pcU x wr (by omega) hv' TW.out)
     clear hv hv'
     go_wp2_with fail
     refine HA.out.mono ?_
     rintro e w5 ⟨v,N,rfl,hvi,hq⟩
     have U5:=Lib.hid (HDS.out.up.trans hq)
     have S5:Hid (w5.heap[gR]? =some (.cells DZ 153 (0,0))):=by show _=_;rw [HDZ.out];exact paa HDS.out.res hq
     clear hq HA hvi hcell
     go_wp2_with (first | (refine wpList_buildTo rfl 153 _ rfl _ rfl DZ (Eq.trans (congrArg (fun z=>Tryz.prog.built 153 z) (by kernel_rfl)) HB0.out) ?_) | (refine wpList_store_row rfl 153 _ _ rfl gR DZ rfl rfl _ _ S5.out HI0.out rfl HO0.out ?_))
     refine bodyPost_ret (results_row_tmp rfl _ _ gR _ DZ _ _ rfl (setRow_heap _ _ _ _ _ _ S5.out) Tryz.underlying153 rfl HI0.out) rfl ?_
     rw [HDZ.out]
     exact drNo HNO.out (U5.out.setRowNew HG.out _)
    obtain ⟨v,hv⟩:=hv
    have hvi:pab v:=Lib.atoiAll_bounds hv
    have HV:=Lib.hid hv
    have HA:=Lib.hid (pdW x v wr (by omega) hv)
    have HCS1:Hid ((cs ++ [v]).length=k+1∧(∀ c∈cs ++ [v],pab c)∧∀ d,IsDl (bs s) d→cs ++ [v]=d.coms.take (k+1)):=by
     refine ⟨by rw [List.length_append,HCS.out.1];rfl,fun c hc=>?_,fun d hd=>?_⟩
     · rcases List.mem_append.1 hc with h | h
       · exact HCS.out.2.1 c h
       · rw [List.mem_singleton.1 h];exact hvi
     · have h:=pcQ hd HP.out.1
       have h0:=(HLEN.out d hd).1
       obtain ⟨c,hc,he⟩:=h.2.2.2.1 k x (by omega) HX.out
       have e:=HV.out
       rw [he,paH _ (hd.1.1 c (List.mem_of_getElem? hc))] at e
       injection e with e
       rw [List.take_add_one,hc,← HCS.out.2.2 d hd,e]
       rfl
    clear hv hvi
    go_wp2_with fail
    refine HA.out.mono ?_
    rintro e w5 ⟨rfl,hq⟩
    have HD5:=Lib.hid (HDS.out.quiet hq)
    have HU5:=Lib.hid (HU.out.trans hq)
    obtain ⟨c',w6,hrun,hown',hup'⟩:=paV w5 c k (pcw cs) v (by have h:=HD5.out.com;rw [HCS.out.1] at h;exact h) (by omega)
    obtain ⟨ao',cap',rfl,hcp1,hcp2⟩:=paj hown'
    have HRN:=Lib.hid hrun
    have HD6:=Lib.hid (HD5.out.addCom hup' (q:=v) (by rw [HCS.out.1,phv];exact hown'))
    have rD:w6.heap[gD]? =some (.cells (dlC c 0 (.slice none 0 0)) 153 (0,0)):=(hup'.block gD HD5.out.lt (fun q=>Nat.lt_irrefl _ (HD5.out.offc gD q))).trans HD5.out.row
    have cD:=(cell_of_row _ gD 0 _ _ _ rD).trans (show _=some c from rfl)
    have fD:=frozen_of_row _ gD 0 _ _ rD
    have c3A:=HD5.out.cells.1
    have HU6:Hid (Upd [] [] w2 (w6.setCell ⟨gD,0,none⟩ (.slice ao' (k+1) cap'))):=(HU5.out.past hup' (fun j hj=>by have:=HD5.out.offc j hj;have:=HGD.out;omega)).setNew (p:=⟨gD,0,none⟩) HGD.out _
    clear hq HA hrun hown' hup' rD hcell HDS HU
    go_wp2_with (refine wpList_append_run _ rfl _ _ _ _ rfl _ _ (.slice ao' (k+1) cap') w6 rfl rfl HRN.out ?_)
    exact ⟨⟨k+1,_,_,by go_num,by omega,HD6.out,HCS1.out,HU6.out⟩,by first | (simp [intOf];done) | (simp [intOf];omega)⟩
  · obtain rfl:k=m:=by omega
    obtain ⟨y,hy⟩:∃ y,P[2+k]? =some y:=⟨_,List.getElem?_eq_getElem (by rw [← HN.out];omega)⟩
    have hcell:=HPC.out wr HU.out (2+k) y hy
    have hys:=HPS.out _ y hy
    have HY:=Lib.hid hy
    have TW:=Lib.hid (T2.out.upd HU.out)
    have hadd:IntKind.i64.wrap (2+(k:Int))=2+(k:Int):=IntWalk.i64_in _ (by omega)
    have i0:(0:Int)≤2+(k:Int):=by omega
    have i1:2+(k:Int)<(n:Int):=by omega
    have HYN:Hid (∀ d,IsDl (bs s) d→k=d.coms.length∧bs y=Lib.itoa d.point∧pab d.point):=fun d hd=>by
     have h0:=(HLEN.out d hd).1
     have e:k=d.coms.length:=by omega
     exact ⟨e,(pcQ hd HP.out.1).2.2.2.2.1 y (by rw [← e];exact HY.out),hd.1.2.1⟩
    clear hy
    by_cases hv:∃ v,Lib.atoiAll (bs y)=.ok v
    case neg =>
     have hv':∀ v,Lib.atoiAll (bs y)≠.ok v:=fun v e=>hv ⟨v,e⟩
     have HNO:Hid (∀ d,¬ IsDl (bs s) d):=fun d hd=>by
      obtain ⟨_,h1,h2⟩:=HYN.out d hd
      exact hv' d.point (by rw [h1];exact paH _ h2)
     have HA:=Lib.hid (pcU y wr (by omega) hv' TW.out)
     clear hv hv'
     go_wp2_with fail
     refine HA.out.mono ?_
     rintro e w5 ⟨v,N,rfl,hvi,hq⟩
     have HD5:=Lib.hid (HDS.out.quiet hq)
     have HD6:=Lib.hid (HD5.out.setP v)
     have cD:=(cell_of_row _ gD 1 _ _ _ HD5.out.row).trans (show _=some (Value.int .i64 0) from rfl)
     have fD:=frozen_of_row _ gD 1 _ _ HD5.out.row
     have S6:Hid ((w5.setCell ⟨gD,1,none⟩ (.int .i64 v)).heap[gR]? =some (.cells DZ 153 (0,0))):=by show _=_;rw [HDZ.out];exact HD6.out.res
     clear hq HA hvi hcell HDS HU
     go_wp2_with (first | (refine wpList_buildTo rfl 153 _ rfl _ rfl DZ (Eq.trans (congrArg (fun z=>Tryz.prog.built 153 z) (by kernel_rfl)) HB0.out) ?_) | (refine wpList_store_row rfl 153 _ _ rfl gR DZ rfl rfl _ _ S6.out HI0.out rfl HO0.out ?_))
     refine bodyPost_ret (results_row_tmp rfl _ _ gR _ DZ _ _ rfl (setRow_heap _ _ _ _ _ _ S6.out) Tryz.underlying153 rfl HI0.out) rfl ?_
     rw [HDZ.out]
     exact drNo HNO.out (HD6.out.up.setRowNew HG.out _)
    obtain ⟨v,hv⟩:=hv
    have hvi:pab v:=Lib.atoiAll_bounds hv
    have HVI:=Lib.hid hvi
    have HA:=Lib.hid (pdW y v wr (by omega) hv)
    have HPT:Hid (∀ d,IsDl (bs s) d→v=d.point):=fun d hd=>by
     obtain ⟨_,h1,h2⟩:=HYN.out d hd
     rw [h1,paH _ h2] at hv
     injection hv with hv
     exact hv.symm
    clear hv hvi
    go_wp2_with fail
    refine HA.out.mono ?_
    rintro e w5 ⟨rfl,hq⟩
    have HD5:=Lib.hid (HDS.out.quiet hq)
    have HD6:=Lib.hid (HD5.out.setP v)
    have cD:=(cell_of_row _ gD 1 _ _ _ HD5.out.row).trans (show _=some (Value.int .i64 0) from rfl)
    have fD:=frozen_of_row _ gD 1 _ _ HD5.out.row
    have U6:Hid (Upd [] [] w2 (w5.setCell ⟨gD,1,none⟩ (.int .i64 v))):=(HU.out.trans hq).setNew (p:=⟨gD,1,none⟩) HGD.out _
    obtain ⟨w6,hw6⟩:∃ W,w5.setCell ⟨gD,1,none⟩ (.int .i64 v)=W:=⟨_,rfl⟩
    rw [hw6] at HD6 U6
    have hadd3:IntKind.i64.wrap (3+(k:Int))=3+(k:Int):=IntWalk.i64_in _ (by omega)
    have l3:¬ (n:Int)<3+(k:Int):=by omega
    have l4:¬ (3+(k:Int))<0:=by omega
    clear hq HA hcell HDS HU HD5
    have HB0s:Hid (∀ d,IsDl (bs s) d→d.boxes.length=n - (3+k)):=fun d hd=>by
     have h0:=HLEN.out d hd
     have h1:=(HYN.out d hd).1
     omega
    by_cases hz:n=3+k
    · have HBS:Hid (([]:List (List UInt8)).length≤1000000∧(∀ b∈([]:List (List UInt8)),b.length≤1000000)∧∀ d,IsDl (bs s) d→[]=d.boxes) :=
       ⟨Nat.zero_le _,(fun b hb=>by cases hb),fun d hd=>(List.eq_nil_of_length_eq_zero (by rw [HB0s.out d hd];omega)).symm⟩
      go_wp2_with fail
      refine wp_loop_rounds 1 ?_
      rw [rounds_succ]
      clear hw6 cD fD
      obtain ⟨dF,hdF⟩:∃ dF:DlI,dF=⟨cs,v,[]⟩:=⟨_,rfl⟩
      have hfit:dF.fit:=by
       rw [hdF]
       exact ⟨HCS.out.2.1,HVI.out,by show cs.length≤_;rw [HCS.out.1];omega,HBS.out.1,HBS.out.2.1⟩
      have HUQ:Hid (∀ d,IsDl (bs s) d→d=dF):=fun d hd=>by
       rw [hdF]
       have h1:=HCS.out.2.2 d hd
       rw [(HYN.out d hd).1,List.take_length] at h1
       have h2:=HPT.out d hd
       have h3:=HBS.out.2.2 d hd
       cases d
       simp only at h1 h2 h3
       rw [h1,h2,h3]
      obtain ⟨DV,hDV⟩:∃ DV,DV=dlC c v (.slice none 0 0):=⟨_,rfl⟩
      have RD:=HD6.out.row
      have RR:=HD6.out.res
      rw [← hDV] at RD
      rw [← HDZ.out] at RR
      have HRD:=Lib.hid RD
      have HRR:=Lib.hid RR
      have HTX:=Lib.hid (pes dF c (.slice none 0 0) w6 hfit (by rw [hdF];exact RdI.of_row HD6.out.com) (by rw [hdF];exact RdS.of_row HD6.out.box) (htab.upd HD6.out.up))
      have hTX:(#[c,.int .i64 dF.point,(.slice none 0 0)]:Array Value)=DV:=by rw [hDV,hdF];rfl
      rw [hTX] at HTX
      have HIV:Hid ((Tryz.prog.info? 153).map (·.size)=some DV.size):=by rw [hDV];exact pcm _ _ _
      have HOV:Hid (DV.all (·.oneCell')=true):=by
       rw [hDV]
       obtain ⟨a1,c1,e1,_⟩:=paj HD6.out.com
       obtain ⟨a2,c2,e2,_⟩:=paj HD6.out.box
       show _=_
       rw [e1,e2]
       simp [dlC,Value.oneCell']
      have HSV:Hid (DZ.size=DV.size):=by show _=_;rw [HDZ.out,hDV];rfl
      have HDV:=Lib.hid hDV
      have HDF:=Lib.hid (And.intro hdF hfit)
      clear RD RR hTX hDV hdF hfit
      go_wp2_with (first | (refine wpList_load_row rfl 153 _ rfl gD rfl _ DV _ _ HRD.out Tryz.underlying153 rfl HIV.out ?_))
      refine HTX.out.mono ?_
      rintro e wT ⟨t,HT,_,rfl,hq⟩
      have HDT:=Lib.hid (HD6.out.quiet hq)
      have HRD2:=Lib.hid (paa HRD.out hq)
      have HRR2:=Lib.hid (paa HRR.out hq)
      clear hq HTX HRD HRR
      by_cases hts:t=s
      case neg =>
       have HNO:Hid (∀ d,¬ IsDl (bs s) d):=fun d hd=>by
        have e:=HUQ.out d hd
        rw [e] at hd
        exact hts (paM (HT.out.trans hd.2.symm))
       have g1:(t.toList == s.toList)=false:=by rw [← Bool.not_eq_true];exact fun h=>hts (paM (pbA.1 h))
       clear hts
       go_wp2_with (first | (refine wpList_buildTo rfl 153 _ rfl _ rfl DZ (Eq.trans (congrArg (fun z=>Tryz.prog.built 153 z) (by kernel_rfl)) HB0.out) ?_) | (refine wpList_store_row rfl 153 _ _ rfl gR DZ rfl rfl _ _ HRR2.out HI0.out rfl HO0.out ?_))
       refine bodyPost_ret (results_row_tmp rfl _ _ gR _ DZ _ _ rfl (setRow_heap _ _ _ _ _ _ HRR2.out) Tryz.underlying153 rfl HI0.out) rfl ?_
       rw [HDZ.out]
       exact drNo HNO.out (HDT.out.up.setRowNew HG.out _)
      have HIS:Hid (IsDl (bs s) dF):=by
       refine ⟨⟨HDF.out.2.1,HDF.out.2.2.1,by have:=HDF.out.2.2.2.1;omega⟩,?_⟩
       rw [← hts]
       exact HT.out
      have g1:(t.toList == s.toList)=true:=pbA.2 (by rw [hts])
      obtain ⟨wF,hwF⟩:∃ W,wT.setRow gR DV=W:=⟨_,rfl⟩
      have RF:Hid (wF.heap[gR]? =some (.cells DV 153 (0,0))):=by show _=_;rw [← hwF];exact setRow_heap _ _ _ _ _ _ HRR2.out
      have UF:Hid (Upd [] [] w wF):=by show Upd _ _ _ _;rw [← hwF];exact HDT.out.up.setRowNew HG.out _
      have HRI:Hid (RdI wF c cs∧RdS wF (.slice none 0 0) []):=by
       have hs':∀ x,x≠gR→wF.heap[x]? =wT.heap[x]?:=fun x hx=>by
        rw [← hwF]
        unfold World.setRow
        rw [Array.getElem?_modify,if_neg (fun e=>hx e.symm)]
       exact ⟨RdI.of_row (pai HDT.out.com (fun x hx=>hs' x (by have:=HDT.out.offc x hx;have:=HDT.out.base;omega))),RdS.of_row (HDT.out.box.same (fun x hx=>hs' x (by have:=HDT.out.offb x hx;have:=HDT.out.base;omega)))⟩
      have HWF:=Lib.hid hwF
      clear hts hwF
      go_wp2_with (first | (refine wpList_load_row rfl 153 _ rfl gD rfl _ DV _ _ HRD2.out Tryz.underlying153 rfl HIV.out ?_) | (refine wpList_store_rowAs rfl 153 _ _ rfl gR DV rfl rfl _ _ HRR2.out HIV.out HSV.out HOV.out wF HWF.out ?_))
      refine bodyPost_ret (results_row_tmp rfl _ _ gR _ DV _ _ rfl RF.out Tryz.underlying153 rfl HIV.out) rfl ?_
      rw [HDV.out]
      refine ⟨c,(.slice none 0 0),dF,true,.inl ⟨rfl,HIS.out,HDF.out.2⟩,?_,(fun x hx=>by have h1:=HDT.out.base;rcases hx with hx | hx;(have:=HDT.out.offc x hx;omega);(have:=HDT.out.offb x hx;omega)),?_,UF.out⟩
      · show RdI _ _ _∧RdS _ _ _
        rw [HDF.out.1]
        exact HRI.out
      · rw [HDF.out.1]
        rfl
    · obtain ⟨r,hr⟩:∃ r,r=n - (3+k):=⟨_,rfl⟩
      have HR:=Lib.hid hr
      have hrn:3+k+r=n:=by omega
      go_wp2_with fail
      rw [← hr]
      clear hr hz hadd3 l3 l4 hadd cD fD hw6 i0 i1
      have HU6:=U6
      go_loopw [13,14,15,91] (fun _ _ _ i wr=>∃ (j:Nat) (b:Value) (bxs:List (List UInt8)),i=.int .i64 (j:Int)∧j≤r∧Hid (DrSt w wr gD gR c b v cs bxs)∧Hid (bxs.length=j∧(∀ b∈bxs,b.length≤1000000)∧∀ d,IsDl (bs s) d→bxs=d.boxes.take j)∧Hid (Upd [] [] w2 wr)) (fun _ _ _ i _=>r - (intOf i).toNat)
      case atStart=>exact ⟨0,.slice none 0 0,[],rfl,Nat.zero_le _,HD6.out,⟨rfl,(fun _ h=>by cases h),(fun d _=>by simp)⟩,HU6.out⟩
      case round =>
       obtain ⟨j,b,bxs,rfl,hj,HDS,HBX,HU⟩:=hrel
       by_cases hlt:j<r
       · obtain ⟨x,hx⟩:∃ x,P[3+k+j]? =some x:=⟨_,List.getElem?_eq_getElem (by rw [← HN.out];omega)⟩
         have hcell:=HPC.out wr HU.out (3+k+j) x hx
         have hxs:=HPS.out _ x hx
         have HX:=Lib.hid hx
         have i0:(0:Int)≤(j:Int):=by omega
         have i1:(j:Int)<(r:Int):=by omega
         have HBY:=Lib.hid (pha x (by omega) wr)
         have HXB:Hid (∀ d,IsDl (bs s) d→∃ b,d.boxes[j]? =some b∧bs x=hexL b):=fun d hd=>by
          have h1:=(HYN.out d hd).1
          exact (pcQ hd HP.out.1).2.2.2.2.2 j x (by rw [HB0s.out d hd,← HR.out];exact hlt) (by rw [← h1];exact HX.out)
         clear hx
         go_wp2_with fail
         refine HBY.out.mono ?_
         rintro e w7 ⟨rr,ok,HOK,hrr,rfl,hq⟩
         have HD7:=Lib.hid (HDS.out.quiet hq)
         have HU7:=Lib.hid (HU.out.trans hq)
         rw [pac] at hrr
         have HRZ:Hid (rr.size≤1000000):=by show _≤_;omega
         clear hq HBY hcell HDS HU hrr
         cases ok with
         | false =>
          have HNO:Hid (∀ d,¬ IsDl (bs s) d):=fun d hd=>by
           obtain ⟨b,_,hb⟩:=HXB.out d hd
           have:=(HOK.out b hb).1
           cases this
          have S7:Hid (w7.heap[gR]? =some (.cells DZ 153 (0,0))):=by show _=_;rw [HDZ.out];exact HD7.out.res
          go_wp2_with (first | (refine wpList_buildTo rfl 153 _ rfl _ rfl DZ (Eq.trans (congrArg (fun z=>Tryz.prog.built 153 z) (by kernel_rfl)) HB0.out) ?_) | (refine wpList_store_row rfl 153 _ _ rfl gR DZ rfl rfl _ _ S7.out HI0.out rfl HO0.out ?_))
          refine bodyPost_ret (results_row_tmp rfl _ _ gR _ DZ _ _ rfl (setRow_heap _ _ _ _ _ _ S7.out) Tryz.underlying153 rfl HI0.out) rfl ?_
          rw [HDZ.out]
          exact drNo HNO.out (HD7.out.up.setRowNew HG.out _)
         | true =>
          have HBX1:Hid ((bxs ++ [bs rr]).length=j+1∧(∀ b∈bxs ++ [bs rr],b.length≤1000000)∧∀ d,IsDl (bs s) d→bxs ++ [bs rr]=d.boxes.take (j+1)):=by
           refine ⟨by rw [List.length_append,HBX.out.1];rfl,fun c hc=>?_,fun d hd=>?_⟩
           · rcases List.mem_append.1 hc with h | h
             · exact HBX.out.2.1 c h
             · rw [List.mem_singleton.1 h,pac];exact HRZ.out
           · obtain ⟨b,h1,h2⟩:=HXB.out d hd
             rw [List.take_add_one,h1,← HBX.out.2.2 d hd,(HOK.out b h2).2]
             rfl
          obtain ⟨b',w8,hrun,hown',hup'⟩:=pbp w7 b bxs rr HD7.out.box (by rw [HBX.out.1];omega)
          obtain ⟨ao',cap',hb',hcp1,hcp2⟩:=paj hown'
          rw [HBX1.out.1] at hb'
          subst hb'
          have HRN:=Lib.hid hrun
          have HD8:=Lib.hid (HD7.out.addBox hup' hown')
          have rD:w8.heap[gD]? =some (.cells (dlC c v b) 153 (0,0)):=(hup'.block gD HD7.out.lt (fun q=>Nat.lt_irrefl _ (HD7.out.offb gD q))).trans HD7.out.row
          have cD:=(cell_of_row _ gD 2 _ _ _ rD).trans (show _=some b from rfl)
          have fD:=frozen_of_row _ gD 2 _ _ rD
          have c3A:=HD7.out.cells.2
          have HU8:Hid (Upd [] [] w2 (w8.setCell ⟨gD,2,none⟩ (.slice ao' (j+1) cap'))):=(HU7.out.past hup' (fun q hq=>by have:=HD7.out.offb q hq;have:=HGD.out;omega)).setNew (p:=⟨gD,2,none⟩) HGD.out _
          clear hrun hown' hup' rD
          go_wp2_with (refine wpList_append_run _ rfl _ _ _ _ rfl _ _ (.slice ao' (j+1) cap') w8 rfl rfl HRN.out ?_)
          exact ⟨⟨j+1,_,_,by go_num,by omega,HD8.out,HBX1.out,HU8.out⟩,by first | (simp [intOf];done) | (simp [intOf];omega)⟩
       · obtain rfl:j=r:=by omega
         have HBS:Hid (bxs.length≤1000000∧(∀ b∈bxs,b.length≤1000000)∧∀ d,IsDl (bs s) d→bxs=d.boxes) :=
          ⟨by rw [HBX.out.1];omega,HBX.out.2.1,fun d hd=>by have h:=HBX.out.2.2 d hd;rw [HR.out,← HB0s.out d hd,List.take_length] at h;exact h⟩
         obtain ⟨dF,hdF⟩:∃ dF:DlI,dF=⟨cs,v,bxs⟩:=⟨_,rfl⟩
         have hfit:dF.fit:=by
          rw [hdF]
          exact ⟨HCS.out.2.1,HVI.out,by show cs.length≤_;rw [HCS.out.1];omega,HBS.out.1,HBS.out.2.1⟩
         have HUQ:Hid (∀ d,IsDl (bs s) d→d=dF):=fun d hd=>by
          rw [hdF]
          have h1:=HCS.out.2.2 d hd
          rw [(HYN.out d hd).1,List.take_length] at h1
          have h2:=HPT.out d hd
          have h3:=HBS.out.2.2 d hd
          cases d
          simp only at h1 h2 h3
          rw [h1,h2,h3]
         obtain ⟨DV,hDV⟩:∃ DV,DV=dlC c v b:=⟨_,rfl⟩
         have RD:=HDS.out.row
         have RR:=HDS.out.res
         rw [← hDV] at RD
         rw [← HDZ.out] at RR
         have HRD:=Lib.hid RD
         have HRR:=Lib.hid RR
         have HTX:=Lib.hid (pes dF c b wr hfit (by rw [hdF];exact RdI.of_row HDS.out.com) (by rw [hdF];exact RdS.of_row HDS.out.box) (htab.upd HDS.out.up))
         have hTX:(#[c,.int .i64 dF.point,b]:Array Value)=DV:=by rw [hDV,hdF];rfl
         rw [hTX] at HTX
         have HIV:Hid ((Tryz.prog.info? 153).map (·.size)=some DV.size):=by rw [hDV];exact pcm _ _ _
         have HOV:Hid (DV.all (·.oneCell')=true):=by
          rw [hDV]
          obtain ⟨a1,c1,e1,_⟩:=paj HDS.out.com
          obtain ⟨a2,c2,e2,_⟩:=paj HDS.out.box
          show _=_
          rw [e1,e2]
          simp [dlC,Value.oneCell']
         have HSV:Hid (DZ.size=DV.size):=by show _=_;rw [HDZ.out,hDV];rfl
         have HDV:=Lib.hid hDV
         have HDF:=Lib.hid (And.intro hdF hfit)
         clear RD RR hTX hDV hdF hfit
         go_wp2_with (first | (refine wpList_load_row rfl 153 _ rfl gD rfl _ DV _ _ HRD.out Tryz.underlying153 rfl HIV.out ?_))
         refine HTX.out.mono ?_
         rintro e wT ⟨t,HT,_,rfl,hq⟩
         have HDT:=Lib.hid (HDS.out.quiet hq)
         have HRD2:=Lib.hid (paa HRD.out hq)
         have HRR2:=Lib.hid (paa HRR.out hq)
         clear hq HTX HRD HRR
         by_cases hts:t=s
         case neg =>
          have HNO:Hid (∀ d,¬ IsDl (bs s) d):=fun d hd=>by
           have e:=HUQ.out d hd
           rw [e] at hd
           exact hts (paM (HT.out.trans hd.2.symm))
          have g1:(t.toList == s.toList)=false:=by rw [← Bool.not_eq_true];exact fun h=>hts (paM (pbA.1 h))
          clear hts
          go_wp2_with (first | (refine wpList_buildTo rfl 153 _ rfl _ rfl DZ (Eq.trans (congrArg (fun z=>Tryz.prog.built 153 z) (by kernel_rfl)) HB0.out) ?_) | (refine wpList_store_row rfl 153 _ _ rfl gR DZ rfl rfl _ _ HRR2.out HI0.out rfl HO0.out ?_))
          refine bodyPost_ret (results_row_tmp rfl _ _ gR _ DZ _ _ rfl (setRow_heap _ _ _ _ _ _ HRR2.out) Tryz.underlying153 rfl HI0.out) rfl ?_
          rw [HDZ.out]
          exact drNo HNO.out (HDT.out.up.setRowNew HG.out _)
         have HIS:Hid (IsDl (bs s) dF):=by
          refine ⟨⟨HDF.out.2.1,HDF.out.2.2.1,by have:=HDF.out.2.2.2.1;omega⟩,?_⟩
          rw [← hts]
          exact HT.out
         have g1:(t.toList == s.toList)=true:=pbA.2 (by rw [hts])
         obtain ⟨wF,hwF⟩:∃ W,wT.setRow gR DV=W:=⟨_,rfl⟩
         have RF:Hid (wF.heap[gR]? =some (.cells DV 153 (0,0))):=by show _=_;rw [← hwF];exact setRow_heap _ _ _ _ _ _ HRR2.out
         have UF:Hid (Upd [] [] w wF):=by show Upd _ _ _ _;rw [← hwF];exact HDT.out.up.setRowNew HG.out _
         have HRI:Hid (RdI wF c cs∧RdS wF b bxs):=by
          have hs':∀ x,x≠gR→wF.heap[x]? =wT.heap[x]?:=fun x hx=>by
           rw [← hwF]
           unfold World.setRow
           rw [Array.getElem?_modify,if_neg (fun e=>hx e.symm)]
          exact ⟨RdI.of_row (pai HDT.out.com (fun x hx=>hs' x (by have:=HDT.out.offc x hx;have:=HDT.out.base;omega))),RdS.of_row (HDT.out.box.same (fun x hx=>hs' x (by have:=HDT.out.offb x hx;have:=HDT.out.base;omega)))⟩
         have HWF:=Lib.hid hwF
         clear hts hwF
         go_wp2_with (first | (refine wpList_load_row rfl 153 _ rfl gD rfl _ DV _ _ HRD2.out Tryz.underlying153 rfl HIV.out ?_) | (refine wpList_store_rowAs rfl 153 _ _ rfl gR DV rfl rfl _ _ HRR2.out HIV.out HSV.out HOV.out wF HWF.out ?_))
         refine bodyPost_ret (results_row_tmp rfl _ _ gR _ DV _ _ rfl RF.out Tryz.underlying153 rfl HIV.out) rfl ?_
         rw [HDV.out]
         refine ⟨c,b,dF,true,.inl ⟨rfl,HIS.out,HDF.out.2⟩,?_,(fun x hx=>by have h1:=HDT.out.base;rcases hx with hx | hx;(have:=HDT.out.offc x hx;omega);(have:=HDT.out.offb x hx;omega)),?_,UF.out⟩
         · show RdI _ _ _∧RdS _ _ _
           rw [HDF.out.1]
           exact HRI.out
         · rw [HDF.out.1]
           rfl
def padK:Nat→Nat→List UInt8
 | 0,_=>[]
 | k+1,r=>padK k (r / 10) ++ [UInt8.ofNat (48+r % 10)]
theorem piq:∀ k,padK k 0=List.replicate k 48
 | 0=>rfl
 | k+1=>by
  rw [padK,show 0 / 10=0 by rfl,piq k,List.replicate_succ']
  rfl
theorem pkA:∀ (k r:Nat),0<k→r<10 ^ k→padK k r=List.replicate (k - (Lib.decDigits r).length) 48 ++ Lib.decDigits r
 | 0,_,h,_=>absurd h (by omega)
 | k+1,r,_,hr=>by
  by_cases h:r<10
  · rw [padK,show r / 10=0 by omega,piq,Lib.decDigits_one h,Nat.mod_eq_of_lt h]
    simp
  · have hk:0<k:=by
     cases k with
     | zero=>simp at hr;omega
     | succ k=>omega
    rw [Nat.pow_succ] at hr
    rw [padK,pkA k (r / 10) hk (by omega)]
    conv=>rhs;rw [Lib.decDigits,dif_neg h]
    rw [List.length_append]
    simp only [List.length_singleton,List.append_assoc]
    rw [show k+1 - ((Lib.decDigits (r / 10)).length+1)=k - (Lib.decDigits (r / 10)).length by omega]
theorem pkB:∀ (k x:Nat),padK k (x % 10 ^ k)=padK k x
 | 0,_=>rfl
 | k+1,x=>by
  have e1:x % 10 ^ (k+1) / 10=x / 10 % 10 ^ k:=by rw [Nat.pow_succ,Nat.mul_comm,Nat.mod_mul_right_div_self]
  have e2:x % 10 ^ (k+1) % 10=x % 10:=Nat.mod_mod_of_dvd x (by rw [Nat.pow_succ];exact Nat.dvd_mul_left _ _)
  rw [padK,padK,e1,e2,pkB k (x / 10)]
theorem pnQ:∀ (k x:Nat),10 ^ k≤x→Lib.decDigits x=Lib.decDigits (x / 10 ^ k) ++ padK k x
 | 0,x,_=>by simp [padK]
 | k+1,x,h=>by
  have h0:1≤10 ^ k:=Nat.one_le_pow _ _ (by omega)
  rw [Nat.pow_succ] at h
  conv=>lhs;rw [Lib.decDigits,dif_neg (by omega)]
  rw [pnQ k (x / 10) (by omega),padK,Nat.pow_succ,Nat.mul_comm,← Nat.div_div_eq_div_mul,List.append_assoc]
def grp (y:Nat):List UInt8:=if 1000000000≤y then padK 9 y else Lib.decDigits y
theorem pqk {y:Nat} (h:1000000000≤y):grp y=List.replicate (9 - (Lib.decDigits (y % 1000000000)).length) 48 ++ Lib.decDigits (y % 1000000000):=by
 unfold grp
 rw [if_pos h,← pkB 9 y,show (10:Nat) ^ 9=1000000000 by decide,pkA 9 _ (by omega) (by rw [show (10:Nat) ^ 9=1000000000 by decide];omega)]
theorem poX {y:Nat} (h:y<1000000000):grp y=Lib.decDigits (y % 1000000000):=by
 unfold grp
 rw [if_neg (by omega),Nat.mod_eq_of_lt h]
def phb (y:Nat):List UInt8:=if y=0 then [] else Lib.decDigits y
theorem pkC {y:Nat} (h:0<y):phb y=phb (y / 1000000000) ++ grp y:=by
 unfold phb grp
 rw [if_neg (by omega)]
 by_cases h1:1000000000≤y
 · rw [if_pos h1,if_neg (by omega),← show (10:Nat) ^ 9=1000000000 by decide]
   exact pnQ 9 y (by rw [show (10:Nat) ^ 9=1000000000 by decide];exact h1)
 · rw [if_neg h1,if_pos (by omega)]
   rfl
theorem prd {r a:Nat} (ha:a<4294967296) (hr:r<4294967296):bits .or .u64 ((r * 4294967296:Nat):Int) (a:Int)=((r * 4294967296+a:Nat):Int):=by
 show IntKind.u64.wrap ((BitVec.ofInt 64 ((r * 4294967296:Nat):Int) ||| BitVec.ofInt 64 (a:Int)).toNat:Int)=_
 have e1:(BitVec.ofInt 64 ((r * 4294967296:Nat):Int)).toNat=r * 4294967296:=by
  rw [BitVec.toNat_ofInt]
  show (((r * 4294967296:Nat):Int) % 18446744073709551616).toNat=_
  omega
 have e2:(BitVec.ofInt 64 (a:Int)).toNat=a:=by
  rw [BitVec.toNat_ofInt]
  show ((a:Int) % 18446744073709551616).toNat=_
  omega
 have e3:=Nat.two_pow_add_eq_or_of_lt (i:=32) (b:=a) (by simpa using ha) r
 have e4:r * 4294967296 ||| a=r * 4294967296+a:=by
  rw [Nat.mul_comm r]
  exact e3.symm
 rw [BitVec.toNat_or,e1,e2,e4]
 show ((r * 4294967296+a:Nat):Int) % 18446744073709551616=_
 omega
theorem pql {a b r t:Nat} (hr:r=b % 1000000000) (ht:t=r * 4294967296+a):valW [t / 1000000000,b / 1000000000]=valW [a,b] / 1000000000∧t % 1000000000=valW [a,b] % 1000000000:=by
 simp only [valW]
 omega
theorem pcr {d:Nat} (h0:0<d) (h:d<4294967296):dw d=[d]:=by
 rw [pdd h0,Nat.mod_eq_of_lt h,Nat.div_eq_of_lt h,paW]
theorem Wd.one {w:World} {v:Value} {d:Nat} (h:Wd w v [d]):∃ g cap,v=.slice (some ⟨g,0,none⟩) 1 cap∧1≤cap∧cap≤9223372036854775807∧g<w.heap.size∧w.cell? ⟨g,0,none⟩=some (.int .u32 (d:Int)):=by
 obtain ⟨ao,cap,rfl,h1,h2,h3⟩:=h
 rcases h3 with h3 | ⟨b,rfl,hb,hc⟩
 · simp at h3
 · exact ⟨b,cap,rfl,by simpa using h1,h2,hb,hc 0 d rfl⟩
theorem Wd.none' {w:World} {v:Value} (h:Wd w v []):∃ ao cap,v=.slice ao 0 cap:=by
 obtain ⟨ao,cap,rfl,h1,h2,h3⟩:=h
 exact ⟨ao,cap,rfl⟩
def pfu (x:Int) (w:World) (e:Ending) (w':World):Prop:=e=.returned (.int .i64 x)∧Upd [] [] w w'
theorem pdv (u v:Value) (l r:List Nat) (w:World) (hu:Wd w u l) (hv:Wd w v r) (hlt:l.length<r.length):Calls Tryz.prog 192 #[u,v] w (pfu (-1) w):=by
 obtain ⟨ao,cap,rfl,_,_⟩:=hu.form
 obtain ⟨bo,cbp,rfl,_,_⟩:=hv.form
 have hb:((l.length:Int) != (r.length:Int))=true:=by rw [bne_iff_ne];omega
 have hb2:((l.length:Int) == (r.length:Int))=false:=by rw [beq_eq_false_iff_ne];omega
 have hb3:(l.length == r.length)=false:=by rw [beq_eq_false_iff_ne];omega
 have hl2:(l.length:Int)<(r.length:Int):=by omega
 clear hu hv
 go_enter Tryz.func192,Tryz.ntmps192
 go_wp2_with fail
 go_ret
 exact ⟨rfl,Upd.refl _ _⟩
theorem pet (u v:Value) (d:Nat) (w:World) (hu:Wd w u [d]) (hv:Wd w v [d]):Calls Tryz.prog 192 #[u,v] w (pfu 0 w):=by
 obtain ⟨g,cap,rfl,_,_,_,c1⟩:=hu.one
 obtain ⟨h,cbp,rfl,_,_,_,c2⟩:=hv.one
 clear hu hv
 go_enter Tryz.func192,Tryz.ntmps192
 go_wp2_with fail
 refine wp_loop_rounds 2 ?_
 rw [rounds_succ]
 go_wp2_with fail
 go_quiet (fail)
 go_wp2_with fail
 rw [rounds_succ]
 go_wp2_with fail
 go_ret
 exact ⟨rfl,(Upd.refl _ _).drewN _⟩
theorem peu (u v:Value) (d e:Nat) (w:World) (hu:Wd w u [d]) (hv:Wd w v [e]) (hde:d<e):Calls Tryz.prog 192 #[u,v] w (pfu (-1) w):=by
 obtain ⟨g,cap,rfl,_,_,_,c1⟩:=hu.one
 obtain ⟨h,cbp,rfl,_,_,_,c2⟩:=hv.one
 have b1:((d:Int) != (e:Int))=true:=by rw [bne_iff_ne];omega
 have b2:((d:Int) == (e:Int))=false:=by rw [beq_eq_false_iff_ne];omega
 have b3:(d:Int)<(e:Int):=by omega
 have b4:(d == e)=false:=by rw [beq_eq_false_iff_ne];omega
 clear hu hv
 go_enter Tryz.func192,Tryz.ntmps192
 go_wp2_with fail
 refine wp_loop_rounds 2 ?_
 rw [rounds_succ]
 go_wp2_with fail
 go_quiet (fail)
 go_wp2_with fail
 go_quiet (fail)
 go_wp2_with fail
 go_ret
 exact ⟨rfl,((Upd.refl _ _).drewN _).drewN _⟩
set_option maxHeartbeats 1000000 in
theorem prM (u v:Value) (w:World) (hu:Wd w u [3]) (hv:Wd w v [3]):Calls Tryz.prog 33 #[u,v] w (fun e w'=>∃ v',Hid (Wd w' v' [9])∧e=.returned v'∧Upd [] [] w w'):=by
 obtain ⟨g,cap,rfl,_,_,hg,c1⟩:=hu.one
 obtain ⟨h,cbp,rfl,_,_,hh,c2⟩:=hv.one
 have hmk:(Instr.makeSlice 86 (.int .i64 2) (.int .i64 2)).run Tryz.prog w=.ok (.slice (some ⟨w.heap.size,0,none⟩) 2 2) (w.alloc (.cells (pco (List.replicate 2 0)).toArray 129)):=pbH w 2 (by omega)
 obtain ⟨w0,hw0⟩:∃ w0,w0=w.alloc (.cells (pco (List.replicate 2 0)).toArray 129):=⟨_,rfl⟩
 have b0:WB w0 w.heap.size [0,0]:=by rw [hw0];exact heap_alloc_new _ _
 have u0:Upd [] [] w w0:=by rw [hw0];exact (Upd.refl _ _).alloc _
 rw [← hw0] at hmk
 obtain ⟨G,hG⟩:∃ G,G=w.heap.size:=⟨_,rfl⟩
 rw [← hG] at hmk b0
 have d1:w0.cell? ⟨g,0,none⟩=some (.int .u32 3):=(u0.cell hg (by simp)).trans c1
 have d2:w0.cell? ⟨h,0,none⟩=some (.int .u32 3):=(u0.cell hh (by simp)).trans c2
 have k0:w0.cell? ⟨G,0,none⟩=some (.int .u32 0):=b0.cell (j:=0) rfl
 have k1:w0.cell? ⟨G,1,none⟩=some (.int .u32 0):=b0.cell (j:=1) rfl
 have f0:=b0.frozen 0
 have f1:=b0.frozen 1
 have b2:WB ((w0.setCell ⟨G,0,none⟩ (.int .u32 9)).setCell ⟨G,1,none⟩ (.int .u32 0)) G [9,0]:=(b0.set 0 9).set 1 0
 have u2:Upd [] [] w ((w0.setCell ⟨G,0,none⟩ (.int .u32 9)).setCell ⟨G,1,none⟩ (.int .u32 0)):=(u0.setNew (p:=⟨G,0,none⟩) (by rw [hG];exact Nat.le_refl _) _).setNew (p:=⟨G,1,none⟩) (by rw [hG];exact Nat.le_refl _) _
 have hT:=pcq _ _ _ (b2.slice (by simp [maxLen])) (fun d hd=>by simp at hd;omega)
 rw [show valW [9,0]=9 from rfl,pcr (by omega) (by omega)] at hT
 have HT:=Lib.hid hT
 have HU:=Lib.hid u2
 have hne1:g≠G:=by omega
 have hne2:h≠G:=by omega
 clear hu hv c1 c2 hw0 u0 hT b2 u2 b0 hG hg hh
 go_enter Tryz.func33,Tryz.ntmps33
 go_wp2_with fail
 refine wp_loop_rounds 2 ?_
 rw [rounds_succ]
 go_wp2_with fail
 refine wp_loop_rounds 2 ?_
 rw [rounds_succ]
 go_wp2_with fail
 rw [rounds_succ]
 go_wp2_with fail
 rw [rounds_succ]
 go_wp2_with fail
 refine HT.out.mono ?_
 rintro e w1 ⟨v,HV,rfl,rfl⟩
 go_wp2_with fail
 go_ret
 exact ⟨v,HV,rfl,HU.out⟩
end Go.Proofs.YtheobkejohifaaaGreatDoor
