/- deal.Read: the dealing with a text. -/
import Derived.Test.YtmjlkkbbnkanpaaGreatDoorHBH
import Derived.Test.YtmjlkkbbnkanpaaGreatDoorHAV
import Derived.Test.YtmjlkkbbnkanpaaGreatDoorHBF
namespace Go.Proofs.YtmjlkkbbnkanpaaGreatDoor
open Go.RowKit
set_option maxRecDepth 100000
structure DrSt (w wr:World) (gD gR:Nat) (c b:Value) (p:Int) (cs:List Int) (bxs:List (List UInt8)):Prop where
 row:wr.heap[gD]? =some (.cells (dlC c p b) 132 (0,0))
 res:wr.heap[gR]? =some (.cells dlZ 132 (0,0))
 com:wr.ownsRow 0 3 1 c cs.length (intVals cs)
 box:StrRow wr b bxs
 up:Upd [] [] w wr
 base:w.heap.size≤gR∧gR<gD
 offc:∀ x,x∈foot c→gD<x
 offb:∀ x,x∈foot b→gD<x
 apart:∀ x,x∈foot c→x ∉ foot b
section
variable {w wr w1 w2 : World} {gD gR : Nat} {c b c' b' : Value} {p q : Int} {cs : List Int} {bxs : List (List UInt8)} {s : List UInt8}
theorem DrSt.quiet (h:DrSt w wr gD gR c b p cs bxs) (u:Upd [] [] wr w1):DrSt w w1 gD gR c b p cs bxs :=
 ⟨row_updH h.row u,row_updH h.res u,row_same h.com (fun j hj=>u.block j (row_foot_lt h.com j hj) (by simp)),h.box.same (fun j hj=>u.block j (h.box.lt j hj) (by simp)),h.up.trans u,h.base,h.offc,h.offb,h.apart⟩
theorem DrSt.lt (h:DrSt w wr gD gR c b p cs bxs):gD<wr.heap.size:=blk_lt h.row
theorem DrSt.cells (h:DrSt w wr gD gR c b p cs bxs):wr.cell? ⟨gD,0,none⟩=some c∧wr.cell? ⟨gD,2,none⟩=some b:=⟨cell_of_row _ gD 0 _ _ _ h.row,cell_of_row _ gD 2 _ _ _ h.row⟩
theorem DrSt.addCom (h:DrSt w wr gD gR c b p cs bxs) (u:Upd (foot c) (foot c') wr w1) (hr:w1.ownsRow 0 3 1 c' (cs.length+1) (intVals (cs ++ [q]))):DrSt w (w1.setCell ⟨gD,0,none⟩ c') gD gR c' b p (cs ++ [q]) bxs:=by
 have hD:=h.lt
 have hoff:∀ x,x∈foot c'→gD<x:=fun x hx=>by
  rcases u.new x hx with e | e
  · exact h.offc x e
  · omega
 have hsame:∀ x,x≠gD→(w1.setCell ⟨gD,0,none⟩ c').heap[x]? =w1.heap[x]?:=fun x hx=>Below.heap_setCell _ _ _ _ hx
 have hRD:=h.base.2
 refine ⟨heap_setCell_same w1 gD 0 _ _ c' ((u.block gD h.lt (fun q=>Nat.lt_irrefl _ (h.offc gD q))).trans h.row),?_,?_,?_,?_,h.base,hoff,h.offb,fun x hx hb=>?_⟩
 · rw [hsame gR (by omega),u.block gR (by omega) (fun q=>by have:=h.offc gR q;omega)]
   exact h.res
 · have e:(cs ++ [q]).length=cs.length+1:=by simp
   rw [e]
   exact row_same hr (fun x hx=>hsame x (by have:=hoff x hx;omega))
 · exact h.box.same (fun x hx=>(hsame x (by have:=h.offb x hx;omega)).trans (u.block x (h.box.lt x hx) (fun hc=>h.apart x hc hx)))
 · exact (h.up.past2 u (fun x hx=>by have:=h.offc x hx;have:=h.base;omega)).setNew (p:=⟨gD,0,none⟩) (by show w.heap.size≤gD;have:=h.base;omega) _
 · rcases u.new x hx with e | e
   · exact h.apart x e hb
   · have:=h.box.lt x hb;omega
theorem DrSt.addBox (h:DrSt w wr gD gR c b p cs bxs) (u:Upd (foot b) (foot b') wr w1) (hr:StrRow w1 b' (bxs ++ [s])):DrSt w (w1.setCell ⟨gD,2,none⟩ b') gD gR c b' p cs (bxs ++ [s]):=by
 have hD:=h.lt
 have hoff:∀ x,x∈foot b'→gD<x:=fun x hx=>by
  rcases u.new x hx with e | e
  · exact h.offb x e
  · omega
 have hsame:∀ x,x≠gD→(w1.setCell ⟨gD,2,none⟩ b').heap[x]? =w1.heap[x]?:=fun x hx=>Below.heap_setCell _ _ _ _ hx
 have hRD:=h.base.2
 refine ⟨heap_setCell_same w1 gD 2 _ _ b' ((u.block gD h.lt (fun q=>Nat.lt_irrefl _ (h.offb gD q))).trans h.row),?_,?_,?_,?_,h.base,h.offc,hoff,fun x hx hb=>?_⟩
 · rw [hsame gR (by omega),u.block gR (by omega) (fun q=>by have:=h.offb gR q;omega)]
   exact h.res
 · exact row_same h.com (fun x hx=>(hsame x (by have:=h.offc x hx;omega)).trans (u.block x (row_foot_lt h.com x hx) (fun hc=>h.apart x hx hc)))
 · exact hr.same (fun x hx=>hsame x (by have:=hoff x hx;omega))
 · exact (h.up.past2 u (fun x hx=>by have:=h.offb x hx;have:=h.base;omega)).setNew (p:=⟨gD,2,none⟩) (by show w.heap.size≤gD;have:=h.base;omega) _
 · rcases u.new x hb with e | e
   · exact h.apart x hx e
   · have:=row_foot_lt h.com x hx;omega
theorem DrSt.setP (h:DrSt w wr gD gR c b p cs bxs) (q:Int):DrSt w (wr.setCell ⟨gD,1,none⟩ (.int .i64 q)) gD gR c b q cs bxs:=by
 have hsame:∀ x,x≠gD→(wr.setCell ⟨gD,1,none⟩ (.int .i64 q)).heap[x]? =wr.heap[x]?:=fun x hx=>Below.heap_setCell _ _ _ _ hx
 have hRD:=h.base.2
 refine ⟨heap_setCell_same wr gD 1 _ _ _ h.row,?_,?_,?_,?_,h.base,h.offc,h.offb,h.apart⟩
 · rw [hsame gR (by omega)]
   exact h.res
 · exact row_same h.com (fun x hx=>hsame x (by have:=h.offc x hx;omega))
 · exact h.box.same (fun x hx=>hsame x (by have:=h.offb x hx;omega))
 · exact h.up.setNew (p:=⟨gD,1,none⟩) (by show w.heap.size≤gD;have:=h.base;omega) _
end
def MkDlR (l:List UInt8) (w:World) (e:Ending) (w':World):Prop :=
 ∃ (cv bv:Value) (d:DlI) (ok:Bool),Hid ((ok=true∧IsDl l d∧d.fit)∨(ok=false∧(∀ d,¬ IsDl l d)∧cv=.slice none 0 0∧bv=.slice none 0 0∧d=⟨[],0,[]⟩))∧Hid (RdI w' cv d.coms∧RdS w' bv d.boxes)∧Hid (∀ x,x∈foot cv∨x∈foot bv→w.heap.size≤x)∧e=.returned (.tuple #[.agg #[cv,.int .i64 d.point,bv],.bool ok])∧Upd [] [] w w'
theorem drNo {l:List UInt8} {w W:World} (hn:∀ d,¬ IsDl l d) (u:Upd [] [] w W):MkDlR l w (.returned (.tuple #[.agg dlZ,.bool false])) W :=
 ⟨_,_,⟨[],0,[]⟩,false,.inr ⟨rfl,hn,rfl,rfl,rfl⟩,⟨RdI.nil _,RdS.nil _⟩,(fun x hx=>by rcases hx with hx | hx <;> cases hx),rfl,u⟩
theorem words_len:∀ W:List (List UInt8),W.length≤(Lib.join W [32]).length+1
 | []=>by simp
 | [x]=>by simp
 | x :: y :: r=>by
  have h:=words_len (y :: r)
  rw [join_two]
  simp only [List.length_append,List.length_cons,List.length_nil] at h ⊢
  omega
theorem isWords_len {l:List UInt8} {W:List (List UInt8)} (h:IsWords l W):W.length≤l.length+1:=by
 have:=words_len W
 rw [h.2.2] at this
 exact this
theorem dlBuilt0:Tryz.prog.built 132 []=some dlZ:=by kernel_rfl
theorem isDl_at {l:List UInt8} {P:List ByteArray} {d:DlI} (h:IsDl l d) (hW:IsWords l (P.map bs)):P.length=3+d.coms.length+d.boxes.length∧(∀ x,P[0]? =some x→bs x=wDeal)∧(∀ x,P[1]? =some x→bs x=Lib.itoa (d.coms.length:Int))∧(∀ j x,j<d.coms.length→P[2+j]? =some x→∃ c,d.coms[j]? =some c∧bs x=Lib.itoa c)∧(∀ x,P[2+d.coms.length]? =some x→bs x=Lib.itoa d.point)∧(∀ j x,j<d.boxes.length→P[3+d.coms.length+j]? =some x→∃ b,d.boxes[j]? =some b∧bs x=hexL b):=by
 have e:=h.words hW
 have hl:=congrArg List.length e
 simp only [DlI.words,List.length_map,List.length_cons,List.length_append] at hl
 have hg:∀ i x,P[i]? =some x→d.words[i]? =some (bs x):=fun i x hx=>by rw [← e,List.getElem?_map,hx];rfl
 refine ⟨by omega,fun x hx=>?_,fun x hx=>?_,fun j x hj hx=>?_,fun x hx=>?_,fun j x hj hx=>?_⟩
 · have:=hg 0 x hx
   simpa [DlI.words] using this.symm
 · have:=hg 1 x hx
   simpa [DlI.words] using this.symm
 · have:=hg (2+j) x hx
   rw [show 2+j=j+1+1 by omega] at this
   simp only [DlI.words,List.getElem?_cons_succ] at this
   rw [List.getElem?_append_left (by simpa using hj),List.getElem?_map] at this
   refine ⟨d.coms[j],List.getElem?_eq_getElem hj,?_⟩
   rw [List.getElem?_eq_getElem hj] at this
   simpa using this.symm
 · have:=hg (2+d.coms.length) x hx
   rw [show 2+d.coms.length=d.coms.length+1+1 by omega] at this
   simp only [DlI.words,List.getElem?_cons_succ] at this
   rw [List.getElem?_append_right (by simp)] at this
   simpa using this.symm
 · have:=hg (3+d.coms.length+j) x hx
   rw [show 3+d.coms.length+j=(d.coms.length+1+j)+1+1 by omega] at this
   simp only [DlI.words,List.getElem?_cons_succ] at this
   rw [List.getElem?_append_right (by simp;omega),List.length_map,show d.coms.length+1+j - d.coms.length=j+1 by omega,List.getElem?_cons_succ,List.getElem?_map] at this
   refine ⟨d.boxes[j],List.getElem?_eq_getElem hj,?_⟩
   rw [List.getElem?_eq_getElem hj] at this
   simpa using this.symm
end Go.Proofs.YtmjlkkbbnkanpaaGreatDoor
