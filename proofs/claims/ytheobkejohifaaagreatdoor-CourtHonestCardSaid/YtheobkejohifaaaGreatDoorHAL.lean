/- sortesref03.Read: a hash's text, read: the walk and what follows. -/
import Derived.Test.YtheobkejohifaaaGreatDoorHAK
import Derived.Test.YtheobkejohifaaaGreatDoorHAD
import Derived.Great.BuildSlice
namespace Go.Proofs.YtheobkejohifaaaGreatDoor
open Go.RowKit
set_option maxRecDepth 100000

def pmL (w:World) (e:Ending) (w':World):Prop:=e=.returned (.bool true)∧Upd [] [] w w'
theorem pqM:Lib.itoa 3=[51]:=by
 show Lib.decDigits 3=_
 rw [Lib.decDigits_one (by omega)]
 rfl
def RcAt (w:World) (g:Nat) (x:Rc):Prop:=w.heap[g]? =some (.cells (rcV x).toArray 197 (0,0))
theorem ppR {A B C:List Value} {o j:Nat} {v:Value} (ho:A.length=o) (h:B[j]? =some v):(A ++ (B ++ C))[o+j]? =some v:=by
 have hj:=(List.getElem?_eq_some_iff.1 h).1
 rw [List.getElem?_append_right (by omega),show o+j - A.length=j by omega,List.getElem?_append_left hj]
 exact h
def rcS (g:Nat) (x:Rc) (w:World):Prop:=w.cell? ⟨g,0,none⟩=some (.int .i64 x.kiosk)∧w.cell? ⟨g,1,none⟩=some (.int .i64 x.serial)∧w.cell? ⟨g,2,none⟩=some (.string x.draw)∧w.cell? ⟨g,3,none⟩=some (.int .i64 x.seen)∧w.rangeAt g 4 (byteVals x.out)∧w.rangeAt g 36 (byteVals x.hash)∧w.rangeAt g 68 (byteVals x.prev)
theorem pd3 (w:World) (xs:List ByteArray) (T:TypeId):pfV (w.alloc (.cells (xs.map Value.string).toArray T)) w.heap.size xs:=by
 refine ⟨by rw [World.size_alloc];omega,fun j x hx=>?_⟩
 rw [cell_of_row _ _ _ _ _ _ (heap_alloc_new w _),List.getElem?_toArray,Nat.zero_add,List.getElem?_map,hx]
 rfl
theorem pkj (off:Nat):∀ (V:List Value) (s:Nat) (A B C:List Value),A.length=off+s→B.length=V.length→(V.zipIdx s).foldl (fun (cs:Array Value) (p:Value × Nat)=>cs.setIfInBounds (off+p.2) p.1) (A ++ (B ++ C)).toArray=(A ++ (V ++ C)).toArray
 | [],s,A,B,C,hA,hB=>by
  have:B=[]:=List.eq_nil_of_length_eq_zero (by simpa using hB)
  subst this
  rfl
 | v :: V,s,A,[],C,hA,hB=>by simp at hB
 | v :: V,s,A,b :: B,C,hA,hB=>by
  rw [List.zipIdx_cons,List.foldl_cons]
  have e:((A ++ (b :: B ++ C)).toArray.setIfInBounds (off+s) v)=((A ++ [v]) ++ (B ++ C)).toArray:=by
   apply Array.ext'
   rw [Array.toList_setIfInBounds]
   show (A ++ (b :: B ++ C)).set (off+s) v=(A ++ [v]) ++ (B ++ C)
   rw [List.set_append_right _ _ (by omega),← hA,Nat.sub_self]
   simp
  show (V.zipIdx (s+1)).foldl _ ((A ++ (b :: B ++ C)).toArray.setIfInBounds (off+s) v)=_
  rw [e,pkj off V (s+1) (A ++ [v]) B C (by simp;omega) (by simpa using hB)]
  simp
theorem pot (off:Nat) (V A B C:List Value) (hA:A.length=off) (hB:B.length=V.length):V.toArray.zipIdx.foldl (fun (cs:Array Value) (p:Value × Nat)=>cs.setIfInBounds (off+p.2) p.1) (A ++ (B ++ C)).toArray=(A ++ (V ++ C)).toArray:=by
 have h:=pkj off V 0 A B C (by omega) hB
 rw [← Array.foldl_toList,Array.toList_zipIdx]
 exact h
theorem pou {pl:Nat→Option (Nat × Nat)} {i off n:Nat} {v:Value} {V A B C:List Value} {r:List (Nat × Value)} (hp:pl i=some (off,n)) (hv:v.cells=V.toArray) (hV:V.length=n) (hA:A.length=off) (hB:B.length=n):Instr.fill pl (A ++ (B ++ C)).toArray ((i,v) :: r)=Instr.fill pl (A ++ (V ++ C)).toArray r:=by
 rw [Instr.fill,hp]
 have hs:v.cells.size=n:=by rw [hv];simpa using hV
 have hc:¬ (decide (v.cells.size≠n) || decide (off+v.cells.size > (A ++ (B ++ C)).toArray.size))=true:=by
  rw [hs]
  simp
  omega
 show (if (decide (v.cells.size≠n) || decide (off+v.cells.size > (A ++ (B ++ C)).toArray.size))=true then none else _)=_
 rw [if_neg hc,hv]
 exact congrArg (fun z=>Instr.fill pl z r) (pot off V A B C hA (by omega))


end Go.Proofs.YtheobkejohifaaaGreatDoor
