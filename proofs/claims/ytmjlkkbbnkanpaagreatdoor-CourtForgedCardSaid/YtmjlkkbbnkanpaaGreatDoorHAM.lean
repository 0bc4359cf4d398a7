/- Receipts built out of their parts and what follows. -/
import Derived.Test.YtmjlkkbbnkanpaaGreatDoorHAL
import Derived.Great.BuildSlice
namespace Go.Proofs.YtmjlkkbbnkanpaaGreatDoor
open Go.RowKit
set_option maxRecDepth 100000
theorem fold_set (off:Nat):∀ (V:List Value) (s:Nat) (A B C:List Value),A.length=off+s→B.length=V.length→(V.zipIdx s).foldl (fun (cs:Array Value) (p:Value × Nat)=>cs.setIfInBounds (off+p.2) p.1) (A ++ (B ++ C)).toArray=(A ++ (V ++ C)).toArray
 | [],s,A,B,C,hA,hB=>by
  have:B=[]:=List.eq_nil_of_length_eq_zero (by simpa using hB)
  subst this
  rfl
 | v :: V,s,A,[],C,hA,hB=>by simp at hB
 | v :: V,s,A,b :: B,C,hA,hB=>by
  rw [List.zipIdx_cons,List.foldl_cons]
  have e:((A ++ (b :: B ++ C)).toArray.setIfInBounds (off+s) v)=((A ++ [v]) ++ (B ++ C)).toArray:=by
   apply Array.ext'
   rw [Array.toList_setIfInBounds]
   show (A ++ (b :: B ++ C)).set (off+s) v=(A ++ [v]) ++ (B ++ C)
   rw [List.set_append_right _ _ (by omega),← hA,Nat.sub_self]
   simp
  show (V.zipIdx (s+1)).foldl _ ((A ++ (b :: B ++ C)).toArray.setIfInBounds (off+s) v)=_
  rw [e,fold_set off V (s+1) (A ++ [v]) B C (by simp;omega) (by simpa using hB)]
  simp
theorem fold_arr (off:Nat) (V A B C:List Value) (hA:A.length=off) (hB:B.length=V.length):V.toArray.zipIdx.foldl (fun (cs:Array Value) (p:Value × Nat)=>cs.setIfInBounds (off+p.2) p.1) (A ++ (B ++ C)).toArray=(A ++ (V ++ C)).toArray:=by
 have h:=fold_set off V 0 A B C (by omega) hB
 rw [← Array.foldl_toList,Array.toList_zipIdx]
 exact h
theorem fill_mid {pl:Nat→Option (Nat × Nat)} {i off n:Nat} {v:Value} {V A B C:List Value} {r:List (Nat × Value)} (hp:pl i=some (off,n)) (hv:v.cells=V.toArray) (hV:V.length=n) (hA:A.length=off) (hB:B.length=n):Instr.fill pl (A ++ (B ++ C)).toArray ((i,v) :: r)=Instr.fill pl (A ++ (V ++ C)).toArray r:=by
 rw [Instr.fill,hp]
 have hs:v.cells.size=n:=by rw [hv];simpa using hV
 have hc:¬ (decide (v.cells.size≠n) || decide (off+v.cells.size > (A ++ (B ++ C)).toArray.size))=true:=by
  rw [hs]
  simp
  omega
 show (if (decide (v.cells.size≠n) || decide (off+v.cells.size > (A ++ (B ++ C)).toArray.size))=true then none else _)=_
 rw [if_neg hc,hv]
 exact congrArg (fun z=>Instr.fill pl z r) (fold_arr off V A B C hA (by omega))




def RdAt (w:World) (g:Nat) (rest:ByteArray) (wrong:Bool):Prop:=w.heap[g]? =some (.cells #[.string rest,.bool wrong] 274 (0,0))
theorem cutByte_any (s:ByteArray) (c:UInt8) (w:World) (hs:s.size≤4000000000) (htab:Tabs w) :
 Calls Tryz.prog 193 #[.string s,.string (ByteArray.mk #[c])] w (fun e w'=>∃ (l r:ByteArray) (b:Bool),Hid (bs l=(Lib.cut (bs s) [c]).1)∧Hid (bs r=(Lib.cut (bs s) [c]).2.1)∧Hid (b=(Lib.cut (bs s) [c]).2.2)∧l.size≤s.size∧r.size≤s.size∧e=.returned (.tuple #[.string l,.string r,.bool b])∧Upd [] [] w w'):=by
 obtain ⟨m,hm⟩:=htab.mc
 refine (Tryz.strings_Cut s (ByteArray.mk #[c]) m w (by omega) hm).mono ?_
 rintro e w' ⟨rfl,n,rfl⟩
 have h:(Lib.cut (bs s) [c]).1.length≤s.size∧(Lib.cut (bs s) [c]).2.1.length≤s.size:=by
  unfold Lib.cut
  split
  · simp [bs_length];omega
  · simp [bs_length]
 exact ⟨⟨(Lib.cut (bs s) [c]).1.toArray⟩,⟨(Lib.cut (bs s) [c]).2.1.toArray⟩,_,rfl,rfl,rfl,h.1,h.2,rfl,(Upd.refl _ _).drewN n⟩

theorem row_setRowO {w:World} {g L:Nat} {o:Obj} (h:w.heap[g]? =some o) (n:g≠L) (cs:Array Value):(w.setRow L cs).heap[g]? =some o:=by
 unfold World.setRow
 rw [Array.getElem?_modify,if_neg (fun e=>n e.symm)]
 exact h
theorem wpList_store_rowAs {P:Program} {ops:Array Oper} {rest:List Oper} {o:Oper} {a:Act} {w:World} {Q:Exit→Act→World→Prop} (hgd:o.guard=none) (ty:TypeId) (x y:Operand) (ho:o.op=.store ty x y)
 (g:Nat) (cells:Array Value) (hx:a.eval x=.pointer (some ⟨g,0,none⟩)) (hy:a.eval y=.agg cells)
 (t:TypeId) (old:Array Value) (hg:w.heap[g]? =some (.cells old t (0,0))) (hi:(P.info? ty).map (·.size)=some cells.size)
 (hold:old.size=cells.size) (h1:cells.all (·.oneCell')=true) (w':World) (hw:w.setRow g cells=w')
 (h:wpList P ops Q rest (a.put o.dst undef) w'):wpList P ops Q (o :: rest) a w:=by
 subst hw
 exact wpList_store_row hgd ty x y ho g cells hx hy t old hg hi hold h1 h
theorem Upd.setCellsNew {S S':List Nat} {a:World} {g:Nat} (hg:a.heap.size≤g):∀ (V:List Value) (o:Nat) (b:World),Upd S S' a b→Upd S S' a (b.setCells g o V)
 | [],_,_,h=>h
 | v :: V,o,b,h=>by
  rw [World.setCells]
  exact Upd.setCellsNew hg V (o+1) _ (h.setNew (p:=⟨g,o,none⟩) hg v)
end Go.Proofs.YtmjlkkbbnkanpaaGreatDoor
