/- entry.Read: the walk and what follows. -/
import Derived.Test.YtmjlkkbbnkanpaaGreatDoorHAM
import Derived.Test.YtmjlkkbbnkanpaaGreatDoorHAL
import Derived.ChangeKeysEq
import Derived.Deep.Upon
namespace Go.Proofs.YtmjlkkbbnkanpaaGreatDoor
open Go.RowKit
set_option maxRecDepth 100000
structure RdSt (w wi:World) (rest:ByteArray) (q:Bool) (x:Rc):Prop where
 rz:RcAt wi w.heap.size Rc.zero
 rd:RdAt wi (w.heap.size+1) rest q
 rc:RcAt wi (w.heap.size+1+1) x
 up:Upd [] [] w wi
 ok:x.ok
theorem wpList_store_midAs {P:Program} {ops:Array Oper} {rest:List Oper} {op:Oper} {a:Act} {w:World} {Q:Exit→Act→World→Prop} (hgd:op.guard=none) (ty:TypeId) (x y:Operand) (ho:op.op=.store ty x y)
 (b o:Nat) (cells:Array Value) (hx:a.eval x=.pointer (some ⟨b,o,none⟩)) (hy:a.eval y=.agg cells)
 (ht:w.there b o cells.size) (hi:(P.info? ty).map (·.size)=some cells.size) (h1:cells.all (·.oneCell')=true) (w':World) (hw:w.setCells b o cells.toList=w')
 (h:wpList P ops Q rest (a.put op.dst undef) w'):wpList P ops Q (op :: rest) a w:=by
 subst hw
 exact wpList_store_mid hgd ty x y ho b o cells hx hy ht hi h1 h
theorem wpList_load_want {P:Program} {ops:Array Oper} {rest:List Oper} {o:Oper} {a:Act} {w:World} {Q:Exit→Act→World→Prop} (hw:Region.wanted o (yielded ops a.tmps)=true) (ty:TypeId) (x:Operand) (ho:o.op=.load ty x)
 (b:Nat) (hx:a.eval x=.pointer (some ⟨b,0,none⟩)) (C:Array Value) (hr:(Instr.loadAt ty (.pointer (some ⟨b,0,none⟩))).run P w=.ok (.agg C) w)
 (h:wpList P ops Q rest (a.put o.dst (.agg C)) w):wpList P ops Q (o :: rest) a w:=by
 refine wpList_step fun K hK=>?_
 rw [if_pos hw]
 unfold Oper.wp execOp
 simp only [ho,hx,Sem.run_bind,hr,Result.andThen_ok]
 exact hK _ _ h
theorem below_step {W0 w w':World} (h:Upd [] [] W0 w) (k:Below W0.heap.size w w'):Upd [] [] W0 w' :=
 ⟨k.os.trans h.os,k.tape.trans h.tape,k.output.trans h.output,Nat.le_trans h.size k.size,fun i hi _=>(k.block i hi).trans (h.block i hi (by simp)),fun _ hk=>absurd hk (by simp)⟩
structure BtSt (W0 wi:World) (acc:List UInt8):Prop where
 bd:Lib.IsBuilder 150 5 W0.heap.size W0.heap.size (Lib.byteCells acc) wi
 up:Upd [] [] W0 wi
def RcsIn (w:World) (ao:Option Addr) (l:List Rc):Prop :=
 ∀ (k:Nat) x,l[k]? =some x→x.ok∧x.draw.size≤1000000∧∃ g o,ao=some ⟨g,o,none⟩∧g<w.heap.size∧w.rangeAt g (o+k * 102) (rcV x)

theorem wpList_load_atW {P:Program} {ops:Array Oper} {rest:List Oper} {o:Oper} {a:Act} {w:World} {Q:Exit→Act→World→Prop} (hw:Region.wanted o (yielded ops a.tmps)=true) (ty:TypeId) (x:Operand) (ho:o.op=.load ty x)
 (b of:Nat) (hx:a.eval x=.pointer (some ⟨b,of,none⟩)) (C:Array Value) (hr:(Instr.loadAt ty (.pointer (some ⟨b,of,none⟩))).run P w=.ok (.agg C) w)
 (h:wpList P ops Q rest (a.put o.dst (.agg C)) w):wpList P ops Q (o :: rest) a w:=by
 refine wpList_step fun K hK=>?_
 rw [if_pos hw]
 unfold Oper.wp execOp
 simp only [ho,hx,Sem.run_bind,hr,Result.andThen_ok]
 exact hK _ _ h

theorem yieldsIf_loadW {P:Program} {ops:Array Oper} {S:World→Prop} {op:Oper} {a:Act} (hw:Region.wanted op (yielded ops a.tmps)=true) (ty:TypeId) (x:Operand) (ho:op.op=.load ty x) (v:Value) (hx:a.eval x=v) (C:Array Value)
 (hS:∀ w,S w→(Instr.loadAt ty v).run P w=.ok (.agg C) w):YieldsIf P ops S op (.agg C) a :=
 .inl ⟨hw,fun w hw'=>by
  unfold execOp
  simp only [ho,hx,Sem.run_bind,Sem.run_pure,Result.andThen_ok,hS w hw']⟩
theorem blk_new (wB:World) (T:TypeId) (Z C:Array Value):∃ wC:World,Hid ((wB.alloc (.cells Z T)).heap[wB.heap.size]? =some (.cells Z T (0,0)))∧Hid ((wB.alloc (.cells Z T)).setRow wB.heap.size C=wC)∧Hid (wC.heap[wB.heap.size]? =some (.cells C T (0,0)))∧Upd [] [] wB wC:=by
 have h:=heap_alloc_new wB (.cells Z T)
 exact ⟨_,h,rfl,setRow_heap _ _ _ _ _ _ h,((Upd.refl _ _).alloc _).setRowNew (Nat.le_refl _) _⟩
theorem alloc_let (W:World) (ob:Obj):∃ (g:Nat) (W':World),g=W.heap.size∧W'=W.alloc ob∧Hid (W'.heap[g]? =some ob)∧Upd [] [] W W':=⟨_,_,rfl,rfl,heap_alloc_new _ _,(Upd.refl _ _).alloc _⟩
theorem alloc_letD (W:World) (ob:Obj):∃ (g:Nat) (W':World),g=W.heap.size∧W'=(W.alloc ob).drew∧Hid (W'.heap[g]? =some ob)∧Upd [] [] W W':=⟨_,_,rfl,rfl,heap_alloc_new _ _,((Upd.refl _ _).alloc _).drew⟩
theorem wpList_buildRun {P:Program} {ops:Array Oper} {rest:List Oper} {o:Oper} {a:Act} {w:World} {Q:Exit→Act→World→Prop} (hg:o.guard=none) (t:TypeId) (len:Nat) (parts:Array (Nat × Operand)) (ho:o.op=.buildSlice t len parts)
 (v:Value) (w':World) (hr:(Instr.buildSlice t len (parts.map fun (i,x)=>(i,a.eval x))).run P w=.ok v w')
 (h:wpList P ops Q rest (a.put o.dst v) w'):wpList P ops Q (o :: rest) a w :=
 wpList_plain hg fun _ hK=>by
  unfold Oper.wp execOp
  simp only [ho,Sem.run_bind,hr,Result.andThen_ok]
  exact hK _ _ h

end Go.Proofs.YtmjlkkbbnkanpaaGreatDoor
