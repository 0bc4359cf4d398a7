/- A call that leaves the world as it is may be taken first in a region that draws its order. -/
import Derived.Test.YtheobkejohifaaaGreatDoorHAA
namespace Go.Proofs.YtheobkejohifaaaGreatDoor
open Go.RowKit
set_option maxRecDepth 100000
section
variable {P : Program} {ops : Array Oper} {Q : Exit → Act → World → Prop} {md : Region.Mode} {S : World → Prop}
end
theorem paX {P:Program} {ops:Array Oper} {S:World→Prop} {op:Oper} {a:Act} (hw:Region.wanted op (yielded ops a.tmps)=true) (t:TypeId) (parts:Array (Nat × Operand)) (ho:op.op=.build t parts) (cells:Array Value) (hf:P.built t (parts.map fun (i,x)=>(i,a.eval x)).toList=some cells):YieldsIf P ops S op (.agg cells) a :=
 .inl ⟨hw,fun w _=>by
  unfold execOp
  simp only [ho,Sem.run_bind,run_build w t _ cells hf,Result.andThen_ok]
  rfl⟩
end Go.Proofs.YtheobkejohifaaaGreatDoor
