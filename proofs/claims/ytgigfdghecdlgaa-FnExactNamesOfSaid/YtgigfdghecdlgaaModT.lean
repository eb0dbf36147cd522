/-
  Data of the program as Lean types; how they lie in memory. Printed by wip/ab/gen.py.
-/
import Derived.Test.YtgigfdghecdlgaaAbY
import Derived.Test.YtgigfdghecdlgaaMod
namespace Go.Proofs.Ytgigfdghecdlgaa.Ab
set_option linter.unusedVariables false
set_option linter.unusedSimpArgs false
set_option maxRecDepth 20000
set_option maxHeartbeats 4000000
open Go.RowKit
structure LabelNode where
 core:Core
 label:ByteArray
 att:Int
 kids:List LabelNode
mutual
def LabelNode.ds:LabelNode→List D
 |⟨x0,x1,x2,x3⟩=>[.int .i64 x0.kind,.int .i64 x0.value,.sl (List.map AM x0.data),.sl (List.map Core.ds x0.kids),.str x1,.int .i64 x2,.sl (LabelNode.rows x3)]
def LabelNode.rows:List LabelNode→List (List D)
 | [] =>[]
 |c::cs=>[.ptr (LabelNode.ds c)] ::LabelNode.rows cs
end
theorem LabelNode.rows_map:∀l:List LabelNode,LabelNode.rows l=List.map (pD LabelNode.ds) l
 | [] =>by rw [LabelNode.rows]; rfl
 |c::cs=>by rw [LabelNode.rows,LabelNode.rows_map cs]; rfl
theorem LabelNode.ds_eq (c:LabelNode):c.ds=[.int .i64 c.core.kind,.int .i64 c.core.value,.sl (List.map AM c.core.data),.sl (List.map Core.ds c.core.kids),.str c.label,.int .i64 c.att,.sl (List.map (pD LabelNode.ds) c.kids)] :=by
 cases c; rw [LabelNode.ds]; simp only [LabelNode.rows_map]
@[go_sem] def LabelNode.avs (c:LabelNode):List AV:=[.int .i64 c.core.kind,.int .i64 c.core.value,.ro (List.map AM c.core.data),.ro (List.map Core.ds c.core.kids),.str c.label,.int .i64 c.att,.ro (List.map (pD LabelNode.ds) c.kids)]
@[go_sem] def LabelNode.rv (c:LabelNode):List RV:=[.int .i64 c.core.kind,.int .i64 c.core.value,.ow (some 1) (List.map AM c.core.data),.ow (some 4) (List.map Core.ds c.core.kids),.str c.label,.int .i64 c.att,.ow (some 1) (List.map (pD LabelNode.ds) c.kids)]
@[go_sem] def LabelNode.rvn (c:LabelNode):List RV:=[.int .i64 c.core.kind,.int .i64 c.core.value,.ow none (List.map AM c.core.data),.ow none (List.map Core.ds c.core.kids),.str c.label,.int .i64 c.att,.ow none (List.map (pD LabelNode.ds) c.kids)]
attribute [go_sem] LabelNode.ds_eq
theorem LabelNode.ds_len (c:LabelNode):c.ds.length=7:=by rw [LabelNode.ds_eq]; rfl
def LabelNode.dz (c:LabelNode):List D:=[.int .i64 c.core.kind,.int .i64 c.core.value,.fz (List.map AM c.core.data),.fz (List.map Core.ds c.core.kids),.str c.label,.int .i64 c.att,.fz (List.map (pD LabelNode.ds) c.kids)]
@[go_sem] theorem LabelNode.dz_eq (c:LabelNode):c.dz=[.int .i64 c.core.kind,.int .i64 c.core.value,.fz (List.map AM c.core.data),.fz (List.map Core.ds c.core.kids),.str c.label,.int .i64 c.att,.fz (List.map (pD LabelNode.ds) c.kids)] :=rfl
@[go_sem] theorem LabelNode.dz_er (l:List LabelNode):erR (List.map LabelNode.dz l)=List.map LabelNode.ds l:=HC (fun c=>by rw [LabelNode.ds_eq]; simp only [LabelNode.dz,erC,er]) l
end Go.Proofs.Ytgigfdghecdlgaa.Ab
namespace Go.Proofs.Ytgigfdghecdlgaa.Ab
set_option linter.unusedVariables false
set_option linter.unusedSimpArgs false
set_option maxRecDepth 20000
set_option maxHeartbeats 4000000
open Go.RowKit
mutual
def BK:Nat→Labelled→Core→Int→Option (LabelNode × Int)
 |0,_,_,_=>none
 |n+1,a0,a1,a2=>(Option.bind (at? a0.labels a2) fun v2006=>(Au n a0 a1 a2 v2006 (IntKind.i64.wrap (a2+1)) [] 0))
def Au:Nat→Labelled→Core→Int→ByteArray→Int→(List LabelNode)→Int→Option (LabelNode × Int)
 |0,_,_,_,_,_,_,_=>none
 |n+1,a0,a1,a2,v2006,p1_0,p1_1,p1_2=>(if (decide (p1_2<((List.length a1.kids:Nat):Int)))=true then (Option.bind (at? a1.kids p1_2) fun v6000=>(Option.bind (BK n a0 v6000 p1_0) fun v7008=>(Option.bind (K8 p1_1 [v7008.1]) fun v7010=>(Au n a0 a1 a2 v2006 v7008.2 v7010 (IntKind.i64.wrap (p1_2+1)))))) else (some ((⟨a1,v2006,a2,p1_1⟩:LabelNode),p1_0)))
end
def DI (a0:Labelled):Option (LabelNode):=
 (Option.bind (BK fuel a0 a0.term 0) fun v3003=>(some v3003.1))
end Go.Proofs.Ytgigfdghecdlgaa.Ab
