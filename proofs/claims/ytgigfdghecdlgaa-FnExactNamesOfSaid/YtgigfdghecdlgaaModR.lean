/-
  Models of the functions. Printed by wip/ab/gen.py.
-/
import Derived.Test.YtgigfdghecdlgaaModT
namespace Go.Proofs.Ytgigfdghecdlgaa.Ab
set_option linter.unusedVariables false
set_option linter.unusedSimpArgs false
set_option maxRecDepth 20000
set_option maxHeartbeats 4000000
open Go.RowKit
def CP (p1_0:Bool):Option (Int):=
 (if p1_0=true then (some 4) else (some 0))
def Cy (v4002:Core) (v13002:Core) (p0_0:Bool):Option (Int):=
 (if p0_0=true then (some 2) else (if (decide (v4002.kind=11))=true then (CP true) else (if (decide (v4002.kind=2))=true then (CP (decide (v13002.kind=11))) else (CP false))))
def Bx (p4_0:Bool):Option (Int):=
 (if p4_0=true then (some 3) else (some 0))
def By (a0:Core) (v4002:Core) (p3_0:Bool):Option (Int):=
 (if p3_0=true then (Bx p3_0) else (if (decide (a0.kind=10))=true then (Bx (decide (v4002.kind=2))) else (Bx false)))
def CQ (a0:Core) (v4002:Core) (p2_0:Bool):Option (Int):=
 (if p2_0=true then (if (decide (v4002.kind=11))=true then (some 4) else (if (decide (a0.kind=9))=true then (if (decide (v4002.kind=8))=true then (By a0 v4002 (decide (v4002.value<((List.length a0.data:Nat):Int)))) else (By a0 v4002 false)) else (By a0 v4002 false))) else (some 0))
def DY (a0:Core):Option (Int):=
 (if (decide (((List.length a0.kids:Nat):Int)=0))=true then (some 0) else (Option.bind (at? a0.kids 0) fun v4002=>(if (decide (a0.kind=5))=true then (if (decide (v4002.kind=4))=true then (some 1) else (if (decide (v4002.kind=11))=true then (some 4) else (some 0))) else (if (decide (a0.kind=3))=true then (Option.bind (at? a0.kids 1) fun v13002=>(if (decide (v4002.kind=2))=true then (Cy v4002 v13002 (decide (v13002.kind=2))) else (Cy v4002 v13002 false))) else (if (decide (a0.kind=9))=true then (CQ a0 v4002 (decide (a0.kind=9))) else (CQ a0 v4002 (decide (a0.kind=10))))))))
mutual
def Ao:Nat→LabelNode→(List LabelNode)→Option ((List LabelNode))
 |0,_,_=>none
 |n+1,a0,a1=>(Option.bind (DY a0.core) fun v2004=>(if (!decide (v2004=0))=true then (Option.bind (K8 a1 [a0]) fun v3003=>(Ai n a0 v3003)) else (Ai n a0 a1)))
def Ai:Nat→LabelNode→(List LabelNode)→Option ((List LabelNode))
 |0,_,_=>none
 |n+1,a0,p0_0=>(Ac n a0 p0_0 0)
def Ac:Nat→LabelNode→(List LabelNode)→Int→Option ((List LabelNode))
 |0,_,_,_=>none
 |n+1,a0,p2_0,p2_1=>(if (decide (p2_1<((List.length a0.kids:Nat):Int)))=true then (Option.bind (at? a0.kids p2_1) fun v6000=>(Option.bind (Ao n v6000 p2_0) fun v7002=>(Ac n a0 v7002 (IntKind.i64.wrap (p2_1+1))))) else (some p2_0))
end
def AX (a0:LabelNode) (v2004:LabelNode) (p0_0:Bool):Option (ByteArray):=
 (if p0_0=true then (Option.bind (at? a0.kids 1) fun v5005=>(Option.bind (HU (ByteArray.mk #[38]) v5005.label) fun v5010=>(Option.bind (HU v2004.label v5010) fun v5011=>(some v5011)))) else (some v2004.label))
def Az (a0:LabelNode):Option (ByteArray):=
 (Option.bind (at? a0.kids 0) fun v2004=>(Option.bind (DY a0.core) fun v3004=>(if (decide (v3004=2))=true then (AX a0 v2004 true) else (if (decide (v3004=4))=true then (if (decide (a0.core.kind=3))=true then (Option.bind (at? a0.kids 0) fun v4018=>(AX a0 v2004 (decide (v4018.core.kind=2)))) else (AX a0 v2004 false)) else (AX a0 v2004 false)))))
end Go.Proofs.Ytgigfdghecdlgaa.Ab
