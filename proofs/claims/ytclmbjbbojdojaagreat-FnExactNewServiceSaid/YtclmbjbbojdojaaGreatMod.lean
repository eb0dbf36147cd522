/-
  Data of the program as Lean types; how they lie in memory. Printed by wip/ab/gen.py.
-/
import Derived.Test.YtclmbjbbojdojaaGreatAbY
namespace Go.Proofs.YtclmbjbbojdojaaGreat.Ab
set_option linter.unusedVariables false
set_option linter.unusedSimpArgs false
set_option maxRecDepth 20000
set_option maxHeartbeats 4000000
open Go.RowKit
end Go.Proofs.YtclmbjbbojdojaaGreat.Ab
namespace Go.Proofs.YtclmbjbbojdojaaGreat.Ab
set_option linter.unusedVariables false
set_option linter.unusedSimpArgs false
set_option maxRecDepth 20000
set_option maxHeartbeats 4000000
open Go.RowKit
def Ho (a0:List Int) (a1:Int):Option (Int):=
 (if (decide ((IntKind.i64.wrap (a1 - ((List.length a0:Nat):Int)))<0))=true then (some (-1)) else (some (IntKind.i64.wrap (a1 - ((List.length a0:Nat):Int)))))
def C9:Nat→(List Int)→(List Int)→Int→Option ((List Int))
 |0,_,_,_=>none
 |n+1,a0,p1_0,p1_1=>(if (decide (p1_1<((List.length a0:Nat):Int)))=true then (Option.bind (at? a0 p1_1) fun v6004=>(Option.bind (at? p1_0 p1_1) fun v6006=>(Option.bind (Ah p1_0 p1_1 v6004) fun v6007_12=>(C9 n a0 v6007_12 (IntKind.i64.wrap (p1_1+1)))))) else (some p1_0))
def Dl (a0:List Int):Option ((List Int)):=
 (Option.bind (rep? ((List.length a0:Nat):Int) (0:Int)) fun v2002=>(C9 fuel a0 v2002 0))
def Dm:Nat→(List Int)→(List Int)→Int→Option (Bool)
 |0,_,_,_=>none
 |n+1,a0,a1,p0_0=>(if (decide (p0_0<((List.length a0:Nat):Int)))=true then (Option.bind (at? a0 p0_0) fun v7002=>(Option.bind (at? a1 p0_0) fun v7006=>(if (!decide (v7002=v7006))=true then (some false) else (Dm n a0 a1 (IntKind.i64.wrap (p0_0+1)))))) else (some true))
def Cs (a0:List Int) (a1:List Int):Option (Bool):=
 (if (!decide (((List.length a0:Nat):Int)=((List.length a1:Nat):Int)))=true then (some false) else (Dm fuel a0 a1 0))
def CI:Nat→(List Int)→Int→Int→Option (Int × (List Int))
 |0,_,_,_=>none
 |n+1,p0_0,p0_1,p0_2=>(if (decide (p0_2<((List.length p0_0:Nat):Int)))=true then (Option.bind (at? p0_0 p0_2) fun v5003=>(Option.bind (Ah p0_0 p0_2 p0_1) fun v5004_8=>(CI n v5004_8 (IntKind.i64.wrap (p0_1+1)) (IntKind.i64.wrap (p0_2+1))))) else (some (p0_1,p0_0)))
def Bp (a0:List Int) (a1:Int):Option (Int × (List Int)):=
 (CI fuel a0 a1 0)
def CJ:Nat→(List Int)→Int→Int→Option (Int)
 |0,_,_,_=>none
 |n+1,a0,p0_0,p0_1=>(if (decide (p0_1<((List.length a0:Nat):Int)))=true then (Option.bind (at? a0 p0_1) fun v5002=>(if (!decide (v5002=p0_0))=true then (some (-1)) else (CJ n a0 (IntKind.i64.wrap (p0_0+1)) (IntKind.i64.wrap (p0_1+1))))) else (some p0_0))
def C5 (a0:List Int) (a1:Int):Option (Int):=
 (CJ fuel a0 a1 0)
end Go.Proofs.YtclmbjbbojdojaaGreat.Ab
