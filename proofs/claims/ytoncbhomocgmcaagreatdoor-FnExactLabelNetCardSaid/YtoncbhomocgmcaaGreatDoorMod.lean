/-
  Data of the program as Lean types; how they lie in memory. Printed by wip/ab/gen.py.
-/
import Derived.Test.YtoncbhomocgmcaaGreatDoorAbY
namespace Go.Proofs.YtoncbhomocgmcaaGreatDoor.Ab
set_option linter.unusedVariables false
set_option linter.unusedSimpArgs false
set_option maxRecDepth 20000
set_option maxHeartbeats 4000000
open Go.RowKit
def F5 (a0:List Int) (a1:Int):Option (Int):=
 (if (decide ((IntKind.i64.wrap (a1 - (a0.length:Int)))<0))=true then (some (-1)) else (some (IntKind.i64.wrap (a1 - (a0.length:Int)))))
def CM:Nat→(List Int)→(List Int)→Int→Option ((List Int))
 |0,_,_,_=>none
 |n+1,a0,p1_0,p1_1=>(if (decide (p1_1<(a0.length:Int)))=true then ((at? a0 p1_1).bind fun v6004=>((at? p1_0 p1_1).bind fun v6006=>((CL p1_0 p1_1 v6004).bind fun v6007_12=>(CM n a0 v6007_12 (IntKind.i64.wrap (p1_1+1)))))) else (some p1_0))
def F6 (a0:List Int):Option ((List Int)):=
 ((Qb (a0.length:Int) (0:Int)).bind fun v2002=>(CM fuel a0 v2002 0))
def BZ:Nat→(List Int)→(List Int)→Int→Option (Bool)
 |0,_,_,_=>none
 |n+1,a0,a1,p0_0=>(if (decide (p0_0<(a0.length:Int)))=true then ((at? a0 p0_0).bind fun v7002=>((at? a1 p0_0).bind fun v7006=>(if (!decide (v7002=v7006))=true then (some false) else (BZ n a0 a1 (IntKind.i64.wrap (p0_0+1)))))) else (some true))
def Dm (a0:List Int) (a1:List Int):Option (Bool):=
 (if (!decide ((a0.length:Int)=(a1.length:Int)))=true then (some false) else (BZ fuel a0 a1 0))
def Be:Nat→(List Int)→Int→Int→Option (Int × (List Int))
 |0,_,_,_=>none
 |n+1,p0_0,p0_1,p0_2=>(if (decide (p0_2<(p0_0.length:Int)))=true then ((at? p0_0 p0_2).bind fun v5003=>((CL p0_0 p0_2 p0_1).bind fun v5004_8=>(Be n v5004_8 (IntKind.i64.wrap (p0_1+1)) (IntKind.i64.wrap (p0_2+1))))) else (some (p0_1,p0_0)))
def DG (a0:List Int) (a1:Int):Option (Int × (List Int)):=
 (Be fuel a0 a1 0)
def Bf:Nat→(List Int)→Int→Int→Option (Int)
 |0,_,_,_=>none
 |n+1,a0,p0_0,p0_1=>(if (decide (p0_1<(a0.length:Int)))=true then ((at? a0 p0_1).bind fun v5002=>(if (!decide (v5002=p0_0))=true then (some (-1)) else (Bf n a0 (IntKind.i64.wrap (p0_0+1)) (IntKind.i64.wrap (p0_1+1))))) else (some p0_0))
def Du (a0:List Int) (a1:Int):Option (Int):=
 (Bf fuel a0 a1 0)
end Go.Proofs.YtoncbhomocgmcaaGreatDoor.Ab
