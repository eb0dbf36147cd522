/-
  Data of the program as Lean types; how they lie in memory. Printed by wip/ab/gen.py.
-/
import Derived.Test.YtclmbjbbojdojaaGreatAbY
namespace Go.Proofs.YtclmbjbbojdojaaGreat.Ab
set_option linter.unusedVariables false
set_option linter.unusedSimpArgs false
set_option maxRecDepth 20000
set_option maxHeartbeats 4000000
open Go.RowKit
def E3 (a0:List Int) (a1:Int):Option (Int):=
 (if (decide ((IntKind.i64.wrap (a1 - (a0.length:Int)))<0))=true then (some (-1)) else (some (IntKind.i64.wrap (a1 - (a0.length:Int)))))
def De:Nat→(List Int)→(List Int)→Int→Option ((List Int))
 |0,_,_,_=>none
 |n+1,a0,p1_0,p1_1=>(if (decide (p1_1<(a0.length:Int)))=true then ((at? a0 p1_1).bind fun v6004=>((at? p1_0 p1_1).bind fun v6006=>((Hc p1_0 p1_1 v6004).bind fun v6007_12=>(De n a0 v6007_12 (IntKind.i64.wrap (p1_1+1)))))) else (some p1_0))
def E4 (a0:List Int):Option ((List Int)):=
 ((rep? (a0.length:Int) (0:Int)).bind fun v2002=>(De fuel a0 v2002 0))
def EU:Nat→(List Int)→(List Int)→Int→Option (Bool)
 |0,_,_,_=>none
 |n+1,a0,a1,p0_0=>(if (decide (p0_0<(a0.length:Int)))=true then ((at? a0 p0_0).bind fun v7002=>((at? a1 p0_0).bind fun v7006=>(if (!decide (v7002=v7006))=true then (some false) else (EU n a0 a1 (IntKind.i64.wrap (p0_0+1)))))) else (some true))
def E5 (a0:List Int) (a1:List Int):Option (Bool):=
 (if (!decide ((a0.length:Int)=(a1.length:Int)))=true then (some false) else (EU fuel a0 a1 0))
end Go.Proofs.YtclmbjbbojdojaaGreat.Ab
