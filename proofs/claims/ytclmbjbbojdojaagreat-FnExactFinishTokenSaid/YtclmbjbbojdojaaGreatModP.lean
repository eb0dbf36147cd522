/-
  Models of the functions. Printed by wip/ab/gen.py.
-/
import Derived.Test.YtclmbjbbojdojaaGreatModG
namespace Go.Proofs.YtclmbjbbojdojaaGreat.Ab
set_option linter.unusedVariables false
set_option linter.unusedSimpArgs false
set_option maxRecDepth 20000
set_option maxHeartbeats 4000000
open Go.RowKit
def Lg (a0:Bool):Option (Int):=
 (if a0=true then (some 1) else (some 0))
def C8:Nat→(List Parcel)→Int→Int→Option (Int)
 |0,_,_,_=>none
 |n+1,a0,p0_0,p0_1=>(if (decide (p0_1<(a0.length:Int)))=true then ((at? a0 p0_1).bind fun v6003=>((Lg (decide (v6003.kind=4))).bind fun v6007=>(C8 n a0 (IntKind.i64.wrap (p0_0+v6007)) (IntKind.i64.wrap (p0_1+1))))) else (some p0_0))
def H8 (a0:List Parcel):Option (Int):=
 (C8 fuel a0 0 0)
end Go.Proofs.YtclmbjbbojdojaaGreat.Ab
