/- Models of strconv. -/
import Derived.Test.YtjnifengdhcojaaGreatDoorAbY
import Derived.Lib.ItoaLen
import Derived.Lib.Join
import Derived.Test.YtjnifengdhcojaaGreatDoorMod
namespace Go.Proofs.YtjnifengdhcojaaGreatDoor.Ab
set_option linter.unusedVariables false
open Go.RowKit
def Kq (n:Int):ByteArray:=⟨(Lib.itoa n).toArray⟩
def Mi (n base:Int):Option ByteArray:=if base=10 then some (Kq n) else none
set_option linter.unusedSimpArgs false
set_option maxRecDepth 20000
set_option maxHeartbeats 4000000
def Hw (u:Int):Option ByteArray:=
 (Mi u 10).bind fun v=>some v
def EL:Nat→(List Int)→(List Int)→Int→Option ByteArray
 |0,_,_,_=>none
 |n+1,v,w,u=>if decide (0≤u) then (at? v u).bind fun x=>(app? w [x]).bind fun y=>EL n v y (IntKind.i64.wrap (u - 1)) else (W6 w).bind fun z=>some z
def GR (u:List Int):Option ByteArray:=
 EL fuel u [] (IntKind.i64.wrap ((u.length:Int) - 1))
def CW (v:Int) (u:List Int):Option ByteArray:=
 if decide (v<0) then (app? u [45]).bind fun w=>GR w else GR u
mutual
def C4:Nat→Int→(List Int)→Int→Option ByteArray
 |0,_,_,_=>none
 |n+1,v,w,u=>if !decide (u=0) then if decide ((Int.tmod u 10)<0) then E4 n v w u (IntKind.i64.wrap (0 - (Int.tmod u 10))) else E4 n v w u (Int.tmod u 10) else if decide (v=0) then (app? w [48]).bind fun x=>CW v x else CW v w
def E4:Nat→Int→(List Int)→Int→Int→Option ByteArray
 |0,_,_,_,_=>none
 |n+1,u,v,w,x=>(app? v [(IntKind.u8.wrap (IntKind.i64.wrap (48+x)))]).bind fun y=>C4 n u y (IntKind.i64.wrap (Int.tdiv w 10))
end
def H0 (u:Int):Option ByteArray:=
 C4 fuel u [] u
end Go.Proofs.YtjnifengdhcojaaGreatDoor.Ab
