/- Models of strconv. -/
import Derived.Test.YthenkmapmnkelaaGreatDoorAbY
import Derived.Lib.ItoaLen
import Derived.Lib.Join
import Derived.Test.YthenkmapmnkelaaGreatDoorMod
namespace Go.Proofs.YthenkmapmnkelaaGreatDoor.Ab
set_option linter.unusedVariables false
open Go.RowKit
def Kp (n:Int):ByteArray:=⟨(Lib.itoa n).toArray⟩
def Mm (n base:Int):Option ByteArray:=if base=10 then some (Kp n) else none
set_option linter.unusedSimpArgs false
set_option maxRecDepth 20000
set_option maxHeartbeats 4000000
def Hx (u:Int):Option ByteArray:=
 (Mm u 10).bind fun v=>some v
def Eg:Nat→(List Int)→(List Int)→Int→Option ByteArray
 |0,_,_,_=>none
 |n+1,v,w,u=>if decide (0≤u) then (at? v u).bind fun x=>(app? w [x]).bind fun y=>Eg n v y (IntKind.i64.wrap (u - 1)) else (WF w).bind fun z=>some z
def Gb (u:List Int):Option ByteArray:=
 Eg fuel u [] (IntKind.i64.wrap ((u.length:Int) - 1))
def C3 (v:Int) (u:List Int):Option ByteArray:=
 if decide (v<0) then (app? u [45]).bind fun w=>Gb w else Gb u
mutual
def De:Nat→Int→(List Int)→Int→Option ByteArray
 |0,_,_,_=>none
 |n+1,v,w,u=>if !decide (u=0) then if decide ((Int.tmod u 10)<0) then FG n v w u (IntKind.i64.wrap (0 - (Int.tmod u 10))) else FG n v w u (Int.tmod u 10) else if decide (v=0) then (app? w [48]).bind fun x=>C3 v x else C3 v w
def FG:Nat→Int→(List Int)→Int→Int→Option ByteArray
 |0,_,_,_,_=>none
 |n+1,u,v,w,x=>(app? v [(IntKind.u8.wrap (IntKind.i64.wrap (48+x)))]).bind fun y=>De n u y (IntKind.i64.wrap (Int.tdiv w 10))
end
def Hz (u:Int):Option ByteArray:=
 De fuel u [] u
end Go.Proofs.YthenkmapmnkelaaGreatDoor.Ab
