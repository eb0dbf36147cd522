/- Data of the program as Lean types. -/
import Derived.Test.YthenkmapmnkelaaGreatDoorAbY
namespace Go.Proofs.YthenkmapmnkelaaGreatDoor.Ab
set_option linter.unusedVariables false
set_option linter.unusedSimpArgs false
set_option maxRecDepth 20000
set_option maxHeartbeats 4000000
open Go.RowKit
def JP (u:List Int) (v:Int):Option Int:=
 if decide ((IntKind.i64.wrap (v - (u.length:Int)))<0) then some (-1) else some (IntKind.i64.wrap (v - (u.length:Int)))
def Di:Nat→(List Int)→(List Int)→Int→Option ((List Int))
 |0,_,_,_=>none
 |n+1,v,w,u=>if decide (u<(v.length:Int)) then (at? v u).bind fun x=>(at? w u).bind fun y=>(Br w u x).bind fun v6007_12=>Di n v v6007_12 (IntKind.i64.wrap (u+1)) else some w
def Ea (u:List Int):Option ((List Int)):=
 (Pm (u.length:Int) (0:Int)).bind fun v=>Di fuel u v 0
def Eb:Nat→(List Int)→(List Int)→Int→Option Bool
 |0,_,_,_=>none
 |n+1,v,w,u=>if decide (u<(v.length:Int)) then (at? v u).bind fun x=>(at? w u).bind fun y=>if !decide (x=y) then some false else Eb n v w (IntKind.i64.wrap (u+1)) else some true
def D0 (u:List Int) (v:List Int):Option Bool:=
 if !decide ((u.length:Int)=(v.length:Int)) then some false else Eb fuel u v 0
def Cf:Nat→(List Int)→Int→Int→Option (Int × (List Int))
 |0,_,_,_=>none
 |n+1,u,w,v=>if decide (v<(u.length:Int)) then (at? u v).bind fun x=>(Br u v w).bind fun v5004_8=>Cf n v5004_8 (IntKind.i64.wrap (w+1)) (IntKind.i64.wrap (v+1)) else some (w,u)
def Da (u:List Int) (v:Int):Option (Int × (List Int)):=
 Cf fuel u v 0
def Cg:Nat→(List Int)→Int→Int→Option Int
 |0,_,_,_=>none
 |n+1,u,v,w=>if decide (w<(u.length:Int)) then (at? u w).bind fun x=>if !decide (x=v) then some (-1) else Cg n u (IntKind.i64.wrap (v+1)) (IntKind.i64.wrap (w+1)) else some v
def FC (u:List Int) (v:Int):Option Int:=
 Cg fuel u v 0
end Go.Proofs.YthenkmapmnkelaaGreatDoor.Ab
