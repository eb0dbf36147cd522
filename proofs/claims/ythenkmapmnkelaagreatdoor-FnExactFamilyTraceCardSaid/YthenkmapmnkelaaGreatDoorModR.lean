/- Models of the functions. -/
import Derived.Test.YthenkmapmnkelaaGreatDoorModG
namespace Go.Proofs.YthenkmapmnkelaaGreatDoor.Ab
set_option linter.unusedVariables false
set_option linter.unusedSimpArgs false
set_option maxRecDepth 20000
set_option maxHeartbeats 4000000
open Go.RowKit
def Cs:Nat→(List Int)→Int→Option Bool
 |0,_,_=>none
 |n+1,u,v=>if decide (v<(u.length:Int)) then (at? u v).bind fun w=>(CU w 0 600).bind fun x=>if !x then some false else Cs n u (IntKind.i64.wrap (v+1)) else some true
def GV (u:List Int):Option Bool:=
 if decide (200<(u.length:Int)) then some false else Cs fuel u 0
def GW (u:Bool):Option Int:=
 if u then some 2 else some 0
def EY (u:List Int) (v:Int) (w:Bool):Option Int:=
 if w then some 1 else (GV u).bind fun x=>if !x then GW true else (CU v 0 4000).bind fun y=>GW (!y)
def JM (w:List Net) (x:Net) (u:List Int) (v:Int):Option Int:=
 (Kq w).bind fun y=>if !y then EY u v true else (Lf x).bind fun z=>EY u v (!z)
def Fv (u:Int):Option Bool:=
 if decide (u<0) then some true else some (decide (600<u))
def FU (u:List Int):Option Bool:=
 if decide ((u.length:Int)≤200) then (Bg u (fun v=>Fv v)).bind fun w=>some (!w) else some false
def Ik (u:List Net) (v:Net):Option Unit:=
 (Fk u v).bind fun w=>(Pm 7 (0:Int)).bind fun x=>some ()
def Dz (u:List Net) (v:Net) (w:Bool):Option Int:=
 if w then some 2 else (Ik u v).bind fun x=>some 0
def Dy (u:List Net) (v:Net) (x:List Int) (w:Int) (y:Bool):Option Int:=
 if y then some 1 else (FU x).bind fun z=>if !z then Dz u v true else if decide (w<0) then Dz u v true else Dz u v (decide (4000<w))
def ID (u:List Net) (v:Net) (w:List Int) (x:Int):Option Int:=
 (Ey u).bind fun y=>if !y then Dy u v w x true else (EA v).bind fun z=>Dy u v w x (!z)
end Go.Proofs.YthenkmapmnkelaaGreatDoor.Ab
