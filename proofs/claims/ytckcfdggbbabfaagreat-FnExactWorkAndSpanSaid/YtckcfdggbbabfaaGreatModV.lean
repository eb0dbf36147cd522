/-
  Models of the functions. Printed by wip/ab/gen.py.
-/
import Derived.Test.YtckcfdggbbabfaaGreatModS
namespace Go.Proofs.YtckcfdggbbabfaaGreat.Ab
set_option linter.unusedVariables false
set_option linter.unusedSimpArgs false
set_option maxRecDepth 20000
set_option maxHeartbeats 4000000
open Go.RowKit
def GN (a0:Int):Option (Bool):=
 (if (decide (a0<0))=true then (some true) else (some (decide (1000000000<a0))))
def GF (a0:List Int):Option (Bool):=
 (if (decide (((List.length a0:Nat):Int)=7))=true then (Option.bind (BK a0 (fun y0=>GN y0)) fun v2005=>(some (!v2005))) else (some false))
def Co:Nat→(List Int)→Int→Int→Option (Int)
 |0,_,_,_=>none
 |n+1,a0,p0_0,p0_1=>(if (decide (p0_1<((List.length a0:Nat):Int)))=true then (Option.bind (at? a0 p0_1) fun v7000=>(Co n a0 (IntKind.i64.wrap (p0_0+v7000)) (IntKind.i64.wrap (p0_1+1)))) else (some p0_0))
def GG (a0:List Int):Option (Int):=
 (Option.bind (GF a0) fun v2001=>(if (!v2001)=true then (some 0) else (Co fuel a0 0 0)))
def CD:Nat→((List (List Int)) × Int)→(List Int)→Int→Option ((List Int) × Int)
 |0,_,_,_=>none
 |n+1,v2003,p1_0,p1_1=>(if (decide (p1_1<((List.length v2003.1 :Nat):Int)))=true then (Option.bind (at? v2003.1 p1_1) fun v6000=>(Option.bind (GG v6000) fun v7002=>(Option.bind (app? p1_0 [v7002]) fun v7004=>(CD n v2003 v7004 (IntKind.i64.wrap (p1_1+1)))))) else (some (p1_0,v2003.2)))
def EA (a0:List Net) (a1:Net) (a2:Int):Option ((List Int) × Int):=
 (Option.bind (HZ a0 a1 a2) fun v2003=>(CD fuel v2003 [] 0))
end Go.Proofs.YtckcfdggbbabfaaGreat.Ab
