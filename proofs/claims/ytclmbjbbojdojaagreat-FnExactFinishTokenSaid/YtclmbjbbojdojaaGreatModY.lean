/-
  Models of the functions. Printed by wip/ab/gen.py.
-/
import Derived.Test.YtclmbjbbojdojaaGreatModU
import Derived.Test.YtclmbjbbojdojaaGreatModW
namespace Go.Proofs.YtclmbjbbojdojaaGreat.Ab
set_option linter.unusedVariables false
set_option linter.unusedSimpArgs false
set_option maxRecDepth 20000
set_option maxHeartbeats 4000000
open Go.RowKit
def HH (a0:List Int):Option ((List Int)):=
 ((Es [] a0).bind fun v2002=>(some v2002))
def As:Nat→(List ShardCell)→Int→(ShardCell→Option Bool)→Option (Int)
 |0,_,_,_=>none
 |n+1,a0,p0_0,f1=>(if (decide (p0_0<(a0.length:Int)))=true then ((at? a0 p0_0).bind fun v5003=>((f1 v5003).bind fun v5005=>(if v5005=true then (some p0_0) else (As n a0 (IntKind.i64.wrap (p0_0+1)) f1)))) else (some (-1)))
def EE (a0:List ShardCell) (f1:(ShardCell→Option Bool)):Option (Int):=
 (As fuel a0 0 f1)
def CI (a0:List ShardCell) (f1:(ShardCell→Option Bool)):Option (Bool):=
 ((EE a0 f1).bind fun v2002=>(some (decide (0≤v2002))))
def Dr:Nat→(List Int)→(List Int)→Int→Option (Bool)
 |0,_,_,_=>none
 |n+1,a0,a1,p0_0=>(if (decide (p0_0<(a0.length:Int)))=true then ((at? a0 p0_0).bind fun v7002=>((at? a1 p0_0).bind fun v7006=>(if (!decide (v7002=v7006))=true then (some false) else (Dr n a0 a1 (IntKind.i64.wrap (p0_0+1)))))) else (some true))
def Gs (a0:List Int) (a1:List Int):Option (Bool):=
 (if (!decide ((a0.length:Int)=(a1.length:Int)))=true then (some false) else (Dr fuel a0 a1 0))
def Bn:Nat→(List Address)→(List Address)→Int→Option (Bool)
 |0,_,_,_=>none
 |n+1,a0,a1,p0_0=>(if (decide (p0_0<(a0.length:Int)))=true then ((at? a0 p0_0).bind fun v7002=>((at? a1 p0_0).bind fun v7006=>(if (!(decide (v7002.machine=v7006.machine)&&(decide (v7002.kind=v7006.kind)&&decide (v7002.index=v7006.index))))=true then (some false) else (Bn n a0 a1 (IntKind.i64.wrap (p0_0+1)))))) else (some true))
def DG (a0:List Address) (a1:List Address):Option (Bool):=
 (if (!decide ((a0.length:Int)=(a1.length:Int)))=true then (some false) else (Bn fuel a0 a1 0))
def Em (a0:ShardCell) (a1:ShardCell):Option (Bool):=
 (if (decide (a0.kind=a1.kind))=true then (if (decide (a0.level=a1.level))=true then (if (decide (a0.value=a1.value))=true then ((Gs a0.data a1.data).bind fun v2024=>(if v2024=true then ((DG a0.aux a1.aux).bind fun v2031=>(some v2031)) else (some false))) else (some false)) else (some false)) else (some false))
def CA (a0:List Int):Option ((List Int)):=
 ((Es [] a0).bind fun v4002=>(some v4002))
def IQ (a0:ShardCell):Option (Agent):=
 ((CA a0.data).bind fun v2008=>((rep? (IntKind.i64.wrap ((a0.aux.length:Int)+1)) (⟨0,0⟩:Port)).bind fun v2013=>(some (⟨a0.kind,a0.level,a0.value,v2008,v2013⟩:Agent))))
def EK (a0:ShardCell):Option (Bool):=
 (if (decide (a0.kind=0))=true then ((Em a0 (⟨0,0,0,[],[]⟩:ShardCell)).bind fun v3002=>(some v3002)) else (if (!decide (a0.kind=1))=true then ((IQ a0).bind fun v4005=>((ID v4005).bind fun v4006=>(some v4006))) else (some false)))
def IR (a0:ShardCell):Option (Bool):=
 ((EK a0).bind fun v2001=>(some (!v2001)))
def Aw:Nat→(List ShardVar)→Int→(ShardVar→Option Bool)→Option (Int)
 |0,_,_,_=>none
 |n+1,a0,p0_0,f1=>(if (decide (p0_0<(a0.length:Int)))=true then ((at? a0 p0_0).bind fun v5003=>((f1 v5003).bind fun v5005=>(if v5005=true then (some p0_0) else (Aw n a0 (IntKind.i64.wrap (p0_0+1)) f1)))) else (some (-1)))
def Ed (a0:List ShardVar) (f1:(ShardVar→Option Bool)):Option (Int):=
 (Aw fuel a0 0 f1)
def CP (a0:List ShardVar) (f1:(ShardVar→Option Bool)):Option (Bool):=
 ((Ed a0 f1).bind fun v2002=>(some (decide (0≤v2002))))
def HZ (a0:ShardVar):Option (Bool):=
 (if a0.used=true then (some true) else (if (!a0.full)=true then (some (decide (a0.held.machine=0)&&(decide (a0.held.kind=0)&&decide (a0.held.index=0)))) else (some false)))
def Gt (a0:ShardVar):Option (Bool):=
 ((HZ a0).bind fun v2001=>(if (!v2001)=true then (some true) else (if (!a0.full)=true then (some (!(decide (a0.held.machine=0)&&(decide (a0.held.kind=0)&&decide (a0.held.index=0))))) else (some false))))
def DE (a0:Shard) (p0_0:Bool):Option (Bool):=
 (if p0_0=true then (some false) else ((CI a0.cells (fun y0=>IR y0)).bind fun v4002=>(if (!v4002)=true then ((CP a0.vars (fun y0=>Gt y0)).bind fun v4007=>(some (!v4007))) else (some false))))
def IA (a0:Shard):Option (Bool):=
 (if (decide (400<(a0.cells.length:Int)))=true then (DE a0 true) else (if (decide (400<(a0.vars.length:Int)))=true then (DE a0 true) else (DE a0 (decide (400<(a0.redexes.length:Int))))))
end Go.Proofs.YtclmbjbbojdojaaGreat.Ab
