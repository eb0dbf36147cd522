/-
  Models of the functions. Printed by wip/ab/gen.py.
-/
import Derived.Test.YtijdanbelnmmlaaMod
namespace Go.Proofs.Ytijdanbelnmmlaa.Ab
set_option linter.unusedVariables false
set_option linter.unusedSimpArgs false
set_option maxRecDepth 20000
set_option maxHeartbeats 4000000
open Go.RowKit
def Bj:Nat→(List Int)→Int→Int→Option (Int × (List Int))
 |0,_,_,_=>none
 |n+1,p0_0,p0_1,p0_2=>(if (decide (p0_2<((List.length p0_0:Nat):Int)))=true then (Option.bind (at? p0_0 p0_2) fun v5003=>(Option.bind (Fq p0_0 p0_2 p0_1) fun v5004_8=>(Bj n v5004_8 (IntKind.i64.wrap (p0_1+1)) (IntKind.i64.wrap (p0_2+1))))) else (some (p0_1,p0_0)))
def EO (a0:List Int) (a1:Int):Option (Int × (List Int)):=
 (Bj fuel a0 a1 0)
mutual
def Cl:Nat→(List Core)→Int→Option (Int × (List Core))
 |0,_,_=>none
 |n+1,a0,a1=>(Bw n a0 a1 0)
def Bw:Nat→(List Core)→Int→Int→Option (Int × (List Core))
 |0,_,_,_=>none
 |n+1,p0_0,p0_1,p0_2=>(if (decide (p0_2<((List.length p0_0:Nat):Int)))=true then (Option.bind (at? p0_0 p0_2) fun v5003=>(Option.bind (Fq p0_0 p0_2 (⟨p0_1,v5003.value,v5003.data,v5003.kids⟩:Core)) fun v5005_36=>(Option.bind (at? v5005_36 p0_2) fun v7003=>(Option.bind (Fq v5005_36 p0_2 (⟨v7003.kind,(IntKind.i64.wrap (p0_1+1)),v7003.data,v7003.kids⟩:Core)) fun v7005_37=>(Option.bind (at? v7005_37 p0_2) fun v9002=>(Option.bind (EO v9002.data (IntKind.i64.wrap ((IntKind.i64.wrap (p0_1+1))+1))) fun v9006=>(Option.bind (Fq v7005_37 p0_2 (⟨v9002.kind,v9002.value,v9006.2,v9002.kids⟩:Core)) fun v9006_39=>(Option.bind (at? v9006_39 p0_2) fun v10002=>(Option.bind (Cl n v10002.kids v9006.1) fun v10006=>(Option.bind (Fq v9006_39 p0_2 (⟨v10002.kind,v10002.value,v10002.data,v10006.2⟩:Core)) fun v10006_40=>(Bw n v10006_40 v10006.1 (IntKind.i64.wrap (p0_2+1))))))))))))) else (some (p0_1,p0_0)))
end
def EZ (a0:Book) (a1:Int):Option (Int × (List Core)):=
 (Option.bind (Cl fuel a0.defs a1) fun v2003=>(some (v2003.1,v2003.2)))
def Bk:Nat→(List Int)→Int→Int→Option (Int)
 |0,_,_,_=>none
 |n+1,a0,p0_0,p0_1=>(if (decide (p0_1<((List.length a0:Nat):Int)))=true then (Option.bind (at? a0 p0_1) fun v5002=>(if (!decide (v5002=p0_0))=true then (some (-1)) else (Bk n a0 (IntKind.i64.wrap (p0_0+1)) (IntKind.i64.wrap (p0_1+1))))) else (some p0_0))
def EP (a0:List Int) (a1:Int):Option (Int):=
 (Bk fuel a0 a1 0)
mutual
def CG:Nat→(List Core)→Int→Option (Int)
 |0,_,_=>none
 |n+1,a0,a1=>(Bx n a0 a1 0)
def Bx:Nat→(List Core)→Int→Int→Option (Int)
 |0,_,_,_=>none
 |n+1,a0,p0_0,p0_1=>(if (decide (p0_1<((List.length a0:Nat):Int)))=true then (Option.bind (at? a0 p0_1) fun v5002=>(if (!decide (v5002.kind=p0_0))=true then (some (-1)) else (Option.bind (at? a0 p0_1) fun v8002=>(if (!decide (v8002.value=(IntKind.i64.wrap (p0_0+1))))=true then (some (-1)) else (Option.bind (at? a0 p0_1) fun v11002=>(Option.bind (EP v11002.data (IntKind.i64.wrap ((IntKind.i64.wrap (p0_0+1))+1))) fun v11006=>(if (decide (v11006<0))=true then (some (-1)) else (Option.bind (at? a0 p0_1) fun v14002=>(Option.bind (CG n v14002.kids v11006) fun v14006=>(if (decide (v14006<0))=true then (some (-1)) else (Bx n a0 v14006 (IntKind.i64.wrap (p0_1+1))))))))))))) else (some p0_0))
end
def Dx (a0:Book) (a1:Int):Option (Int):=
 (Option.bind (CG fuel a0.defs a1) fun v2003=>(if (decide (v2003<0))=true then (some (-1)) else (some v2003)))
end Go.Proofs.Ytijdanbelnmmlaa.Ab
