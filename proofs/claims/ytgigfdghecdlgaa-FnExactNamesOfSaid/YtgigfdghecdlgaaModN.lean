/-
  Models of the functions. Printed by wip/ab/gen.py.
-/
import Derived.Test.YtgigfdghecdlgaaModS
namespace Go.Proofs.Ytgigfdghecdlgaa.Ab
set_option linter.unusedVariables false
set_option linter.unusedSimpArgs false
set_option maxRecDepth 20000
set_option maxHeartbeats 4000000
open Go.RowKit
def E6 (a0:List Int) (a1:Int):Option (Int):=
 (if (decide ((IntKind.i64.wrap (a1 - ((List.length a0:Nat):Int)))<0))=true then (some (-1)) else (some (IntKind.i64.wrap (a1 - ((List.length a0:Nat):Int)))))
mutual
def Ed:Nat→(List Core)→Int→Option (Int)
 |0,_,_=>none
 |n+1,a0,a1=>(if (decide ((IntKind.i64.wrap (a1 - ((List.length a0:Nat):Int)))<0))=true then (some (-1)) else (B8 n a0 (IntKind.i64.wrap (a1 - ((List.length a0:Nat):Int))) 0))
def B8:Nat→(List Core)→Int→Int→Option (Int)
 |0,_,_,_=>none
 |n+1,a0,p0_0,p0_1=>(if (decide (p0_1<((List.length a0:Nat):Int)))=true then (Option.bind (at? a0 p0_1) fun v8002=>(Option.bind (Dl n v8002 p0_0) fun v8005=>(if (decide (v8005<0))=true then (some (-1)) else (B8 n a0 v8005 (IntKind.i64.wrap (p0_1+1)))))) else (some p0_0))
def Dl:Nat→Core→Int→Option (Int)
 |0,_,_=>none
 |n+1,a0,a1=>(Option.bind (E6 a0.data a1) fun v2003=>(if (decide (v2003<0))=true then (some (-1)) else (Option.bind (Ed n a0.kids v2003) fun v5003=>(if (decide (v5003<0))=true then (some (-1)) else (some v5003)))))
end
def BS:Nat→(List ByteArray)→Int→Int→Option (Int)
 |0,_,_,_=>none
 |n+1,a0,p0_0,p0_1=>(if (decide (p0_1<((List.length a0:Nat):Int)))=true then (Option.bind (at? a0 p0_1) fun v8003=>(if (decide ((IntKind.i64.wrap (p0_0 - ((ByteArray.size v8003:Nat):Int)))<0))=true then (some (-1)) else (BS n a0 (IntKind.i64.wrap (p0_0 - ((ByteArray.size v8003:Nat):Int))) (IntKind.i64.wrap (p0_1+1))))) else (some p0_0))
def EK (a0:List ByteArray) (a1:Int):Option (Int):=
 (if (decide ((IntKind.i64.wrap (a1 - ((List.length a0:Nat):Int)))<0))=true then (some (-1)) else (BS fuel a0 (IntKind.i64.wrap (a1 - ((List.length a0:Nat):Int))) 0))
def Dm (a0:Labelled) (a1:Int):Option (Int):=
 (Option.bind (Dl fuel a0.term a1) fun v2003=>(if (decide (v2003<0))=true then (some (-1)) else (Option.bind (EK a0.labels v2003) fun v5003=>(if (decide (v5003<0))=true then (some (-1)) else (some v5003)))))
def Bn:Nat→(List Int)→(List Int)→Int→Option ((List Int))
 |0,_,_,_=>none
 |n+1,a0,p1_0,p1_1=>(if (decide (p1_1<((List.length a0:Nat):Int)))=true then (Option.bind (at? a0 p1_1) fun v6004=>(Option.bind (at? p1_0 p1_1) fun v6006=>(Option.bind (FO p1_0 p1_1 v6004) fun v6007_12=>(Bn n a0 v6007_12 (IntKind.i64.wrap (p1_1+1)))))) else (some p1_0))
def E7 (a0:List Int):Option ((List Int)):=
 (Option.bind (PI ((List.length a0:Nat):Int) (0:Int)) fun v2002=>(Bn fuel a0 v2002 0))
mutual
def Ee:Nat→(List Core)→Option ((List Core))
 |0,_=>none
 |n+1,a0=>(Option.bind (PI ((List.length a0:Nat):Int) (⟨0,0,[],[]⟩:Core)) fun v2002=>(B9 n a0 v2002 0))
def B9:Nat→(List Core)→(List Core)→Int→Option ((List Core))
 |0,_,_,_=>none
 |n+1,a0,p1_0,p1_1=>(if (decide (p1_1<((List.length a0:Nat):Int)))=true then (Option.bind (at? a0 p1_1) fun v6004=>(Option.bind (DE n v6004) fun v6006=>(Option.bind (at? p1_0 p1_1) fun v6007=>(Option.bind (FO p1_0 p1_1 v6006) fun v6008_12=>(B9 n a0 v6008_12 (IntKind.i64.wrap (p1_1+1))))))) else (some p1_0))
def DE:Nat→Core→Option (Core)
 |0,_=>none
 |n+1,a0=>(Option.bind (E7 a0.data) fun v5002=>(Option.bind (Ee n a0.kids) fun v6002=>(some (⟨a0.kind,a0.value,v5002,v6002⟩:Core))))
end
def BT:Nat→(List ByteArray)→(List ByteArray)→Int→Option ((List ByteArray))
 |0,_,_,_=>none
 |n+1,a0,p1_0,p1_1=>(if (decide (p1_1<((List.length a0:Nat):Int)))=true then (Option.bind (at? a0 p1_1) fun v6004=>(Option.bind (at? p1_0 p1_1) fun v6006=>(Option.bind (FO p1_0 p1_1 v6004) fun v6007_12=>(BT n a0 v6007_12 (IntKind.i64.wrap (p1_1+1)))))) else (some p1_0))
def EL (a0:List ByteArray):Option ((List ByteArray)):=
 (Option.bind (PI ((List.length a0:Nat):Int) ByteArray.empty) fun v2002=>(BT fuel a0 v2002 0))
def CA (a0:Labelled):Option (Labelled):=
 (Option.bind (DE fuel a0.term) fun v3002=>(Option.bind (EL a0.labels) fun v4002=>(some (⟨v3002,v4002⟩:Labelled))))
def BU:Nat→(List ByteArray)→(List ByteArray)→Int→Option (Bool)
 |0,_,_,_=>none
 |n+1,a0,a1,p0_0=>(if (decide (p0_0<((List.length a0:Nat):Int)))=true then (Option.bind (at? a0 p0_0) fun v7002=>(Option.bind (at? a1 p0_0) fun v7006=>(if (!ET v7002 v7006)=true then (some false) else (BU n a0 a1 (IntKind.i64.wrap (p0_0+1)))))) else (some true))
def CW (a0:List ByteArray) (a1:List ByteArray):Option (Bool):=
 (if (!decide (((List.length a0:Nat):Int)=((List.length a1:Nat):Int)))=true then (some false) else (BU fuel a0 a1 0))
def Bo:Nat→(List Int)→(List Int)→Int→Option (Bool)
 |0,_,_,_=>none
 |n+1,a0,a1,p0_0=>(if (decide (p0_0<((List.length a0:Nat):Int)))=true then (Option.bind (at? a0 p0_0) fun v7002=>(Option.bind (at? a1 p0_0) fun v7006=>(if (!decide (v7002=v7006))=true then (some false) else (Bo n a0 a1 (IntKind.i64.wrap (p0_0+1)))))) else (some true))
def E8 (a0:List Int) (a1:List Int):Option (Bool):=
 (if (!decide (((List.length a0:Nat):Int)=((List.length a1:Nat):Int)))=true then (some false) else (Bo fuel a0 a1 0))
mutual
def Ef:Nat→(List Core)→(List Core)→Option (Bool)
 |0,_,_=>none
 |n+1,a0,a1=>(if (!decide (((List.length a0:Nat):Int)=((List.length a1:Nat):Int)))=true then (some false) else (CB n a0 a1 0))
def CB:Nat→(List Core)→(List Core)→Int→Option (Bool)
 |0,_,_,_=>none
 |n+1,a0,a1,p0_0=>(if (decide (p0_0<((List.length a0:Nat):Int)))=true then (Option.bind (at? a0 p0_0) fun v7002=>(Option.bind (at? a1 p0_0) fun v7006=>(Option.bind (DF n v7002 v7006) fun v7008=>(if (!v7008)=true then (some false) else (CB n a0 a1 (IntKind.i64.wrap (p0_0+1))))))) else (some true))
def DF:Nat→Core→Core→Option (Bool)
 |0,_,_=>none
 |n+1,a0,a1=>(if (!decide (a0.kind=a1.kind))=true then (some false) else (if (!decide (a0.value=a1.value))=true then (some false) else (Option.bind (E8 a0.data a1.data) fun v6004=>(if (!v6004)=true then (some false) else (Option.bind (Ef n a0.kids a1.kids) fun v8004=>(if (!v8004)=true then (some false) else (some true)))))))
end
def Dn (a0:Labelled) (a1:Labelled):Option (Bool):=
 (Option.bind (DF fuel a0.term a1.term) fun v2004=>(if (!v2004)=true then (some false) else (Option.bind (CW a0.labels a1.labels) fun v4004=>(if (!v4004)=true then (some false) else (some true)))))
end Go.Proofs.Ytgigfdghecdlgaa.Ab
