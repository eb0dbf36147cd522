/-
  Models of the functions. Printed by wip/ab/gen.py.
-/
import Derived.Test.YtgigfdghecdlgaaModN
namespace Go.Proofs.Ytgigfdghecdlgaa.Ab
set_option linter.unusedVariables false
set_option linter.unusedSimpArgs false
set_option maxRecDepth 20000
set_option maxHeartbeats 4000000
open Go.RowKit
mutual
def CC:Nat→Core→Int→(List Int)→Option ((List Int) × Int)
 |0,_,_,_=>none
 |n+1,a0,a1,a2=>(Option.bind (Fj a0) fun v2001=>(if (!decide (v2001=0))=true then (Option.bind (K8 a2 [a1]) fun v3005=>(Bb n a0 a1 v3005)) else (Bb n a0 a1 a2)))
def Bb:Nat→Core→Int→(List Int)→Option ((List Int) × Int)
 |0,_,_,_=>none
 |n+1,a0,a1,p0_0=>(BI n a0 (IntKind.i64.wrap (a1+1)) p0_0 0)
def BI:Nat→Core→Int→(List Int)→Int→Option ((List Int) × Int)
 |0,_,_,_,_=>none
 |n+1,a0,p2_0,p2_1,p2_2=>(if (decide (p2_2<((List.length a0.kids:Nat):Int)))=true then (Option.bind (at? a0.kids p2_2) fun v8005=>(Option.bind (CC n v8005 p2_0 p2_1) fun v8008=>(BI n a0 v8008.2 v8008.1 (IntKind.i64.wrap (p2_2+1))))) else (some (p2_1,p2_0)))
end
def CD:Nat→Labelled→((List Int) × Int)→(List ByteArray)→Int→Option ((List ByteArray) × Int)
 |0,_,_,_,_=>none
 |n+1,a0,v5001,p1_0,p1_1=>(if (decide (p1_1<((List.length v5001.1 :Nat):Int)))=true then (Option.bind (at? v5001.1 p1_1) fun v10002=>(Option.bind (IU a0 v10002) fun v10004=>(Option.bind (Eg v10004.1) fun v11002=>(Option.bind (K8 p1_0 [v11002]) fun v11004=>(CD n a0 v5001 v11004 (IntKind.i64.wrap (p1_1+1))))))) else (some (p1_0,0)))
def Fk (a0:Labelled):Option ((List ByteArray) × Int):=
 (Option.bind (IT a0) fun v2000=>(if (!v2000)=true then (some ([],1)) else (Option.bind (CC fuel a0.term 0 []) fun v5001=>(CD fuel a0 v5001 [] 0))))
def CE:Nat→(List LabelNode)→(List ByteArray)→Int→Option ((List ByteArray) × Int)
 |0,_,_,_=>none
 |n+1,v5002,p1_0,p1_1=>(if (decide (p1_1<((List.length v5002:Nat):Int)))=true then (Option.bind (at? v5002 p1_1) fun v7000=>(Option.bind (Az v7000) fun v8002=>(Option.bind (K8 p1_0 [v8002]) fun v8004=>(CE n v5002 v8004 (IntKind.i64.wrap (p1_1+1)))))) else (some (p1_0,0)))
def Eh (a0:Labelled):Option ((List ByteArray) × Int):=
 (Option.bind (Ce a0) fun v2001=>(if (!v2001)=true then (some ([],1)) else (Option.bind (DI a0) fun v5001=>(Option.bind (Ao fuel v5001 []) fun v5002=>(CE fuel v5002 [] 0)))))
def BO:Nat→Int→ByteArray→Option (ByteArray)
 |0,_,_=>none
 |n+1,p0_0,p0_1=>(if (decide (0<p0_0))=true then (Option.bind (P3 [(IntKind.u8.wrap (IntKind.i64.wrap (48+(Int.tmod p0_0 10))))]) fun v6005=>(Option.bind (HU v6005 p0_1) fun v6007=>(BO n (IntKind.i64.wrap (Int.tdiv p0_0 10)) v6007))) else (Option.bind (HU (ByteArray.mk #[109]) p0_1) fun v8001=>(some v8001)))
def Cv (a0:Int):Option (ByteArray):=
 (if (decide (a0≤0))=true then (some (ByteArray.mk #[109,48])) else (BO fuel a0 (ByteArray.mk #[])))
def A8:Nat→(List ByteArray)→Int→Int→Option (Int × (List ByteArray))
 |0,_,_,_=>none
 |n+1,p0_0,p0_1,p0_2=>(if (decide (p0_2<((List.length p0_0:Nat):Int)))=true then (Option.bind (Cv p0_1) fun v5003=>(Option.bind (at? p0_0 p0_2) fun v5004=>(Option.bind (FO p0_0 p0_2 v5003) fun v5005_16=>(A8 n v5005_16 (IntKind.i64.wrap (p0_1+1)) (IntKind.i64.wrap (p0_2+1)))))) else (some (p0_1,p0_0)))
def Cj (a0:List ByteArray) (a1:Int):Option (Int × (List ByteArray)):=
 (A8 fuel a0 a1 0)
def BJ:Nat→(List Int)→Int→Int→Option (Int × (List Int))
 |0,_,_,_=>none
 |n+1,p0_0,p0_1,p0_2=>(if (decide (p0_2<((List.length p0_0:Nat):Int)))=true then (Option.bind (at? p0_0 p0_2) fun v5003=>(Option.bind (FO p0_0 p0_2 p0_1) fun v5004_8=>(BJ n v5004_8 (IntKind.i64.wrap (p0_1+1)) (IntKind.i64.wrap (p0_2+1))))) else (some (p0_1,p0_0)))
def C4 (a0:List Int) (a1:Int):Option (Int × (List Int)):=
 (BJ fuel a0 a1 0)
mutual
def CF:Nat→(List Core)→Int→Option (Int × (List Core))
 |0,_,_=>none
 |n+1,a0,a1=>(BV n a0 a1 0)
def BV:Nat→(List Core)→Int→Int→Option (Int × (List Core))
 |0,_,_,_=>none
 |n+1,p0_0,p0_1,p0_2=>(if (decide (p0_2<((List.length p0_0:Nat):Int)))=true then (Option.bind (at? p0_0 p0_2) fun v5003=>(Option.bind (FO p0_0 p0_2 (⟨p0_1,v5003.value,v5003.data,v5003.kids⟩:Core)) fun v5005_36=>(Option.bind (at? v5005_36 p0_2) fun v7003=>(Option.bind (FO v5005_36 p0_2 (⟨v7003.kind,(IntKind.i64.wrap (p0_1+1)),v7003.data,v7003.kids⟩:Core)) fun v7005_37=>(Option.bind (at? v7005_37 p0_2) fun v9002=>(Option.bind (C4 v9002.data (IntKind.i64.wrap ((IntKind.i64.wrap (p0_1+1))+1))) fun v9006=>(Option.bind (FO v7005_37 p0_2 (⟨v9002.kind,v9002.value,v9006.2,v9002.kids⟩:Core)) fun v9006_39=>(Option.bind (at? v9006_39 p0_2) fun v10002=>(Option.bind (CF n v10002.kids v9006.1) fun v10006=>(Option.bind (FO v9006_39 p0_2 (⟨v10002.kind,v10002.value,v10002.data,v10006.2⟩:Core)) fun v10006_40=>(BV n v10006_40 v10006.1 (IntKind.i64.wrap (p0_2+1))))))))))))) else (some (p0_1,p0_0)))
end
def E9 (a0:Core) (a1:Int):Option (Int × (List Int) × (List Core)):=
 (Option.bind (C4 a0.data a1) fun v2003=>(Option.bind (CF fuel a0.kids v2003.1) fun v3003=>(some (v3003.1,v2003.2,v3003.2))))
def Cw (a0:Labelled) (a1:Int):Option (Int × (List Int) × (List Core) × (List ByteArray)):=
 (Option.bind (E9 a0.term a1) fun v2003=>(Option.bind (Cj a0.labels v2003.1) fun v3003=>(some (v3003.1,v2003.2.1,v2003.2.2,v3003.2))))
def A9:Nat→(List ByteArray)→Int→Int→Option (Int)
 |0,_,_,_=>none
 |n+1,a0,p0_0,p0_1=>(if (decide (p0_1<((List.length a0:Nat):Int)))=true then (Option.bind (at? a0 p0_1) fun v5002=>(Option.bind (Cv p0_0) fun v5005=>(if (!ET v5002 v5005)=true then (some (-1)) else (A9 n a0 (IntKind.i64.wrap (p0_0+1)) (IntKind.i64.wrap (p0_1+1)))))) else (some p0_0))
def Ck (a0:List ByteArray) (a1:Int):Option (Int):=
 (A9 fuel a0 a1 0)
def Bd (v18002:Int × (List ByteArray)) (p2_0:Bool):Option (Bool):=
 (if p2_0=true then (some false) else (Option.bind (Ck v18002.2 1) fun v29002=>(if (decide (v29002<0))=true then (some false) else (if (!decide (v29002=v18002.1))=true then (some false) else (some true)))))
def BG (a0:Labelled) (v6002:(List ByteArray) × Int) (v8001:(List ByteArray) × Int) (p1_0:Bool):Option (Bool):=
 (if p1_0=true then (some false) else (Option.bind (Cj v8001.1 1) fun v18002=>(Option.bind (Ck v18002.2 1) fun v20002=>(if (decide (v20002<0))=true then (some false) else (if (!decide (v20002=v18002.1))=true then (some false) else (Option.bind (CA a0) fun v25001=>(Option.bind (Eh v25001) fun v25002=>(Option.bind (CW v25002.1 v6002.1) fun v26002=>(if (!v26002)=true then (Bd v18002 true) else (Bd v18002 (!decide (v25002.2 =v6002.2))))))))))))
def Be (a0:Labelled) (v6002:(List ByteArray) × Int) (v7001:Labelled) (v8001:(List ByteArray) × Int) (p0_0:Bool):Option (Bool):=
 (if p0_0=true then (some false) else (Option.bind (CA a0) fun v11002=>(Option.bind (Dn v7001 v11002) fun v11003=>(if (!v11003)=true then (some false) else (Option.bind (Cw v7001 1) fun v14002=>(if (decide (v14002.1 <0))=true then (BG a0 v6002 v8001 true) else (Option.bind (CW v8001.1 v6002.1) fun v15005=>(if (!v15005)=true then (BG a0 v6002 v8001 true) else (BG a0 v6002 v8001 (!decide (v8001.2 =v6002.2)))))))))))
def C5 (a0:Labelled):Option (Bool):=
 (Option.bind (Dm a0 1048576) fun v3002=>(if (decide (v3002<0))=true then (some true) else (Option.bind (CA a0) fun v6001=>(Option.bind (Fk v6001) fun v6002=>(Option.bind (CA a0) fun v7001=>(Option.bind (Eh v7001) fun v8001=>(Option.bind (CW v8001.1 v6002.1) fun v9002=>(if (!v9002)=true then (Be a0 v6002 v7001 v8001 true) else (Be a0 v6002 v7001 v8001 (!decide (v8001.2 =v6002.2)))))))))))
end Go.Proofs.Ytgigfdghecdlgaa.Ab
