/-
  Models of the functions. Printed by wip/ab/gen.py.
-/
import Derived.Test.YtckcfdggbbabfaaGreatModS
namespace Go.Proofs.YtckcfdggbbabfaaGreat.Ab
set_option linter.unusedVariables false
set_option linter.unusedSimpArgs false
set_option maxRecDepth 20000
set_option maxHeartbeats 4000000
open Go.RowKit
def Cd:Nat→(List Int)→(List Int)→Int→Option ((List Int))
 |0,_,_,_=>none
 |n+1,a0,p1_0,p1_1=>(if (decide (p1_1<((List.length a0:Nat):Int)))=true then (Option.bind (at? a0 p1_1) fun v6003=>(Option.bind (at? p1_0 (IntKind.i64.wrap (v6003 - 1))) fun v6006=>(Option.bind (at? p1_0 (IntKind.i64.wrap (v6003 - 1))) fun v6009=>(Option.bind (CF p1_0 (IntKind.i64.wrap (v6003 - 1)) (IntKind.i64.wrap (v6006+1))) fun v6010_12=>(Cd n a0 v6010_12 (IntKind.i64.wrap (p1_1+1))))))) else (some p1_0))
def IU (a0:List Int):Option ((List Int)):=
 (Cd fuel a0 [0,0,0,0,0,0,0] 0)
def Ba:Nat→((List (List Int)) × Int)→(List (List Int))→Int→Option ((List (List Int)) × Int)
 |0,_,_,_=>none
 |n+1,v2002,p1_0,p1_1=>(if (decide (p1_1<((List.length v2002.1 :Nat):Int)))=true then (Option.bind (at? v2002.1 p1_1) fun v9003=>(Option.bind (IU v9003) fun v9005=>(Option.bind (app? p1_0 [v9005]) fun v9007=>(Ba n v2002 v9007 (IntKind.i64.wrap (p1_1+1)))))) else (some (p1_0,0)))
def Fd (a0:List Net) (a1:Net) (a2:Int):Option ((List (List Int)) × Int):=
 (Option.bind (En a0 a1 600 a2) fun v2002=>(if (!decide (v2002.2 =0))=true then (some ([],v2002.2)) else (Ba fuel v2002 [] 0)))
def Eb (a0:List Net) (a1:Net) (a2:Int):Option ((List (List Int)) × Int):=
 (Option.bind (HZ a0 a1 a2) fun v2003=>(some (v2003.1,v2003.2)))
def Dm:Nat→(List (List Int))→(List (List Int))→Int→Option (Bool)
 |0,_,_,_=>none
 |n+1,a0,a1,p0_0=>(if (decide (p0_0<((List.length a0:Nat):Int)))=true then (Option.bind (at? a0 p0_0) fun v7002=>(Option.bind (at? a1 p0_0) fun v7006=>(Option.bind (Dk v7002 v7006) fun v7008=>(if (!v7008)=true then (some false) else (Dm n a0 a1 (IntKind.i64.wrap (p0_0+1))))))) else (some true))
def Eo (a0:List (List Int)) (a1:List (List Int)):Option (Bool):=
 (if (!decide (((List.length a0:Nat):Int)=((List.length a1:Nat):Int)))=true then (some false) else (Dm fuel a0 a1 0))
def CI:Nat→(List (List Int))→Int→Int→Option (Int × (List (List Int)))
 |0,_,_,_=>none
 |n+1,p0_0,p0_1,p0_2=>(if (decide (p0_2<((List.length p0_0:Nat):Int)))=true then (Option.bind (at? p0_0 p0_2) fun v5002=>(Option.bind (D3 v5002 p0_1) fun v5005=>(Option.bind (CF p0_0 p0_2 v5005.2) fun v5005_8=>(CI n v5005_8 v5005.1 (IntKind.i64.wrap (p0_2+1)))))) else (some (p0_1,p0_0)))
def FF (a0:List (List Int)) (a1:Int):Option (Int × (List (List Int))):=
 (CI fuel a0 a1 0)
def CJ:Nat→(List (List Int))→Int→Int→Option (Int)
 |0,_,_,_=>none
 |n+1,a0,p0_0,p0_1=>(if (decide (p0_1<((List.length a0:Nat):Int)))=true then (Option.bind (at? a0 p0_1) fun v5002=>(Option.bind (D4 v5002 p0_0) fun v5005=>(if (decide (v5005<0))=true then (some (-1)) else (CJ n a0 v5005 (IntKind.i64.wrap (p0_1+1)))))) else (some p0_0))
def EO (a0:List (List Int)) (a1:Int):Option (Int):=
 (CJ fuel a0 a1 0)
def Bx (v25002:Int × (List (List Int))) (p2_0:Bool):Option (Bool):=
 (if p2_0=true then (some false) else (Option.bind (EO v25002.2 1) fun v36002=>(if (decide (v36002<0))=true then (some false) else (if (!decide (v36002=v25002.1))=true then (some false) else (some true)))))
def BU (a0:List Net) (a1:Net) (a2:Int) (v9005:(List (List Int)) × Int) (v12003:(List (List Int)) × Int) (p1_0:Bool):Option (Bool):=
 (if p1_0=true then (some false) else (Option.bind (FF v12003.1 1) fun v25002=>(Option.bind (EO v25002.2 1) fun v27002=>(if (decide (v27002<0))=true then (some false) else (if (!decide (v27002=v25002.1))=true then (some false) else (Option.bind (Ck a0) fun v32001=>(Option.bind (C5 a1) fun v32003=>(Option.bind (Eb v32001 v32003 a2) fun v32005=>(Option.bind (Eo v32005.1 v9005.1) fun v33002=>(if (!v33002)=true then (Bx v25002 true) else (Bx v25002 (!decide (v32005.2 =v9005.2)))))))))))))
def By (a0:List Net) (a1:Net) (a2:Int) (v9005:(List (List Int)) × Int) (v10001:(List Net)) (v11001:Net) (v12003:(List (List Int)) × Int) (p0_0:Bool):Option (Bool):=
 (if p0_0=true then (some false) else (Option.bind (Ck a0) fun v15002=>(Option.bind (GC v10001 v15002) fun v15003=>(if (!v15003)=true then (some false) else (Option.bind (C5 a1) fun v17002=>(Option.bind (GM v11001 v17002) fun v17003=>(if (!v17003)=true then (some false) else (Option.bind (Fc v10001 1) fun v20002=>(Option.bind (Gl v11001 v20002.1) fun v21002=>(if (decide (v21002.1 <0))=true then (BU a0 a1 a2 v9005 v12003 true) else (Option.bind (Eo v12003.1 v9005.1) fun v22005=>(if (!v22005)=true then (BU a0 a1 a2 v9005 v12003 true) else (BU a0 a1 a2 v9005 v12003 (!decide (v12003.2 =v9005.2)))))))))))))))
def Dt (a0:List Net) (a1:Net) (a2:Int):Option (Bool):=
 (Option.bind (I9 a0 1048576) fun v3002=>(if (decide (v3002<0))=true then (some true) else (Option.bind (IT a1 v3002) fun v6002=>(if (decide (v6002<0))=true then (some true) else (Option.bind (Ck a0) fun v9001=>(Option.bind (C5 a1) fun v9003=>(Option.bind (Fd v9001 v9003 a2) fun v9005=>(Option.bind (Ck a0) fun v10001=>(Option.bind (C5 a1) fun v11001=>(Option.bind (Eb v10001 v11001 a2) fun v12003=>(Option.bind (Eo v12003.1 v9005.1) fun v13002=>(if (!v13002)=true then (By a0 a1 a2 v9005 v10001 v11001 v12003 true) else (By a0 a1 a2 v9005 v10001 v11001 v12003 (!decide (v12003.2 =v9005.2)))))))))))))))
end Go.Proofs.YtckcfdggbbabfaaGreat.Ab
