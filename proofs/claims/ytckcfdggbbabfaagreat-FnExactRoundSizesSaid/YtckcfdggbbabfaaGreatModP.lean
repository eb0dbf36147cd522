/-
  Models of the functions. Printed by wip/ab/gen.py.
-/
import Derived.Test.YtckcfdggbbabfaaGreatModV
namespace Go.Proofs.YtckcfdggbbabfaaGreat.Ab
set_option linter.unusedVariables false
set_option linter.unusedSimpArgs false
set_option maxRecDepth 20000
set_option maxHeartbeats 4000000
open Go.RowKit
def CA:Nat→((List (List Int)) × Int)→(List Int)→Int→Option ((List Int) × Int)
 |0,_,_,_=>none
 |n+1,v2002,p1_0,p1_1=>(if (decide (p1_1<((List.length v2002.1 :Nat):Int)))=true then (Option.bind (at? v2002.1 p1_1) fun v9003=>(Option.bind (app? p1_0 [((List.length v9003:Nat):Int)]) fun v9007=>(CA n v2002 v9007 (IntKind.i64.wrap (p1_1+1))))) else (some (p1_0,0)))
def HE (a0:List Net) (a1:Net) (a2:Int):Option ((List Int) × Int):=
 (Option.bind (En a0 a1 600 a2) fun v2002=>(if (!decide (v2002.2 =0))=true then (some ([],v2002.2)) else (CA fuel v2002 [] 0)))
def CP (v25002:Int × (List Int)) (p2_0:Bool):Option (Bool):=
 (if p2_0=true then (some false) else (Option.bind (D4 v25002.2 1) fun v36002=>(if (decide (v36002<0))=true then (some false) else (if (!decide (v36002=v25002.1))=true then (some false) else (some true)))))
def Bk (a0:List Net) (a1:Net) (a2:Int) (v9005:(List Int) × Int) (v12003:(List Int) × Int) (p1_0:Bool):Option (Bool):=
 (if p1_0=true then (some false) else (Option.bind (D3 v12003.1 1) fun v25002=>(Option.bind (D4 v25002.2 1) fun v27002=>(if (decide (v27002<0))=true then (some false) else (if (!decide (v27002=v25002.1))=true then (some false) else (Option.bind (Ck a0) fun v32001=>(Option.bind (C5 a1) fun v32003=>(Option.bind (EA v32001 v32003 a2) fun v32005=>(Option.bind (Dk v32005.1 v9005.1) fun v33002=>(if (!v33002)=true then (CP v25002 true) else (CP v25002 (!decide (v32005.2 =v9005.2)))))))))))))
def CQ (a0:List Net) (a1:Net) (a2:Int) (v9005:(List Int) × Int) (v10001:(List Net)) (v11001:Net) (v12003:(List Int) × Int) (p0_0:Bool):Option (Bool):=
 (if p0_0=true then (some false) else (Option.bind (Ck a0) fun v15002=>(Option.bind (GC v10001 v15002) fun v15003=>(if (!v15003)=true then (some false) else (Option.bind (C5 a1) fun v17002=>(Option.bind (GM v11001 v17002) fun v17003=>(if (!v17003)=true then (some false) else (Option.bind (Fc v10001 1) fun v20002=>(Option.bind (Gl v11001 v20002.1) fun v21002=>(if (decide (v21002.1 <0))=true then (Bk a0 a1 a2 v9005 v12003 true) else (Option.bind (Dk v12003.1 v9005.1) fun v22005=>(if (!v22005)=true then (Bk a0 a1 a2 v9005 v12003 true) else (Bk a0 a1 a2 v9005 v12003 (!decide (v12003.2 =v9005.2)))))))))))))))
def EX (a0:List Net) (a1:Net) (a2:Int):Option (Bool):=
 (Option.bind (I9 a0 1048576) fun v3002=>(if (decide (v3002<0))=true then (some true) else (Option.bind (IT a1 v3002) fun v6002=>(if (decide (v6002<0))=true then (some true) else (Option.bind (Ck a0) fun v9001=>(Option.bind (C5 a1) fun v9003=>(Option.bind (HE v9001 v9003 a2) fun v9005=>(Option.bind (Ck a0) fun v10001=>(Option.bind (C5 a1) fun v11001=>(Option.bind (EA v10001 v11001 a2) fun v12003=>(Option.bind (Dk v12003.1 v9005.1) fun v13002=>(if (!v13002)=true then (CQ a0 a1 a2 v9005 v10001 v11001 v12003 true) else (CQ a0 a1 a2 v9005 v10001 v11001 v12003 (!decide (v12003.2 =v9005.2)))))))))))))))
end Go.Proofs.YtckcfdggbbabfaaGreat.Ab
