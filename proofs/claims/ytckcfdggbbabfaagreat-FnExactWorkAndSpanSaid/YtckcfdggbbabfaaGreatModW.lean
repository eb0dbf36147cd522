/-
  Models of the functions. Printed by wip/ab/gen.py.
-/
import Derived.Test.YtckcfdggbbabfaaGreatModV
namespace Go.Proofs.YtckcfdggbbabfaaGreat.Ab
set_option linter.unusedVariables false
set_option linter.unusedSimpArgs false
set_option maxRecDepth 20000
set_option maxHeartbeats 4000000
open Go.RowKit
def E3:Nat→(List (List Int))→Int→Int→Option (Int)
 |0,_,_,_=>none
 |n+1,a0,p0_0,p0_1=>(if (decide (p0_1<((List.length a0:Nat):Int)))=true then (Option.bind (at? a0 p0_1) fun v6003=>(E3 n a0 (IntKind.i64.wrap (p0_0+((List.length v6003:Nat):Int))) (IntKind.i64.wrap (p0_1+1)))) else (some p0_0))
def Mu (a0:List (List Int)):Option (Int):=
 (E3 fuel a0 0 0)
def GH (a0:List Net) (a1:Net) (a2:Int):Option (Int × Int × Int):=
 (Option.bind (En a0 a1 600 a2) fun v2002=>(if (!decide (v2002.2 =0))=true then (some (0,0,v2002.2)) else (Option.bind (Mu v2002.1) fun v5001=>(some (v5001,((List.length v2002.1 :Nat):Int),0)))))
def JI:Nat→(List Int)→Int→Int→Option (Int)
 |0,_,_,_=>none
 |n+1,a0,p0_0,p0_1=>(if (decide (p0_1<((List.length a0:Nat):Int)))=true then (Option.bind (at? a0 p0_1) fun v5000=>(JI n a0 (IntKind.i64.wrap (p0_0+v5000)) (IntKind.i64.wrap (p0_1+1)))) else (some p0_0))
def X8 (a0:List Int):Option (Int):=
 (JI fuel a0 0 0)
def GI (a0:List Net) (a1:Net) (a2:Int):Option (Int × Int × Int):=
 (Option.bind (EA a0 a1 a2) fun v2003=>(Option.bind (X8 v2003.1) fun v3001=>(some (v3001,((List.length v2003.1 :Nat):Int),v2003.2))))
def Bb (a0:List Net) (a1:Net) (v10001:(List Net)) (v11001:Net) (p0_0:Bool):Option (Bool):=
 (if p0_0=true then (some false) else (Option.bind (Ck a0) fun v15002=>(Option.bind (GC v10001 v15002) fun v15003=>(if (!v15003)=true then (some false) else (Option.bind (C5 a1) fun v17002=>(Option.bind (GM v11001 v17002) fun v17003=>(if (!v17003)=true then (some false) else (some true))))))))
def EC (a0:List Net) (a1:Net) (a2:Int):Option (Bool):=
 (Option.bind (I9 a0 1048576) fun v3002=>(if (decide (v3002<0))=true then (some true) else (Option.bind (IT a1 v3002) fun v6002=>(if (decide (v6002<0))=true then (some true) else (Option.bind (Ck a0) fun v9001=>(Option.bind (C5 a1) fun v9003=>(Option.bind (GH v9001 v9003 a2) fun v9005=>(Option.bind (Ck a0) fun v10001=>(Option.bind (C5 a1) fun v11001=>(Option.bind (GI v10001 v11001 a2) fun v12003=>(if (!decide (v12003.1 =v9005.1))=true then (Bb a0 a1 v10001 v11001 true) else (if (!decide (v12003.2.1 =v9005.2.1))=true then (Bb a0 a1 v10001 v11001 true) else (Bb a0 a1 v10001 v11001 (!decide (v12003.2.2 =v9005.2.2)))))))))))))))
end Go.Proofs.YtckcfdggbbabfaaGreat.Ab
