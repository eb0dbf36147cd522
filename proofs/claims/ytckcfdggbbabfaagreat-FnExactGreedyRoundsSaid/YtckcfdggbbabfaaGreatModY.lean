/-
  Models of the functions. Printed by wip/ab/gen.py.
-/
import Derived.Test.YtckcfdggbbabfaaGreatModR
namespace Go.Proofs.YtckcfdggbbabfaaGreat.Ab
set_option linter.unusedVariables false
set_option linter.unusedSimpArgs false
set_option maxRecDepth 20000
set_option maxHeartbeats 4000000
open Go.RowKit
def CF (a0:List Net) (a1:Net) (a2:Int) (a3:Int) (p1_0:Int):Option (Int × Int):=
 (if (!decide (p1_0=0))=true then (some (0,p1_0)) else (Option.bind (IX a0 a1 a2 a3) fun v7003=>(if (!decide (v7003.2 =0))=true then (some (0,v7003.2)) else (some (((List.length v7003.1 :Nat):Int),0)))))
def CG (a0:List Net) (a1:Net) (a2:Int) (a3:Int) (v2002:Int) (p0_0:Bool):Option (Int × Int):=
 (if p0_0=true then (CF a0 a1 a2 a3 2) else (CF a0 a1 a2 a3 v2002))
def Ew (a0:List Net) (a1:Net) (a2:Int) (a3:Int):Option (Int × Int):=
 (Option.bind (GR a0 a1 [] a3) fun v2002=>(if (decide (v2002=0))=true then (Option.bind (CB a2 1 64) fun v3004=>(CG a0 a1 a2 a3 v2002 (!v3004))) else (CG a0 a1 a2 a3 v2002 false)))
mutual
def BC:Nat→(List Net)→Int→Int→(List Agent)→Int→(List Pair)→Option (Int × Int)
 |0,_,_,_,_,_,_=>none
 |n+1,a0,a2,p6_0,p6_1,p6_2,p6_3=>(if (decide (0<((List.length p6_3:Nat):Int)))=true then (Option.bind (cutL p6_3 0 (if a2<((List.length p6_3:Nat):Int) then a2 else ((List.length p6_3:Nat):Int))) fun v11005=>(if (decide ((IntKind.i64.wrap (p6_0 - ((List.length v11005:Nat):Int)))<0))=true then (some (0,12)) else (Option.bind (ES a0 (⟨p6_1⟩:Net)) fun v15002=>(Bb n a0 a2 p6_0 p6_1 p6_2 v11005 v15002 v15002.net.agents v15002.removed 0)))) else (some (p6_2,0)))
def Bb:Nat→(List Net)→Int→Int→(List Agent)→Int→(List Pair)→Rewriter→(List Agent)→(List (Int × Bool))→Int→Option (Int × Int)
 |0,_,_,_,_,_,_,_,_,_,_=>none
 |n+1,a0,a2,p6_0,p6_1,p6_2,v11005,v15002,p10_0,p10_1,p10_2=>(if (decide (p10_2<((List.length v11005:Nat):Int)))=true then (Option.bind (at? v11005 p10_2) fun v18000=>(Option.bind (Ag (⟨(⟨p10_0⟩:Net),v15002.book,p10_1⟩:Rewriter) v18000) fun v19002=>(if (!decide (v19002.1 =0))=true then (some (0,v19002.1)) else (Bb n a0 a2 p6_0 p6_1 p6_2 v11005 v15002 v19002.2.net.agents v19002.2.removed (IntKind.i64.wrap (p10_2+1)))))) else (Option.bind (Bk (⟨(⟨p10_0⟩:Net),v15002.book,p10_1⟩:Rewriter)) fun v23001=>(Option.bind (Ei v23001) fun v10000=>(BC n a0 a2 (IntKind.i64.wrap (p6_0 - ((List.length v11005:Nat):Int))) v23001.agents (IntKind.i64.wrap (p6_2+1)) v10000))))
end
def Da (a0:List Net) (a1:Net) (a2:Int) (a3:Int) (p0_0:Bool):Option (Int × Int):=
 (if p0_0=true then (some (0,2)) else (Option.bind (Ei a1) fun v8000=>(BC fuel a0 a2 a3 a1.agents 0 v8000)))
def Ex (a0:List Net) (a1:Net) (a2:Int) (a3:Int):Option (Int × Int):=
 (Option.bind (G1 a0 a1 [] a3) fun v2003=>(if (!decide (v2003=0))=true then (some (0,v2003)) else (if (decide (a2<1))=true then (Da a0 a1 a2 a3 true) else (Da a0 a1 a2 a3 (decide (64<a2))))))
def Bv (a0:List Net) (a1:Net) (v10001:(List Net)) (v11001:Net) (p0_0:Bool):Option (Bool):=
 (if p0_0=true then (some false) else (Option.bind (G2 a0) fun v15002=>(Option.bind (JB v10001 v15002) fun v15003=>(if (!v15003)=true then (some false) else (Option.bind (Gg a1) fun v17002=>(Option.bind (IY v11001 v17002) fun v17003=>(if (!v17003)=true then (some false) else (some true))))))))
def DL (a0:List Net) (a1:Net) (a2:Int) (a3:Int):Option (Bool):=
 (Option.bind (Kp a0 1048576) fun v3002=>(if (decide (v3002<0))=true then (some true) else (Option.bind (Jk a1 v3002) fun v6002=>(if (decide (v6002<0))=true then (some true) else (Option.bind (G2 a0) fun v9001=>(Option.bind (Gg a1) fun v9003=>(Option.bind (Ew v9001 v9003 a2 a3) fun v9006=>(Option.bind (G2 a0) fun v10001=>(Option.bind (Gg a1) fun v11001=>(Option.bind (Ex v10001 v11001 a2 a3) fun v12004=>(if (!decide (v12004.1 =v9006.1))=true then (Bv a0 a1 v10001 v11001 true) else (Bv a0 a1 v10001 v11001 (!decide (v12004.2 =v9006.2))))))))))))))
end Go.Proofs.YtckcfdggbbabfaaGreat.Ab
