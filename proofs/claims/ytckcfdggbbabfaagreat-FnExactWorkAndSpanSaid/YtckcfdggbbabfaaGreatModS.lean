/-
  Models of the functions. Printed by wip/ab/gen.py.
-/
import Derived.Test.YtckcfdggbbabfaaGreatModR
namespace Go.Proofs.YtckcfdggbbabfaaGreat.Ab
set_option linter.unusedVariables false
set_option linter.unusedSimpArgs false
set_option maxRecDepth 20000
set_option maxHeartbeats 4000000
open Go.RowKit
def Bg:Nat→Rewriter→(List Pair)→(List Agent)→(List (Int × Bool))→Int→Option (Net × Int × Int)
 |0,_,_,_,_,_=>none
 |n+1,v2002,v3000,p1_0,p1_1,p1_2=>(if (decide (p1_2<((List.length v3000:Nat):Int)))=true then (Option.bind (at? v3000 p1_2) fun v6000=>(Option.bind (Ak (⟨(⟨p1_0⟩:Net),v2002.book,p1_1⟩:Rewriter) v6000) fun v7002=>(if (!decide (v7002.1 =0))=true then (some ((⟨[]⟩:Net),0,v7002.1)) else (Bg n v2002 v3000 v7002.2.net.agents v7002.2.removed (IntKind.i64.wrap (p1_2+1)))))) else (Option.bind (Bq (⟨(⟨p1_0⟩:Net),v2002.book,p1_1⟩:Rewriter)) fun v11001=>(some (v11001,((List.length v3000:Nat):Int),0))))
def Dz (a0:List Net) (a1:Net):Option (Net × Int × Int):=
 (Option.bind (FC a0 a1) fun v2002=>(Option.bind (Ek a1) fun v3000=>(Bg fuel v2002 v3000 v2002.net.agents v2002.removed 0)))
mutual
def B0:Nat→(List Net)→Int→(List Agent)→(List (List Int))→(List Pair)→Option ((List (List Int)) × Int)
 |0,_,_,_,_,_=>none
 |n+1,a0,p5_0,p5_1,p5_2,p5_3=>(if (decide (0<((List.length p5_3:Nat):Int)))=true then (if (decide ((IntKind.i64.wrap (p5_0 - ((List.length p5_3:Nat):Int)))<0))=true then (some ([],12)) else (Option.bind (rep? 7 (0:Int)) fun v12000=>(CR n a0 p5_0 p5_1 p5_2 p5_3 v12000 0))) else (some (p5_2,0)))
def CR:Nat→(List Net)→Int→(List Agent)→(List (List Int))→(List Pair)→(List Int)→Int→Option ((List (List Int)) × Int)
 |0,_,_,_,_,_,_,_=>none
 |n+1,a0,p5_0,p5_1,p5_2,p5_3,p9_0,p9_1=>(if (decide (p9_1<((List.length p5_3:Nat):Int)))=true then (Option.bind (at? p5_3 p9_1) fun v15000=>(Option.bind (EK (⟨p5_1⟩:Net) v15000) fun v16001=>(if (!decide (v16001.1 =8))=true then (Option.bind (at? p9_0 (IntKind.i64.wrap (v16001.1 - 1))) fun v18003=>(Option.bind (at? p9_0 (IntKind.i64.wrap (v16001.1 - 1))) fun v18006=>(Option.bind (CF p9_0 (IntKind.i64.wrap (v16001.1 - 1)) (IntKind.i64.wrap (v18003+1))) fun v18007_144=>(CR n a0 p5_0 p5_1 p5_2 p5_3 v18007_144 (IntKind.i64.wrap (p9_1+1)))))) else (CR n a0 p5_0 p5_1 p5_2 p5_3 p9_0 (IntKind.i64.wrap (p9_1+1)))))) else (Option.bind (Dz a0 (⟨p5_1⟩:Net)) fun v20002=>(if (!decide (v20002.2.2 =0))=true then (some ([],v20002.2.2)) else (Option.bind (app? p5_2 [p9_0]) fun v23003=>(Option.bind (Ek v20002.1) fun v8000=>(B0 n a0 (IntKind.i64.wrap (p5_0 - ((List.length p5_3:Nat):Int))) v20002.1.agents v23003 v8000))))))
end
def HZ (a0:List Net) (a1:Net) (a2:Int):Option ((List (List Int)) × Int):=
 (Option.bind (H4 a0 a1 [] a2) fun v2003=>(if (!decide (v2003=0))=true then (some ([],v2003)) else (Option.bind (Ek a1) fun v6000=>(B0 fuel a0 a2 a1.agents [] v6000))))
end Go.Proofs.YtckcfdggbbabfaaGreat.Ab
