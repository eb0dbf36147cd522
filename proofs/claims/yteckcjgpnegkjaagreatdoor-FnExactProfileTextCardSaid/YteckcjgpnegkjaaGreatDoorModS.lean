/-
  Models of the functions. Printed by wip/ab/gen.py.
-/
import Derived.Test.YteckcjgpnegkjaaGreatDoorModR
namespace Go.Proofs.YteckcjgpnegkjaaGreatDoor.Ab
set_option linter.unusedVariables false
set_option linter.unusedSimpArgs false
set_option maxRecDepth 20000
set_option maxHeartbeats 4000000
open Go.RowKit
mutual
def Bg:Nat→Net→(List Pair)→Int→Option ((List Pair))
 |0,_,_,_=>none
 |n+1,a0,p0_0,p0_1=>(if (decide (p0_1<(a0.agents.length:Int)))=true then ((at? a0.agents p0_1).bind fun v5001=>((at? v5001.ports 0).bind fun v6002=>(if (decide (v6002.slot=0))=true then (if (decide (p0_1<v6002.agent))=true then (Cn n a0 p0_0 p0_1 v6002 (!decide (v5001.kind=1))) else (Cn n a0 p0_0 p0_1 v6002 false)) else (Cn n a0 p0_0 p0_1 v6002 false)))) else (some p0_0))
def Cn:Nat→Net→(List Pair)→Int→Port→Bool→Option ((List Pair))
 |0,_,_,_,_,_=>none
 |n+1,a0,p0_0,p0_1,v6002,p1_0=>(if p1_0=true then ((app? p0_0 [(⟨p0_1,v6002.agent⟩:Pair)]).bind fun v8006=>(Bg n a0 v8006 (IntKind.i64.wrap (p0_1+1)))) else (Bg n a0 p0_0 (IntKind.i64.wrap (p0_1+1))))
end
def EI (a0:Net):Option ((List Pair)):=
 (Bg fuel a0 [] 0)
def Bh:Nat→Rewriter→(List Pair)→(List Agent)→(List (Int × Bool))→Int→Option (Net × Int × Int)
 |0,_,_,_,_,_=>none
 |n+1,v2002,v3000,p1_0,p1_1,p1_2=>(if (decide (p1_2<(v3000.length:Int)))=true then ((at? v3000 p1_2).bind fun v6000=>((Aj (⟨(⟨p1_0⟩:Net),v2002.book,p1_1⟩:Rewriter) v6000).bind fun v7002=>(if (!decide (v7002.1 =0))=true then (some ((⟨[]⟩:Net),0,v7002.1)) else (Bh n v2002 v3000 v7002.2.net.agents v7002.2.removed (IntKind.i64.wrap (p1_2+1)))))) else ((Bq (⟨(⟨p1_0⟩:Net),v2002.book,p1_1⟩:Rewriter)).bind fun v11001=>(some (v11001,(v3000.length:Int),0))))
def Db (a0:List Net) (a1:Net):Option (Net × Int × Int):=
 ((En a0 a1).bind fun v2002=>((EI a1).bind fun v3000=>(Bh fuel v2002 v3000 v2002.net.agents v2002.removed 0)))
mutual
def Bz:Nat→(List Net)→Int→(List Agent)→(List (List Int))→(List Pair)→Option ((List (List Int)) × Int)
 |0,_,_,_,_,_=>none
 |n+1,a0,p5_0,p5_1,p5_2,p5_3=>(if (decide (0<(p5_3.length:Int)))=true then (if (decide ((IntKind.i64.wrap (p5_0 - (p5_3.length:Int)))<0))=true then (some ([],12)) else ((rep? 7 (0:Int)).bind fun v12000=>(CK n a0 p5_0 p5_1 p5_2 p5_3 v12000 0))) else (some (p5_2,0)))
def CK:Nat→(List Net)→Int→(List Agent)→(List (List Int))→(List Pair)→(List Int)→Int→Option ((List (List Int)) × Int)
 |0,_,_,_,_,_,_,_=>none
 |n+1,a0,p5_0,p5_1,p5_2,p5_3,p9_0,p9_1=>(if (decide (p9_1<(p5_3.length:Int)))=true then ((at? p5_3 p9_1).bind fun v15000=>((Dq (⟨p5_1⟩:Net) v15000).bind fun v16001=>(if (!decide (v16001.1 =8))=true then ((at? p9_0 (IntKind.i64.wrap (v16001.1 - 1))).bind fun v18003=>((at? p9_0 (IntKind.i64.wrap (v16001.1 - 1))).bind fun v18006=>((C0 p9_0 (IntKind.i64.wrap (v16001.1 - 1)) (IntKind.i64.wrap (v18003+1))).bind fun v18007_144=>(CK n a0 p5_0 p5_1 p5_2 p5_3 v18007_144 (IntKind.i64.wrap (p9_1+1)))))) else (CK n a0 p5_0 p5_1 p5_2 p5_3 p9_0 (IntKind.i64.wrap (p9_1+1)))))) else ((Db a0 (⟨p5_1⟩:Net)).bind fun v20002=>(if (!decide (v20002.2.2 =0))=true then (some ([],v20002.2.2)) else ((app? p5_2 [p9_0]).bind fun v23003=>((EI v20002.1).bind fun v8000=>(Bz n a0 (IntKind.i64.wrap (p5_0 - (p5_3.length:Int))) v20002.1.agents v23003 v8000))))))
end
def IW (a0:List Net) (a1:Net) (a2:Int):Option ((List (List Int)) × Int):=
 ((HM a0 a1 [] a2).bind fun v2003=>(if (!decide (v2003=0))=true then (some ([],v2003)) else ((EI a1).bind fun v6000=>(Bz fuel a0 a2 a1.agents [] v6000))))
end Go.Proofs.YteckcjgpnegkjaaGreatDoor.Ab
