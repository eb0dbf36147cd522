/-
  Models of the functions. Printed by wip/ab/gen.py.
-/
import Derived.Test.YtckcfdggbbabfaaGreatMTyC
import Derived.Test.YtckcfdggbbabfaaGreatModL
namespace Go.Proofs.YtckcfdggbbabfaaGreat.Ab
set_option linter.unusedVariables false
set_option linter.unusedSimpArgs false
set_option maxRecDepth 20000
set_option maxHeartbeats 4000000
open Go.RowKit
def ER (a0:Int) (a1:Int) (a2:Int) (p0_0:Bool):Option (Bool):=
 (if p0_0=true then (some false) else (if (decide (a1=6))=true then (some true) else (if (decide (a1=12))=true then (some true) else (Option.bind (Do a1) fun v4008=>(if v4008=true then (some (decide (a0<a2))) else (some false))))))
def F0 (a0:Int) (a1:Int) (a2:Int):Option (Bool):=
 (Option.bind (Fg a0) fun v2001=>(if (!v2001)=true then (ER a0 a1 a2 true) else (Option.bind (DB a1 a2) fun v2006=>(ER a0 a1 a2 (!v2006)))))
def F1 (a0:Int):Option (Bool):=
 (if (decide (a0=3))=true then (some true) else (if (decide (a0=7))=true then (some true) else (if (decide (a0=8))=true then (some true) else (if (decide (a0=10))=true then (some true) else (some (decide (a0=11)))))))
def F2 (a1:Int) (a2:Int) (a3:Int) (p0_0:Bool):Option (Int):=
 (if p0_0=true then (some 2) else (Option.bind (F0 a1 a2 a3) fun v8003=>(if v8003=true then (some 3) else (some 0))))
def F3 (p1_0:Bool):Option (Int):=
 (if p1_0=true then (some 1) else (some 0))
def F4 (a2:Int) (p2_0:Bool):Option (Int):=
 (if p2_0=true then (some 5) else (if (decide (a2=11))=true then (some 6) else (some 0)))
def Ha (a0:Int) (a1:Int) (a2:Int) (a3:Int):Option (Int):=
 (if (decide (a0=5))=true then (some 4) else (if (decide (a0=4))=true then (if (decide (a2=4))=true then (F2 a1 a2 a3 (decide (a1=a3))) else (F2 a1 a2 a3 false)) else (if (decide (a0=2))=true then (if (decide (a2=3))=true then (F3 (decide (a1=a3))) else (F3 false)) else (if (decide (a0=6))=true then (if (decide (a2=7))=true then (F4 a2 (decide (a2=7))) else (F4 a2 (decide (a2=8)))) else (if (decide (a0=9))=true then (if (decide (a2=10))=true then (some 6) else (some 0)) else (if (decide (a0=12))=true then (Option.bind (F1 a2) fun v24001=>(if v24001=true then (some 7) else (some 0))) else (some 0)))))))
def El (a0:Int) (a1:Int) (a2:Int) (a3:Int) (p0_0:Bool):Option (Int × Int):=
 (if p0_0=true then (some (0,0)) else (Option.bind (Ha a0 a1 a2 a3) fun v4004=>(if (!decide (v4004=0))=true then (some (v4004,1)) else (Option.bind (Ha a2 a3 a0 a1) fun v7004=>(if (!decide (v7004=0))=true then (some (v7004,2)) else (some (8,0)))))))
def Ki (a0:Int) (a1:Int) (a2:Int) (a3:Int):Option (Int × Int):=
 (if (decide (a0=1))=true then (El a0 a1 a2 a3 true) else (if (decide (a2=1))=true then (El a0 a1 a2 a3 true) else (Option.bind (DB a0 a1) fun v2009=>(if (!v2009)=true then (El a0 a1 a2 a3 true) else (Option.bind (DB a2 a3) fun v2015=>(El a0 a1 a2 a3 (!v2015)))))))
def DI (v3008:Int × Int) (p1_0:Bool):Option (Int × Bool):=
 (if p1_0=true then (some (8,false)) else (some (v3008.1,(decide (v3008.2 =2)))))
def DJ (v3008:Int × Int) (p0_0:Int) (p0_1:Int) (p0_2:Int) (p0_3:List Int) (p0_4:List Port) (p0_5:Int) (p0_6:Int) (p0_7:Int) (p0_8:List Int) (p0_9:List Port):Option (Int × Bool):=
 (if (decide (v3008.1 =6))=true then (if (decide (p0_5=10))=true then (DI v3008 (decide (((List.length p0_8:Nat):Int)≤p0_2))) else (DI v3008 false)) else (DI v3008 false))
def FI (a0:Net) (a1:Pair):Option (Int × Bool):=
 (Option.bind (at? a0.agents a1.a) fun v2006=>(Option.bind (at? a0.agents a1.b) fun v2014=>(Option.bind (Ki v2006.kind v2006.level v2014.kind v2014.level) fun v3008=>(if (decide (v3008.2 =2))=true then (DJ v3008 v2014.kind v2014.level v2014.value v2014.data v2014.ports v2006.kind v2006.level v2006.value v2006.data v2006.ports) else (DJ v3008 v2006.kind v2006.level v2006.value v2006.data v2006.ports v2014.kind v2014.level v2014.value v2014.data v2014.ports)))))
mutual
def Bg:Nat→Net→(List Pair)→Int→Option ((List Pair))
 |0,_,_,_=>none
 |n+1,a0,p0_0,p0_1=>(if (decide (p0_1<((List.length a0.agents:Nat):Int)))=true then (Option.bind (at? a0.agents p0_1) fun v5001=>(Option.bind (at? v5001.ports 0) fun v6002=>(if (decide (v6002.slot=0))=true then (if (decide (p0_1<v6002.agent))=true then (Bh n a0 p0_0 p0_1 v6002 (!decide (v5001.kind=1))) else (Bh n a0 p0_0 p0_1 v6002 false)) else (Bh n a0 p0_0 p0_1 v6002 false)))) else (some p0_0))
def Bh:Nat→Net→(List Pair)→Int→Port→Bool→Option ((List Pair))
 |0,_,_,_,_,_=>none
 |n+1,a0,p0_0,p0_1,v6002,p1_0=>(if p1_0=true then (Option.bind (app? p0_0 [(⟨p0_1,v6002.agent⟩:Pair)]) fun v8006=>(Bg n a0 v8006 (IntKind.i64.wrap (p0_1+1)))) else (Bg n a0 p0_0 (IntKind.i64.wrap (p0_1+1))))
end
def Gy (a0:Net):Option ((List Pair)):=
 (Bg fuel a0 [] 0)
def CY (a0:List Port):Option ((List Port)):=
 (Option.bind (app? [] a0) fun v4002=>(some v4002))
def DK (a0:List Int):Option ((List Int)):=
 (Option.bind (app? [] a0) fun v4002=>(some v4002))
def i_copyAgent_z (a0:Agent):Option (Agent):=
 (Option.bind (DK a0.data) fun v2002=>(Option.bind (CY a0.ports) fun v2005=>(some (⟨a0.kind,a0.level,a0.value,v2002,v2005⟩:Agent))))
def DQ:Nat→Net→(List Agent)→Int→Option (Net)
 |0,_,_,_=>none
 |n+1,a0,p1_0,p1_1=>(if (decide (p1_1<((List.length a0.agents:Nat):Int)))=true then (Option.bind (at? a0.agents p1_1) fun v5000=>(Option.bind (i_copyAgent_z v5000) fun v6003=>(Option.bind (app? p1_0 [v6003]) fun v6005=>(DQ n a0 v6005 (IntKind.i64.wrap (p1_1+1)))))) else (some (⟨p1_0⟩:Net)))
def Gz (a0:Net):Option (Net):=
 (Option.bind (OR ((List.length a0.agents:Nat):Int) (⟨0,0,0,[],[]⟩:Agent)) fun v2003=>(DQ fuel a0 [] 0))
def FJ (a0:List Net) (a1:Net):Option (Rewriter):=
 (Option.bind (Gz a1) fun v2001=>(some (⟨v2001,a0,[]⟩:Rewriter)))
def CG (a0:Net) (a1:Port) (a2:Port):Option (Net):=
 (Option.bind (at? a0.agents a1.agent) fun v2006=>(Option.bind (at? v2006.ports a1.slot) fun v2012=>(Option.bind (CU v2006.ports a1.slot a2) fun v2013_3=>(Option.bind (CU a0.agents a1.agent (⟨v2006.kind,v2006.level,v2006.value,v2006.data,v2013_3⟩:Agent)) fun v2013_4=>(Option.bind (at? v2013_4 a2.agent) fun v3006=>(Option.bind (at? v3006.ports a2.slot) fun v3012=>(Option.bind (CU v3006.ports a2.slot a1) fun v3013_5=>(Option.bind (CU v2013_4 a2.agent (⟨v3006.kind,v3006.level,v3006.value,v3006.data,v3013_5⟩:Agent)) fun v3013_6=>(some (⟨v3013_6⟩:Net))))))))))
def B0 (a0:Rewriter) (a1:Port) (a2:Port):Option (Rewriter):=
 (Option.bind (Ct a0.net a1) fun v2004=>(Option.bind (Ct a0.net a2) fun v2009=>(if (!(decide (v2004.agent=a2.agent)&&decide (v2004.slot=a2.slot)))=true then (Option.bind (CG a0.net v2004 v2009) fun v4005=>(some (⟨v4005,a0.book,a0.removed⟩:Rewriter))) else (some a0))))
def AX (a0:Rewriter) (a1:Port) (a2:Port):Option (Rewriter):=
 (Option.bind (Ct a0.net a1) fun v2007=>(Option.bind (CG a0.net v2007 a2) fun v2009=>(some (⟨v2009,a0.book,a0.removed⟩:Rewriter))))
def Ay:Nat→Rewriter→(List Int)→(List (Int × Bool))→Int→Option (Rewriter)
 |0,_,_,_,_=>none
 |n+1,a0,a1,p0_0,p0_1=>(if (decide (p0_1<((List.length a1:Nat):Int)))=true then (Option.bind (at? a1 p0_1) fun v3000=>(Option.bind (OF p0_0 v3000 true) fun v4005_6=>(Ay n a0 a1 v4005_6 (IntKind.i64.wrap (p0_1+1))))) else (some (⟨a0.net,a0.book,p0_0⟩:Rewriter)))
def BM (a0:Rewriter) (a1:List Int):Option (Rewriter):=
 (Ay fuel a0 a1 a0.removed 0)
def D1 (a0:Rewriter):Option (Int):=
 (some (IntKind.i64.wrap (((List.length a0.net.agents:Nat):Int) - ((List.length a0.removed:Nat):Int))))
def Em (a0:List Int):Option ((List Int)):=
 (Option.bind (app? [] a0) fun v4002=>(some v4002))
def i_copyAgent (a0:Agent):Option (Agent):=
 (Option.bind (Em a0.data) fun v2002=>(Option.bind (CY a0.ports) fun v2005=>(some (⟨a0.kind,a0.level,a0.value,v2002,v2005⟩:Agent))))
mutual
def Ar:Nat→Net→(List Int)→(List (Int × Int))→(List Agent)→Int→Option (Net)
 |0,_,_,_,_,_=>none
 |n+1,a0,a1,p1_0,p7_0,p7_1=>(if (decide (p7_1<((List.length a1:Nat):Int)))=true then (Option.bind (at? a1 p7_1) fun v11000=>(Option.bind (at? a0.agents v11000) fun v12005=>(Option.bind (i_copyAgent v12005) fun v12007=>(Bi n a0 a1 p1_0 p7_0 p7_1 v12007 v12007.ports 0)))) else (some (⟨p7_0⟩:Net)))
def Bi:Nat→Net→(List Int)→(List (Int × Int))→(List Agent)→Int→Agent→(List Port)→Int→Option (Net)
 |0,_,_,_,_,_,_,_,_=>none
 |n+1,a0,a1,p1_0,p7_0,p7_1,v12007,p11_0,p11_1=>(if (decide (p11_1<((List.length v12007.ports:Nat):Int)))=true then (Option.bind (at? p11_0 p11_1) fun v16007=>(Option.bind (at? p11_0 p11_1) fun v16011=>(Option.bind (CU p11_0 p11_1 (⟨((Hw p1_0 v16007.agent).getD 0),v16011.slot⟩:Port)) fun v16013_156=>(Bi n a0 a1 p1_0 p7_0 p7_1 v12007 v16013_156 (IntKind.i64.wrap (p11_1+1)))))) else (Option.bind (app? p7_0 [(⟨v12007.kind,v12007.level,v12007.value,v12007.data,p11_0⟩:Agent)]) fun v18004=>(Ar n a0 a1 p1_0 v18004 (IntKind.i64.wrap (p7_1+1)))))
end
def Bs:Nat→Net→(List Int)→(List (Int × Int))→Int→Option (Net)
 |0,_,_,_,_=>none
 |n+1,a0,a1,p1_0,p1_1=>(if (decide (p1_1<((List.length a1:Nat):Int)))=true then (Option.bind (at? a1 p1_1) fun v5001=>(Option.bind (OF p1_0 v5001 p1_1) fun v6003_12=>(Bs n a0 a1 v6003_12 (IntKind.i64.wrap (p1_1+1))))) else (Ar fuel a0 a1 p1_0 [] 0))
def D2 (a0:Net) (a1:List Int):Option (Net):=
 (Bs fuel a0 a1 [] 0)
def BC:Nat→Rewriter→(List Int)→Int→Option (Net)
 |0,_,_,_=>none
 |n+1,a0,p1_0,p1_1=>(if (decide (p1_1<((List.length a0.net.agents:Nat):Int)))=true then (if (!((Hw a0.removed p1_1).getD false))=true then (Option.bind (app? p1_0 [p1_1]) fun v7003=>(BC n a0 v7003 (IntKind.i64.wrap (p1_1+1)))) else (BC n a0 p1_0 (IntKind.i64.wrap (p1_1+1)))) else (Option.bind (D2 a0.net p1_0) fun v9004=>(some v9004)))
def Cp (a0:Rewriter):Option (Net):=
 (BC fuel a0 [] 0)
def EF:Nat→Net→(List Agent)→Int→Option (Net)
 |0,_,_,_=>none
 |n+1,a0,p1_0,p1_1=>(if (decide (p1_1<((List.length a0.agents:Nat):Int)))=true then (Option.bind (at? a0.agents p1_1) fun v5000=>(Option.bind (i_copyAgent v5000) fun v6003=>(Option.bind (app? p1_0 [v6003]) fun v6005=>(EF n a0 v6005 (IntKind.i64.wrap (p1_1+1)))))) else (some (⟨p1_0⟩:Net)))
def I7 (a0:Net):Option (Net):=
 (Option.bind (OR ((List.length a0.agents:Nat):Int) (⟨0,0,0,[],[]⟩:Agent)) fun v2003=>(EF fuel a0 [] 0))
def C2:Nat→Int→Net→(List Agent)→Int→Option (Net × Bool)
 |0,_,_,_,_=>none
 |n+1,a1,v2001,p1_0,p1_1=>(if (decide (p1_1<((List.length v2001.agents:Nat):Int)))=true then (Option.bind (at? p1_0 p1_1) fun v6003=>(Option.bind (Do v6003.kind) fun v7004=>(if (!v7004)=true then (C2 n a1 v2001 p1_0 (IntKind.i64.wrap (p1_1+1))) else (Option.bind (CU p1_0 p1_1 (⟨v6003.kind,(IntKind.i64.wrap (v6003.level+a1)),v6003.value,v6003.data,v6003.ports⟩:Agent)) fun v8008_23=>(Option.bind (at? v8008_23 p1_1) fun v9003_24=>(if (decide (8<v9003_24.level))=true then (some ((⟨[]⟩:Net),false)) else (C2 n a1 v2001 v8008_23 (IntKind.i64.wrap (p1_1+1))))))))) else (some ((⟨p1_0⟩:Net),true)))
def Hb (a0:Net) (a1:Int):Option (Net × Bool):=
 (Option.bind (I7 a0) fun v2001=>(C2 fuel a1 v2001 v2001.agents 0))
def Cz (a0:Rewriter) (p0_0:Int) (p0_1:Int) (v2004:Int × Bool):Option (Int × Int × Int × Int):=
 (some (v2004.1,p0_0,p0_1,0))
def CL (a0:Rewriter) (v2004:Int × Bool) (p0_0:Int) (p0_1:Int):Option (Int × Int × Int × Int):=
 (if (decide (v2004.1 =8))=true then (some (0,0,0,11)) else (if (decide (v2004.1 =7))=true then (Option.bind (at? a0.net.agents p0_0) fun v10006=>(if (decide (((List.length a0.book:Nat):Int)≤v10006.value))=true then (some (0,0,0,3)) else (Option.bind (at? a0.book v10006.value) fun v13006=>(Option.bind (Hb v13006 v10006.level) fun v13010=>(if (!v13010.2)=true then (some (0,0,0,9)) else (Cz a0 p0_0 p0_1 v2004)))))) else (Cz a0 p0_0 p0_1 v2004)))
def CC (a0:Rewriter) (a1:Pair):Option (Int × Int × Int × Int):=
 (Option.bind (FI a0.net a1) fun v2004=>(if v2004.2 =true then (CL a0 v2004 a1.b a1.a) else (CL a0 v2004 a1.a a1.b)))
def G0 (a1:Int) (p1_2:Int) (p2_0:Bool):Option (Int × Int):=
 (if p2_0=true then (some (0,2)) else (some ((IntKind.i64.wrap (a1+p1_2)),0)))
def DC (a1:Int) (p1_0:Int) (p1_1:Int) (p1_2:Int):Option (Int × Int):=
 (if (decide (a1<p1_0))=true then (G0 a1 p1_2 true) else (G0 a1 p1_2 (decide (p1_1<a1))))
def G1 (a0:Int) (a1:Int) (p0_0:Bool):Option (Int × Int):=
 (if p0_0=true then (DC a1 0 0 (-2)) else (if (decide (a0=3))=true then (DC a1 0 3 0) else (if (decide (a0=4))=true then (DC a1 0 3 (-2)) else (if (decide (a0=5))=true then (DC a1 0 0 (-1)) else (if (decide (a0=6))=true then (DC a1 0 3 (-1)) else (if (decide (a0=7))=true then (DC a1 2 600 (-2)) else (some (0,2))))))))
def Kj (a0:Int) (a1:Int):Option (Int × Int):=
 (if (decide (a0=1))=true then (G1 a0 a1 (decide (a0=1))) else (G1 a0 a1 (decide (a0=2))))
def BD (a0:Rewriter) (a1:Int) (p1_0:Int):Option (Int):=
 (Option.bind (Kj a1 p1_0) fun v12002=>(some v12002.1))
def Ce (a0:Rewriter) (a1:Int) (a2:Int) (a3:Int) (p0_0:Bool):Option (Int):=
 (if p0_0=true then (Option.bind (at? a0.net.agents a3) fun v6006=>(BD a0 a1 (IntKind.i64.wrap (((List.length v6006.ports:Nat):Int) - 1)))) else (if (decide (a1=6))=true then (Option.bind (at? a0.net.agents a2) fun v8006=>(if (decide (v8006.kind=9))=true then (Option.bind (at? a0.net.agents a2) fun v9006=>(BD a0 a1 (IntKind.i64.wrap (((List.length v9006.ports:Nat):Int) - 1)))) else (BD a0 a1 0))) else (if (decide (a1=7))=true then (Option.bind (at? a0.net.agents a2) fun v11010=>(Option.bind (at? a0.book v11010.value) fun v11013=>(BD a0 a1 ((List.length v11013.agents:Nat):Int)))) else (BD a0 a1 0))))
def Dd (a0:Rewriter) (a1:Int) (a2:Int) (a3:Int):Option (Int):=
 (if (decide (a1=3))=true then (Ce a0 a1 a2 a3 (decide (a1=3))) else (Ce a0 a1 a2 a3 (decide (a1=4))))
end Go.Proofs.YtckcfdggbbabfaaGreat.Ab
