/-
  Models of the functions. Printed by wip/ab/gen.py.
-/
import Derived.Test.YtckcfdggbbabfaaGreatMTyC
import Derived.Test.YtckcfdggbbabfaaGreatModL
namespace Go.Proofs.YtckcfdggbbabfaaGreat.Ab
set_option linter.unusedVariables false
set_option linter.unusedSimpArgs false
set_option maxRecDepth 20000
set_option maxHeartbeats 4000000
open Go.RowKit
def EL (a0:Int) (a1:Int) (a2:Int) (p0_0:Bool):Option (Bool):=
 (if p0_0=true then (some false) else (if (decide (a1=6))=true then (some true) else (if (decide (a1=12))=true then (some true) else (Option.bind (Dg a1) fun v4008=>(if v4008=true then (some (decide (a0<a2))) else (some false))))))
def Fy (a0:Int) (a1:Int) (a2:Int):Option (Bool):=
 (Option.bind (Fg a0) fun v2001=>(if (!v2001)=true then (EL a0 a1 a2 true) else (Option.bind (Cz a1 a2) fun v2006=>(EL a0 a1 a2 (!v2006)))))
def Fz (a0:Int):Option (Bool):=
 (if (decide (a0=3))=true then (some true) else (if (decide (a0=7))=true then (some true) else (if (decide (a0=8))=true then (some true) else (if (decide (a0=10))=true then (some true) else (some (decide (a0=11)))))))
def F0 (a1:Int) (a2:Int) (a3:Int) (p0_0:Bool):Option (Int):=
 (if p0_0=true then (some 2) else (Option.bind (Fy a1 a2 a3) fun v8003=>(if v8003=true then (some 3) else (some 0))))
def F1 (p1_0:Bool):Option (Int):=
 (if p1_0=true then (some 1) else (some 0))
def F2 (a2:Int) (p2_0:Bool):Option (Int):=
 (if p2_0=true then (some 5) else (if (decide (a2=11))=true then (some 6) else (some 0)))
def Hb (a0:Int) (a1:Int) (a2:Int) (a3:Int):Option (Int):=
 (if (decide (a0=5))=true then (some 4) else (if (decide (a0=4))=true then (if (decide (a2=4))=true then (F0 a1 a2 a3 (decide (a1=a3))) else (F0 a1 a2 a3 false)) else (if (decide (a0=2))=true then (if (decide (a2=3))=true then (F1 (decide (a1=a3))) else (F1 false)) else (if (decide (a0=6))=true then (if (decide (a2=7))=true then (F2 a2 (decide (a2=7))) else (F2 a2 (decide (a2=8)))) else (if (decide (a0=9))=true then (if (decide (a2=10))=true then (some 6) else (some 0)) else (if (decide (a0=12))=true then (Option.bind (Fz a2) fun v24001=>(if v24001=true then (some 7) else (some 0))) else (some 0)))))))
def Eh (a0:Int) (a1:Int) (a2:Int) (a3:Int) (p0_0:Bool):Option (Int × Int):=
 (if p0_0=true then (some (0,0)) else (Option.bind (Hb a0 a1 a2 a3) fun v4004=>(if (!decide (v4004=0))=true then (some (v4004,1)) else (Option.bind (Hb a2 a3 a0 a1) fun v7004=>(if (!decide (v7004=0))=true then (some (v7004,2)) else (some (8,0)))))))
def Kl (a0:Int) (a1:Int) (a2:Int) (a3:Int):Option (Int × Int):=
 (if (decide (a0=1))=true then (Eh a0 a1 a2 a3 true) else (if (decide (a2=1))=true then (Eh a0 a1 a2 a3 true) else (Option.bind (Cz a0 a1) fun v2009=>(if (!v2009)=true then (Eh a0 a1 a2 a3 true) else (Option.bind (Cz a2 a3) fun v2015=>(Eh a0 a1 a2 a3 (!v2015)))))))
def C4 (v3008:Int × Int) (p1_0:Bool):Option (Int × Bool):=
 (if p1_0=true then (some (8,false)) else (some (v3008.1,(decide (v3008.2 =2)))))
def C5 (v3008:Int × Int) (p0_0:Int) (p0_1:Int) (p0_2:Int) (p0_3:List Int) (p0_4:List Port) (p0_5:Int) (p0_6:Int) (p0_7:Int) (p0_8:List Int) (p0_9:List Port):Option (Int × Bool):=
 (if (decide (v3008.1 =6))=true then (if (decide (p0_5=10))=true then (C4 v3008 (decide (((List.length p0_8:Nat):Int)≤p0_2))) else (C4 v3008 false)) else (C4 v3008 false))
def FI (a0:Net) (a1:Pair):Option (Int × Bool):=
 (Option.bind (at? a0.agents a1.a) fun v2006=>(Option.bind (at? a0.agents a1.b) fun v2014=>(Option.bind (Kl v2006.kind v2006.level v2014.kind v2014.level) fun v3008=>(if (decide (v3008.2 =2))=true then (C5 v3008 v2014.kind v2014.level v2014.value v2014.data v2014.ports v2006.kind v2006.level v2006.value v2006.data v2006.ports) else (C5 v3008 v2006.kind v2006.level v2006.value v2006.data v2006.ports v2014.kind v2014.level v2014.value v2014.data v2014.ports)))))
mutual
def BY:Nat→Net→(List Pair)→Int→Option ((List Pair))
 |0,_,_,_=>none
 |n+1,a0,p0_0,p0_1=>(if (decide (p0_1<((List.length a0.agents:Nat):Int)))=true then (Option.bind (at? a0.agents p0_1) fun v5001=>(Option.bind (at? v5001.ports 0) fun v6002=>(if (decide (v6002.slot=0))=true then (if (decide (p0_1<v6002.agent))=true then (BZ n a0 p0_0 p0_1 v6002 (!decide (v5001.kind=1))) else (BZ n a0 p0_0 p0_1 v6002 false)) else (BZ n a0 p0_0 p0_1 v6002 false)))) else (some p0_0))
def BZ:Nat→Net→(List Pair)→Int→Port→Bool→Option ((List Pair))
 |0,_,_,_,_,_=>none
 |n+1,a0,p0_0,p0_1,v6002,p1_0=>(if p1_0=true then (Option.bind (app? p0_0 [(⟨p0_1,v6002.agent⟩:Pair)]) fun v8006=>(BY n a0 v8006 (IntKind.i64.wrap (p0_1+1)))) else (BY n a0 p0_0 (IntKind.i64.wrap (p0_1+1))))
end
def Ei (a0:Net):Option ((List Pair)):=
 (BY fuel a0 [] 0)
def CQ (a0:List Port):Option ((List Port)):=
 (Option.bind (app? [] a0) fun v4002=>(some v4002))
def C6 (a0:List Int):Option ((List Int)):=
 (Option.bind (app? [] a0) fun v4002=>(some v4002))
def i_copyAgent_z (a0:Agent):Option (Agent):=
 (Option.bind (C6 a0.data) fun v2002=>(Option.bind (CQ a0.ports) fun v2005=>(some (⟨a0.kind,a0.level,a0.value,v2002,v2005⟩:Agent))))
def DD:Nat→Net→(List Agent)→Int→Option (Net)
 |0,_,_,_=>none
 |n+1,a0,p1_0,p1_1=>(if (decide (p1_1<((List.length a0.agents:Nat):Int)))=true then (Option.bind (at? a0.agents p1_1) fun v5000=>(Option.bind (i_copyAgent_z v5000) fun v6003=>(Option.bind (app? p1_0 [v6003]) fun v6005=>(DD n a0 v6005 (IntKind.i64.wrap (p1_1+1)))))) else (some (⟨p1_0⟩:Net)))
def Gt (a0:Net):Option (Net):=
 (Option.bind (Nk ((List.length a0.agents:Nat):Int) (⟨0,0,0,[],[]⟩:Agent)) fun v2003=>(DD fuel a0 [] 0))
def ES (a0:List Net) (a1:Net):Option (Rewriter):=
 (Option.bind (Gt a1) fun v2001=>(some (⟨v2001,a0,[]⟩:Rewriter)))
def CA (a0:Net) (a1:Port) (a2:Port):Option (Net):=
 (Option.bind (at? a0.agents a1.agent) fun v2006=>(Option.bind (at? v2006.ports a1.slot) fun v2012=>(Option.bind (D2 v2006.ports a1.slot a2) fun v2013_3=>(Option.bind (D2 a0.agents a1.agent (⟨v2006.kind,v2006.level,v2006.value,v2006.data,v2013_3⟩:Agent)) fun v2013_4=>(Option.bind (at? v2013_4 a2.agent) fun v3006=>(Option.bind (at? v3006.ports a2.slot) fun v3012=>(Option.bind (D2 v3006.ports a2.slot a1) fun v3013_5=>(Option.bind (D2 v2013_4 a2.agent (⟨v3006.kind,v3006.level,v3006.value,v3006.data,v3013_5⟩:Agent)) fun v3013_6=>(some (⟨v3013_6⟩:Net))))))))))
def By (a0:Rewriter) (a1:Port) (a2:Port):Option (Rewriter):=
 (Option.bind (Ci a0.net a1) fun v2004=>(Option.bind (Ci a0.net a2) fun v2009=>(if (!(decide (v2004.agent=a2.agent)&&decide (v2004.slot=a2.slot)))=true then (Option.bind (CA a0.net v2004 v2009) fun v4005=>(some (⟨v4005,a0.book,a0.removed⟩:Rewriter))) else (some a0))))
def AS (a0:Rewriter) (a1:Port) (a2:Port):Option (Rewriter):=
 (Option.bind (Ci a0.net a1) fun v2007=>(Option.bind (CA a0.net v2007 a2) fun v2009=>(some (⟨v2009,a0.book,a0.removed⟩:Rewriter))))
def As:Nat→Rewriter→(List Int)→(List (Int × Bool))→Int→Option (Rewriter)
 |0,_,_,_,_=>none
 |n+1,a0,a1,p0_0,p0_1=>(if (decide (p0_1<((List.length a1:Nat):Int)))=true then (Option.bind (at? a1 p0_1) fun v3000=>(Option.bind (OE p0_0 v3000 true) fun v4005_6=>(As n a0 a1 v4005_6 (IntKind.i64.wrap (p0_1+1))))) else (some (⟨a0.net,a0.book,p0_0⟩:Rewriter)))
def BJ (a0:Rewriter) (a1:List Int):Option (Rewriter):=
 (As fuel a0 a1 a0.removed 0)
def Du (a0:Rewriter):Option (Int):=
 (some (IntKind.i64.wrap (((List.length a0.net.agents:Nat):Int) - ((List.length a0.removed:Nat):Int))))
def Ej (a0:List Int):Option ((List Int)):=
 (Option.bind (app? [] a0) fun v4002=>(some v4002))
def i_copyAgent (a0:Agent):Option (Agent):=
 (Option.bind (Ej a0.data) fun v2002=>(Option.bind (CQ a0.ports) fun v2005=>(some (⟨a0.kind,a0.level,a0.value,v2002,v2005⟩:Agent))))
mutual
def An:Nat→Net→(List Int)→(List (Int × Int))→(List Agent)→Int→Option (Net)
 |0,_,_,_,_,_=>none
 |n+1,a0,a1,p1_0,p7_0,p7_1=>(if (decide (p7_1<((List.length a1:Nat):Int)))=true then (Option.bind (at? a1 p7_1) fun v11000=>(Option.bind (at? a0.agents v11000) fun v12005=>(Option.bind (i_copyAgent v12005) fun v12007=>(Ba n a0 a1 p1_0 p7_0 p7_1 v12007 v12007.ports 0)))) else (some (⟨p7_0⟩:Net)))
def Ba:Nat→Net→(List Int)→(List (Int × Int))→(List Agent)→Int→Agent→(List Port)→Int→Option (Net)
 |0,_,_,_,_,_,_,_,_=>none
 |n+1,a0,a1,p1_0,p7_0,p7_1,v12007,p11_0,p11_1=>(if (decide (p11_1<((List.length v12007.ports:Nat):Int)))=true then (Option.bind (at? p11_0 p11_1) fun v16007=>(Option.bind (at? p11_0 p11_1) fun v16011=>(Option.bind (D2 p11_0 p11_1 (⟨((Hx p1_0 v16007.agent).getD 0),v16011.slot⟩:Port)) fun v16013_156=>(Ba n a0 a1 p1_0 p7_0 p7_1 v12007 v16013_156 (IntKind.i64.wrap (p11_1+1)))))) else (Option.bind (app? p7_0 [(⟨v12007.kind,v12007.level,v12007.value,v12007.data,p11_0⟩:Agent)]) fun v18004=>(An n a0 a1 p1_0 v18004 (IntKind.i64.wrap (p7_1+1)))))
end
def Bj:Nat→Net→(List Int)→(List (Int × Int))→Int→Option (Net)
 |0,_,_,_,_=>none
 |n+1,a0,a1,p1_0,p1_1=>(if (decide (p1_1<((List.length a1:Nat):Int)))=true then (Option.bind (at? a1 p1_1) fun v5001=>(Option.bind (OE p1_0 v5001 p1_1) fun v6003_12=>(Bj n a0 a1 v6003_12 (IntKind.i64.wrap (p1_1+1))))) else (An fuel a0 a1 p1_0 [] 0))
def Dv (a0:Net) (a1:List Int):Option (Net):=
 (Bj fuel a0 a1 [] 0)
def A6:Nat→Rewriter→(List Int)→Int→Option (Net)
 |0,_,_,_=>none
 |n+1,a0,p1_0,p1_1=>(if (decide (p1_1<((List.length a0.net.agents:Nat):Int)))=true then (if (!((Hx a0.removed p1_1).getD false))=true then (Option.bind (app? p1_0 [p1_1]) fun v7003=>(A6 n a0 v7003 (IntKind.i64.wrap (p1_1+1)))) else (A6 n a0 p1_0 (IntKind.i64.wrap (p1_1+1)))) else (Option.bind (Dv a0.net p1_0) fun v9004=>(some v9004)))
def Bk (a0:Rewriter):Option (Net):=
 (A6 fuel a0 [] 0)
def D9:Nat→Net→(List Agent)→Int→Option (Net)
 |0,_,_,_=>none
 |n+1,a0,p1_0,p1_1=>(if (decide (p1_1<((List.length a0.agents:Nat):Int)))=true then (Option.bind (at? a0.agents p1_1) fun v5000=>(Option.bind (i_copyAgent v5000) fun v6003=>(Option.bind (app? p1_0 [v6003]) fun v6005=>(D9 n a0 v6005 (IntKind.i64.wrap (p1_1+1)))))) else (some (⟨p1_0⟩:Net)))
def I2 (a0:Net):Option (Net):=
 (Option.bind (Nk ((List.length a0.agents:Nat):Int) (⟨0,0,0,[],[]⟩:Agent)) fun v2003=>(D9 fuel a0 [] 0))
def Cq:Nat→Int→Net→(List Agent)→Int→Option (Net × Bool)
 |0,_,_,_,_=>none
 |n+1,a1,v2001,p1_0,p1_1=>(if (decide (p1_1<((List.length v2001.agents:Nat):Int)))=true then (Option.bind (at? p1_0 p1_1) fun v6003=>(Option.bind (Dg v6003.kind) fun v7004=>(if (!v7004)=true then (Cq n a1 v2001 p1_0 (IntKind.i64.wrap (p1_1+1))) else (Option.bind (D2 p1_0 p1_1 (⟨v6003.kind,(IntKind.i64.wrap (v6003.level+a1)),v6003.value,v6003.data,v6003.ports⟩:Agent)) fun v8008_23=>(Option.bind (at? v8008_23 p1_1) fun v9003_24=>(if (decide (8<v9003_24.level))=true then (some ((⟨[]⟩:Net),false)) else (Cq n a1 v2001 v8008_23 (IntKind.i64.wrap (p1_1+1))))))))) else (some ((⟨p1_0⟩:Net),true)))
def Hc (a0:Net) (a1:Int):Option (Net × Bool):=
 (Option.bind (I2 a0) fun v2001=>(Cq fuel a1 v2001 v2001.agents 0))
def Cn (a0:Rewriter) (p0_0:Int) (p0_1:Int) (v2004:Int × Bool):Option (Int × Int × Int × Int):=
 (some (v2004.1,p0_0,p0_1,0))
def CJ (a0:Rewriter) (v2004:Int × Bool) (p0_0:Int) (p0_1:Int):Option (Int × Int × Int × Int):=
 (if (decide (v2004.1 =8))=true then (some (0,0,0,11)) else (if (decide (v2004.1 =7))=true then (Option.bind (at? a0.net.agents p0_0) fun v10006=>(if (decide (((List.length a0.book:Nat):Int)≤v10006.value))=true then (some (0,0,0,3)) else (Option.bind (at? a0.book v10006.value) fun v13006=>(Option.bind (Hc v13006 v10006.level) fun v13010=>(if (!v13010.2)=true then (some (0,0,0,9)) else (Cn a0 p0_0 p0_1 v2004)))))) else (Cn a0 p0_0 p0_1 v2004)))
def B6 (a0:Rewriter) (a1:Pair):Option (Int × Int × Int × Int):=
 (Option.bind (FI a0.net a1) fun v2004=>(if v2004.2 =true then (CJ a0 v2004 a1.b a1.a) else (CJ a0 v2004 a1.a a1.b)))
def Gu (a1:Int) (p1_2:Int) (p2_0:Bool):Option (Int × Int):=
 (if p2_0=true then (some (0,2)) else (some ((IntKind.i64.wrap (a1+p1_2)),0)))
def C0 (a1:Int) (p1_0:Int) (p1_1:Int) (p1_2:Int):Option (Int × Int):=
 (if (decide (a1<p1_0))=true then (Gu a1 p1_2 true) else (Gu a1 p1_2 (decide (p1_1<a1))))
def Gv (a0:Int) (a1:Int) (p0_0:Bool):Option (Int × Int):=
 (if p0_0=true then (C0 a1 0 0 (-2)) else (if (decide (a0=3))=true then (C0 a1 0 3 0) else (if (decide (a0=4))=true then (C0 a1 0 3 (-2)) else (if (decide (a0=5))=true then (C0 a1 0 0 (-1)) else (if (decide (a0=6))=true then (C0 a1 0 3 (-1)) else (if (decide (a0=7))=true then (C0 a1 2 600 (-2)) else (some (0,2))))))))
def Km (a0:Int) (a1:Int):Option (Int × Int):=
 (if (decide (a0=1))=true then (Gv a0 a1 (decide (a0=1))) else (Gv a0 a1 (decide (a0=2))))
def A7 (a0:Rewriter) (a1:Int) (p1_0:Int):Option (Int):=
 (Option.bind (Km a1 p1_0) fun v12002=>(some v12002.1))
def CX (a0:Rewriter) (a1:Int) (a2:Int) (a3:Int) (p0_0:Bool):Option (Int):=
 (if p0_0=true then (Option.bind (at? a0.net.agents a3) fun v6006=>(A7 a0 a1 (IntKind.i64.wrap (((List.length v6006.ports:Nat):Int) - 1)))) else (if (decide (a1=6))=true then (Option.bind (at? a0.net.agents a2) fun v8006=>(if (decide (v8006.kind=9))=true then (Option.bind (at? a0.net.agents a2) fun v9006=>(A7 a0 a1 (IntKind.i64.wrap (((List.length v9006.ports:Nat):Int) - 1)))) else (A7 a0 a1 0))) else (if (decide (a1=7))=true then (Option.bind (at? a0.net.agents a2) fun v11010=>(Option.bind (at? a0.book v11010.value) fun v11013=>(A7 a0 a1 ((List.length v11013.agents:Nat):Int)))) else (A7 a0 a1 0))))
def DU (a0:Rewriter) (a1:Int) (a2:Int) (a3:Int):Option (Int):=
 (if (decide (a1=3))=true then (CX a0 a1 a2 a3 (decide (a1=3))) else (CX a0 a1 a2 a3 (decide (a1=4))))
end Go.Proofs.YtckcfdggbbabfaaGreat.Ab
