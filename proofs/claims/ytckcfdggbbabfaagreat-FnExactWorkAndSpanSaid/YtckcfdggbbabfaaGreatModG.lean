/-
  Data of the program as Lean types; how they lie in memory. Printed by wip/ab/gen.py.
-/
import Derived.Test.YtckcfdggbbabfaaGreatAbY
import Derived.Test.YtckcfdggbbabfaaGreatModL
namespace Go.Proofs.YtckcfdggbbabfaaGreat.Ab
set_option linter.unusedVariables false
set_option linter.unusedSimpArgs false
set_option maxRecDepth 20000
set_option maxHeartbeats 4000000
open Go.RowKit
structure Rewriter where
 net:Net
 book:List Net
 removed:List (Int × Bool)
end Go.Proofs.YtckcfdggbbabfaaGreat.Ab
namespace Go.Proofs.YtckcfdggbbabfaaGreat.Ab
set_option linter.unusedVariables false
set_option linter.unusedSimpArgs false
set_option maxRecDepth 20000
set_option maxHeartbeats 4000000
open Go.RowKit
def E6 (a0:Int) (a1:Int) (a2:Int) (p0_0:Bool):Option (Bool):=
 (if p0_0=true then (some false) else (if (decide (a1=6))=true then (some true) else (if (decide (a1=12))=true then (some true) else (Option.bind (EJ a1) fun v4008=>(if v4008=true then (some (decide (a0<a2))) else (some false))))))
def G3 (a0:Int) (a1:Int) (a2:Int):Option (Bool):=
 (Option.bind (Gg a0) fun v2001=>(if (!v2001)=true then (E6 a0 a1 a2 true) else (Option.bind (DU a1 a2) fun v2006=>(E6 a0 a1 a2 (!v2006)))))
def G4 (a0:Int):Option (Bool):=
 (if (decide (a0=3))=true then (some true) else (if (decide (a0=7))=true then (some true) else (if (decide (a0=8))=true then (some true) else (if (decide (a0=10))=true then (some true) else (some (decide (a0=11)))))))
def G5 (a1:Int) (a2:Int) (a3:Int) (p0_0:Bool):Option (Int):=
 (if p0_0=true then (some 2) else (Option.bind (G3 a1 a2 a3) fun v8003=>(if v8003=true then (some 3) else (some 0))))
def G6 (p1_0:Bool):Option (Int):=
 (if p1_0=true then (some 1) else (some 0))
def G7 (a2:Int) (p2_0:Bool):Option (Int):=
 (if p2_0=true then (some 5) else (if (decide (a2=11))=true then (some 6) else (some 0)))
def Ih (a0:Int) (a1:Int) (a2:Int) (a3:Int):Option (Int):=
 (if (decide (a0=5))=true then (some 4) else (if (decide (a0=4))=true then (if (decide (a2=4))=true then (G5 a1 a2 a3 (decide (a1=a3))) else (G5 a1 a2 a3 false)) else (if (decide (a0=2))=true then (if (decide (a2=3))=true then (G6 (decide (a1=a3))) else (G6 false)) else (if (decide (a0=6))=true then (if (decide (a2=7))=true then (G7 a2 (decide (a2=7))) else (G7 a2 (decide (a2=8)))) else (if (decide (a0=9))=true then (if (decide (a2=10))=true then (some 6) else (some 0)) else (if (decide (a0=12))=true then (Option.bind (G4 a2) fun v24001=>(if v24001=true then (some 7) else (some 0))) else (some 0)))))))
def FU (a0:Int) (a1:Int) (a2:Int) (a3:Int) (p0_0:Bool):Option (Int × Int):=
 (if p0_0=true then (some (0,0)) else (Option.bind (Ih a0 a1 a2 a3) fun v4004=>(if (!decide (v4004=0))=true then (some (v4004,1)) else (Option.bind (Ih a2 a3 a0 a1) fun v7004=>(if (!decide (v7004=0))=true then (some (v7004,2)) else (some (8,0)))))))
def L8 (a0:Int) (a1:Int) (a2:Int) (a3:Int):Option (Int × Int):=
 (if (decide (a0=1))=true then (FU a0 a1 a2 a3 true) else (if (decide (a2=1))=true then (FU a0 a1 a2 a3 true) else (Option.bind (DU a0 a1) fun v2009=>(if (!v2009)=true then (FU a0 a1 a2 a3 true) else (Option.bind (DU a2 a3) fun v2015=>(FU a0 a1 a2 a3 (!v2015)))))))
def Db (v3008:Int × Int) (p1_0:Bool):Option (Int × Bool):=
 (if p1_0=true then (some (8,false)) else (some (v3008.1,(decide (v3008.2 =2)))))
def Dc (v3008:Int × Int) (p0_0:Int) (p0_1:Int) (p0_2:Int) (p0_3:List Int) (p0_4:List Port) (p0_5:Int) (p0_6:Int) (p0_7:Int) (p0_8:List Int) (p0_9:List Port):Option (Int × Bool):=
 (if (decide (v3008.1 =6))=true then (if (decide (p0_5=10))=true then (Db v3008 (decide (((List.length p0_8:Nat):Int)≤p0_2))) else (Db v3008 false)) else (Db v3008 false))
def EK (a0:Net) (a1:Pair):Option (Int × Bool):=
 (Option.bind (at? a0.agents a1.a) fun v2006=>(Option.bind (at? a0.agents a1.b) fun v2014=>(Option.bind (L8 v2006.kind v2006.level v2014.kind v2014.level) fun v3008=>(if (decide (v3008.2 =2))=true then (Dc v3008 v2014.kind v2014.level v2014.value v2014.data v2014.ports v2006.kind v2006.level v2006.value v2006.data v2006.ports) else (Dc v3008 v2006.kind v2006.level v2006.value v2006.data v2006.ports v2014.kind v2014.level v2014.value v2014.data v2014.ports)))))
mutual
def Bd:Nat→Net→(List Pair)→Int→Option ((List Pair))
 |0,_,_,_=>none
 |n+1,a0,p0_0,p0_1=>(if (decide (p0_1<((List.length a0.agents:Nat):Int)))=true then (Option.bind (at? a0.agents p0_1) fun v5001=>(Option.bind (at? v5001.ports 0) fun v6002=>(if (decide (v6002.slot=0))=true then (if (decide (p0_1<v6002.agent))=true then (Be n a0 p0_0 p0_1 v6002 (!decide (v5001.kind=1))) else (Be n a0 p0_0 p0_1 v6002 false)) else (Be n a0 p0_0 p0_1 v6002 false)))) else (some p0_0))
def Be:Nat→Net→(List Pair)→Int→Port→Bool→Option ((List Pair))
 |0,_,_,_,_,_=>none
 |n+1,a0,p0_0,p0_1,v6002,p1_0=>(if p1_0=true then (Option.bind (app? p0_0 [(⟨p0_1,v6002.agent⟩:Pair)]) fun v8006=>(Bd n a0 v8006 (IntKind.i64.wrap (p0_1+1)))) else (Bd n a0 p0_0 (IntKind.i64.wrap (p0_1+1))))
end
def Ek (a0:Net):Option ((List Pair)):=
 (Bd fuel a0 [] 0)
def Cl (a0:List Port):Option ((List Port)):=
 (Option.bind (app? [] a0) fun v4002=>(some v4002))
def Dd (a0:List Int):Option ((List Int)):=
 (Option.bind (app? [] a0) fun v4002=>(some v4002))
def i_copyAgent_z (a0:Agent):Option (Agent):=
 (Option.bind (Dd a0.data) fun v2002=>(Option.bind (Cl a0.ports) fun v2005=>(some (⟨a0.kind,a0.level,a0.value,v2002,v2005⟩:Agent))))
def Dl:Nat→Net→(List Agent)→Int→Option (Net)
 |0,_,_,_=>none
 |n+1,a0,p1_0,p1_1=>(if (decide (p1_1<((List.length a0.agents:Nat):Int)))=true then (Option.bind (at? a0.agents p1_1) fun v5000=>(Option.bind (i_copyAgent_z v5000) fun v6003=>(Option.bind (app? p1_0 [v6003]) fun v6005=>(Dl n a0 v6005 (IntKind.i64.wrap (p1_1+1)))))) else (some (⟨p1_0⟩:Net)))
def Hw (a0:Net):Option (Net):=
 (Option.bind (rep? ((List.length a0.agents:Nat):Int) (⟨0,0,0,[],[]⟩:Agent)) fun v2003=>(Dl fuel a0 [] 0))
def FC (a0:List Net) (a1:Net):Option (Rewriter):=
 (Option.bind (Hw a1) fun v2001=>(some (⟨v2001,a0,[]⟩:Rewriter)))
def CO (a0:Net) (a1:Port) (a2:Port):Option (Net):=
 (Option.bind (at? a0.agents a1.agent) fun v2006=>(Option.bind (at? v2006.ports a1.slot) fun v2012=>(Option.bind (CF v2006.ports a1.slot a2) fun v2013_3=>(Option.bind (CF a0.agents a1.agent (⟨v2006.kind,v2006.level,v2006.value,v2006.data,v2013_3⟩:Agent)) fun v2013_4=>(Option.bind (at? v2013_4 a2.agent) fun v3006=>(Option.bind (at? v3006.ports a2.slot) fun v3012=>(Option.bind (CF v3006.ports a2.slot a1) fun v3013_5=>(Option.bind (CF v2013_4 a2.agent (⟨v3006.kind,v3006.level,v3006.value,v3006.data,v3013_5⟩:Agent)) fun v3013_6=>(some (⟨v3013_6⟩:Net))))))))))
def B9 (a0:Rewriter) (a1:Port) (a2:Port):Option (Rewriter):=
 (Option.bind (DB a0.net a1) fun v2004=>(Option.bind (DB a0.net a2) fun v2009=>(if (!(decide (v2004.agent=a2.agent)&&decide (v2004.slot=a2.slot)))=true then (Option.bind (CO a0.net v2004 v2009) fun v4005=>(some (⟨v4005,a0.book,a0.removed⟩:Rewriter))) else (some a0))))
def AU (a0:Rewriter) (a1:Port) (a2:Port):Option (Rewriter):=
 (Option.bind (DB a0.net a1) fun v2007=>(Option.bind (CO a0.net v2007 a2) fun v2009=>(some (⟨v2009,a0.book,a0.removed⟩:Rewriter))))
def A0:Nat→Rewriter→(List Int)→(List (Int × Bool))→Int→Option (Rewriter)
 |0,_,_,_,_=>none
 |n+1,a0,a1,p0_0,p0_1=>(if (decide (p0_1<((List.length a1:Nat):Int)))=true then (Option.bind (at? a1 p0_1) fun v3000=>(Option.bind (QF p0_0 v3000 true) fun v4005_6=>(A0 n a0 a1 v4005_6 (IntKind.i64.wrap (p0_1+1))))) else (some (⟨a0.net,a0.book,p0_0⟩:Rewriter)))
def BN (a0:Rewriter) (a1:List Int):Option (Rewriter):=
 (A0 fuel a0 a1 a0.removed 0)
def EZ (a0:Rewriter):Option (Int):=
 (some (IntKind.i64.wrap (((List.length a0.net.agents:Nat):Int) - ((List.length a0.removed:Nat):Int))))
def FV (a0:List Int):Option ((List Int)):=
 (Option.bind (app? [] a0) fun v4002=>(some v4002))
def i_copyAgent (a0:Agent):Option (Agent):=
 (Option.bind (FV a0.data) fun v2002=>(Option.bind (Cl a0.ports) fun v2005=>(some (⟨a0.kind,a0.level,a0.value,v2002,v2005⟩:Agent))))
mutual
def As:Nat→Net→(List Int)→(List (Int × Int))→(List Agent)→Int→Option (Net)
 |0,_,_,_,_,_=>none
 |n+1,a0,a1,p1_0,p7_0,p7_1=>(if (decide (p7_1<((List.length a1:Nat):Int)))=true then (Option.bind (at? a1 p7_1) fun v11000=>(Option.bind (at? a0.agents v11000) fun v12005=>(Option.bind (i_copyAgent v12005) fun v12007=>(Bf n a0 a1 p1_0 p7_0 p7_1 v12007 v12007.ports 0)))) else (some (⟨p7_0⟩:Net)))
def Bf:Nat→Net→(List Int)→(List (Int × Int))→(List Agent)→Int→Agent→(List Port)→Int→Option (Net)
 |0,_,_,_,_,_,_,_,_=>none
 |n+1,a0,a1,p1_0,p7_0,p7_1,v12007,p11_0,p11_1=>(if (decide (p11_1<((List.length v12007.ports:Nat):Int)))=true then (Option.bind (at? p11_0 p11_1) fun v16007=>(Option.bind (at? p11_0 p11_1) fun v16011=>(Option.bind (CF p11_0 p11_1 (⟨((I3 p1_0 v16007.agent).getD 0),v16011.slot⟩:Port)) fun v16013_156=>(Bf n a0 a1 p1_0 p7_0 p7_1 v12007 v16013_156 (IntKind.i64.wrap (p11_1+1)))))) else (Option.bind (app? p7_0 [(⟨v12007.kind,v12007.level,v12007.value,v12007.data,p11_0⟩:Agent)]) fun v18004=>(As n a0 a1 p1_0 v18004 (IntKind.i64.wrap (p7_1+1)))))
end
def Bp:Nat→Net→(List Int)→(List (Int × Int))→Int→Option (Net)
 |0,_,_,_,_=>none
 |n+1,a0,a1,p1_0,p1_1=>(if (decide (p1_1<((List.length a1:Nat):Int)))=true then (Option.bind (at? a1 p1_1) fun v5001=>(Option.bind (QF p1_0 v5001 p1_1) fun v6003_12=>(Bp n a0 a1 v6003_12 (IntKind.i64.wrap (p1_1+1))))) else (As fuel a0 a1 p1_0 [] 0))
def Ea (a0:Net) (a1:List Int):Option (Net):=
 (Bp fuel a0 a1 [] 0)
def BD:Nat→Rewriter→(List Int)→Int→Option (Net)
 |0,_,_,_=>none
 |n+1,a0,p1_0,p1_1=>(if (decide (p1_1<((List.length a0.net.agents:Nat):Int)))=true then (if (!((I3 a0.removed p1_1).getD false))=true then (Option.bind (app? p1_0 [p1_1]) fun v7003=>(BD n a0 v7003 (IntKind.i64.wrap (p1_1+1)))) else (BD n a0 p1_0 (IntKind.i64.wrap (p1_1+1)))) else (Option.bind (Ea a0.net p1_0) fun v9004=>(some v9004)))
def Bq (a0:Rewriter):Option (Net):=
 (BD fuel a0 [] 0)
def Et:Nat→Net→(List Agent)→Int→Option (Net)
 |0,_,_,_=>none
 |n+1,a0,p1_0,p1_1=>(if (decide (p1_1<((List.length a0.agents:Nat):Int)))=true then (Option.bind (at? a0.agents p1_1) fun v5000=>(Option.bind (i_copyAgent v5000) fun v6003=>(Option.bind (app? p1_0 [v6003]) fun v6005=>(Et n a0 v6005 (IntKind.i64.wrap (p1_1+1)))))) else (some (⟨p1_0⟩:Net)))
def KL (a0:Net):Option (Net):=
 (Option.bind (rep? ((List.length a0.agents:Nat):Int) (⟨0,0,0,[],[]⟩:Agent)) fun v2003=>(Et fuel a0 [] 0))
def DL:Nat→Int→Net→(List Agent)→Int→Option (Net × Bool)
 |0,_,_,_,_=>none
 |n+1,a1,v2001,p1_0,p1_1=>(if (decide (p1_1<((List.length v2001.agents:Nat):Int)))=true then (Option.bind (at? p1_0 p1_1) fun v6003=>(Option.bind (EJ v6003.kind) fun v7004=>(if (!v7004)=true then (DL n a1 v2001 p1_0 (IntKind.i64.wrap (p1_1+1))) else (Option.bind (CF p1_0 p1_1 (⟨v6003.kind,(IntKind.i64.wrap (v6003.level+a1)),v6003.value,v6003.data,v6003.ports⟩:Agent)) fun v8008_23=>(Option.bind (at? v8008_23 p1_1) fun v9003_24=>(if (decide (8<v9003_24.level))=true then (some ((⟨[]⟩:Net),false)) else (DL n a1 v2001 v8008_23 (IntKind.i64.wrap (p1_1+1))))))))) else (some ((⟨p1_0⟩:Net),true)))
def Ii (a0:Net) (a1:Int):Option (Net × Bool):=
 (Option.bind (KL a0) fun v2001=>(DL fuel a1 v2001 v2001.agents 0))
def DG (a0:Rewriter) (p0_0:Int) (p0_1:Int) (v2004:Int × Bool):Option (Int × Int × Int × Int):=
 (some (v2004.1,p0_0,p0_1,0))
def CX (a0:Rewriter) (v2004:Int × Bool) (p0_0:Int) (p0_1:Int):Option (Int × Int × Int × Int):=
 (if (decide (v2004.1 =8))=true then (some (0,0,0,11)) else (if (decide (v2004.1 =7))=true then (Option.bind (at? a0.net.agents p0_0) fun v10006=>(if (decide (((List.length a0.book:Nat):Int)≤v10006.value))=true then (some (0,0,0,3)) else (Option.bind (at? a0.book v10006.value) fun v13006=>(Option.bind (Ii v13006 v10006.level) fun v13010=>(if (!v13010.2)=true then (some (0,0,0,9)) else (DG a0 p0_0 p0_1 v2004)))))) else (DG a0 p0_0 p0_1 v2004)))
def CH (a0:Rewriter) (a1:Pair):Option (Int × Int × Int × Int):=
 (Option.bind (EK a0.net a1) fun v2004=>(if v2004.2 =true then (CX a0 v2004 a1.b a1.a) else (CX a0 v2004 a1.a a1.b)))
def Hx (a1:Int) (p1_2:Int) (p2_0:Bool):Option (Int × Int):=
 (if p2_0=true then (some (0,2)) else (some ((IntKind.i64.wrap (a1+p1_2)),0)))
def DV (a1:Int) (p1_0:Int) (p1_1:Int) (p1_2:Int):Option (Int × Int):=
 (if (decide (a1<p1_0))=true then (Hx a1 p1_2 true) else (Hx a1 p1_2 (decide (p1_1<a1))))
def Hy (a0:Int) (a1:Int) (p0_0:Bool):Option (Int × Int):=
 (if p0_0=true then (DV a1 0 0 (-2)) else (if (decide (a0=3))=true then (DV a1 0 3 0) else (if (decide (a0=4))=true then (DV a1 0 3 (-2)) else (if (decide (a0=5))=true then (DV a1 0 0 (-1)) else (if (decide (a0=6))=true then (DV a1 0 3 (-1)) else (if (decide (a0=7))=true then (DV a1 2 600 (-2)) else (some (0,2))))))))
def L9 (a0:Int) (a1:Int):Option (Int × Int):=
 (if (decide (a0=1))=true then (Hy a0 a1 (decide (a0=1))) else (Hy a0 a1 (decide (a0=2))))
def BE (a0:Rewriter) (a1:Int) (p1_0:Int):Option (Int):=
 (Option.bind (L9 a1 p1_0) fun v12002=>(some v12002.1))
def Cu (a0:Rewriter) (a1:Int) (a2:Int) (a3:Int) (p0_0:Bool):Option (Int):=
 (if p0_0=true then (Option.bind (at? a0.net.agents a3) fun v6006=>(BE a0 a1 (IntKind.i64.wrap (((List.length v6006.ports:Nat):Int) - 1)))) else (if (decide (a1=6))=true then (Option.bind (at? a0.net.agents a2) fun v8006=>(if (decide (v8006.kind=9))=true then (Option.bind (at? a0.net.agents a2) fun v9006=>(BE a0 a1 (IntKind.i64.wrap (((List.length v9006.ports:Nat):Int) - 1)))) else (BE a0 a1 0))) else (if (decide (a1=7))=true then (Option.bind (at? a0.net.agents a2) fun v11010=>(Option.bind (at? a0.book v11010.value) fun v11013=>(BE a0 a1 ((List.length v11013.agents:Nat):Int)))) else (BE a0 a1 0))))
def D5 (a0:Rewriter) (a1:Int) (a2:Int) (a3:Int):Option (Int):=
 (if (decide (a1=3))=true then (Cu a0 a1 a2 a3 (decide (a1=3))) else (Cu a0 a1 a2 a3 (decide (a1=4))))
end Go.Proofs.YtckcfdggbbabfaaGreat.Ab
namespace Go.Proofs.YtckcfdggbbabfaaGreat.Ab
set_option linter.unusedVariables false
set_option linter.unusedSimpArgs false
set_option maxRecDepth 20000
set_option maxHeartbeats 4000000
open Go.RowKit
def Ai (a0:Rewriter) (a1:Int) (a2:Int) (a3:Int) (a4:List Int) (a5:Int):Option (Int × Rewriter):=
 (Option.bind (Dd a4) fun v2010=>(Option.bind (rep? a5 (⟨0,0⟩:Port)) fun v2012=>(Option.bind (app? a0.net.agents [(⟨a1,a2,a3,v2010,v2012⟩:Agent)]) fun v2015=>(some ((IntKind.i64.wrap (((List.length v2015:Nat):Int) - 1)),(⟨(⟨v2015⟩:Net),a0.book,a0.removed⟩:Rewriter))))))
def A8:Nat→Rewriter→Int→(List Int)→(List (Int × Bool))→(List Agent)→Int→Option (Rewriter)
 |0,_,_,_,_,_,_=>none
 |n+1,a0,a2,p1_2,p2_0,p2_1,p2_2=>(if (decide (p2_2<((List.length p1_2:Nat):Int)))=true then (Option.bind (at? p1_2 p2_2) fun v16001=>(Option.bind (AU (⟨(⟨p2_1⟩:Net),a0.book,p2_0⟩:Rewriter) (⟨a2,(IntKind.i64.wrap (p2_2+1))⟩:Port) (⟨v16001,0⟩:Port)) fun v17007=>(A8 n a0 a2 p1_2 v17007.removed v17007.net.agents (IntKind.i64.wrap (p2_2+1))))) else (some (⟨(⟨p2_1⟩:Net),a0.book,p2_0⟩:Rewriter)))
def Ap:Nat→Rewriter→Int→Int→Agent→(Int × Rewriter)→(Int × Rewriter)→(List (Int × Bool))→(List Agent)→(List Int)→Int→Option (Rewriter)
 |0,_,_,_,_,_,_,_,_,_,_=>none
 |n+1,a0,a1,a2,v1006,v2012,v3012,p1_0,p1_1,p1_2,p1_3=>(if (decide (p1_3<(((List.length v1006.ports):Nat):Int)))=true then (Option.bind (at? p1_1 a1) fun v8007=>(Option.bind (Ai (⟨(⟨p1_1⟩:Net),a0.book,p1_0⟩:Rewriter) 4 v8007.level 0 [] 3) fun v8010=>(Option.bind (CO v8010.2.net (⟨v8010.1,1⟩:Port) (⟨v2012.1,p1_3⟩:Port)) fun v9008=>(Option.bind (CO v9008 (⟨v8010.1,2⟩:Port) (⟨v3012.1,p1_3⟩:Port)) fun v10008=>(Option.bind (app? p1_2 [v8010.1]) fun v11003=>(Ap n a0 a1 a2 v1006 v2012 v3012 v8010.2.removed v10008.agents v11003 (IntKind.i64.wrap (p1_3+1)))))))) else (Option.bind (AU (⟨(⟨p1_1⟩:Net),a0.book,p1_0⟩:Rewriter) (⟨a1,1⟩:Port) (⟨v2012.1,0⟩:Port)) fun v12005=>(Option.bind (AU (⟨v12005.net,a0.book,v12005.removed⟩:Rewriter) (⟨a1,2⟩:Port) (⟨v3012.1,0⟩:Port)) fun v13005=>(A8 fuel a0 a2 p1_2 v13005.removed v13005.net.agents 0))))
def Cv (a0:Rewriter) (a1:Int) (a2:Int):Option (Rewriter):=
 (Option.bind (at? a0.net.agents a2) fun v1006=>(Option.bind (Ai a0 v1006.kind v1006.level v1006.value v1006.data (((List.length v1006.ports):Nat):Int)) fun v2012=>(Option.bind (Ai (⟨v2012.2.net,a0.book,v2012.2.removed⟩:Rewriter) v1006.kind v1006.level v1006.value v1006.data (((List.length v1006.ports):Nat):Int)) fun v3012=>(Ap fuel a0 a1 a2 v1006 v2012 v3012 v3012.2.removed v3012.2.net.agents [] 1))))
def Hl (a0:Bool):Option (Int):=
 (if a0=true then (some 1) else (some 0))
def D6 (a0:Int):Option (Int):=
 (some (IntKind.i64.wrap (IntKind.i32.wrap a0)))
def Fm (a0:Int) (a1:Int) (a2:Int):Option (Int):=
 (Option.bind (D6 a1) fun v2001=>(Option.bind (D6 a2) fun v2003=>(if (decide (a0=1))=true then (Option.bind (D6 (IntKind.i64.wrap (v2001+v2003))) fun v5003=>(some v5003)) else (if (decide (a0=2))=true then (Option.bind (D6 (IntKind.i64.wrap (v2001 - v2003))) fun v7003=>(some v7003)) else (if (decide (a0=3))=true then (Option.bind (D6 (IntKind.i64.wrap (v2001*v2003))) fun v9003=>(some v9003)) else (if (decide (a0=4))=true then (if (decide (v2003=0))=true then (some 0) else (Option.bind (nz? v2003) fun v13002=>(Option.bind (D6 (IntKind.i64.wrap (Int.tdiv v2001 v2003))) fun v13003=>(some v13003)))) else (if (decide (a0=5))=true then (Option.bind (Hl (decide (v2001<v2003))) fun v15003=>(some v15003)) else (if (decide (a0=6))=true then (Option.bind (Hl (decide (v2001=v2003))) fun v17003=>(some v17003)) else (some 0)))))))))
def Cm (a0:Rewriter) (a1:Int) (a2:Int):Option (Rewriter):=
 (Option.bind (at? a0.net.agents a1) fun v1006=>(Option.bind (at? a0.net.agents a2) fun v1015=>(if (decide (v1015.kind=7))=true then (Option.bind (Ai a0 8 v1015.level v1015.value [v1006.value] 2) fun v3007=>(Option.bind (AU (⟨v3007.2.net,a0.book,v3007.2.removed⟩:Rewriter) (⟨a2,1⟩:Port) (⟨v3007.1,0⟩:Port)) fun v4005=>(Option.bind (AU (⟨v4005.net,a0.book,v4005.removed⟩:Rewriter) (⟨a2,2⟩:Port) (⟨v3007.1,1⟩:Port)) fun v5005=>(some (⟨v5005.net,a0.book,v5005.removed⟩:Rewriter))))) else (Option.bind (at? v1015.data 0) fun v6008=>(Option.bind (Fm v1015.value v6008 v1006.value) fun v6011=>(Option.bind (Ai a0 6 0 v6011 [] 1) fun v6012=>(Option.bind (AU (⟨v6012.2.net,a0.book,v6012.2.removed⟩:Rewriter) (⟨a2,1⟩:Port) (⟨v6012.1,0⟩:Port)) fun v6014=>(some (⟨v6014.net,a0.book,v6014.removed⟩:Rewriter)))))))))
def BF:Nat→Rewriter→Int→Int→Int→Int→(List Int)→(List (Int × Bool))→(List Agent)→Int→Option (Rewriter)
 |0,_,_,_,_,_,_,_,_,_=>none
 |n+1,a0,a1,a2,p2_2,p2_3,p2_4,p4_0,p4_1,p4_2=>(if (decide (p4_2<((List.length p2_4:Nat):Int)))=true then (Option.bind (at? p2_4 p4_2) fun v15001=>(Option.bind (AU (⟨(⟨p4_1⟩:Net),a0.book,p4_0⟩:Rewriter) (⟨a1,(IntKind.i64.wrap (p4_2+1))⟩:Port) (⟨v15001,1⟩:Port)) fun v16007=>(BF n a0 a1 a2 p2_2 p2_3 p2_4 v16007.removed v16007.net.agents (IntKind.i64.wrap (p4_2+1))))) else (Option.bind (AU (⟨(⟨p4_1⟩:Net),a0.book,p4_0⟩:Rewriter) (⟨a2,1⟩:Port) (⟨p2_2,p2_3⟩:Port)) fun v18004=>(some (⟨v18004.net,a0.book,v18004.removed⟩:Rewriter))))
def BP:Nat→Rewriter→Int→Int→Agent→Agent→(List (Int × Bool))→(List Agent)→Int→Int→(List Int)→Int→Option (Rewriter)
 |0,_,_,_,_,_,_,_,_,_,_,_=>none
 |n+1,a0,a1,a2,v1006,v1014,p2_0,p2_1,p2_2,p2_3,p2_4,p2_5=>(if (decide (p2_5<(IntKind.i64.wrap ((((List.length v1006.ports):Nat):Int) - 1))))=true then (Option.bind (Ai (⟨(⟨p2_1⟩:Net),a0.book,p2_0⟩:Rewriter) 3 v1014.level 0 [] 3) fun v8003=>(Option.bind (CO v8003.2.net (⟨v8003.1,0⟩:Port) (⟨p2_2,p2_3⟩:Port)) fun v9006=>(Option.bind (app? p2_4 [v8003.1]) fun v11003=>(BP n a0 a1 a2 v1006 v1014 v8003.2.removed v9006.agents v8003.1 2 v11003 (IntKind.i64.wrap (p2_5+1)))))) else (BF fuel a0 a1 a2 p2_2 p2_3 p2_4 p2_0 p2_1 0))
def D7 (a0:Rewriter) (a1:Int) (a2:Int) (v1006:Agent) (v1014:Agent) (v4009:Int × Rewriter):Option (Rewriter):=
 (BP fuel a0 a1 a2 v1006 v1014 v4009.2.removed v4009.2.net.agents v4009.1 0 [] 0)
def Br (a0:Rewriter) (a1:Int) (a2:Int):Option (Rewriter):=
 (Option.bind (at? a0.net.agents a1) fun v1006=>(Option.bind (at? a0.net.agents a2) fun v1014=>(if (decide (v1006.kind=6))=true then (Option.bind (Hl (decide (v1006.value=0))) fun v3011=>(Option.bind (at? v1014.data v3011) fun v3012=>(Option.bind (Ai a0 12 v1014.level v3012 [] 1) fun v3014=>(Option.bind (AU (⟨v3014.2.net,a0.book,v3014.2.removed⟩:Rewriter) (⟨a2,1⟩:Port) (⟨v3014.1,0⟩:Port)) fun v3016=>(some (⟨v3016.net,a0.book,v3016.removed⟩:Rewriter)))))) else (Option.bind (at? v1014.data v1006.value) fun v4007=>(Option.bind (Ai a0 12 v1014.level v4007 [] 1) fun v4009=>(D7 a0 a1 a2 v1006 v1014 v4009))))))
end Go.Proofs.YtckcfdggbbabfaaGreat.Ab
namespace Go.Proofs.YtckcfdggbbabfaaGreat.Ab
set_option linter.unusedVariables false
set_option linter.unusedSimpArgs false
open Go.RowKit
inductive HAgent where
 |full (a:Agent)
 |gone (a:Agent)
def HAgent.ds:HAgent→List D
 | .full a=>a.ds
 | .gone a=>[.int .i64 a.kind,.int .i64 a.level,.int .i64 a.value,.gone,.gone]
def HAgent.full?:HAgent→Option Agent
 | .full a=>some a
 | .gone _=>none
theorem HAgent.full_some {h:HAgent} {a:Agent} (e:h.full?=some a):h= .full a:=by
 cases h with
 |full b=>cases e; rfl
 |gone b=>cases e
@[go_sem] theorem HAgent.ds_full (a:Agent):(HAgent.full a).ds =[.int .i64 a.kind,.int .i64 a.level,.int .i64 a.value,.sl (List.map AO a.data),.sl (List.map Port.ds a.ports)] :=by
 rw [HAgent.ds,Agent.ds_eq]
theorem HAgent.ds_len (h:HAgent):h.ds.length=5:=by
 cases h with
 |full a=>rw [HAgent.ds_full]; rfl
 |gone a=>rfl
@[go_sem] theorem HAgent.map_full (l:List Agent):List.map HAgent.ds (List.map HAgent.full l)=List.map Agent.ds l:=by
 rw [List.map_map]
 rfl
theorem HAgent.puts {hs:List HAgent} {i:Int} {a:Agent} (h:at? hs i=some (.full a)):putR [(5,Int.toNat i,4)] (putR [(5,Int.toNat i,3)] (List.map HAgent.ds hs) .gone) .gone =List.map HAgent.ds (List.set hs (Int.toNat i) (.gone a)):=by
 have h1:=AP (f:=HAgent.ds) h
 rw [HAgent.ds_full] at h1
 rw [GT h1 (d':=.sl (List.map AO a.data)) rfl,GT (Jz h1) (d':=.sl (List.map Port.ds a.ports)) rfl,List.set_set,List.map_set]
 rfl
end Go.Proofs.YtckcfdggbbabfaaGreat.Ab
namespace Go.Proofs.YtckcfdggbbabfaaGreat.Ab
set_option linter.unusedVariables false
set_option linter.unusedSimpArgs false
set_option maxRecDepth 20000
set_option maxHeartbeats 4000000
open Go.RowKit
mutual
def Aq:Nat→Rewriter→Int→Port→(List Agent)→(List Agent)→(List HAgent)→Int→Option (Rewriter)
 |0,_,_,_,_,_,_,_=>none
 |n+1,a0,a2,v3001,v4002,p5_0,p5_1,p5_2=>(if (decide (p5_2<((List.length v4002:Nat):Int)))=true then (Option.bind (at? p5_1 p5_2) fun v6000=>(Option.bind (HAgent.full? v6000) fun v6001_156=>(BJ n a0 a2 p5_0 p5_1 p5_2 v3001 v4002 v6001_156 v6001_156.ports 0))) else (Option.bind (CO (⟨p5_0⟩:Net) (⟨a2,0⟩:Port) (⟨(IntKind.i64.wrap (v3001.agent+(IntKind.i64.wrap (((List.length a0.net.agents:Nat):Int) - 1)))),v3001.slot⟩:Port)) fun v14012=>(some (⟨v14012,a0.book,a0.removed⟩:Rewriter))))
def BJ:Nat→Rewriter→Int→(List Agent)→(List HAgent)→Int→Port→(List Agent)→Agent→(List Port)→Int→Option (Rewriter)
 |0,_,_,_,_,_,_,_,_,_,_=>none
 |n+1,a0,a2,p5_0,p5_1,p5_2,v3001,v4002,v6001_156,p9_0,p9_1=>(if (decide (p9_1<((List.length v6001_156.ports:Nat):Int)))=true then (Option.bind (at? p9_0 p9_1) fun v10003=>(Option.bind (at? p9_0 p9_1) fun v10008=>(Option.bind (CF p9_0 p9_1 (⟨(IntKind.i64.wrap (v10003.agent+(IntKind.i64.wrap (((List.length a0.net.agents:Nat):Int) - 1)))),v10008.slot⟩:Port)) fun v10010_168=>(BJ n a0 a2 p5_0 p5_1 p5_2 v3001 v4002 v6001_156 v10010_168 (IntKind.i64.wrap (p9_1+1)))))) else (Option.bind (app? p5_0 [(⟨v6001_156.kind,v6001_156.level,v6001_156.value,v6001_156.data,p9_0⟩:Agent)]) fun v12008=>(Aq n a0 a2 v3001 v4002 v12008 (List.set p5_1 (Int.toNat p5_2) (HAgent.gone v6001_156)) (IntKind.i64.wrap (p5_2+1)))))
end
def D8 (a0:Rewriter) (a1:Int) (a2:Int):Option (Rewriter):=
 (Option.bind (at? a0.net.agents a1) fun v1010=>(Option.bind (at? a0.book v1010.value) fun v1013=>(Option.bind (at? a0.net.agents a1) fun v1021=>(Option.bind (Ii v1013 v1021.level) fun v1024=>(Option.bind (DB v1024.1 (⟨0,0⟩:Port)) fun v3001=>(Option.bind (cutL v1024.1.agents 1 ((List.length v1024.1.agents :Nat):Int)) fun v4002=>(Aq fuel a0 a2 v3001 v4002 a0.net.agents (List.map HAgent.full v4002) 0)))))))
end Go.Proofs.YtckcfdggbbabfaaGreat.Ab
namespace Go.Proofs.YtckcfdggbbabfaaGreat.Ab
set_option linter.unusedVariables false
set_option linter.unusedSimpArgs false
set_option maxRecDepth 20000
set_option maxHeartbeats 4000000
open Go.RowKit
def Ag (a0:Rewriter) (v2002:Int × Int × Int × Int) (p2_0:List (Int × Bool)) (p2_1:List Agent):Option (Int × Rewriter):=
 (Option.bind (BN (⟨(⟨p2_1⟩:Net),a0.book,p2_0⟩:Rewriter) [v2002.2.1,v2002.2.2.1]) fun v27004=>(some (0,(⟨v27004.net,a0.book,v27004.removed⟩:Rewriter))))
def Am:Nat→Rewriter→(Int × Int × Int × Int)→(List (Int × Bool))→(List Agent)→Int→Option (Int × Rewriter)
 |0,_,_,_,_,_=>none
 |n+1,a0,v2002,p3_0,p3_1,p3_2=>(Option.bind (at? p3_1 v2002.2.2.1) fun v16007=>(if (decide (p3_2<((List.length v16007.ports:Nat):Int)))=true then (Option.bind (Ai (⟨(⟨p3_1⟩:Net),a0.book,p3_0⟩:Rewriter) 5 0 0 [] 1) fun v18005=>(Option.bind (AU (⟨v18005.2.net,a0.book,v18005.2.removed⟩:Rewriter) (⟨v2002.2.2.1,p3_2⟩:Port) (⟨v18005.1,0⟩:Port)) fun v18007=>(Am n a0 v2002 v18007.removed v18007.net.agents (IntKind.i64.wrap (p3_2+1))))) else (Ag a0 v2002 p3_0 p3_1)))
def BR (a0:Rewriter) (v2002:Int × Int × Int × Int) (p0_0:Bool):Option (Int × Rewriter):=
 (if p0_0=true then (Option.bind (B9 a0 (⟨v2002.2.1,1⟩:Port) (⟨v2002.2.2.1,1⟩:Port)) fun v10005=>(Option.bind (B9 (⟨v10005.net,a0.book,v10005.removed⟩:Rewriter) (⟨v2002.2.1,2⟩:Port) (⟨v2002.2.2.1,2⟩:Port)) fun v11005=>(Ag a0 v2002 v11005.removed v11005.net.agents))) else (if (decide (v2002.1 =3))=true then (Option.bind (Cv a0 v2002.2.1 v2002.2.2.1) fun v13003=>(Ag a0 v2002 v13003.removed v13003.net.agents)) else (if (decide (v2002.1 =4))=true then (Am fuel a0 v2002 a0.removed a0.net.agents 1) else (if (decide (v2002.1 =5))=true then (Option.bind (Cm a0 v2002.2.1 v2002.2.2.1) fun v20003=>(Ag a0 v2002 v20003.removed v20003.net.agents)) else (if (decide (v2002.1 =6))=true then (Option.bind (Br a0 v2002.2.1 v2002.2.2.1) fun v22003=>(Ag a0 v2002 v22003.removed v22003.net.agents)) else (if (decide (v2002.1 =7))=true then (Option.bind (D8 a0 v2002.2.1 v2002.2.2.1) fun v24003=>(Option.bind (BN (⟨v24003.net,a0.book,v24003.removed⟩:Rewriter) [v2002.2.1]) fun v25003=>(some (0,(⟨v25003.net,a0.book,v25003.removed⟩:Rewriter))))) else (Ag a0 v2002 a0.removed a0.net.agents)))))))
def Ak (a0:Rewriter) (a1:Pair):Option (Int × Rewriter):=
 (Option.bind (CH a0 a1) fun v2002=>(if (!decide (v2002.2.2.2 =0))=true then (some (v2002.2.2.2,a0)) else (Option.bind (EZ a0) fun v5001=>(Option.bind (D5 a0 v2002.1 v2002.2.1 v2002.2.2.1) fun v5006=>(if (decide (600<(IntKind.i64.wrap (v5001+v5006))))=true then (some (4,a0)) else (if (decide (v2002.1 =1))=true then (BR a0 v2002 (decide (v2002.1 =1))) else (BR a0 v2002 (decide (v2002.1 =2)))))))))
end Go.Proofs.YtckcfdggbbabfaaGreat.Ab
