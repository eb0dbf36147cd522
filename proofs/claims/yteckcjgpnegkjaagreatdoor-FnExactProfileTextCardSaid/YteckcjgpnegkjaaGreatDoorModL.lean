/-
  Models of the functions. Printed by wip/ab/gen.py.
-/
import Derived.Test.YteckcjgpnegkjaaGreatDoorModU
namespace Go.Proofs.YteckcjgpnegkjaaGreatDoor.Ab
set_option linter.unusedVariables false
set_option linter.unusedSimpArgs false
set_option maxRecDepth 20000
set_option maxHeartbeats 4000000
open Go.RowKit
def s_l11Link (a0:Net) (a1:Port) (a2:Port):Option (Net):=
 ((at? a0.agents a1.agent).bind fun v2006=>((at? v2006.ports a1.slot).bind fun v2012=>((C0 v2006.ports a1.slot a2).bind fun v2013_3=>((C0 a0.agents a1.agent (⟨v2006.kind,v2006.level,v2006.value,v2006.data,v2013_3⟩:Agent)).bind fun v2013_4=>((at? v2013_4 a2.agent).bind fun v3006=>((at? v3006.ports a2.slot).bind fun v3012=>((C0 v3006.ports a2.slot a1).bind fun v3013_5=>((C0 v2013_4 a2.agent (⟨v3006.kind,v3006.level,v3006.value,v3006.data,v3013_5⟩:Agent)).bind fun v3013_6=>(some (⟨v3013_6⟩:Net))))))))))
def F5 (a0:Net) (a1:Port):Option (Port):=
 ((at? a0.agents a1.agent).bind fun v2006=>((at? v2006.ports a1.slot).bind fun v2011=>(some v2011)))
def FO (a0:Net) (a1:Port) (a2:Port):Option (Net):=
 ((F5 a0 a1).bind fun v2002=>((F5 a0 a2).bind fun v3002=>(if (!(decide (v2002.agent=a2.agent)&&decide (v2002.slot=a2.slot)))=true then ((s_l11Link a0 v2002 v3002).bind fun v5003=>(some v5003)) else (some a0))))
def Bj (a0:Net) (a1:Port) (a2:Port):Option (Net):=
 ((F5 a0 a1).bind fun v2004=>((s_l11Link a0 a2 v2004).bind fun v2005=>(some v2005)))
def H5 (a0:Int) (a1:Int) (a2:Int) (a3:Int):Option (Bool):=
 ((EQ a0 a1).bind fun v2002=>(if v2002=true then ((EQ a2 a3).bind fun v2006=>(if v2006=true then (if (!decide (a0=1))=true then (some (!decide (a2=1))) else (some false)) else (some false))) else (some false)))
def Ef (a0:Int) (a1:Int) (a2:Int) (p1_0:Bool):Option (Bool):=
 (if p1_0=true then (some true) else ((Dr a1).bind fun v6001=>(if v6001=true then (some (decide (a0<a2))) else (some false))))
def Eg (a0:Int) (a1:Int) (a2:Int) (p0_0:Bool):Option (Bool):=
 (if p0_0=true then (some false) else (if (decide (a1=6))=true then (Ef a0 a1 a2 true) else (Ef a0 a1 a2 (decide (a1=12)))))
def GM (a0:Int) (a1:Int) (a2:Int):Option (Bool):=
 ((CJ a0 0 8).bind fun v2001=>(if (!v2001)=true then (Eg a0 a1 a2 true) else ((EQ a1 a2).bind fun v2006=>(Eg a0 a1 a2 (!v2006)))))
def CR (p0_0:Bool):Option (Bool):=
 (if p0_0=true then (some true) else (some false))
def GN (a0:Int):Option (Bool):=
 (if (decide (a0=3))=true then (CR (decide (a0=3))) else (if (decide (a0=7))=true then (CR (decide (a0=7))) else (if (decide (a0=8))=true then (CR (decide (a0=8))) else (if (decide (a0=10))=true then (CR (decide (a0=10))) else (CR (decide (a0=11)))))))
def GO (a1:Int) (a2:Int) (a3:Int) (p0_0:Bool):Option (Int):=
 (if p0_0=true then (some 2) else ((GM a1 a2 a3).bind fun v8003=>(if v8003=true then (some 3) else (some 0))))
def GP (p1_0:Bool):Option (Int):=
 (if p1_0=true then (some 1) else (some 0))
def GQ (a2:Int) (p2_0:Bool):Option (Int):=
 (if p2_0=true then (some 5) else (if (decide (a2=11))=true then (some 6) else (some 0)))
def F6 (a0:Int) (a1:Int) (a2:Int) (a3:Int):Option (Int):=
 (if (decide (a0=5))=true then (some 4) else (if (decide (a0=4))=true then (if (decide (a2=4))=true then (GO a1 a2 a3 (decide (a1=a3))) else (GO a1 a2 a3 false)) else (if (decide (a0=2))=true then (if (decide (a2=3))=true then (GP (decide (a1=a3))) else (GP false)) else (if (decide (a0=6))=true then (if (decide (a2=7))=true then (GQ a2 (decide (a2=7))) else (GQ a2 (decide (a2=8)))) else (if (decide (a0=9))=true then (if (decide (a2=10))=true then (some 6) else (some 0)) else (if (decide (a0=12))=true then ((GN a2).bind fun v24001=>(if v24001=true then (some 7) else (some 0))) else (some 0)))))))
def Fd (a0:Int) (a1:Int) (a2:Int) (a3:Int):Option (Int):=
 ((H5 a0 a1 a2 a3).bind fun v2004=>(if (!v2004)=true then (some 0) else ((F6 a0 a1 a2 a3).bind fun v4004=>(if (!decide (v4004=0))=true then (some 1) else ((F6 a2 a3 a0 a1).bind fun v6004=>(if (!decide (v6004=0))=true then (some 2) else (some 0)))))))
def E6 (a0:Net) (a1:Int) (a2:Int):Option (Int × Int):=
 ((at? a0.agents a1).bind fun v2005=>((at? a0.agents a2).bind fun v3005=>((Fd v2005.kind v2005.level v3005.kind v3005.level).bind fun v4016=>(if (decide (v4016=2))=true then (some (a2,a1)) else (some (a1,a2))))))
def E7 (p0_0:Int):Option (Int):=
 (if (decide (p0_0=0))=true then (some 8) else (some p0_0))
def HF (a0:Int) (a1:Int) (a2:Int) (a3:Int):Option (Int):=
 ((H5 a0 a1 a2 a3).bind fun v2004=>(if (!v2004)=true then (some 0) else ((F6 a0 a1 a2 a3).bind fun v4004=>(if (decide (v4004=0))=true then ((F6 a2 a3 a0 a1).bind fun v6004=>(E7 v6004)) else (E7 v4004)))))
def Eo (a0:Agent) (a1:Agent) (p1_0:Bool):Option (Int):=
 (if p1_0=true then (some 8) else ((HF a0.kind a0.level a1.kind a1.level).bind fun v6016=>(some v6016)))
def Ep (a0:Agent) (a1:Agent) (p0_0:Bool):Option (Int):=
 (if p0_0=true then (some 8) else (if (decide (a0.kind=10))=true then (if (decide (a1.kind=9))=true then (Eo a0 a1 (decide ((a0.data.length:Int)≤a1.value))) else (Eo a0 a1 false)) else (Eo a0 a1 false)))
def Fs (a0:Agent) (a1:Agent):Option (Int):=
 (if (decide (a0.kind=9))=true then (if (decide (a1.kind=10))=true then (Ep a0 a1 (decide ((a1.data.length:Int)≤a0.value))) else (Ep a0 a1 false)) else (Ep a0 a1 false))
def Eh (a0:Int) (a1:Int):Option (Int):=
 (if (decide (a1<a0))=true then (some a0) else (some a1))
def CS:Nat→Net→Int→Int→Option (Int)
 |0,_,_,_=>none
 |n+1,a0,p0_0,p0_1=>(if (decide (p0_1<(a0.agents.length:Int)))=true then ((at? a0.agents p0_1).bind fun v6006=>((Eh p0_0 v6006.level).bind fun v6009=>(CS n a0 v6009 (IntKind.i64.wrap (p0_1+1))))) else (some p0_0))
def Hj (a0:Net):Option (Int):=
 (CS fuel a0 0 0)
def DA (a1:Int) (p1_0:Int) (p1_1:Int) (p1_2:Int):Option (Int × Int):=
 ((CJ a1 p1_0 p1_1).bind fun v25003=>(if (!v25003)=true then (some (0,2)) else (some (p1_2,0))))
def HG (a0:Int) (a1:Int) (p0_0:Bool):Option (Int × Int):=
 (if p0_0=true then (DA a1 0 0 (-2)) else (if (decide (a0=3))=true then (DA a1 0 3 a1) else (if (decide (a0=4))=true then (DA a1 0 3 (IntKind.i64.wrap (a1 - 2))) else (if (decide (a0=5))=true then (DA a1 0 0 (-1)) else (if (decide (a0=6))=true then (DA a1 0 3 (IntKind.i64.wrap (a1 - 1))) else (if (decide (a0=7))=true then (DA a1 2 600 (IntKind.i64.wrap (a1 - 2))) else (some (0,2))))))))
def LP (a0:Int) (a1:Int):Option (Int × Int):=
 (if (decide (a0=1))=true then (HG a0 a1 (decide (a0=1))) else (HG a0 a1 (decide (a0=2))))
def Cl (v5002:Int) (p1_0:Int):Option (Int × Int):=
 ((LP v5002 p1_0).bind fun v21002=>(some (v21002.1,0)))
def E8 (a0:List Net) (v3005:Agent) (v4005:Agent) (v5002:Int) (p0_0:Bool):Option (Int × Int):=
 (if p0_0=true then (Cl v5002 (IntKind.i64.wrap ((v4005.ports.length:Int) - 1))) else (if (decide (v5002=6))=true then ((DB v3005).bind fun v14001=>(Cl v5002 v14001)) else (if (decide (v5002=7))=true then (if (decide ((a0.length:Int)≤v3005.value))=true then (some (0,3)) else ((at? a0 v3005.value).bind fun v18005=>((at? a0 v3005.value).bind fun v19005=>((Hj v19005).bind fun v19006=>(if (decide (8<(IntKind.i64.wrap (v19006+v3005.level))))=true then (some (0,9)) else (Cl v5002 (v18005.agents.length:Int))))))) else (Cl v5002 0))))
def HH (a0:List Net) (a1:Net) (a2:Int) (a3:Int):Option (Int × Int):=
 ((E6 a1 a2 a3).bind fun v2003=>((at? a1.agents v2003.1).bind fun v3005=>((at? a1.agents v2003.2).bind fun v4005=>((Fs v3005 v4005).bind fun v5002=>(if (decide (v5002=8))=true then (some (0,11)) else (if (decide (v5002=3))=true then (E8 a0 v3005 v4005 v5002 (decide (v5002=3))) else (E8 a0 v3005 v4005 v5002 (decide (v5002=4)))))))))
def C3:Nat→Net→Int→Int→Option (Int)
 |0,_,_,_=>none
 |n+1,a0,p0_0,p0_1=>(if (decide (p0_1<(a0.agents.length:Int)))=true then ((at? a0.agents p0_1).bind fun v6005=>(if (!decide (v6005.kind=0))=true then (C3 n a0 (IntKind.i64.wrap (p0_0+1)) (IntKind.i64.wrap (p0_1+1))) else (C3 n a0 p0_0 (IntKind.i64.wrap (p0_1+1))))) else (some p0_0))
def H6 (a0:Net):Option (Int):=
 (C3 fuel a0 0 0)
def Ad (a0:Int) (a1:Int):Option (Port):=
 (some (⟨a0,a1⟩:Port))
def EG:Nat→Net→Int→Int→Int→(List Int)→(List Port)→Int→Option (Int × Net)
 |0,_,_,_,_,_,_,_=>none
 |n+1,a0,a1,a2,a3,v2004,p1_0,p1_1=>(if (decide (0<p1_1))=true then ((app? p1_0 [(⟨0,0⟩:Port)]).bind fun v6004=>(EG n a0 a1 a2 a3 v2004 v6004 (IntKind.i64.wrap (p1_1 - 1)))) else ((app? a0.agents [(⟨a1,a2,a3,v2004,p1_0⟩:Agent)]).bind fun v7007=>(some ((IntKind.i64.wrap ((v7007.length:Int) - 1)),(⟨v7007⟩:Net)))))
def CZ (a0:Net) (a1:Int) (a2:Int) (a3:Int) (a4:List Int) (a5:Int):Option (Int × Net):=
 ((HI a4).bind fun v2004=>(EG fuel a0 a1 a2 a3 v2004 [] a5))
def Bs:Nat→Int→Agent→(Int × Net)→(List Agent)→Int→Option (Net)
 |0,_,_,_,_,_=>none
 |n+1,a2,v2006,v5010,p2_0,p2_1=>(if (decide (p2_1<(v2006.ports.length:Int)))=true then ((Ad a2 p2_1).bind fun v17003=>((Ad (IntKind.i64.wrap (v5010.1 +p2_1)) 0).bind fun v17007=>((Bj (⟨p2_0⟩:Net) v17003 v17007).bind fun v17008=>(Bs n a2 v2006 v5010 v17008.agents (IntKind.i64.wrap (p2_1+1)))))) else (some (⟨p2_0⟩:Net)))
def Bc:Nat→Int→Int→Agent→Agent→(Int × Net)→(Int × Net)→(List Agent)→Int→Option (Net)
 |0,_,_,_,_,_,_,_,_=>none
 |n+1,a1,a2,v1005,v2006,v4010,v5010,p1_0,p1_1=>(if (decide (p1_1<(v2006.ports.length:Int)))=true then ((CZ (⟨p1_0⟩:Net) 4 v1005.level 0 [] 3).bind fun v9002=>((Ad v9002.1 1).bind fun v10002=>((Ad v4010.1 p1_1).bind fun v10005=>((s_l11Link v9002.2 v10002 v10005).bind fun v10006=>((Ad v9002.1 2).bind fun v11002=>((Ad v5010.1 p1_1).bind fun v11005=>((s_l11Link v10006 v11002 v11005).bind fun v11006=>(Bc n a1 a2 v1005 v2006 v4010 v5010 v11006.agents (IntKind.i64.wrap (p1_1+1)))))))))) else ((Ad a1 1).bind fun v12002=>((Ad v4010.1 0).bind fun v12004=>((Bj (⟨p1_0⟩:Net) v12002 v12004).bind fun v12005=>((Ad a1 2).bind fun v13002=>((Ad v5010.1 0).bind fun v13004=>((Bj v12005 v13002 v13004).bind fun v13005=>(Bs fuel a2 v2006 v5010 v13005.agents 1))))))))
def E9 (a0:Net) (a1:Int) (a2:Int):Option (Net):=
 ((at? a0.agents a1).bind fun v1005=>((at? a0.agents a2).bind fun v2005=>((Bw v2005).bind fun v2006=>((CZ a0 v2006.kind v2006.level v2006.value v2006.data (v2006.ports.length:Int)).bind fun v4010=>((CZ v4010.2 v2006.kind v2006.level v2006.value v2006.data (v2006.ports.length:Int)).bind fun v5010=>(Bc fuel a1 a2 v1005 v2006 v4010 v5010 v5010.2.agents 1))))))
def Fe (a0:Int):Option (Int):=
 (some (IntKind.i64.wrap (IntKind.i32.wrap (IntKind.u32.wrap (IntKind.u64.wrap a0)))))
def Jh (a0:Bool):Option (Int):=
 (if a0=true then (some 1) else (some 0))
def Ji (a0:Int) (a1:Int) (a2:Int):Option (Int):=
 ((Fe a1).bind fun v2001=>((Fe a2).bind fun v3001=>(if (decide (a0=1))=true then ((Fe (IntKind.i64.wrap (v2001+v3001))).bind fun v6003=>(some v6003)) else (if (decide (a0=2))=true then ((Fe (IntKind.i64.wrap (v2001 - v3001))).bind fun v8003=>(some v8003)) else (if (decide (a0=3))=true then ((Fe (IntKind.i64.wrap (v2001*v3001))).bind fun v10003=>(some v10003)) else (if (decide (a0=4))=true then (if (decide (v3001=0))=true then (some 0) else ((nz? v3001).bind fun v14002=>((Fe (IntKind.i64.wrap (Int.tdiv v2001 v3001))).bind fun v14003=>(some v14003)))) else (if (decide (a0=5))=true then ((Jh (decide (v2001<v3001))).bind fun v16003=>(some v16003)) else (if (decide (a0=6))=true then ((Jh (decide (v2001=v3001))).bind fun v18003=>(some v18003)) else (some 0)))))))))
def FP (a0:Net) (a1:Int) (a2:Int):Option (Net):=
 ((at? a0.agents a2).bind fun v1005=>((Bw v1005).bind fun v1006=>((at? a0.agents a1).bind fun v2005=>(if (decide (v1006.kind=8))=true then ((at? v1006.data 0).bind fun v4005=>((Ji v1006.value v4005 v2005.value).bind fun v4008=>((CZ a0 6 0 v4008 [] 1).bind fun v4009=>((Ad a2 1).bind fun v5002=>((Ad v4009.1 0).bind fun v5004=>((Bj v4009.2 v5002 v5004).bind fun v5005=>(some v5005))))))) else ((CZ a0 8 v1006.level v1006.value [v2005.value] 2).bind fun v6007=>((Ad a2 1).bind fun v7002=>((Ad v6007.1 0).bind fun v7004=>((Bj v6007.2 v7002 v7004).bind fun v7005=>((Ad a2 2).bind fun v8002=>((Ad v6007.1 1).bind fun v8004=>((Bj v7005 v8002 v8004).bind fun v8005=>(some v8005))))))))))))
def FA (a0:Net) (a2:Int) (v1006:Agent) (p0_0:Int):Option (Net):=
 ((CZ a0 12 v1006.level p0_0 [] 1).bind fun v6004=>((Ad a2 1).bind fun v7002=>((Ad v6004.1 0).bind fun v7004=>((Bj v6004.2 v7002 v7004).bind fun v7005=>(some v7005)))))
def Cm:Nat→Int→Int→Agent→Int→(List Agent)→Int→Int→Int→Option (Net)
 |0,_,_,_,_,_,_,_,_=>none
 |n+1,a1,a2,v1006,v8006,p2_0,p2_1,p2_2,p2_3=>(if (decide (p2_3≤v8006))=true then ((CZ (⟨p2_0⟩:Net) 3 v1006.level 0 [] 3).bind fun v14003=>((Ad v14003.1 0).bind fun v15003=>((s_l11Link v14003.2 (⟨p2_1,p2_2⟩:Port) v15003).bind fun v15004=>((Ad a1 p2_3).bind fun v16003=>((Ad v14003.1 1).bind fun v16005=>((Bj v15004 v16003 v16005).bind fun v16006=>((Ad v14003.1 2).bind fun v17001=>(Cm n a1 a2 v1006 v8006 v16006.agents v17001.agent v17001.slot (IntKind.i64.wrap (p2_3+1)))))))))) else ((Ad a2 1).bind fun v18002=>((Bj (⟨p2_0⟩:Net) v18002 (⟨p2_1,p2_2⟩:Port)).bind fun v18004=>(some v18004))))
def EH (a0:Net) (a1:Int) (a2:Int):Option (Net):=
 ((at? a0.agents a2).bind fun v1005=>((Bw v1005).bind fun v1006=>(if (decide (v1006.kind=11))=true then ((at? v1006.data 1).bind fun v3002=>((at? a0.agents a1).bind fun v4005=>(if (!decide (v4005.value=0))=true then ((at? v1006.data 0).bind fun v5002=>(FA a0 a2 v1006 v5002)) else (FA a0 a2 v1006 v3002)))) else ((at? a0.agents a1).bind fun v8005=>((DB v8005).bind fun v8006=>((at? a0.agents a1).bind fun v9010=>((at? v1006.data v9010.value).bind fun v9013=>((CZ a0 12 v1006.level v9013 [] 1).bind fun v9015=>((Ad v9015.1 0).bind fun v10001=>(Cm fuel a1 a2 v1006 v8006 v9015.2.agents v10001.agent v10001.slot 1))))))))))
mutual
def BK:Nat→Net→Net→Int→Agent→(List Agent)→Int→Option (Net)
 |0,_,_,_,_,_,_=>none
 |n+1,a0,a1,a3,v1005,p6_0,p6_1=>(if (decide (p6_1<(a0.agents.length:Int)))=true then ((at? a0.agents p6_1).bind fun v6005=>((Bw v6005).bind fun v6006=>((Dr v6006.kind).bind fun v7002=>(if v7002=true then (Cu n a0 a1 a3 p6_0 p6_1 v1005 v6006 (IntKind.i64.wrap (v6006.level+v1005.level))) else (Cu n a0 a1 a3 p6_0 p6_1 v1005 v6006 v6006.level))))) else ((at? a0.agents 0).bind fun v14004=>((at? v14004.ports 0).bind fun v14007=>((Ad (IntKind.i64.wrap ((IntKind.i64.wrap ((a1.agents.length:Int) - 1))+v14007.agent)) v14007.slot).bind fun v15007=>((Ad a3 0).bind fun v15009=>((s_l11Link (⟨p6_0⟩:Net) v15007 v15009).bind fun v15010=>(some v15010)))))))
def Cu:Nat→Net→Net→Int→(List Agent)→Int→Agent→Agent→Int→Option (Net)
 |0,_,_,_,_,_,_,_,_=>none
 |n+1,a0,a1,a3,p6_0,p6_1,v1005,v6006,p7_0=>(CT n a0 a1 a3 p6_0 p6_1 p7_0 v1005 v6006 v6006.ports 0)
def CT:Nat→Net→Net→Int→(List Agent)→Int→Int→Agent→Agent→(List Port)→Int→Option (Net)
 |0,_,_,_,_,_,_,_,_,_,_=>none
 |n+1,a0,a1,a3,p6_0,p6_1,p7_0,v1005,v6006,p11_0,p11_1=>(if (decide (p11_1<(p11_0.length:Int)))=true then ((at? p11_0 p11_1).bind fun v12003=>((at? p11_0 p11_1).bind fun v12008=>((C0 p11_0 p11_1 (⟨(IntKind.i64.wrap (v12003.agent+(IntKind.i64.wrap ((a1.agents.length:Int) - 1)))),v12008.slot⟩:Port)).bind fun v12010_144=>(CT n a0 a1 a3 p6_0 p6_1 p7_0 v1005 v6006 v12010_144 (IntKind.i64.wrap (p11_1+1)))))) else ((app? p6_0 [(⟨v6006.kind,p7_0,v6006.value,v6006.data,p11_0⟩:Agent)]).bind fun v13007=>(BK n a0 a1 a3 v1005 v13007 (IntKind.i64.wrap (p6_1+1)))))
end
def HJ (a0:Net) (a1:Net) (a2:Int) (a3:Int):Option (Net):=
 ((at? a1.agents a2).bind fun v1005=>(BK fuel a0 a1 a3 v1005 a1.agents 1))
def Dk (a0:Net) (a1:Int):Option (Net):=
 ((at? a0.agents a1).bind fun v1006=>((C0 a0.agents a1 (⟨0,0,0,[],[]⟩:Agent)).bind fun v1007_1=>(some (⟨v1007_1⟩:Net))))
def Ce (v7003:Int × Int) (v8012:Int) (p2_0:List Agent):Option (Int × Net):=
 ((Dk (⟨p2_0⟩:Net) v7003.1).bind fun v29002=>(if (!decide (v8012=7))=true then ((Dk v29002 v7003.2).bind fun v31002=>(some (0,v31002))) else (some (0,v29002))))
def Ds:Nat→(Int × Int)→Int→Agent→(List Agent)→Int→Option (Int × Net)
 |0,_,_,_,_,_=>none
 |n+1,v7003,v8012,v17005,p3_0,p3_1=>(if (decide (p3_1<(v17005.ports.length:Int)))=true then ((CZ (⟨p3_0⟩:Net) 5 0 0 [] 1).bind fun v21001=>((Ad v7003.2 p3_1).bind fun v22003=>((Ad v21001.1 0).bind fun v22005=>((Bj v21001.2 v22003 v22005).bind fun v22006=>(Ds n v7003 v8012 v17005 v22006.agents (IntKind.i64.wrap (p3_1+1))))))) else (Ce v7003 v8012 p3_0))
def Ft (a0:List Net) (a1:Net) (v7003:Int × Int) (v8012:Int) (p0_0:Bool):Option (Int × Net):=
 (if p0_0=true then ((Ad v7003.1 1).bind fun v12002=>((Ad v7003.2 1).bind fun v12004=>((FO a1 v12002 v12004).bind fun v12005=>((Ad v7003.1 2).bind fun v13002=>((Ad v7003.2 2).bind fun v13004=>((FO v12005 v13002 v13004).bind fun v13005=>(Ce v7003 v8012 v13005.agents))))))) else (if (decide (v8012=3))=true then ((E9 a1 v7003.1 v7003.2).bind fun v15003=>(Ce v7003 v8012 v15003.agents)) else (if (decide (v8012=4))=true then ((at? a1.agents v7003.2).bind fun v17005=>(Ds fuel v7003 v8012 v17005 a1.agents 1)) else (if (decide (v8012=5))=true then ((FP a1 v7003.1 v7003.2).bind fun v24003=>(Ce v7003 v8012 v24003.agents)) else (if (decide (v8012=6))=true then ((EH a1 v7003.1 v7003.2).bind fun v26003=>(Ce v7003 v8012 v26003.agents)) else (if (decide (v8012=7))=true then ((at? a1.agents v7003.1).bind fun v28006=>((at? a0 v28006.value).bind fun v28009=>((HJ v28009 a1 v7003.1 v7003.2).bind fun v28013=>(Ce v7003 v8012 v28013.agents)))) else (Ce v7003 v8012 a1.agents)))))))
def Hk (a0:List Net) (a1:Net) (a2:Int) (a3:Int):Option (Int × Net):=
 ((HH a0 a1 a2 a3).bind fun v2004=>(if (!decide (v2004.2 =0))=true then (some (v2004.2,a1)) else ((H6 a1).bind fun v5001=>(if (decide (600<(IntKind.i64.wrap (v5001+v2004.1))))=true then (some (4,a1)) else ((E6 a1 a2 a3).bind fun v7003=>((at? a1.agents v7003.1).bind fun v8005=>((at? a1.agents v7003.2).bind fun v8011=>((Fs v8005 v8011).bind fun v8012=>(if (decide (v8012=1))=true then (Ft a0 a1 v7003 v8012 (decide (v8012=1))) else (Ft a0 a1 v7003 v8012 (decide (v8012=2))))))))))))
mutual
def BX:Nat→Net→(List Int)→(List Agent)→Int→Option (Net)
 |0,_,_,_,_=>none
 |n+1,a0,p1_0,p7_0,p7_1=>(if (decide (p7_1<(a0.agents.length:Int)))=true then ((at? a0.agents p7_1).bind fun v13005=>(if (!decide (v13005.kind=0))=true then ((at? a0.agents p7_1).bind fun v14005=>((Bw v14005).bind fun v14006=>(DC n a0 p1_0 p7_0 p7_1 v14006 v14006.ports 0))) else (BX n a0 p1_0 p7_0 (IntKind.i64.wrap (p7_1+1))))) else (some (⟨p7_0⟩:Net)))
def DC:Nat→Net→(List Int)→(List Agent)→Int→Agent→(List Port)→Int→Option (Net)
 |0,_,_,_,_,_,_,_=>none
 |n+1,a0,p1_0,p7_0,p7_1,v14006,p11_0,p11_1=>(if (decide (p11_1<(p11_0.length:Int)))=true then ((at? p11_0 p11_1).bind fun v18007=>((at? p1_0 v18007.agent).bind fun v18010=>((at? p11_0 p11_1).bind fun v18012=>((C0 p11_0 p11_1 (⟨v18010,v18012.slot⟩:Port)).bind fun v18014_144=>(DC n a0 p1_0 p7_0 p7_1 v14006 v18014_144 (IntKind.i64.wrap (p11_1+1))))))) else ((app? p7_0 [(⟨v14006.kind,v14006.level,v14006.value,v14006.data,p11_0⟩:Agent)]).bind fun v19003=>(BX n a0 p1_0 v19003 (IntKind.i64.wrap (p7_1+1)))))
end
def C4:Nat→Net→(List Int)→Int→Int→Option (Net)
 |0,_,_,_,_=>none
 |n+1,a0,p1_0,p1_1,p1_2=>(if (decide (p1_2<(a0.agents.length:Int)))=true then ((app? p1_0 [p1_1]).bind fun v6003=>((at? a0.agents p1_2).bind fun v7005=>(if (!decide (v7005.kind=0))=true then (C4 n a0 v6003 (IntKind.i64.wrap (p1_1+1)) (IntKind.i64.wrap (p1_2+1))) else (C4 n a0 v6003 p1_1 (IntKind.i64.wrap (p1_2+1)))))) else (BX fuel a0 p1_0 [] 0))
def F7 (a0:Net):Option (Net):=
 (C4 fuel a0 [] 0 0)
def FB:Nat→Net→(List Agent)→Int→Option (Net)
 |0,_,_,_=>none
 |n+1,a0,p1_0,p1_1=>(if (decide (p1_1<(a0.agents.length:Int)))=true then ((at? a0.agents p1_1).bind fun v6007=>((Bw v6007).bind fun v6008=>((app? p1_0 [v6008]).bind fun v6010=>(FB n a0 v6010 (IntKind.i64.wrap (p1_1+1)))))) else (some (⟨p1_0⟩:Net)))
def LQ (a0:Net):Option (Net):=
 (FB fuel a0 [] 0)
end Go.Proofs.YteckcjgpnegkjaaGreatDoor.Ab
