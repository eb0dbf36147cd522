/-
  Data of the program as Lean types; how they lie in memory. Printed by wip/ab/gen.py.
-/
import Derived.Test.YteckcjgpnegkjaaGreatAbY
import Derived.Test.YteckcjgpnegkjaaGreatModG
namespace Go.Proofs.YteckcjgpnegkjaaGreat.Ab
set_option linter.unusedVariables false
set_option linter.unusedSimpArgs false
set_option maxRecDepth 20000
set_option maxHeartbeats 4000000
open Go.RowKit
structure Wire where
 a:Port
 b:Port
def Wire.ds (c:Wire):List D:=[.int .i64 c.a.agent,.int .i64 c.a.slot,.int .i64 c.b.agent,.int .i64 c.b.slot]
theorem Wire.ds_eq (c:Wire):c.ds=[.int .i64 c.a.agent,.int .i64 c.a.slot,.int .i64 c.b.agent,.int .i64 c.b.slot] :=rfl
@[go_sem] def Wire.avs (c:Wire):List AV:=[.int .i64 c.a.agent,.int .i64 c.a.slot,.int .i64 c.b.agent,.int .i64 c.b.slot]
@[go_sem] def Wire.rv (c:Wire):List RV:=[.int .i64 c.a.agent,.int .i64 c.a.slot,.int .i64 c.b.agent,.int .i64 c.b.slot]
@[go_sem] def Wire.rvn (c:Wire):List RV:=[.int .i64 c.a.agent,.int .i64 c.a.slot,.int .i64 c.b.agent,.int .i64 c.b.slot]
attribute [go_sem] Wire.ds_eq
theorem Wire.ds_len (c:Wire):c.ds.length=4:=by rw [Wire.ds_eq]; rfl
def Hm (a0:Int):Option (Bool):=
 (if (decide (a0=4))=true then (some true) else (some (decide (a0=5))))
mutual
def CL:Nat→Net→(List Bool)→Int→Option (Bool)
 |0,_,_,_=>none
 |n+1,a0,a1,p0_0=>(if (decide (p0_0<(a1.length:Int)))=true then ((at? a1 p0_0).bind fun v7002=>(if v7002=true then ((at? a0.agents p0_0).bind fun v7010=>((Hm v7010.kind).bind fun v7013=>(C5 n a0 a1 p0_0 (!v7013)))) else (C5 n a0 a1 p0_0 false))) else (some true))
def C5:Nat→Net→(List Bool)→Int→Bool→Option (Bool)
 |0,_,_,_,_=>none
 |n+1,a0,a1,p0_0,p1_0=>(if p1_0=true then (some false) else (CL n a0 a1 (IntKind.i64.wrap (p0_0+1))))
end
def Hn (a0:Net) (a1:List Bool):Option (Bool):=
 (if (!decide ((a1.length:Int)=(a0.agents.length:Int)))=true then (some false) else (CL fuel a0 a1 0))
def C6 (p3_0:Bool):Option (Int):=
 (if p3_0=true then (some 2) else (some 1))
def EN (a1:Int) (p2_0:Bool):Option (Int):=
 (if p2_0=true then (C6 (decide (0<a1))) else (C6 false))
def GU (a0:Int) (a1:Int) (p1_0:Bool):Option (Int):=
 (if p1_0=true then (C6 (decide (a1=2))) else (if (decide (a0=4))=true then (EN a1 (decide (a0=4))) else (if (decide (a0=8))=true then (EN a1 (decide (a0=8))) else (if (decide (a0=10))=true then (EN a1 (decide (a0=10))) else (EN a1 (decide (a0=11)))))))
def GV (a0:Int) (a1:Int) (p0_0:Bool):Option (Int):=
 (if p0_0=true then (C6 true) else (if (decide (a0=2))=true then (C6 (decide (a1<2))) else (if (decide (a0=9))=true then (C6 (decide (a1=0))) else (if (decide (a0=3))=true then (GU a0 a1 (decide (a0=3))) else (GU a0 a1 (decide (a0=7)))))))
def JW (a0:Int) (a1:Int):Option (Int):=
 (if (decide (a0=6))=true then (GV a0 a1 (decide (a0=6))) else (GV a0 a1 (decide (a0=12))))
def Kk (a0:Int) (a1:Int) (a2:Bool):Option (Int):=
 ((JW a0 a1).bind fun v2002=>(if a2=true then (some (IntKind.i64.wrap (3 - v2002))) else (some v2002)))
def HL (a0:Net) (a1:List Bool) (a2:Port):Option (Int):=
 ((at? a0.agents a2.agent).bind fun v2006=>((at? a1 a2.agent).bind fun v2014=>((Kk v2006.kind a2.slot v2014).bind fun v2016=>(some v2016))))
def En:Nat→Net→(List Bool)→(List Wire)→Int→Option (Int)
 |0,_,_,_,_=>none
 |n+1,a0,a1,a2,p0_0=>(if (decide (p0_0<(a2.length:Int)))=true then ((at? a2 p0_0).bind fun v5004=>((HL a0 a1 v5004.a).bind fun v5007=>((at? a2 p0_0).bind fun v5012=>((HL a0 a1 v5012.b).bind fun v5015=>(if (decide (v5007=v5015))=true then (some p0_0) else (En n a0 a1 a2 (IntKind.i64.wrap (p0_0+1)))))))) else (some (-1)))
def Kl (a0:Net) (a1:List Bool) (a2:List Wire):Option (Int):=
 (En fuel a0 a1 a2 0)
def IL (a0:Port) (a1:Port):Option (Bool):=
 (if (decide (a0.agent<a1.agent))=true then (some true) else (if (decide (a0.agent=a1.agent))=true then (some (decide (a0.slot<a1.slot))) else (some false)))
mutual
def CF:Nat→Net→(List Wire)→Int→Option ((List Wire))
 |0,_,_,_=>none
 |n+1,a0,p3_0,p3_1=>(if (decide (p3_1<(a0.agents.length:Int)))=true then (CG n a0 p3_1 p3_0 0) else (some p3_0))
def CG:Nat→Net→Int→(List Wire)→Int→Option ((List Wire))
 |0,_,_,_,_=>none
 |n+1,a0,p3_1,p5_0,p5_1=>((at? a0.agents p3_1).bind fun v7006=>(if (decide (p5_1<(v7006.ports.length:Int)))=true then ((at? a0.agents p3_1).bind fun v10006=>((at? v10006.ports p5_1).bind fun v10010=>((IL (⟨p3_1,p5_1⟩:Port) v10010).bind fun v10012=>(if v10012=true then ((at? a0.agents p3_1).bind fun v11007=>((at? v11007.ports p5_1).bind fun v11011=>((app? p5_0 [(⟨(⟨p3_1,p5_1⟩:Port),v11011⟩:Wire)]).bind fun v11015=>(CG n a0 p3_1 v11015 (IntKind.i64.wrap (p5_1+1)))))) else (CG n a0 p3_1 p5_0 (IntKind.i64.wrap (p5_1+1))))))) else (CF n a0 p5_0 (IntKind.i64.wrap (p3_1+1)))))
end
def Ho (a0:Net):Option ((List Wire)):=
 (CF fuel a0 [] 0)
def NJ (a0:Net) (a1:List Bool):Option (Bool):=
 ((Hn a0 a1).bind fun v2002=>(if v2002=true then ((Ho a0).bind fun v2007=>((Kl a0 a1 v2007).bind fun v2008=>(some (decide (v2008<0))))) else (some false)))
mutual
def BN:Nat→Net→(List Wire)→(List Bool)→(List Bool)→Bool→Option ((List Bool) × (List Bool))
 |0,_,_,_,_,_=>none
 |n+1,a0,a3,p0_0,p0_1,p0_2=>(if p0_2=true then (BA n a0 a3 p0_0 p0_1 false 0) else (some (p0_0,p0_1)))
def BA:Nat→Net→(List Wire)→(List Bool)→(List Bool)→Bool→Int→Option ((List Bool) × (List Bool))
 |0,_,_,_,_,_,_=>none
 |n+1,a0,a3,p1_0,p1_1,p1_2,p1_3=>(if (decide (p1_3<(IntKind.i64.wrap (2*(a3.length:Int)))))=true then ((at? a3 (IntKind.i64.wrap (Int.tdiv p1_3 2))).bind fun v7003=>((at? a3 (IntKind.i64.wrap (Int.tdiv p1_3 2))).bind fun v8003=>(if (decide ((Int.tmod p1_3 2)=1))=true then ((at? a3 (IntKind.i64.wrap (Int.tdiv p1_3 2))).bind fun v10003=>((at? a3 (IntKind.i64.wrap (Int.tdiv p1_3 2))).bind fun v11003=>(DR n a0 a3 p1_0 p1_1 p1_2 p1_3 v10003.b.agent v10003.b.slot v11003.a.agent v11003.a.slot))) else (DR n a0 a3 p1_0 p1_1 p1_2 p1_3 v7003.a.agent v7003.a.slot v8003.b.agent v8003.b.slot)))) else (BN n a0 a3 p1_0 p1_1 p1_2))
def DR:Nat→Net→(List Wire)→(List Bool)→(List Bool)→Bool→Int→Int→Int→Int→Int→Option ((List Bool) × (List Bool))
 |0,_,_,_,_,_,_,_,_,_,_=>none
 |n+1,a0,a3,p1_0,p1_1,p1_2,p1_3,p2_0,p2_1,p2_2,p2_3=>((at? p1_0 p2_0).bind fun v12003=>(if v12003=true then ((at? p1_0 p2_2).bind fun v12009=>(DS n a0 a3 p1_0 p1_1 p1_2 p1_3 p2_0 p2_1 p2_2 p2_3 (!v12009))) else (DS n a0 a3 p1_0 p1_1 p1_2 p1_3 p2_0 p2_1 p2_2 p2_3 false)))
def DS:Nat→Net→(List Wire)→(List Bool)→(List Bool)→Bool→Int→Int→Int→Int→Int→Bool→Option ((List Bool) × (List Bool))
 |0,_,_,_,_,_,_,_,_,_,_,_=>none
 |n+1,a0,a3,p1_0,p1_1,p1_2,p1_3,p2_0,p2_1,p2_2,p2_3,p3_0=>(if p3_0=true then ((at? p1_0 p2_2).bind fun v13003=>((Bm p1_0 p2_2 true).bind fun v13004_52=>((HL a0 p1_1 (⟨p2_0,p2_1⟩:Port)).bind fun v14006=>((HL a0 p1_1 (⟨p2_2,p2_3⟩:Port)).bind fun v14010=>((at? p1_1 p2_2).bind fun v14012=>((Bm p1_1 p2_2 (decide (v14006=v14010))).bind fun v14013_54=>(BA n a0 a3 v13004_52 v14013_54 true (IntKind.i64.wrap (p1_3+1))))))))) else (BA n a0 a3 p1_0 p1_1 p1_2 (IntKind.i64.wrap (p1_3+1))))
end
def Fn (a0:Net) (a1:List Bool) (a2:List Bool) (a3:List Wire):Option ((List Bool) × (List Bool)):=
 (BN fuel a0 a3 a1 a2 true)
def CH:Nat→Net→(List Wire)→(List Bool)→(List Bool)→Int→Option ((List Bool) × Bool)
 |0,_,_,_,_,_=>none
 |n+1,a0,v2001,p3_0,p3_1,p3_2=>(if (decide (p3_2<(p3_0.length:Int)))=true then ((at? p3_0 p3_2).bind fun v14002=>(if (!v14002)=true then ((at? p3_0 p3_2).bind fun v15002=>((Bm p3_0 p3_2 true).bind fun v15003_12=>((Fn a0 v15003_12 p3_1 v2001).bind fun v16004=>(CH n a0 v2001 v16004.1 v16004.2 (IntKind.i64.wrap (p3_2+1)))))) else (CH n a0 v2001 p3_0 p3_1 (IntKind.i64.wrap (p3_2+1))))) else ((Kl a0 p3_1 v2001).bind fun v17004=>(some (p3_1,(decide (v17004<0))))))
def Cb:Nat→Net→(List Wire)→(List Bool)→(List Bool)→Int→Option ((List Bool) × Bool)
 |0,_,_,_,_,_=>none
 |n+1,a0,v2001,p1_0,p1_1,p1_2=>(if (decide (p1_2<(a0.agents.length:Int)))=true then ((at? a0.agents p1_2).bind fun v8006=>((Hm v8006.kind).bind fun v8009=>((app? p1_0 [(!v8009)]).bind fun v8012=>((app? p1_1 [false]).bind fun v9002=>(Cb n a0 v2001 v8012 v9002 (IntKind.i64.wrap (p1_2+1))))))) else ((Fn a0 p1_0 p1_1 v2001).bind fun v10004=>(CH fuel a0 v2001 v10004.1 v10004.2 0)))
def Fo (a0:Net):Option ((List Bool) × Bool):=
 ((Ho a0).bind fun v2001=>(Cb fuel a0 v2001 [] [] 0))
def Dg:Nat→Net→(List Bool)→(Int × Int)→Agent→(List Bool)→Int→Option ((List Bool) × Bool)
 |0,_,_,_,_,_,_=>none
 |n+1,a1,a2,v2003,v4005,p5_0,p5_1=>(if (decide (p5_1<(v4005.ports.length:Int)))=true then ((Ae v2003.2 p5_1).bind fun v24005=>((HL a1 a2 v24005).bind fun v24006=>((app? p5_0 [(decide (v24006=2))]).bind fun v24009=>(Dg n a1 a2 v2003 v4005 v24009 (IntKind.i64.wrap (p5_1+1)))))) else (some (p5_0,true)))
def EO (a1:Net) (a2:List Bool) (p1_0:List Bool) (v2003:Int × Int) (v4005:Agent) (p3_0:Bool):Option ((List Bool) × Bool):=
 (if p3_0=true then (Dg fuel a1 a2 v2003 v4005 p1_0 1) else (some (p1_0,true)))
def CZ (a1:Net) (a2:List Bool) (v2003:Int × Int) (v4005:Agent) (v5002:Int) (p1_0:List Bool):Option ((List Bool) × Bool):=
 (if (decide (v5002=3))=true then (EO a1 a2 p1_0 v2003 v4005 true) else (EO a1 a2 p1_0 v2003 v4005 (decide (v5002=4))))
def C7:Nat→Net→(List Bool)→(Int × Int)→Agent→Int→(List Bool)→Int→Option ((List Bool) × Bool)
 |0,_,_,_,_,_,_,_=>none
 |n+1,a1,a2,v2003,v4005,v5002,p2_0,p2_1=>(if (decide (0≤p2_1))=true then ((app? p2_0 [false]).bind fun v16002=>(C7 n a1 a2 v2003 v4005 v5002 v16002 (IntKind.i64.wrap (p2_1 - 1)))) else (CZ a1 a2 v2003 v4005 v5002 p2_0))
def Hp (a0:List Net) (a1:Net) (a2:List Bool) (a3:Int) (a4:Int):Option ((List Bool) × Bool):=
 ((Cw a1 a3 a4).bind fun v2003=>((at? a1.agents v2003.1).bind fun v3005=>((at? a1.agents v2003.2).bind fun v4005=>((Fi v3005 v4005).bind fun v5002=>(if (decide (v5002=3))=true then ((at? a2 v2003.2).bind fun v9003=>((at? a2 v2003.2).bind fun v9007=>((app? [] [v9003,v9007]).bind fun v9010=>(CZ a1 a2 v2003 v4005 v5002 v9010)))) else (if (decide (v5002=5))=true then ((app? [] [false]).bind fun v11002=>(CZ a1 a2 v2003 v4005 v5002 v11002)) else (if (decide (v5002=6))=true then ((CR v3005).bind fun v13001=>(C7 fuel a1 a2 v2003 v4005 v5002 [] v13001)) else (if (decide (v5002=7))=true then ((at? a0 v3005.value).bind fun v18005=>((Fo v18005).bind fun v18006=>((cutL v18006.1 1 ((List.length v18006.1 :Nat):Int)).bind fun v19001=>(some (v19001,v18006.2))))) else (CZ a1 a2 v2003 v4005 v5002 [])))))))))
def BL:Nat→(List Bool)→(Int × Net)→((List Bool) × Bool)→(List Bool)→Int→Option ((List Bool) × Int)
 |0,_,_,_,_,_=>none
 |n+1,a2,v8005,v11006,p2_0,p2_1=>(if (decide (p2_1<(a2.length:Int)))=true then ((at? v8005.2.agents p2_1).bind fun v18003=>(if (!decide (v18003.kind=0))=true then ((at? a2 p2_1).bind fun v19003=>((app? p2_0 [v19003]).bind fun v19006=>(BL n a2 v8005 v11006 v19006 (IntKind.i64.wrap (p2_1+1))))) else (BL n a2 v8005 v11006 p2_0 (IntKind.i64.wrap (p2_1+1))))) else ((app? p2_0 v11006.1).bind fun v20002=>(some (v20002,0))))
def B7 (a0:List Net) (a1:Net) (a2:List Bool) (a3:Int) (p0_0:Bool):Option ((List Bool) × Int):=
 (if p0_0=true then (some ([],1)) else ((Kj a1 a3).bind fun v4001=>(if (!decide (v4001.2 =0))=true then (some ([],v4001.2)) else ((Mc a1).bind fun v7000=>((E0 a0 v7000 v4001.1.a v4001.1.b).bind fun v8005=>(if (!decide (v8005.1 =0))=true then (some ([],v8005.1)) else ((Hp a0 a1 a2 v4001.1.a v4001.1.b).bind fun v11006=>(if (!v11006.2)=true then (some ([],5)) else (BL fuel a2 v8005 v11006 [] 0)))))))))
def Ed (a0:List Net) (a1:Net) (a2:List Bool) (a3:Int):Option ((List Bool) × Int):=
 ((Km a0).bind fun v2001=>(if (!v2001)=true then (B7 a0 a1 a2 a3 true) else ((J3 a1).bind fun v2004=>(if (!v2004)=true then (B7 a0 a1 a2 a3 true) else ((NJ a1 a2).bind fun v2009=>(B7 a0 a1 a2 a3 (!v2009)))))))
def E3:Nat→(List Bool)→(List Bool)→Int→Option ((List Bool))
 |0,_,_,_=>none
 |n+1,a0,p1_0,p1_1=>(if (decide (p1_1<(a0.length:Int)))=true then ((at? a0 p1_1).bind fun v6004=>((at? p1_0 p1_1).bind fun v6006=>((Bm p1_0 p1_1 v6004).bind fun v6007_12=>(E3 n a0 v6007_12 (IntKind.i64.wrap (p1_1+1)))))) else (some p1_0))
def F6 (a0:List Bool):Option ((List Bool)):=
 ((PB (a0.length:Int) false).bind fun v2002=>(E3 fuel a0 v2002 0))
def EF (a0:Int):Option (Bool):=
 (if (decide (a0=4))=true then (some true) else (some (decide (a0=5))))
mutual
def C8:Nat→Net→(List Bool)→Int→Option (Bool)
 |0,_,_,_=>none
 |n+1,a0,a1,p0_0=>(if (decide (p0_0<(a1.length:Int)))=true then ((at? a1 p0_0).bind fun v6001=>(if v6001=true then ((at? a0.agents p0_0).bind fun v7007=>((EF v7007.kind).bind fun v7010=>(Dh n a0 a1 p0_0 (!v7010)))) else (Dh n a0 a1 p0_0 false))) else (some true))
def Dh:Nat→Net→(List Bool)→Int→Bool→Option (Bool)
 |0,_,_,_,_=>none
 |n+1,a0,a1,p0_0,p1_0=>(if p1_0=true then (some false) else (C8 n a0 a1 (IntKind.i64.wrap (p0_0+1))))
end
def JX (a0:Net) (a1:List Bool):Option (Bool):=
 (if (!decide ((a1.length:Int)=(a0.agents.length:Int)))=true then (some false) else (C8 fuel a0 a1 0))
def FT (a1:Int) (p2_0:Bool):Option (Bool):=
 (if p2_0=true then (some (decide (a1=1))) else (some false))
def FU (a0:Int) (a1:Int) (p1_0:Bool):Option (Bool):=
 (if p1_0=true then (some (decide (a1=0))) else (if (decide (a0=8))=true then (FT a1 (decide (a0=8))) else (if (decide (a0=10))=true then (FT a1 (decide (a0=10))) else (FT a1 (decide (a0=11))))))
def GW (a0:Int) (a1:Int) (a2:Bool) (p0_0:Bool):Option (Bool):=
 (if p0_0=true then (some (decide (a1=2))) else (if (decide (a0=4))=true then (some (!((!decide (a1=0)) == a2))) else (if (decide (a0=5))=true then (some a2) else (if (decide (a0=6))=true then (FU a0 a1 (decide (a0=6))) else (if (decide (a0=12))=true then (FU a0 a1 (decide (a0=12))) else (FU a0 a1 (decide (a0=9))))))))
def LS (a0:Int) (a1:Int) (a2:Bool):Option (Bool):=
 (if (decide (a0=2))=true then (some (decide (a1<2))) else (if (decide (a0=3))=true then (GW a0 a1 a2 (decide (a0=3))) else (GW a0 a1 a2 (decide (a0=7)))))
def EP (a0:Int) (a1:Int) (a2:Bool) (p1_0:Bool):Option (Int):=
 (if p1_0=true then (some 0) else ((LS a0 a1 a2).bind fun v7003=>(if v7003=true then (some 2) else (some 1))))
def GX (a0:Int) (a1:Int) (a2:Bool) (p0_0:Int):Option (Int):=
 (if (decide (a1<0))=true then (EP a0 a1 a2 true) else ((Hq a0 p0_0).bind fun v5006=>(if (decide (v5006≤a1))=true then (EP a0 a1 a2 true) else (if a2=true then ((EF a0).bind fun v5013=>(EP a0 a1 a2 (!v5013))) else (EP a0 a1 a2 false)))))
def Hr (a0:Int) (a1:Int) (a2:Bool):Option (Int):=
 (if (decide (a0=9))=true then (GX a0 a1 a2 3) else (GX a0 a1 a2 0))
def Bt (a0:Net) (a1:Port) (a2:List Bool):Option (Int):=
 ((at? a0.agents a1.agent).bind fun v2006=>((at? a2 a1.agent).bind fun v2014=>((Hr v2006.kind a1.slot v2014).bind fun v2016=>(some v2016))))
def H3 (a0:Port) (a1:Port):Option (Bool):=
 (if (decide (a0.agent<a1.agent))=true then (some true) else (if (decide (a0.agent=a1.agent))=true then (some (decide (a0.slot<a1.slot))) else (some false)))
mutual
def Bd:Nat→Net→(List Bool)→(List Port)→Int→Option (Wire × Bool)
 |0,_,_,_,_=>none
 |n+1,a0,a1,v2001,p2_0=>(if (decide (p2_0<(v2001.length:Int)))=true then ((at? v2001 p2_0).bind fun v4000=>((Ct a0 v4000).bind fun v5002=>((H3 v4000 v5002).bind fun v6002=>(if v6002=true then ((Bt a0 v4000 a1).bind fun v6007=>((Bt a0 v5002 a1).bind fun v6011=>(Cz n a0 a1 p2_0 v2001 v4000 v5002 (decide (v6007=v6011))))) else (Cz n a0 a1 p2_0 v2001 v4000 v5002 false))))) else (some ((⟨(⟨0,0⟩:Port),(⟨0,0⟩:Port)⟩:Wire),false)))
def Cz:Nat→Net→(List Bool)→Int→(List Port)→Port→Port→Bool→Option (Wire × Bool)
 |0,_,_,_,_,_,_,_=>none
 |n+1,a0,a1,p2_0,v2001,v4000,v5002,p3_0=>(if p3_0=true then (some ((⟨v4000,v5002⟩:Wire),true)) else (Bd n a0 a1 v2001 (IntKind.i64.wrap (p2_0+1))))
end
def GY (a0:Net) (a1:List Bool):Option (Wire × Bool):=
 ((Gx a0).bind fun v2001=>(Bd fuel a0 a1 v2001 0))
def C0 (a0:Net) (a1:List Bool):Option (Bool):=
 ((JX a0 a1).bind fun v2002=>(if (!v2002)=true then (some false) else ((GY a0 a1).bind fun v4002=>(some (!v4002.2)))))
def Ip (a0:Net) (a1:List Bool):Option (Bool):=
 ((Gf a0).bind fun v2001=>(if v2001=true then ((C0 a0 a1).bind fun v2004=>(some v2004)) else (some false)))
mutual
def BO:Nat→Net→(List Int)→(List (Int × Bool))→Int→Option ((List Int))
 |0,_,_,_,_=>none
 |n+1,a0,p5_0,p5_1,p5_2=>(if (decide (p5_2<(p5_0.length:Int)))=true then ((at? p5_0 p5_2).bind fun v7006=>((at? a0.agents v7006).bind fun v7008=>(BP n a0 p5_2 v7008 p5_0 p5_1 0))) else (some p5_0))
def BP:Nat→Net→Int→Agent→(List Int)→(List (Int × Bool))→Int→Option ((List Int))
 |0,_,_,_,_,_,_=>none
 |n+1,a0,p5_2,v7008,p8_0,p8_1,p8_2=>(if (decide (p8_2<(v7008.ports.length:Int)))=true then ((at? v7008.ports p8_2).bind fun v9000=>((at? a0.agents v9000.agent).bind fun v10006=>((EF v10006.kind).bind fun v10009=>(if v10009=true then (Cl n a0 p5_2 p8_0 p8_1 p8_2 v7008 v9000 (!((J1 p8_1 v9000.agent).getD false))) else (Cl n a0 p5_2 p8_0 p8_1 p8_2 v7008 v9000 false))))) else (BO n a0 p8_0 p8_1 (IntKind.i64.wrap (p5_2+1))))
def Cl:Nat→Net→Int→(List Int)→(List (Int × Bool))→Int→Agent→Port→Bool→Option ((List Int))
 |0,_,_,_,_,_,_,_,_=>none
 |n+1,a0,p5_2,p8_0,p8_1,p8_2,v7008,v9000,p9_0=>(if p9_0=true then ((Lm p8_1 v9000.agent true).bind fun v11003_73=>((app? p8_0 [v9000.agent]).bind fun v12004=>(BP n a0 p5_2 v7008 v12004 v11003_73 (IntKind.i64.wrap (p8_2+1))))) else (BP n a0 p5_2 v7008 p8_0 p8_1 (IntKind.i64.wrap (p8_2+1))))
end
def IM (a0:Net) (a1:Int):Option ((List Int)):=
 ((Lm [] a1 true).bind fun v3002_1=>(BO fuel a0 [a1] v3002_1 0))
mutual
def BS:Nat→Net→(List Int)→(List Bool)→(List (Int × Bool))→Int→Option (Bool × (List Bool))
 |0,_,_,_,_,_=>none
 |n+1,a0,a1,p7_0,p7_1,p7_2=>(if (decide (p7_2<(a1.length:Int)))=true then ((at? a1 p7_2).bind fun v6000=>((at? a0.agents v6000).bind fun v7005=>(Be n a0 a1 p7_2 v6000 v7005 p7_0 p7_1 0))) else (some (true,p7_0)))
def Be:Nat→Net→(List Int)→Int→Int→Agent→(List Bool)→(List (Int × Bool))→Int→Option (Bool × (List Bool))
 |0,_,_,_,_,_,_,_,_=>none
 |n+1,a0,a1,p7_2,v6000,v7005,p11_0,p11_1,p11_2=>(if (decide (p11_2<(v7005.ports.length:Int)))=true then ((at? v7005.ports p11_2).bind fun v9001=>((at? a0.agents v9001.agent).bind fun v11006=>((EF v11006.kind).bind fun v11009=>(if v11009=true then (CS n a0 a1 p7_2 p11_0 p11_1 p11_2 v6000 v7005 v9001 (!((J1 p11_1 v9001.agent).getD false))) else (CS n a0 a1 p7_2 p11_0 p11_1 p11_2 v6000 v7005 v9001 false))))) else (BS n a0 a1 p11_0 p11_1 (IntKind.i64.wrap (p7_2+1))))
def CS:Nat→Net→(List Int)→Int→(List Bool)→(List (Int × Bool))→Int→Int→Agent→Port→Bool→Option (Bool × (List Bool))
 |0,_,_,_,_,_,_,_,_,_,_=>none
 |n+1,a0,a1,p7_2,p11_0,p11_1,p11_2,v6000,v7005,v9001,p12_0=>(if p12_0=true then ((Lm p11_1 v9001.agent true).bind fun v12003_432=>((at? p11_0 v9001.agent).bind fun v13003=>((Bm p11_0 v9001.agent false).bind fun v13004_433=>((Bt a0 (⟨v6000,p11_2⟩:Port) v13004_433).bind fun v14006=>((Bt a0 v9001 v13004_433).bind fun v14010=>((at? v13004_433 v9001.agent).bind fun v14012=>((Bm v13004_433 v9001.agent (decide (v14006=v14010))).bind fun v14013_434=>(B0 n a0 a1 p7_2 p11_2 v6000 v7005 v9001 v14013_434 v12003_432)))))))) else (B0 n a0 a1 p7_2 p11_2 v6000 v7005 v9001 p11_0 p11_1))
def B0:Nat→Net→(List Int)→Int→Int→Int→Agent→Port→(List Bool)→(List (Int × Bool))→Option (Bool × (List Bool))
 |0,_,_,_,_,_,_,_,_,_=>none
 |n+1,a0,a1,p7_2,p11_2,v6000,v7005,v9001,p13_0,p13_1=>((Bt a0 (⟨v6000,p11_2⟩:Port) p13_0).bind fun v15003=>((Bt a0 v9001 p13_0).bind fun v15007=>(if (decide (v15003=v15007))=true then (some (false,p13_0)) else (Be n a0 a1 p7_2 v6000 v7005 p13_0 p13_1 (IntKind.i64.wrap (p11_2+1))))))
end
def F7 (a0:Net) (a1:List Int) (a2:Bool) (a3:List Bool):Option (Bool × (List Bool)):=
 ((at? a1 0).bind fun v2002=>((Lm [] v2002 true).bind fun v2004_1=>((at? a1 0).bind fun v3002=>((at? a3 v3002).bind fun v3005=>((Bm a3 v3002 a2).bind fun v3006_2=>(BS fuel a0 a1 v3006_2 v2004_1 0))))))
mutual
def Bf:Nat→Net→(List Bool)→(List (Int × Bool))→Int→Option ((List Bool) × Bool)
 |0,_,_,_,_=>none
 |n+1,a0,p8_0,p8_1,p8_2=>(if (decide (p8_2<(a0.agents.length:Int)))=true then ((at? a0.agents p8_2).bind fun v6001=>((EF v6001.kind).bind fun v7002=>(if (!v7002)=true then (CT n a0 p8_0 p8_1 p8_2 true) else (CT n a0 p8_0 p8_1 p8_2 ((J1 p8_1 p8_2).getD false))))) else ((C0 a0 p8_0).bind fun v17003=>(some (p8_0,v17003))))
def CT:Nat→Net→(List Bool)→(List (Int × Bool))→Int→Bool→Option ((List Bool) × Bool)
 |0,_,_,_,_,_=>none
 |n+1,a0,p8_0,p8_1,p8_2,p9_0=>(if p9_0=true then (Bf n a0 p8_0 p8_1 (IntKind.i64.wrap (p8_2+1))) else ((IM a0 p8_2).bind fun v8002=>(Bg n a0 p8_0 p8_2 v8002 p8_1 0)))
def Bg:Nat→Net→(List Bool)→Int→(List Int)→(List (Int × Bool))→Int→Option ((List Bool) × Bool)
 |0,_,_,_,_,_,_=>none
 |n+1,a0,p8_0,p8_2,v8002,p14_0,p14_1=>(if (decide (p14_1<(v8002.length:Int)))=true then ((at? v8002 p14_1).bind fun v11000=>((Lm p14_0 v11000 true).bind fun v12002_144=>(Bg n a0 p8_0 p8_2 v8002 v12002_144 (IntKind.i64.wrap (p14_1+1))))) else ((F7 a0 v8002 false p8_0).bind fun v14003=>(if (!v14003.1)=true then ((F7 a0 v8002 true v14003.2).bind fun v14009=>(C1 n a0 p8_2 p14_0 v14009.2 (!v14009.1))) else (C1 n a0 p8_2 p14_0 v14003.2 false))))
def C1:Nat→Net→Int→(List (Int × Bool))→(List Bool)→Bool→Option ((List Bool) × Bool)
 |0,_,_,_,_,_=>none
 |n+1,a0,p8_2,p14_0,p15_0,p15_1=>(if p15_1=true then (some ([],false)) else (Bf n a0 p15_0 p14_0 (IntKind.i64.wrap (p8_2+1))))
end
def E4 (a0:Net):Option ((List Bool) × Bool):=
 ((PB (a0.agents.length:Int) false).bind fun v2005=>(Bf fuel a0 v2005 [] 0))
def Am:Nat→Rewriter→Int→(List Bool)→(List Bool)→Int→Option ((List Bool) × Int)
 |0,_,_,_,_,_=>none
 |n+1,a0,a3,a4,p8_0,p8_1=>((at? a0.net.agents a3).bind fun v9007=>(if (decide (p8_1<(v9007.ports.length:Int)))=true then ((Bt a0.net (⟨a3,p8_1⟩:Port) a4).bind fun v11008=>((app? p8_0 [(decide (v11008=2))]).bind fun v11011=>(Am n a0 a3 a4 v11011 (IntKind.i64.wrap (p8_1+1))))) else (some (p8_0,0))))
def Bp (a0:Rewriter) (a3:Int) (a4:List Bool) (p0_0:List Bool):Option ((List Bool) × Int):=
 (Am fuel a0 a3 a4 p0_0 1)
def Bh (a0:Rewriter) (a1:Int) (a2:Int) (a3:Int) (a4:List Bool):Option ((List Bool) × Int):=
 (if (decide (a1=3))=true then ((at? a4 a3).bind fun v7003=>((at? a4 a3).bind fun v7007=>((app? [] [v7003,v7007]).bind fun v7010=>(Bp a0 a3 a4 v7010)))) else (if (decide (a1=4))=true then (Bp a0 a3 a4 []) else (if (decide (a1=7))=true then ((at? a0.net.agents a2).bind fun v12010=>((at? a0.book v12010.value).bind fun v12013=>((E4 v12013).bind fun v13000=>(if (!v13000.2)=true then (some ([],5)) else ((cutL v13000.1 1 ((List.length v13000.1 :Nat):Int)).bind fun v16001=>(some (v16001,0))))))) else (some ([],0)))))
def Aj:Nat→(List Bool)→Rewriter→(Int × Rewriter)→((List Bool) × Int)→(List Bool)→Int→Option ((List Bool) × Int)
 |0,_,_,_,_,_,_=>none
 |n+1,a2,v7002,v12002,v15005,p2_0,p2_1=>(if (decide (p2_1<((List.length v12002.2.net.agents :Nat):Int)))=true then (if ((J1 v12002.2.removed p2_1).getD false)=true then (Aj n a2 v7002 v12002 v15005 p2_0 (IntKind.i64.wrap (p2_1+1))) else (if (decide (p2_1<(a2.length:Int)))=true then ((at? a2 p2_1).bind fun v25003=>((app? p2_0 [v25003]).bind fun v25006=>(Aj n a2 v7002 v12002 v15005 v25006 (IntKind.i64.wrap (p2_1+1))))) else (if (decide ((IntKind.i64.wrap (p2_1 - (a2.length:Int)))<((List.length v15005.1 :Nat):Int)))=true then ((at? v15005.1 (IntKind.i64.wrap (p2_1 - (a2.length:Int)))).bind fun v27006=>((app? p2_0 [v27006]).bind fun v27009=>(Aj n a2 v7002 v12002 v15005 v27009 (IntKind.i64.wrap (p2_1+1))))) else ((app? p2_0 [false]).bind fun v22002=>(Aj n a2 v7002 v12002 v15005 v22002 (IntKind.i64.wrap (p2_1+1))))))) else (some (p2_0,0)))
def Cg (a0:List Net) (a1:Net) (a2:List Bool) (a3:Int) (p0_0:Bool):Option ((List Bool) × Int):=
 (if p0_0=true then (some ([],1)) else ((MY a1 a3).bind fun v4002=>(if (!decide (v4002.2 =0))=true then (some ([],v4002.2)) else ((FP a0 a1).bind fun v7002=>((Ad v7002 v4002.1).bind fun v8002=>(if (!decide (v8002.2.2.2 =0))=true then (some ([],v8002.2.2.2)) else ((FP a0 a1).bind fun v11002=>((Ac v7002 v4002.1).bind fun v12002=>(if (!decide (v12002.1 =0))=true then (some ([],v12002.1)) else ((Bh v11002 v8002.1 v8002.2.1 v8002.2.2.1 a2).bind fun v15005=>(if (!decide (v15005.2 =0))=true then (some ([],v15005.2)) else (Aj fuel a2 v7002 v12002 v15005 [] 0))))))))))))
def Dp (a0:List Net) (a1:Net) (a2:List Bool) (a3:Int):Option ((List Bool) × Int):=
 ((Ee a0).bind fun v2001=>(if (!v2001)=true then (Cg a0 a1 a2 a3 true) else ((Ip a1 a2).bind fun v2006=>(Cg a0 a1 a2 a3 (!v2006)))))
def E5:Nat→(List Bool)→(List Bool)→Int→Option (Bool)
 |0,_,_,_=>none
 |n+1,a0,a1,p0_0=>(if (decide (p0_0<(a0.length:Int)))=true then ((at? a0 p0_0).bind fun v7002=>((at? a1 p0_0).bind fun v7006=>(if (!(v7002 == v7006))=true then (some false) else (E5 n a0 a1 (IntKind.i64.wrap (p0_0+1)))))) else (some true))
def FV (a0:List Bool) (a1:List Bool):Option (Bool):=
 (if (!decide ((a0.length:Int)=(a1.length:Int)))=true then (some false) else (E5 fuel a0 a1 0))
def DH:Nat→(List Bool)→Int→Int→Option (Int × (List Bool))
 |0,_,_,_=>none
 |n+1,p0_0,p0_1,p0_2=>(if (decide (p0_2<(p0_0.length:Int)))=true then ((at? p0_0 p0_2).bind fun v5005=>((Bm p0_0 p0_2 (decide ((Int.tmod p0_1 3)=0))).bind fun v5006_8=>(DH n v5006_8 (IntKind.i64.wrap (p0_1+1)) (IntKind.i64.wrap (p0_2+1))))) else (some (p0_1,p0_0)))
def Eo (a0:List Bool) (a1:Int):Option (Int × (List Bool)):=
 (DH fuel a0 a1 0)
def DI:Nat→(List Bool)→Int→Int→Option (Int)
 |0,_,_,_=>none
 |n+1,a0,p0_0,p0_1=>(if (decide (p0_1<(a0.length:Int)))=true then ((at? a0 p0_1).bind fun v5002=>(if (!(v5002 == (decide ((Int.tmod p0_0 3)=0))))=true then (some (-1)) else (DI n a0 (IntKind.i64.wrap (p0_0+1)) (IntKind.i64.wrap (p0_1+1))))) else (some p0_0))
def Fp (a0:List Bool) (a1:Int):Option (Int):=
 (DI fuel a0 a1 0)
def Bu (v31002:Int × (List Bool)) (p2_0:Bool):Option (Bool):=
 (if p2_0=true then (some false) else ((Fp v31002.2 1).bind fun v42002=>(if (decide (v42002<0))=true then (some false) else (if (!decide (v42002=v31002.1))=true then (some false) else (some true)))))
def BU (a0:List Net) (a1:Net) (a2:List Bool) (a3:Int) (v11007:(List Bool) × Int) (v15004:(List Bool) × Int) (p1_0:Bool):Option (Bool):=
 (if p1_0=true then (some false) else ((Eo v15004.1 1).bind fun v31002=>((Fp v31002.2 1).bind fun v33002=>(if (decide (v33002<0))=true then (some false) else (if (!decide (v33002=v31002.1))=true then (some false) else ((HM a0).bind fun v38001=>((HN a1).bind fun v38003=>((F6 a2).bind fun v38005=>((Dp v38001 v38003 v38005 a3).bind fun v38007=>((FV v38007.1 v11007.1).bind fun v39002=>(if (!v39002)=true then (Bu v31002 true) else (Bu v31002 (!decide (v38007.2 =v11007.2))))))))))))))
def Bv (a0:List Net) (a1:Net) (a2:List Bool) (a3:Int) (v11007:(List Bool) × Int) (v12001:(List Net)) (v13001:Net) (v14001:(List Bool)) (v15004:(List Bool) × Int) (p0_0:Bool):Option (Bool):=
 (if p0_0=true then (some false) else ((HM a0).bind fun v18002=>((Kn v12001 v18002).bind fun v18003=>(if (!v18003)=true then (some false) else ((HN a1).bind fun v20002=>((J4 v13001 v20002).bind fun v20003=>(if (!v20003)=true then (some false) else ((F6 a2).bind fun v22002=>((FV v14001 v22002).bind fun v22003=>(if (!v22003)=true then (some false) else ((Hs v12001 1).bind fun v25002=>((I7 v13001 v25002.1).bind fun v26002=>((Eo v14001 v26002.1).bind fun v27002=>(if (decide (v27002.1 <0))=true then (BU a0 a1 a2 a3 v11007 v15004 true) else ((FV v15004.1 v11007.1).bind fun v28005=>(if (!v28005)=true then (BU a0 a1 a2 a3 v11007 v15004 true) else (BU a0 a1 a2 a3 v11007 v15004 (!decide (v15004.2 =v11007.2)))))))))))))))))))
def DO (a0:List Net) (a1:Net) (a2:List Bool) (a3:Int):Option (Bool):=
 (if (decide (1048576<(a2.length:Int)))=true then (some true) else ((Md a0 1048576).bind fun v5002=>(if (decide (v5002<0))=true then (some true) else ((LT a1 v5002).bind fun v8002=>(if (decide (v8002<0))=true then (some true) else ((HM a0).bind fun v11001=>((HN a1).bind fun v11003=>((F6 a2).bind fun v11005=>((Ed v11001 v11003 v11005 a3).bind fun v11007=>((HM a0).bind fun v12001=>((HN a1).bind fun v13001=>((F6 a2).bind fun v14001=>((Dp v12001 v13001 v14001 a3).bind fun v15004=>((FV v15004.1 v11007.1).bind fun v16002=>(if (!v16002)=true then (Bv a0 a1 a2 a3 v11007 v12001 v13001 v14001 v15004 true) else (Bv a0 a1 a2 a3 v11007 v12001 v13001 v14001 v15004 (!decide (v15004.2 =v11007.2))))))))))))))))))
end Go.Proofs.YteckcjgpnegkjaaGreat.Ab
