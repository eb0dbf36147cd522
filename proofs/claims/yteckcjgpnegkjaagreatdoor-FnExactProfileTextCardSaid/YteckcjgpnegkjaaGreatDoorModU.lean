/-
  Data of the program as Lean types; how they lie in memory. Printed by wip/ab/gen.py.
-/
import Derived.Test.YteckcjgpnegkjaaGreatDoorAbY
import Derived.Test.YteckcjgpnegkjaaGreatDoorMod
namespace Go.Proofs.YteckcjgpnegkjaaGreatDoor.Ab
set_option linter.unusedVariables false
set_option linter.unusedSimpArgs false
set_option maxRecDepth 20000
set_option maxHeartbeats 4000000
open Go.RowKit
structure Port where
 agent:Int
 slot:Int
def Port.ds (c:Port):List D:=[.int .i64 c.agent,.int .i64 c.slot]
theorem Port.ds_eq (c:Port):c.ds=[.int .i64 c.agent,.int .i64 c.slot] :=rfl
@[go_sem] def Port.avs (c:Port):List AV:=[.int .i64 c.agent,.int .i64 c.slot]
@[go_sem] def Port.rv (c:Port):List RV:=[.int .i64 c.agent,.int .i64 c.slot]
@[go_sem] def Port.rvn (c:Port):List RV:=[.int .i64 c.agent,.int .i64 c.slot]
attribute [go_sem] Port.ds_eq
theorem Port.ds_len (c:Port):c.ds.length=2:=by rw [Port.ds_eq]; rfl
structure Agent where
 kind:Int
 level:Int
 value:Int
 data:List Int
 ports:List Port
def Agent.ds (c:Agent):List D:=[.int .i64 c.kind,.int .i64 c.level,.int .i64 c.value,.sl (c.data.map AS),.sl (c.ports.map Port.ds)]
theorem Agent.ds_eq (c:Agent):c.ds=[.int .i64 c.kind,.int .i64 c.level,.int .i64 c.value,.sl (c.data.map AS),.sl (c.ports.map Port.ds)] :=rfl
@[go_sem] def Agent.avs (c:Agent):List AV:=[.int .i64 c.kind,.int .i64 c.level,.int .i64 c.value,.ro (c.data.map AS),.ro (c.ports.map Port.ds)]
@[go_sem] def Agent.rv (c:Agent):List RV:=[.int .i64 c.kind,.int .i64 c.level,.int .i64 c.value,.ow (some 1) (c.data.map AS),.ow (some 2) (c.ports.map Port.ds)]
@[go_sem] def Agent.rvn (c:Agent):List RV:=[.int .i64 c.kind,.int .i64 c.level,.int .i64 c.value,.ow none (c.data.map AS),.ow none (c.ports.map Port.ds)]
attribute [go_sem] Agent.ds_eq
theorem Agent.ds_len (c:Agent):c.ds.length=5:=by rw [Agent.ds_eq]; rfl
def Agent.dz (c:Agent):List D:=[.int .i64 c.kind,.int .i64 c.level,.int .i64 c.value,.fz (c.data.map AS),.fz (c.ports.map Port.ds)]
@[go_sem] theorem Agent.dz_eq (c:Agent):c.dz=[.int .i64 c.kind,.int .i64 c.level,.int .i64 c.value,.fz (c.data.map AS),.fz (c.ports.map Port.ds)] :=rfl
@[go_sem] theorem Agent.dz_er (l:List Agent):erR (l.map Agent.dz)=List.map Agent.ds l:=KL (fun c=>by rw [Agent.ds_eq]; simp only [Agent.dz,erC,er]) l
structure Net where
 agents:List Agent
def Net.ds (c:Net):List D:=[.sl (c.agents.map Agent.ds)]
theorem Net.ds_eq (c:Net):c.ds=[.sl (c.agents.map Agent.ds)] :=rfl
@[go_sem] def Net.avs (c:Net):List AV:=[.ro (c.agents.map Agent.ds)]
@[go_sem] def Net.rv (c:Net):List RV:=[.ow (some 5) (c.agents.map Agent.ds)]
@[go_sem] def Net.rvn (c:Net):List RV:=[.ow none (c.agents.map Agent.ds)]
attribute [go_sem] Net.ds_eq
theorem Net.ds_len (c:Net):c.ds.length=1:=by rw [Net.ds_eq]; rfl
def Net.dz (c:Net):List D:=[.fz (c.agents.map Agent.ds)]
@[go_sem] theorem Net.dz_eq (c:Net):c.dz=[.fz (c.agents.map Agent.ds)] :=rfl
@[go_sem] theorem Net.dz_er (l:List Net):erR (l.map Net.dz)=List.map Net.ds l:=KL (fun c=>by rw [Net.ds_eq]; simp only [Net.dz,erC,er]) l
@[go_sem] theorem Port.ds_er (l:List Port):erR (l.map Port.ds)=List.map Port.ds l:=KL (fun c=>by rw [Port.ds_eq]; simp only [erC,er]) l
def Agent.dm (c:Agent):List D:=[.int .i64 c.kind,.int .i64 c.level,.int .i64 c.value,.fz (c.data.map AS),.sl (c.ports.map Port.ds)]
@[go_sem] theorem Agent.dm_eq (c:Agent):c.dm=[.int .i64 c.kind,.int .i64 c.level,.int .i64 c.value,.fz (c.data.map AS),.sl (c.ports.map Port.ds)] :=rfl
theorem Agent.dm_len (c:Agent):c.dm.length=5:=rfl
@[go_sem] theorem Agent.dm_er (l:List Agent):erR (l.map Agent.dm)=List.map Agent.ds l:=KL (fun c=>by rw [Agent.ds_eq]; simp only [Agent.dm,erC,er,Port.ds_er]) l
def Jl (a0:List Port) (a1:Int):Option (Int):=
 (if (decide ((IntKind.i64.wrap (a1 - (a0.length:Int)))<0))=true then (some (-1)) else (some (IntKind.i64.wrap (a1 - (a0.length:Int)))))
def H7 (a0:Agent) (a1:Int):Option (Int):=
 ((IT a0.data a1).bind fun v2003=>(if (decide (v2003<0))=true then (some (-1)) else ((Jl a0.ports v2003).bind fun v5003=>(if (decide (v5003<0))=true then (some (-1)) else (some v5003)))))
def Dv:Nat→(List Agent)→Int→Int→Option (Int)
 |0,_,_,_=>none
 |n+1,a0,p0_0,p0_1=>(if (decide (p0_1<(a0.length:Int)))=true then ((at? a0 p0_1).bind fun v8002=>((H7 v8002 p0_0).bind fun v8005=>(if (decide (v8005<0))=true then (some (-1)) else (Dv n a0 v8005 (IntKind.i64.wrap (p0_1+1)))))) else (some p0_0))
def IZ (a0:List Agent) (a1:Int):Option (Int):=
 (if (decide ((IntKind.i64.wrap (a1 - (a0.length:Int)))<0))=true then (some (-1)) else (Dv fuel a0 (IntKind.i64.wrap (a1 - (a0.length:Int))) 0))
def KN (a0:Net) (a1:Int):Option (Int):=
 ((IZ a0.agents a1).bind fun v2003=>(if (decide (v2003<0))=true then (some (-1)) else (some v2003)))
def FC:Nat→(List Net)→Int→Int→Option (Int)
 |0,_,_,_=>none
 |n+1,a0,p0_0,p0_1=>(if (decide (p0_1<(a0.length:Int)))=true then ((at? a0 p0_1).bind fun v8002=>((KN v8002 p0_0).bind fun v8005=>(if (decide (v8005<0))=true then (some (-1)) else (FC n a0 v8005 (IntKind.i64.wrap (p0_1+1)))))) else (some p0_0))
def LS (a0:List Net) (a1:Int):Option (Int):=
 (if (decide ((IntKind.i64.wrap (a1 - (a0.length:Int)))<0))=true then (some (-1)) else (FC fuel a0 (IntKind.i64.wrap (a1 - (a0.length:Int))) 0))
def LT (a0:Port):Option (Port):=
 (some a0)
def ET:Nat→(List Port)→(List Port)→Int→Option ((List Port))
 |0,_,_,_=>none
 |n+1,a0,p1_0,p1_1=>(if (decide (p1_1<(a0.length:Int)))=true then ((at? a0 p1_1).bind fun v6004=>((LT v6004).bind fun v6006=>((at? p1_0 p1_1).bind fun v6007=>((C0 p1_0 p1_1 v6006).bind fun v6008_12=>(ET n a0 v6008_12 (IntKind.i64.wrap (p1_1+1))))))) else (some p1_0))
def Jm (a0:List Port):Option ((List Port)):=
 ((rep? (a0.length:Int) (⟨0,0⟩:Port)).bind fun v2002=>(ET fuel a0 v2002 0))
def H8 (a0:Agent):Option (Agent):=
 ((IU a0.data).bind fun v6002=>((Jm a0.ports).bind fun v7002=>(some (⟨a0.kind,a0.level,a0.value,v6002,v7002⟩:Agent))))
def Dw:Nat→(List Agent)→(List Agent)→Int→Option ((List Agent))
 |0,_,_,_=>none
 |n+1,a0,p1_0,p1_1=>(if (decide (p1_1<(a0.length:Int)))=true then ((at? a0 p1_1).bind fun v6004=>((H8 v6004).bind fun v6006=>((at? p1_0 p1_1).bind fun v6007=>((C0 p1_0 p1_1 v6006).bind fun v6008_12=>(Dw n a0 v6008_12 (IntKind.i64.wrap (p1_1+1))))))) else (some p1_0))
def Ia (a0:List Agent):Option ((List Agent)):=
 ((rep? (a0.length:Int) (⟨0,0,0,[],[]⟩:Agent)).bind fun v2002=>(Dw fuel a0 v2002 0))
def G2 (a0:Net):Option (Net):=
 ((Ia a0.agents).bind fun v3002=>(some (⟨v3002⟩:Net)))
def FD:Nat→(List Net)→(List Net)→Int→Option ((List Net))
 |0,_,_,_=>none
 |n+1,a0,p1_0,p1_1=>(if (decide (p1_1<(a0.length:Int)))=true then ((at? a0 p1_1).bind fun v6004=>((G2 v6004).bind fun v6006=>((at? p1_0 p1_1).bind fun v6007=>((C0 p1_0 p1_1 v6006).bind fun v6008_12=>(FD n a0 v6008_12 (IntKind.i64.wrap (p1_1+1))))))) else (some p1_0))
def HL (a0:List Net):Option ((List Net)):=
 ((rep? (a0.length:Int) (⟨[]⟩:Net)).bind fun v2002=>(FD fuel a0 v2002 0))
def Jn (a0:Port) (a1:Port):Option (Bool):=
 (if (!decide (a0.agent=a1.agent))=true then (some false) else (if (!decide (a0.slot=a1.slot))=true then (some false) else (some true)))
def EU:Nat→(List Port)→(List Port)→Int→Option (Bool)
 |0,_,_,_=>none
 |n+1,a0,a1,p0_0=>(if (decide (p0_0<(a0.length:Int)))=true then ((at? a0 p0_0).bind fun v7002=>((at? a1 p0_0).bind fun v7006=>((Jn v7002 v7006).bind fun v7008=>(if (!v7008)=true then (some false) else (EU n a0 a1 (IntKind.i64.wrap (p0_0+1))))))) else (some true))
def Jo (a0:List Port) (a1:List Port):Option (Bool):=
 (if (!decide ((a0.length:Int)=(a1.length:Int)))=true then (some false) else (EU fuel a0 a1 0))
def H9 (a0:Agent) (a1:Agent):Option (Bool):=
 (if (!decide (a0.kind=a1.kind))=true then (some false) else (if (!decide (a0.level=a1.level))=true then (some false) else (if (!decide (a0.value=a1.value))=true then (some false) else ((IV a0.data a1.data).bind fun v8004=>(if (!v8004)=true then (some false) else ((Jo a0.ports a1.ports).bind fun v10004=>(if (!v10004)=true then (some false) else (some true))))))))
def Dx:Nat→(List Agent)→(List Agent)→Int→Option (Bool)
 |0,_,_,_=>none
 |n+1,a0,a1,p0_0=>(if (decide (p0_0<(a0.length:Int)))=true then ((at? a0 p0_0).bind fun v7002=>((at? a1 p0_0).bind fun v7006=>((H9 v7002 v7006).bind fun v7008=>(if (!v7008)=true then (some false) else (Dx n a0 a1 (IntKind.i64.wrap (p0_0+1))))))) else (some true))
def Ib (a0:List Agent) (a1:List Agent):Option (Bool):=
 (if (!decide ((a0.length:Int)=(a1.length:Int)))=true then (some false) else (Dx fuel a0 a1 0))
def I7 (a0:Net) (a1:Net):Option (Bool):=
 ((Ib a0.agents a1.agents).bind fun v2004=>(if (!v2004)=true then (some false) else (some true)))
def FE:Nat→(List Net)→(List Net)→Int→Option (Bool)
 |0,_,_,_=>none
 |n+1,a0,a1,p0_0=>(if (decide (p0_0<(a0.length:Int)))=true then ((at? a0 p0_0).bind fun v7002=>((at? a1 p0_0).bind fun v7006=>((I7 v7002 v7006).bind fun v7008=>(if (!v7008)=true then (some false) else (FE n a0 a1 (IntKind.i64.wrap (p0_0+1))))))) else (some true))
def Jj (a0:List Net) (a1:List Net):Option (Bool):=
 (if (!decide ((a0.length:Int)=(a1.length:Int)))=true then (some false) else (FE fuel a0 a1 0))
def HI (a0:List Int):Option ((List Int)):=
 ((app? [] a0).bind fun v2002=>(some v2002))
def Bw (a0:Agent):Option (Agent):=
 ((HI a0.data).bind fun v2016=>((app? [] a0.ports).bind fun v2022=>(some (⟨a0.kind,a0.level,a0.value,v2016,v2022⟩:Agent))))
def Bb:Nat→(List Int)→Int→(Int→Option Bool)→Option (Int)
 |0,_,_,_=>none
 |n+1,a0,p0_0,f1=>(if (decide (p0_0<(a0.length:Int)))=true then ((at? a0 p0_0).bind fun v5003=>((f1 v5003).bind fun v5005=>(if v5005=true then (some p0_0) else (Bb n a0 (IntKind.i64.wrap (p0_0+1)) f1)))) else (some (-1)))
def EV (a0:List Int) (f1:(Int→Option Bool)):Option (Int):=
 (Bb fuel a0 0 f1)
def Ba (a0:List Int) (f1:(Int→Option Bool)):Option (Bool):=
 ((EV a0 f1).bind fun v2002=>(some (decide (0≤v2002))))
def Ic (a0:Int):Option (Bool):=
 (if (decide (1≤a0))=true then (some (decide (a0≤12))) else (some false))
def EO (a0:Int):Option (Bool):=
 ((Ic a0).bind fun v2001=>(if v2001=true then (if (!decide (a0=1))=true then (if (!decide (a0=5))=true then (some (!decide (a0=6))) else (some false)) else (some false)) else (some false)))
def Gn (a0:Int):Option (Bool):=
 (if (decide (0≤a0))=true then (some (decide (a0≤8))) else (some false))
def De (a0:Int) (a1:Int):Option (Bool):=
 ((Ic a0).bind fun v2001=>(if v2001=true then (if (decide (a1=0))=true then (some true) else ((EO a0).bind fun v2007=>(if v2007=true then ((Gn a1).bind fun v2010=>(some v2010)) else (some false)))) else (some false)))
def EW (a0:Int) (p1_0:Bool):Option (Int):=
 (if p1_0=true then (some 0) else ((atI [0,1,3,3,3,1,1,3,2,0,2,2,1] a0).bind fun v6002=>(some v6002)))
def EX (a0:Int) (a1:Int) (p0_0:Bool):Option (Int):=
 (if p0_0=true then (some (IntKind.i64.wrap (a1+1))) else ((Ic a0).bind fun v4001=>(if (!v4001)=true then (EW a0 true) else (if (decide (a0=9))=true then (EW a0 true) else (EW a0 (!decide (a1=0)))))))
def IA (a0:Int) (a1:Int):Option (Int):=
 (if (decide (a0=9))=true then (if (decide (0≤a1))=true then (EX a0 a1 (decide (a1≤3))) else (EX a0 a1 false)) else (EX a0 a1 false))
def Id (a0:Int) (a1:Int):Option (Int):=
 (if (decide (a0=9))=true then (some (IntKind.i64.wrap (a1 - 1))) else (some 0))
def FQ (a0:Int):Option (Bool):=
 (if (decide (0≤a0))=true then (some (decide (a0<24))) else (some false))
def FF (a0:Int):Option (Bool):=
 ((FQ a0).bind fun v2001=>(some (!v2001)))
def MF (a0:Int):Option (Bool):=
 (if (decide ((-2147483648)≤a0))=true then (some (decide (a0≤2147483647))) else (some false))
def FR (a0:Int):Option (Bool):=
 (if (decide (1≤a0))=true then (some (decide (a0≤6))) else (some false))
def As (p1_0:Bool) (p1_1:Bool):Option (Bool):=
 (if p1_0=true then (some p1_1) else (some false))
def CW (a0:Agent) (p0_0:Bool):Option (Bool):=
 (if p0_0=true then (some false) else ((Ba a0.data (fun y0=>FF y0)).bind fun v5002=>(if (decide (a0.kind=6))=true then ((MF a0.value).bind fun v8002=>(As v8002 (decide ((a0.data.length:Int)=0)))) else (if (decide (a0.kind=7))=true then ((FR a0.value).bind fun v10002=>(As v10002 (decide ((a0.data.length:Int)=0)))) else (if (decide (a0.kind=8))=true then ((FR a0.value).bind fun v12002=>(if v12002=true then (if (decide ((a0.data.length:Int)=1))=true then ((at? a0.data 0).bind fun v12012=>((MF v12012).bind fun v12014=>(some v12014))) else (some false)) else (some false))) else (if (decide (a0.kind=9))=true then (if (decide (0≤a0.value))=true then (As (decide (a0.value<4)) (decide ((a0.data.length:Int)=0))) else (As false (decide ((a0.data.length:Int)=0)))) else (if (decide (a0.kind=10))=true then (if (decide (1≤(a0.data.length:Int)))=true then (if (decide ((a0.data.length:Int)≤4))=true then (As (decide (a0.value=0)) (!v5002)) else (As (decide (a0.value=0)) false)) else (As (decide (a0.value=0)) false)) else (if (decide (a0.kind=11))=true then (if (decide ((a0.data.length:Int)=2))=true then (As (decide (a0.value=0)) (!v5002)) else (As (decide (a0.value=0)) false)) else (if (decide (a0.kind=12))=true then ((FQ a0.value).bind fun v20002=>(As v20002 (decide ((a0.data.length:Int)=0)))) else (As (decide (a0.value=0)) (decide ((a0.data.length:Int)=0))))))))))))
def GT (a0:Agent):Option (Bool):=
 (if (decide ((a0.ports.length:Int)=0))=true then (CW a0 true) else ((Id a0.kind (a0.ports.length:Int)).bind fun v2012=>((IA a0.kind v2012).bind fun v2013=>(if (!decide (v2013=(a0.ports.length:Int)))=true then (CW a0 true) else ((De a0.kind a0.level).bind fun v2024=>(CW a0 (!v2024)))))))
mutual
def CM:Nat→(List Agent)→Int→Option (Bool)
 |0,_,_=>none
 |n+1,a0,p1_0=>(if (decide (p1_0<(a0.length:Int)))=true then ((at? a0 p1_0).bind fun v6001=>((GT v6001).bind fun v7001=>(if (!v7001)=true then (DQ n a0 p1_0 true) else (DQ n a0 p1_0 (!((decide (v6001.kind=1)) == (decide (p1_0=0)))))))) else (some true))
def DQ:Nat→(List Agent)→Int→Bool→Option (Bool)
 |0,_,_,_=>none
 |n+1,a0,p1_0,p2_0=>(if p2_0=true then (some false) else (CM n a0 (IntKind.i64.wrap (p1_0+1))))
end
def FG (a0:List Agent) (p0_0:Bool):Option (Bool):=
 (if p0_0=true then (some false) else (CM fuel a0 0))
def HN (a0:List Agent):Option (Bool):=
 (if (decide ((a0.length:Int)<1))=true then (FG a0 true) else (FG a0 (decide (600<(a0.length:Int)))))
def A9:Nat→(List Port)→Int→(Port→Option Bool)→Option (Int)
 |0,_,_,_=>none
 |n+1,a0,p0_0,f1=>(if (decide (p0_0<(a0.length:Int)))=true then ((at? a0 p0_0).bind fun v5003=>((f1 v5003).bind fun v5005=>(if v5005=true then (some p0_0) else (A9 n a0 (IntKind.i64.wrap (p0_0+1)) f1)))) else (some (-1)))
def C6 (a0:List Port) (f1:(Port→Option Bool)):Option (Int):=
 (A9 fuel a0 0 f1)
def Bm (a0:List Port) (f1:(Port→Option Bool)):Option (Bool):=
 ((C6 a0 f1).bind fun v2002=>(some (decide (0≤v2002))))
mutual
def B0:Nat→Net→(List Port)→Int→Option ((List Port))
 |0,_,_,_=>none
 |n+1,a0,p0_0,p0_1=>(if (decide (p0_1<(a0.agents.length:Int)))=true then ((at? a0.agents p0_1).bind fun v5001=>(Co n a0 p0_1 v5001 p0_0 0)) else (some p0_0))
def Co:Nat→Net→Int→Agent→(List Port)→Int→Option ((List Port))
 |0,_,_,_,_,_=>none
 |n+1,a0,p0_1,v5001,p4_0,p4_1=>(if (decide (p4_1<(v5001.ports.length:Int)))=true then ((app? p4_0 [(⟨p0_1,p4_1⟩:Port)]).bind fun v9005=>(Co n a0 p0_1 v5001 v9005 (IntKind.i64.wrap (p4_1+1)))) else (B0 n a0 p4_0 (IntKind.i64.wrap (p0_1+1))))
end
def HO (a0:Net):Option ((List Port)):=
 (B0 fuel a0 [] 0)
def Ct (a0:Net) (a1:Port):Option (Port):=
 ((at? a0.agents a1.agent).bind fun v2006=>((at? v2006.ports a1.slot).bind fun v2011=>(some v2011)))
def Jp (a0:List Agent) (a1:Port):Option (Bool):=
 (if (decide (0≤a1.agent))=true then (if (decide (a1.agent<(a0.length:Int)))=true then (if (decide (0≤a1.slot))=true then ((at? a0 a1.agent).bind fun v2021=>(some (decide (a1.slot<(v2021.ports.length:Int))))) else (some false)) else (some false)) else (some false))
def GU (a0:Port) (a1:Net):Option (Bool):=
 ((Ct a1 a0).bind fun v2001=>(if (decide (v2001.agent=a0.agent)&&decide (v2001.slot=a0.slot))=true then (some true) else ((Jp a1.agents v2001).bind fun v3007=>(if (!v3007)=true then (some true) else ((Ct a1 v2001).bind fun v3012=>(some (!(decide (v3012.agent=a0.agent)&&decide (v3012.slot=a0.slot)))))))))
def Gr (a0:Net):Option (Bool):=
 ((HN a0.agents).bind fun v2002=>(if (!v2002)=true then (some false) else ((HO a0).bind fun v4000=>((Bm v4000 (fun y0=>GU y0 a0)).bind fun v4002=>(some (!v4002))))))
def CJ (a0:Int) (a1:Int) (a2:Int):Option (Bool):=
 (if (decide (a1≤a0))=true then (some (decide (a0≤a2))) else (some false))
def DB (a0:Agent):Option (Int):=
 (if (decide (a0.kind=9))=true then (some (IntKind.i64.wrap ((a0.ports.length:Int) - 1))) else (some 0))
def EY (p2_0:Bool):Option (Int):=
 (if p2_0=true then (some 3) else (some 0))
def FS (a0:Int) (p1_0:Bool):Option (Int):=
 (if p1_0=true then (some 2) else (if (decide (a0=2))=true then (EY (decide (a0=2))) else (if (decide (a0=3))=true then (EY (decide (a0=3))) else (if (decide (a0=4))=true then (EY (decide (a0=4))) else (EY (decide (a0=7)))))))
def EZ (a0:Int) (p0_0:Bool):Option (Int):=
 (if p0_0=true then (some 1) else (if (decide (a0=8))=true then (FS a0 (decide (a0=8))) else (if (decide (a0=10))=true then (FS a0 (decide (a0=10))) else (FS a0 (decide (a0=11))))))
def IB (a0:Int) (a1:Int):Option (Int):=
 (if (decide (a0=9))=true then ((CJ a1 0 3).bind fun v3001=>(if v3001=true then (some (IntKind.i64.wrap (1+a1))) else (some 0))) else (if (!decide (a1=0))=true then (some 0) else (if (decide (a0=1))=true then (EZ a0 (decide (a0=1))) else (if (decide (a0=5))=true then (EZ a0 (decide (a0=5))) else (if (decide (a0=6))=true then (EZ a0 (decide (a0=6))) else (EZ a0 (decide (a0=12))))))))
def BF (p0_0:Bool):Option (Bool):=
 (if p0_0=true then (some true) else (some false))
def Dr (a0:Int):Option (Bool):=
 (if (decide (a0=2))=true then (BF (decide (a0=2))) else (if (decide (a0=3))=true then (BF (decide (a0=3))) else (if (decide (a0=4))=true then (BF (decide (a0=4))) else (if (decide (a0=7))=true then (BF (decide (a0=7))) else (if (decide (a0=8))=true then (BF (decide (a0=8))) else (if (decide (a0=9))=true then (BF (decide (a0=9))) else (if (decide (a0=10))=true then (BF (decide (a0=10))) else (if (decide (a0=11))=true then (BF (decide (a0=11))) else (BF (decide (a0=12)))))))))))
def Jq (a0:Int):Option (Bool):=
 ((CJ a0 1 12).bind fun v2001=>(some v2001))
def EQ (a0:Int) (a1:Int):Option (Bool):=
 ((Dr a0).bind fun v2001=>(if v2001=true then ((CJ a1 0 8).bind fun v3001=>(some v3001)) else ((Jq a0).bind fun v4001=>(if v4001=true then (some (decide (a1=0))) else (some false)))))
def Ie (a0:Int):Option (Bool):=
 ((CJ a0 0 23).bind fun v2001=>(some v2001))
def CX:Nat→Agent→Int→Option (Bool)
 |0,_,_=>none
 |n+1,a0,p2_0=>(if (decide (p2_0<(a0.data.length:Int)))=true then ((at? a0.data p2_0).bind fun v20005=>((Ie v20005).bind fun v20007=>(if (!v20007)=true then (some false) else (CX n a0 (IntKind.i64.wrap (p2_0+1)))))) else (some true))
def B8 (a0:Agent) (p1_0:Bool):Option (Bool):=
 (if p1_0=true then (some false) else (CX fuel a0 0))
def Ej (a0:Agent) (p0_0:Bool):Option (Bool):=
 (if p0_0=true then (if (!decide (a0.value=0))=true then (B8 a0 true) else (if (decide (a0.kind=11))=true then (if (!decide ((a0.data.length:Int)=2))=true then (B8 a0 true) else (if (decide (a0.kind=10))=true then ((CJ (a0.data.length:Int) 1 4).bind fun v15032=>(B8 a0 (!v15032))) else (B8 a0 false))) else (if (decide (a0.kind=10))=true then ((CJ (a0.data.length:Int) 1 4).bind fun v15032=>(B8 a0 (!v15032))) else (B8 a0 false)))) else (if (decide (a0.value=0))=true then (some (decide ((a0.data.length:Int)=0))) else (some false)))
def GV (a0:Agent):Option (Bool):=
 (if (decide (a0.kind=6))=true then (if (decide ((a0.data.length:Int)=0))=true then ((CJ a0.value (-2147483648) 2147483647).bind fun v4011=>(some v4011)) else (some false)) else (if (decide (a0.kind=7))=true then (if (decide ((a0.data.length:Int)=0))=true then ((CJ a0.value 1 6).bind fun v6011=>(some v6011)) else (some false)) else (if (decide (a0.kind=8))=true then (if (decide ((a0.data.length:Int)=1))=true then ((CJ a0.value 1 6).bind fun v8011=>(if v8011=true then ((at? a0.data 0).bind fun v8018=>((CJ v8018 (-2147483648) 2147483647).bind fun v8020=>(some v8020))) else (some false))) else (some false)) else (if (decide (a0.kind=9))=true then (if (decide ((a0.data.length:Int)=0))=true then ((CJ a0.value 0 3).bind fun v10011=>(some v10011)) else (some false)) else (if (decide (a0.kind=12))=true then (if (decide ((a0.data.length:Int)=0))=true then ((Ie a0.value).bind fun v12011=>(some v12011)) else (some false)) else (if (decide (a0.kind=10))=true then (Ej a0 (decide (a0.kind=10))) else (Ej a0 (decide (a0.kind=11)))))))))
def If (a0:Agent):Option (Bool):=
 ((DB a0).bind fun v2005=>((IB a0.kind v2005).bind fun v2006=>(if (decide (0<v2006))=true then (if (decide ((a0.ports.length:Int)=v2006))=true then ((EQ a0.kind a0.level).bind fun v3020=>(if v3020=true then ((GV a0).bind fun v3024=>(some v3024)) else (some false))) else (some false)) else (some false))))
mutual
def CN:Nat→(List Agent)→Int→Option (Bool)
 |0,_,_=>none
 |n+1,a0,p0_0=>(if (decide (p0_0<(a0.length:Int)))=true then ((at? a0 p0_0).bind fun v7002=>((If v7002).bind fun v7003=>(if (!v7003)=true then (DR n a0 p0_0 true) else ((at? a0 p0_0).bind fun v7008=>(DR n a0 p0_0 (!((decide (v7008.kind=1)) == (decide (p0_0=0))))))))) else (some true))
def DR:Nat→(List Agent)→Int→Bool→Option (Bool)
 |0,_,_,_=>none
 |n+1,a0,p0_0,p1_0=>(if p1_0=true then (some false) else (CN n a0 (IntKind.i64.wrap (p0_0+1))))
end
def HP (a0:List Agent):Option (Bool):=
 ((CJ (a0.length:Int) 1 600).bind fun v2002=>(if (!v2002)=true then (some false) else (CN fuel a0 0)))
def Jr (a0:List Agent) (a1:Port):Option (Bool):=
 ((CJ a1.agent 0 (IntKind.i64.wrap ((a0.length:Int) - 1))).bind fun v2005=>(if v2005=true then ((at? a0 a1.agent).bind fun v2012=>((CJ a1.slot 0 (IntKind.i64.wrap ((v2012.ports.length:Int) - 1))).bind fun v2017=>(some v2017))) else (some false)))
mutual
def Dy:Nat→Net→Int→Option (Bool)
 |0,_,_=>none
 |n+1,a0,p0_0=>(if (decide (p0_0<(a0.agents.length:Int)))=true then ((at? a0.agents p0_0).bind fun v7005=>(EJ n a0 p0_0 v7005 0)) else (some true))
def EJ:Nat→Net→Int→Agent→Int→Option (Bool)
 |0,_,_,_,_=>none
 |n+1,a0,p0_0,v7005,p1_0=>(if (decide (p1_0<(v7005.ports.length:Int)))=true then ((at? v7005.ports p1_0).bind fun v12005=>(if (decide (v12005.agent=p0_0)&&decide (v12005.slot=p1_0))=true then (EK n a0 p0_0 p1_0 v7005 true) else ((Jr a0.agents v12005).bind fun v13009=>(if (!v13009)=true then (EK n a0 p0_0 p1_0 v7005 true) else ((at? a0.agents v12005.agent).bind fun v13019=>((at? v13019.ports v12005.slot).bind fun v13024=>(EK n a0 p0_0 p1_0 v7005 (!(decide (v13024.agent=p0_0)&&decide (v13024.slot=p1_0)))))))))) else (Dy n a0 (IntKind.i64.wrap (p0_0+1))))
def EK:Nat→Net→Int→Int→Agent→Bool→Option (Bool)
 |0,_,_,_,_,_=>none
 |n+1,a0,p0_0,p1_0,v7005,p2_0=>(if p2_0=true then (some false) else (EJ n a0 p0_0 v7005 (IntKind.i64.wrap (p1_0+1))))
end
def KO (a0:Net):Option (Bool):=
 ((HP a0.agents).bind fun v2004=>(if (!v2004)=true then (some false) else (Dy fuel a0 0)))
def BG:Nat→(List Net)→Int→(Net→Option Bool)→Option (Int)
 |0,_,_,_=>none
 |n+1,a0,p0_0,f1=>(if (decide (p0_0<(a0.length:Int)))=true then ((at? a0 p0_0).bind fun v5003=>((f1 v5003).bind fun v5005=>(if v5005=true then (some p0_0) else (BG n a0 (IntKind.i64.wrap (p0_0+1)) f1)))) else (some (-1)))
def DV (a0:List Net) (f1:(Net→Option Bool)):Option (Int):=
 (BG fuel a0 0 f1)
def B5 (a0:List Net) (f1:(Net→Option Bool)):Option (Bool):=
 ((DV a0 f1).bind fun v2002=>(some (decide (0≤v2002))))
def Ea (a0:Net):Option (Bool):=
 ((Gr a0).bind fun v2001=>(some (!v2001)))
def D9 (a0:List Net):Option (Bool):=
 (if (decide ((a0.length:Int)≤24))=true then ((B5 a0 (fun y0=>Ea y0)).bind fun v2005=>(some (!v2005))) else (some false))
def Eb:Nat→(List Net)→Int→Option (Bool)
 |0,_,_=>none
 |n+1,a0,p0_0=>(if (decide (p0_0<(a0.length:Int)))=true then ((at? a0 p0_0).bind fun v7002=>((KO v7002).bind fun v7003=>(if (!v7003)=true then (some false) else (Eb n a0 (IntKind.i64.wrap (p0_0+1)))))) else (some true))
def Jk (a0:List Net):Option (Bool):=
 (if (decide (24<(a0.length:Int)))=true then (some false) else (Eb fuel a0 0))
end Go.Proofs.YteckcjgpnegkjaaGreatDoor.Ab
