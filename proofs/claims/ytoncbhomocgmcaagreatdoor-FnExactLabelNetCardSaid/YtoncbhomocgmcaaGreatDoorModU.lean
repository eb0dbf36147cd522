/-
  Data of the program as Lean types; how they lie in memory. Printed by wip/ab/gen.py.
-/
import Derived.Test.YtoncbhomocgmcaaGreatDoorAbY
import Derived.Test.YtoncbhomocgmcaaGreatDoorMod
namespace Go.Proofs.YtoncbhomocgmcaaGreatDoor.Ab
set_option linter.unusedVariables false
set_option linter.unusedSimpArgs false
set_option maxRecDepth 20000
set_option maxHeartbeats 4000000
open Go.RowKit
structure Port where
 agent:Int
 slot:Int
def Port.ds (c:Port):List D:=[.int .i64 c.agent,.int .i64 c.slot]
theorem Port.ds_eq (c:Port):c.ds=[.int .i64 c.agent,.int .i64 c.slot] :=rfl
@[go_sem] def Port.avs (c:Port):List AV:=[.int .i64 c.agent,.int .i64 c.slot]
@[go_sem] def Port.rv (c:Port):List RV:=[.int .i64 c.agent,.int .i64 c.slot]
@[go_sem] def Port.rvn (c:Port):List RV:=[.int .i64 c.agent,.int .i64 c.slot]
attribute [go_sem] Port.ds_eq
theorem Port.ds_len (c:Port):c.ds.length=2:=by rw [Port.ds_eq]; rfl
structure Agent where
 kind:Int
 level:Int
 value:Int
 data:List Int
 ports:List Port
def Agent.ds (c:Agent):List D:=[.int .i64 c.kind,.int .i64 c.level,.int .i64 c.value,.sl (c.data.map AB),.sl (c.ports.map Port.ds)]
theorem Agent.ds_eq (c:Agent):c.ds=[.int .i64 c.kind,.int .i64 c.level,.int .i64 c.value,.sl (c.data.map AB),.sl (c.ports.map Port.ds)] :=rfl
@[go_sem] def Agent.avs (c:Agent):List AV:=[.int .i64 c.kind,.int .i64 c.level,.int .i64 c.value,.ro (c.data.map AB),.ro (c.ports.map Port.ds)]
@[go_sem] def Agent.rv (c:Agent):List RV:=[.int .i64 c.kind,.int .i64 c.level,.int .i64 c.value,.ow (some 1) (c.data.map AB),.ow (some 2) (c.ports.map Port.ds)]
@[go_sem] def Agent.rvn (c:Agent):List RV:=[.int .i64 c.kind,.int .i64 c.level,.int .i64 c.value,.ow none (c.data.map AB),.ow none (c.ports.map Port.ds)]
attribute [go_sem] Agent.ds_eq
theorem Agent.ds_len (c:Agent):c.ds.length=5:=by rw [Agent.ds_eq]; rfl
def Agent.dz (c:Agent):List D:=[.int .i64 c.kind,.int .i64 c.level,.int .i64 c.value,.fz (c.data.map AB),.fz (c.ports.map Port.ds)]
@[go_sem] theorem Agent.dz_eq (c:Agent):c.dz=[.int .i64 c.kind,.int .i64 c.level,.int .i64 c.value,.fz (c.data.map AB),.fz (c.ports.map Port.ds)] :=rfl
theorem Agent.dz_fz (c:Agent):fzC c.ds=c.dz:=by rw [Agent.ds_eq]; rfl
theorem Agent.dz_ng (c:Agent):∀d ∈ c.ds,d≠ .gone :=by rw [Agent.ds_eq]; exact Ik rfl
@[go_sem] theorem Agent.dz_er (l:List Agent):erR (l.map Agent.dz)=List.map Agent.ds l:=C1 (fun c=>by rw [Agent.ds_eq]; simp only [Agent.dz,erC,er]) l
structure Net where
 agents:List Agent
def Net.ds (c:Net):List D:=[.sl (c.agents.map Agent.ds)]
theorem Net.ds_eq (c:Net):c.ds=[.sl (c.agents.map Agent.ds)] :=rfl
@[go_sem] def Net.avs (c:Net):List AV:=[.ro (c.agents.map Agent.ds)]
@[go_sem] def Net.rv (c:Net):List RV:=[.ow (some 5) (c.agents.map Agent.ds)]
@[go_sem] def Net.rvn (c:Net):List RV:=[.ow none (c.agents.map Agent.ds)]
attribute [go_sem] Net.ds_eq
theorem Net.ds_len (c:Net):c.ds.length=1:=by rw [Net.ds_eq]; rfl
def Net.dz (c:Net):List D:=[.fz (c.agents.map Agent.ds)]
@[go_sem] theorem Net.dz_eq (c:Net):c.dz=[.fz (c.agents.map Agent.ds)] :=rfl
theorem Net.dz_fz (c:Net):fzC c.ds=c.dz:=by rw [Net.ds_eq]; rfl
theorem Net.dz_ng (c:Net):∀d ∈ c.ds,d≠ .gone :=by rw [Net.ds_eq]; exact Ik rfl
@[go_sem] theorem Net.dz_er (l:List Net):erR (l.map Net.dz)=List.map Net.ds l:=C1 (fun c=>by rw [Net.ds_eq]; simp only [Net.dz,erC,er]) l
@[go_sem] theorem Port.ds_er (l:List Port):erR (l.map Port.ds)=List.map Port.ds l:=C1 (fun c=>by rw [Port.ds_eq]; simp only [erC,er]) l
def Agent.dm (c:Agent):List D:=[.int .i64 c.kind,.int .i64 c.level,.int .i64 c.value,.fz (c.data.map AB),.sl (c.ports.map Port.ds)]
@[go_sem] theorem Agent.dm_eq (c:Agent):c.dm=[.int .i64 c.kind,.int .i64 c.level,.int .i64 c.value,.fz (c.data.map AB),.sl (c.ports.map Port.ds)] :=rfl
@[go_sem] theorem Agent.dm_er (l:List Agent):erR (l.map Agent.dm)=List.map Agent.ds l:=C1 (fun c=>by rw [Agent.ds_eq]; simp only [Agent.dm,erC,er,Port.ds_er]) l
def B3:Nat→(List Port)→Int→Int→Option (Int × (List Port))
 |0,_,_,_=>none
 |n+1,p0_0,p0_1,p0_2=>(if (decide (p0_2<(p0_0.length:Int)))=true then ((at? p0_0 p0_2).bind fun v5003=>((CL p0_0 p0_2 (⟨p0_1,v5003.slot⟩:Port)).bind fun v5005_15=>((at? v5005_15 p0_2).bind fun v7003=>((CL v5005_15 p0_2 (⟨v7003.agent,(IntKind.i64.wrap (p0_1+1))⟩:Port)).bind fun v7005_16=>(B3 n v7005_16 (IntKind.i64.wrap ((IntKind.i64.wrap (p0_1+1))+1)) (IntKind.i64.wrap (p0_2+1))))))) else (some (p0_1,p0_0)))
def FB (a0:List Port) (a1:Int):Option (Int × (List Port)):=
 (B3 fuel a0 a1 0)
def Bg:Nat→(List Agent)→Int→Int→Option (Int × (List Agent))
 |0,_,_,_=>none
 |n+1,p0_0,p0_1,p0_2=>(if (decide (p0_2<(p0_0.length:Int)))=true then ((at? p0_0 p0_2).bind fun v5003=>((CL p0_0 p0_2 (⟨p0_1,v5003.level,v5003.value,v5003.data,v5003.ports⟩:Agent)).bind fun v5005_43=>((at? v5005_43 p0_2).bind fun v7003=>((CL v5005_43 p0_2 (⟨v7003.kind,(IntKind.i64.wrap (p0_1+1)),v7003.value,v7003.data,v7003.ports⟩:Agent)).bind fun v7005_44=>((at? v7005_44 p0_2).bind fun v9003=>((CL v7005_44 p0_2 (⟨v9003.kind,v9003.level,(IntKind.i64.wrap ((IntKind.i64.wrap (p0_1+1))+1)),v9003.data,v9003.ports⟩:Agent)).bind fun v9005_45=>((at? v9005_45 p0_2).bind fun v11002=>((DG v11002.data (IntKind.i64.wrap ((IntKind.i64.wrap ((IntKind.i64.wrap (p0_1+1))+1))+1))).bind fun v11006=>((CL v9005_45 p0_2 (⟨v11002.kind,v11002.level,v11002.value,v11006.2,v11002.ports⟩:Agent)).bind fun v11006_47=>((at? v11006_47 p0_2).bind fun v12002=>((FB v12002.ports v11006.1).bind fun v12006=>((CL v11006_47 p0_2 (⟨v12002.kind,v12002.level,v12002.value,v12002.data,v12006.2⟩:Agent)).bind fun v12006_48=>(Bg n v12006_48 v12006.1 (IntKind.i64.wrap (p0_2+1))))))))))))))) else (some (p0_1,p0_0)))
def Eg (a0:List Agent) (a1:Int):Option (Int × (List Agent)):=
 (Bg fuel a0 a1 0)
def Fi (a0:Net) (a1:Int):Option (Int × (List Agent)):=
 ((Eg a0.agents a1).bind fun v2003=>(some (v2003.1,v2003.2)))
def G8 (a0:List Port) (a1:Int):Option (Int):=
 (if (decide ((IntKind.i64.wrap (a1 - (a0.length:Int)))<0))=true then (some (-1)) else (some (IntKind.i64.wrap (a1 - (a0.length:Int)))))
def Fk (a0:Agent) (a1:Int):Option (Int):=
 ((F5 a0.data a1).bind fun v2003=>(if (decide (v2003<0))=true then (some (-1)) else ((G8 a0.ports v2003).bind fun v5003=>(if (decide (v5003<0))=true then (some (-1)) else (some v5003)))))
def Cu:Nat→(List Agent)→Int→Int→Option (Int)
 |0,_,_,_=>none
 |n+1,a0,p0_0,p0_1=>(if (decide (p0_1<(a0.length:Int)))=true then ((at? a0 p0_1).bind fun v8002=>((Fk v8002 p0_0).bind fun v8005=>(if (decide (v8005<0))=true then (some (-1)) else (Cu n a0 v8005 (IntKind.i64.wrap (p0_1+1)))))) else (some p0_0))
def GD (a0:List Agent) (a1:Int):Option (Int):=
 (if (decide ((IntKind.i64.wrap (a1 - (a0.length:Int)))<0))=true then (some (-1)) else (Cu fuel a0 (IntKind.i64.wrap (a1 - (a0.length:Int))) 0))
def K2 (a0:Net) (a1:Int):Option (Int):=
 ((GD a0.agents a1).bind fun v2003=>(if (decide (v2003<0))=true then (some (-1)) else (some v2003)))
def G9 (a0:Port):Option (Port):=
 (some a0)
def DL:Nat→(List Port)→(List Port)→Int→Option ((List Port))
 |0,_,_,_=>none
 |n+1,a0,p1_0,p1_1=>(if (decide (p1_1<(a0.length:Int)))=true then ((at? a0 p1_1).bind fun v6004=>((G9 v6004).bind fun v6006=>((at? p1_0 p1_1).bind fun v6007=>((CL p1_0 p1_1 v6006).bind fun v6008_12=>(DL n a0 v6008_12 (IntKind.i64.wrap (p1_1+1))))))) else (some p1_0))
def HA (a0:List Port):Option ((List Port)):=
 ((Qb (a0.length:Int) (⟨0,0⟩:Port)).bind fun v2002=>(DL fuel a0 v2002 0))
def Fl (a0:Agent):Option (Agent):=
 ((F6 a0.data).bind fun v6002=>((HA a0.ports).bind fun v7002=>(some (⟨a0.kind,a0.level,a0.value,v6002,v7002⟩:Agent))))
def Cv:Nat→(List Agent)→(List Agent)→Int→Option ((List Agent))
 |0,_,_,_=>none
 |n+1,a0,p1_0,p1_1=>(if (decide (p1_1<(a0.length:Int)))=true then ((at? a0 p1_1).bind fun v6004=>((Fl v6004).bind fun v6006=>((at? p1_0 p1_1).bind fun v6007=>((CL p1_0 p1_1 v6006).bind fun v6008_12=>(Cv n a0 v6008_12 (IntKind.i64.wrap (p1_1+1))))))) else (some p1_0))
def GE (a0:List Agent):Option ((List Agent)):=
 ((Qb (a0.length:Int) (⟨0,0,0,[],[]⟩:Agent)).bind fun v2002=>(Cv fuel a0 v2002 0))
def FZ (a0:Net):Option (Net):=
 ((GE a0.agents).bind fun v3002=>(some (⟨v3002⟩:Net)))
def HC (a0:Port) (a1:Port):Option (Bool):=
 (if (!decide (a0.agent=a1.agent))=true then (some false) else (if (!decide (a0.slot=a1.slot))=true then (some false) else (some true)))
def DM:Nat→(List Port)→(List Port)→Int→Option (Bool)
 |0,_,_,_=>none
 |n+1,a0,a1,p0_0=>(if (decide (p0_0<(a0.length:Int)))=true then ((at? a0 p0_0).bind fun v7002=>((at? a1 p0_0).bind fun v7006=>((HC v7002 v7006).bind fun v7008=>(if (!v7008)=true then (some false) else (DM n a0 a1 (IntKind.i64.wrap (p0_0+1))))))) else (some true))
def HD (a0:List Port) (a1:List Port):Option (Bool):=
 (if (!decide ((a0.length:Int)=(a1.length:Int)))=true then (some false) else (DM fuel a0 a1 0))
def Fm (a0:Agent) (a1:Agent):Option (Bool):=
 (if (!decide (a0.kind=a1.kind))=true then (some false) else (if (!decide (a0.level=a1.level))=true then (some false) else (if (!decide (a0.value=a1.value))=true then (some false) else ((Dm a0.data a1.data).bind fun v8004=>(if (!v8004)=true then (some false) else ((HD a0.ports a1.ports).bind fun v10004=>(if (!v10004)=true then (some false) else (some true))))))))
def Cw:Nat→(List Agent)→(List Agent)→Int→Option (Bool)
 |0,_,_,_=>none
 |n+1,a0,a1,p0_0=>(if (decide (p0_0<(a0.length:Int)))=true then ((at? a0 p0_0).bind fun v7002=>((at? a1 p0_0).bind fun v7006=>((Fm v7002 v7006).bind fun v7008=>(if (!v7008)=true then (some false) else (Cw n a0 a1 (IntKind.i64.wrap (p0_0+1))))))) else (some true))
def GF (a0:List Agent) (a1:List Agent):Option (Bool):=
 (if (!decide ((a0.length:Int)=(a1.length:Int)))=true then (some false) else (Cw fuel a0 a1 0))
def JC (a0:Net) (a1:Net):Option (Bool):=
 ((GF a0.agents a1.agents).bind fun v2004=>(if (!v2004)=true then (some false) else (some true)))
def GG (a0:Int):Option (Bool):=
 (if (decide (1≤a0))=true then (some (decide (a0≤12))) else (some false))
def DN (a0:Int) (p1_0:Bool):Option (Int):=
 (if p1_0=true then (some 0) else ((atI [0,1,3,3,3,1,1,3,2,0,2,2,1] a0).bind fun v6002=>(some v6002)))
def DO (a0:Int) (a1:Int) (p0_0:Bool):Option (Int):=
 (if p0_0=true then (some (IntKind.i64.wrap (a1+1))) else ((GG a0).bind fun v4001=>(if (!v4001)=true then (DN a0 true) else (if (decide (a0=9))=true then (DN a0 true) else (DN a0 (!decide (a1=0)))))))
def Fo (a0:Int) (a1:Int):Option (Int):=
 (if (decide (a0=9))=true then (if (decide (0≤a1))=true then (DO a0 a1 (decide (a1≤3))) else (DO a0 a1 false)) else (DO a0 a1 false))
def GH (a0:Int) (a1:Int):Option (Int):=
 (if (decide (a0=9))=true then (some (IntKind.i64.wrap (a1 - 1))) else (some 0))
def Hh (a0:Int):Option (Bool):=
 ((GG a0).bind fun v2001=>(if v2001=true then (if (!decide (a0=1))=true then (if (!decide (a0=5))=true then (some (!decide (a0=6))) else (some false)) else (some false)) else (some false)))
def JD (a0:Int):Option (Bool):=
 (if (decide (0≤a0))=true then (some (decide (a0≤8))) else (some false))
def EP (a0:Int) (a1:Int):Option (Bool):=
 ((GG a0).bind fun v2001=>(if v2001=true then (if (decide (a1=0))=true then (some true) else ((Hh a0).bind fun v2007=>(if v2007=true then ((JD a1).bind fun v2010=>(some v2010)) else (some false)))) else (some false)))
def A6:Nat→(List Int)→Int→(Int→Option Bool)→Option (Int)
 |0,_,_,_=>none
 |n+1,a0,p0_0,f1=>(if (decide (p0_0<(a0.length:Int)))=true then ((at? a0 p0_0).bind fun v5003=>((f1 v5003).bind fun v5005=>(if v5005=true then (some p0_0) else (A6 n a0 (IntKind.i64.wrap (p0_0+1)) f1)))) else (some (-1)))
def DP (a0:List Int) (f1:(Int→Option Bool)):Option (Int):=
 (A6 fuel a0 0 f1)
def BL (a0:List Int) (f1:(Int→Option Bool)):Option (Bool):=
 ((DP a0 f1).bind fun v2002=>(some (decide (0≤v2002))))
def Dw (a0:Int):Option (Bool):=
 (if (decide (0≤a0))=true then (some (decide (a0<24))) else (some false))
def Dp (a0:Int):Option (Bool):=
 ((Dw a0).bind fun v2001=>(some (!v2001)))
def JE (a0:Int):Option (Bool):=
 (if (decide ((-2147483648)≤a0))=true then (some (decide (a0≤2147483647))) else (some false))
def Dx (a0:Int):Option (Bool):=
 (if (decide (1≤a0))=true then (some (decide (a0≤6))) else (some false))
def Ac (p1_0:Bool) (p1_1:Bool):Option (Bool):=
 (if p1_0=true then (some p1_1) else (some false))
def Bh (a0:Agent) (p0_0:Bool):Option (Bool):=
 (if p0_0=true then (some false) else ((BL a0.data (fun y0=>Dp y0)).bind fun v5002=>(if (decide (a0.kind=6))=true then ((JE a0.value).bind fun v8002=>(Ac v8002 (decide ((a0.data.length:Int)=0)))) else (if (decide (a0.kind=7))=true then ((Dx a0.value).bind fun v10002=>(Ac v10002 (decide ((a0.data.length:Int)=0)))) else (if (decide (a0.kind=8))=true then ((Dx a0.value).bind fun v12002=>(if v12002=true then (if (decide ((a0.data.length:Int)=1))=true then ((at? a0.data 0).bind fun v12012=>((JE v12012).bind fun v12014=>(some v12014))) else (some false)) else (some false))) else (if (decide (a0.kind=9))=true then (if (decide (0≤a0.value))=true then (Ac (decide (a0.value<4)) (decide ((a0.data.length:Int)=0))) else (Ac false (decide ((a0.data.length:Int)=0)))) else (if (decide (a0.kind=10))=true then (if (decide (1≤(a0.data.length:Int)))=true then (if (decide ((a0.data.length:Int)≤4))=true then (Ac (decide (a0.value=0)) (!v5002)) else (Ac (decide (a0.value=0)) false)) else (Ac (decide (a0.value=0)) false)) else (if (decide (a0.kind=11))=true then (if (decide ((a0.data.length:Int)=2))=true then (Ac (decide (a0.value=0)) (!v5002)) else (Ac (decide (a0.value=0)) false)) else (if (decide (a0.kind=12))=true then ((Dw a0.value).bind fun v20002=>(Ac v20002 (decide ((a0.data.length:Int)=0)))) else (Ac (decide (a0.value=0)) (decide ((a0.data.length:Int)=0))))))))))))
def Eh (a0:Agent):Option (Bool):=
 (if (decide ((a0.ports.length:Int)=0))=true then (Bh a0 true) else ((GH a0.kind (a0.ports.length:Int)).bind fun v2012=>((Fo a0.kind v2012).bind fun v2013=>(if (!decide (v2013=(a0.ports.length:Int)))=true then (Bh a0 true) else ((EP a0.kind a0.level).bind fun v2024=>(Bh a0 (!v2024)))))))
mutual
def Bb:Nat→(List Agent)→Int→Option (Bool)
 |0,_,_=>none
 |n+1,a0,p1_0=>(if (decide (p1_0<(a0.length:Int)))=true then ((at? a0 p1_0).bind fun v6001=>((Eh v6001).bind fun v7001=>(if (!v7001)=true then (Cc n a0 p1_0 true) else (Cc n a0 p1_0 (!((decide (v6001.kind=1)) == (decide (p1_0=0)))))))) else (some true))
def Cc:Nat→(List Agent)→Int→Bool→Option (Bool)
 |0,_,_,_=>none
 |n+1,a0,p1_0,p2_0=>(if p2_0=true then (some false) else (Bb n a0 (IntKind.i64.wrap (p1_0+1))))
end
def Dq (a0:List Agent) (p0_0:Bool):Option (Bool):=
 (if p0_0=true then (some false) else (Bb fuel a0 0))
def FC (a0:List Agent):Option (Bool):=
 (if (decide ((a0.length:Int)<1))=true then (Dq a0 true) else (Dq a0 (decide (600<(a0.length:Int)))))
def Ak:Nat→(List Port)→Int→(Port→Option Bool)→Option (Int)
 |0,_,_,_=>none
 |n+1,a0,p0_0,f1=>(if (decide (p0_0<(a0.length:Int)))=true then ((at? a0 p0_0).bind fun v5003=>((f1 v5003).bind fun v5005=>(if v5005=true then (some p0_0) else (Ak n a0 (IntKind.i64.wrap (p0_0+1)) f1)))) else (some (-1)))
def CI (a0:List Port) (f1:(Port→Option Bool)):Option (Int):=
 (Ak fuel a0 0 f1)
def BH (a0:List Port) (f1:(Port→Option Bool)):Option (Bool):=
 ((CI a0 f1).bind fun v2002=>(some (decide (0≤v2002))))
mutual
def BO:Nat→Net→(List Port)→Int→Option ((List Port))
 |0,_,_,_=>none
 |n+1,a0,p0_0,p0_1=>(if (decide (p0_1<(a0.agents.length:Int)))=true then ((at? a0.agents p0_1).bind fun v5001=>(B4 n a0 p0_1 v5001 p0_0 0)) else (some p0_0))
def B4:Nat→Net→Int→Agent→(List Port)→Int→Option ((List Port))
 |0,_,_,_,_,_=>none
 |n+1,a0,p0_1,v5001,p4_0,p4_1=>(if (decide (p4_1<(v5001.ports.length:Int)))=true then ((app? p4_0 [(⟨p0_1,p4_1⟩:Port)]).bind fun v9005=>(B4 n a0 p0_1 v5001 v9005 (IntKind.i64.wrap (p4_1+1)))) else (BO n a0 p4_0 (IntKind.i64.wrap (p0_1+1))))
end
def FD (a0:Net):Option ((List Port)):=
 (BO fuel a0 [] 0)
def CB (a0:Net) (a1:Port):Option (Port):=
 ((at? a0.agents a1.agent).bind fun v2006=>((at? v2006.ports a1.slot).bind fun v2011=>(some v2011)))
def HE (a0:List Agent) (a1:Port):Option (Bool):=
 (if (decide (0≤a1.agent))=true then (if (decide (a1.agent<(a0.length:Int)))=true then (if (decide (0≤a1.slot))=true then ((at? a0 a1.agent).bind fun v2021=>(some (decide (a1.slot<(v2021.ports.length:Int))))) else (some false)) else (some false)) else (some false))
def Ei (a0:Port) (a1:Net):Option (Bool):=
 ((CB a1 a0).bind fun v2001=>(if (decide (v2001.agent=a0.agent)&&decide (v2001.slot=a0.slot))=true then (some true) else ((HE a1.agents v2001).bind fun v3007=>(if (!v3007)=true then (some true) else ((CB a1 v2001).bind fun v3012=>(some (!(decide (v3012.agent=a0.agent)&&decide (v3012.slot=a0.slot)))))))))
def DI (a0:Net):Option (Bool):=
 ((FC a0.agents).bind fun v2002=>(if (!v2002)=true then (some false) else ((FD a0).bind fun v4000=>((BH v4000 (fun y0=>Ei y0 a0)).bind fun v4002=>(some (!v4002))))))
def Cf (a0:Int) (a1:Int) (a2:Int):Option (Bool):=
 (if (decide (a1≤a0))=true then (some (decide (a0≤a2))) else (some false))
def DQ (p2_0:Bool):Option (Int):=
 (if p2_0=true then (some 3) else (some 0))
def Dy (a0:Int) (p1_0:Bool):Option (Int):=
 (if p1_0=true then (some 2) else (if (decide (a0=2))=true then (DQ (decide (a0=2))) else (if (decide (a0=3))=true then (DQ (decide (a0=3))) else (if (decide (a0=4))=true then (DQ (decide (a0=4))) else (DQ (decide (a0=7)))))))
def DR (a0:Int) (p0_0:Bool):Option (Int):=
 (if p0_0=true then (some 1) else (if (decide (a0=8))=true then (Dy a0 (decide (a0=8))) else (if (decide (a0=10))=true then (Dy a0 (decide (a0=10))) else (Dy a0 (decide (a0=11))))))
def Fp (a0:Int) (a1:Int):Option (Int):=
 (if (decide (a0=9))=true then ((Cf a1 0 3).bind fun v3001=>(if v3001=true then (some (IntKind.i64.wrap (1+a1))) else (some 0))) else (if (!decide (a1=0))=true then (some 0) else (if (decide (a0=1))=true then (DR a0 (decide (a0=1))) else (if (decide (a0=5))=true then (DR a0 (decide (a0=5))) else (if (decide (a0=6))=true then (DR a0 (decide (a0=6))) else (DR a0 (decide (a0=12))))))))
def FE (a0:Agent):Option (Int):=
 (if (decide (a0.kind=9))=true then (some (IntKind.i64.wrap ((a0.ports.length:Int) - 1))) else (some 0))
def A2 (p0_0:Bool):Option (Bool):=
 (if p0_0=true then (some true) else (some false))
def GI (a0:Int):Option (Bool):=
 (if (decide (a0=2))=true then (A2 (decide (a0=2))) else (if (decide (a0=3))=true then (A2 (decide (a0=3))) else (if (decide (a0=4))=true then (A2 (decide (a0=4))) else (if (decide (a0=7))=true then (A2 (decide (a0=7))) else (if (decide (a0=8))=true then (A2 (decide (a0=8))) else (if (decide (a0=9))=true then (A2 (decide (a0=9))) else (if (decide (a0=10))=true then (A2 (decide (a0=10))) else (if (decide (a0=11))=true then (A2 (decide (a0=11))) else (A2 (decide (a0=12)))))))))))
def HF (a0:Int):Option (Bool):=
 ((Cf a0 1 12).bind fun v2001=>(some v2001))
def E0 (a0:Int) (a1:Int):Option (Bool):=
 ((GI a0).bind fun v2001=>(if v2001=true then ((Cf a1 0 8).bind fun v3001=>(some v3001)) else ((HF a0).bind fun v4001=>(if v4001=true then (some (decide (a1=0))) else (some false)))))
def GJ (a0:Int):Option (Bool):=
 ((Cf a0 0 23).bind fun v2001=>(some v2001))
def Bi:Nat→Agent→Int→Option (Bool)
 |0,_,_=>none
 |n+1,a0,p2_0=>(if (decide (p2_0<(a0.data.length:Int)))=true then ((at? a0.data p2_0).bind fun v20005=>((GJ v20005).bind fun v20007=>(if (!v20007)=true then (some false) else (Bi n a0 (IntKind.i64.wrap (p2_0+1)))))) else (some true))
def BP (a0:Agent) (p1_0:Bool):Option (Bool):=
 (if p1_0=true then (some false) else (Bi fuel a0 0))
def DY (a0:Agent) (p0_0:Bool):Option (Bool):=
 (if p0_0=true then (if (!decide (a0.value=0))=true then (BP a0 true) else (if (decide (a0.kind=11))=true then (if (!decide ((a0.data.length:Int)=2))=true then (BP a0 true) else (if (decide (a0.kind=10))=true then ((Cf (a0.data.length:Int) 1 4).bind fun v15032=>(BP a0 (!v15032))) else (BP a0 false))) else (if (decide (a0.kind=10))=true then ((Cf (a0.data.length:Int) 1 4).bind fun v15032=>(BP a0 (!v15032))) else (BP a0 false)))) else (if (decide (a0.value=0))=true then (some (decide ((a0.data.length:Int)=0))) else (some false)))
def Ej (a0:Agent):Option (Bool):=
 (if (decide (a0.kind=6))=true then (if (decide ((a0.data.length:Int)=0))=true then ((Cf a0.value (-2147483648) 2147483647).bind fun v4011=>(some v4011)) else (some false)) else (if (decide (a0.kind=7))=true then (if (decide ((a0.data.length:Int)=0))=true then ((Cf a0.value 1 6).bind fun v6011=>(some v6011)) else (some false)) else (if (decide (a0.kind=8))=true then (if (decide ((a0.data.length:Int)=1))=true then ((Cf a0.value 1 6).bind fun v8011=>(if v8011=true then ((at? a0.data 0).bind fun v8018=>((Cf v8018 (-2147483648) 2147483647).bind fun v8020=>(some v8020))) else (some false))) else (some false)) else (if (decide (a0.kind=9))=true then (if (decide ((a0.data.length:Int)=0))=true then ((Cf a0.value 0 3).bind fun v10011=>(some v10011)) else (some false)) else (if (decide (a0.kind=12))=true then (if (decide ((a0.data.length:Int)=0))=true then ((GJ a0.value).bind fun v12011=>(some v12011)) else (some false)) else (if (decide (a0.kind=10))=true then (DY a0 (decide (a0.kind=10))) else (DY a0 (decide (a0.kind=11)))))))))
def GK (a0:Agent):Option (Bool):=
 ((FE a0).bind fun v2005=>((Fp a0.kind v2005).bind fun v2006=>(if (decide (0<v2006))=true then (if (decide ((a0.ports.length:Int)=v2006))=true then ((E0 a0.kind a0.level).bind fun v3020=>(if v3020=true then ((Ej a0).bind fun v3024=>(some v3024)) else (some false))) else (some false)) else (some false))))
mutual
def Bc:Nat→(List Agent)→Int→Option (Bool)
 |0,_,_=>none
 |n+1,a0,p0_0=>(if (decide (p0_0<(a0.length:Int)))=true then ((at? a0 p0_0).bind fun v7002=>((GK v7002).bind fun v7003=>(if (!v7003)=true then (Cd n a0 p0_0 true) else ((at? a0 p0_0).bind fun v7008=>(Cd n a0 p0_0 (!((decide (v7008.kind=1)) == (decide (p0_0=0))))))))) else (some true))
def Cd:Nat→(List Agent)→Int→Bool→Option (Bool)
 |0,_,_,_=>none
 |n+1,a0,p0_0,p1_0=>(if p1_0=true then (some false) else (Bc n a0 (IntKind.i64.wrap (p0_0+1))))
end
def FF (a0:List Agent):Option (Bool):=
 ((Cf (a0.length:Int) 1 600).bind fun v2002=>(if (!v2002)=true then (some false) else (Bc fuel a0 0)))
def HG (a0:List Agent) (a1:Port):Option (Bool):=
 ((Cf a1.agent 0 (IntKind.i64.wrap ((a0.length:Int) - 1))).bind fun v2005=>(if v2005=true then ((at? a0 a1.agent).bind fun v2012=>((Cf a1.slot 0 (IntKind.i64.wrap ((v2012.ports.length:Int) - 1))).bind fun v2017=>(some v2017))) else (some false)))
mutual
def Cy:Nat→Net→Int→Option (Bool)
 |0,_,_=>none
 |n+1,a0,p0_0=>(if (decide (p0_0<(a0.agents.length:Int)))=true then ((at? a0.agents p0_0).bind fun v7005=>(DD n a0 p0_0 v7005 0)) else (some true))
def DD:Nat→Net→Int→Agent→Int→Option (Bool)
 |0,_,_,_,_=>none
 |n+1,a0,p0_0,v7005,p1_0=>(if (decide (p1_0<(v7005.ports.length:Int)))=true then ((at? v7005.ports p1_0).bind fun v12005=>(if (decide (v12005.agent=p0_0)&&decide (v12005.slot=p1_0))=true then (DE n a0 p0_0 p1_0 v7005 true) else ((HG a0.agents v12005).bind fun v13009=>(if (!v13009)=true then (DE n a0 p0_0 p1_0 v7005 true) else ((at? a0.agents v12005.agent).bind fun v13019=>((at? v13019.ports v12005.slot).bind fun v13024=>(DE n a0 p0_0 p1_0 v7005 (!(decide (v13024.agent=p0_0)&&decide (v13024.slot=p1_0)))))))))) else (Cy n a0 (IntKind.i64.wrap (p0_0+1))))
def DE:Nat→Net→Int→Int→Agent→Bool→Option (Bool)
 |0,_,_,_,_,_=>none
 |n+1,a0,p0_0,p1_0,v7005,p2_0=>(if p2_0=true then (some false) else (DD n a0 p0_0 v7005 (IntKind.i64.wrap (p1_0+1))))
end
def K0 (a0:Net):Option (Bool):=
 ((FF a0.agents).bind fun v2004=>(if (!v2004)=true then (some false) else (Cy fuel a0 0)))
end Go.Proofs.YtoncbhomocgmcaaGreatDoor.Ab
