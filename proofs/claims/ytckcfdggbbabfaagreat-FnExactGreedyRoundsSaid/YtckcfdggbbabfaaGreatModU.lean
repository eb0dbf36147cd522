/-
  Data of the program as Lean types; how they lie in memory. Printed by wip/ab/gen.py.
-/
import Derived.Test.YtckcfdggbbabfaaGreatAbY
import Derived.Test.YtckcfdggbbabfaaGreatMod
namespace Go.Proofs.YtckcfdggbbabfaaGreat.Ab
set_option linter.unusedVariables false
set_option linter.unusedSimpArgs false
set_option maxRecDepth 20000
set_option maxHeartbeats 4000000
open Go.RowKit
structure Port where
 agent:Int
 slot:Int
def Port.ds (c:Port):List D:=[.int .i64 c.agent,.int .i64 c.slot]
theorem Port.ds_eq (c:Port):c.ds=[.int .i64 c.agent,.int .i64 c.slot] :=rfl
@[go_sem] def Port.avs (c:Port):List AV:=[.int .i64 c.agent,.int .i64 c.slot]
@[go_sem] def Port.rv (c:Port):List RV:=[.int .i64 c.agent,.int .i64 c.slot]
@[go_sem] def Port.rvn (c:Port):List RV:=[.int .i64 c.agent,.int .i64 c.slot]
attribute [go_sem] Port.ds_eq
theorem Port.ds_len (c:Port):c.ds.length=2:=by rw [Port.ds_eq]; rfl
structure Agent where
 kind:Int
 level:Int
 value:Int
 data:List Int
 ports:List Port
def Agent.ds (c:Agent):List D:=[.int .i64 c.kind,.int .i64 c.level,.int .i64 c.value,.sl (List.map AY c.data),.sl (List.map Port.ds c.ports)]
theorem Agent.ds_eq (c:Agent):c.ds=[.int .i64 c.kind,.int .i64 c.level,.int .i64 c.value,.sl (List.map AY c.data),.sl (List.map Port.ds c.ports)] :=rfl
@[go_sem] def Agent.avs (c:Agent):List AV:=[.int .i64 c.kind,.int .i64 c.level,.int .i64 c.value,.ro (List.map AY c.data),.ro (List.map Port.ds c.ports)]
@[go_sem] def Agent.rv (c:Agent):List RV:=[.int .i64 c.kind,.int .i64 c.level,.int .i64 c.value,.ow (some 1) (List.map AY c.data),.ow (some 2) (List.map Port.ds c.ports)]
@[go_sem] def Agent.rvn (c:Agent):List RV:=[.int .i64 c.kind,.int .i64 c.level,.int .i64 c.value,.ow none (List.map AY c.data),.ow none (List.map Port.ds c.ports)]
attribute [go_sem] Agent.ds_eq
theorem Agent.ds_len (c:Agent):c.ds.length=5:=by rw [Agent.ds_eq]; rfl
def Agent.dz (c:Agent):List D:=[.int .i64 c.kind,.int .i64 c.level,.int .i64 c.value,.fz (List.map AY c.data),.fz (List.map Port.ds c.ports)]
@[go_sem] theorem Agent.dz_eq (c:Agent):c.dz=[.int .i64 c.kind,.int .i64 c.level,.int .i64 c.value,.fz (List.map AY c.data),.fz (List.map Port.ds c.ports)] :=rfl
@[go_sem] theorem Agent.dz_er (l:List Agent):erR (List.map Agent.dz l)=List.map Agent.ds l:=LV (fun c=>by rw [Agent.ds_eq]; simp only [Agent.dz,erC,er]) l
structure Net where
 agents:List Agent
def Net.ds (c:Net):List D:=[.sl (List.map Agent.ds c.agents)]
theorem Net.ds_eq (c:Net):c.ds=[.sl (List.map Agent.ds c.agents)] :=rfl
@[go_sem] def Net.avs (c:Net):List AV:=[.ro (List.map Agent.ds c.agents)]
@[go_sem] def Net.rv (c:Net):List RV:=[.ow (some 5) (List.map Agent.ds c.agents)]
@[go_sem] def Net.rvn (c:Net):List RV:=[.ow none (List.map Agent.ds c.agents)]
attribute [go_sem] Net.ds_eq
theorem Net.ds_len (c:Net):c.ds.length=1:=by rw [Net.ds_eq]; rfl
def Net.dz (c:Net):List D:=[.fz (List.map Agent.ds c.agents)]
@[go_sem] theorem Net.dz_eq (c:Net):c.dz=[.fz (List.map Agent.ds c.agents)] :=rfl
@[go_sem] theorem Net.dz_er (l:List Net):erR (List.map Net.dz l)=List.map Net.ds l:=LV (fun c=>by rw [Net.ds_eq]; simp only [Net.dz,erC,er]) l
@[go_sem] theorem Port.ds_er (l:List Port):erR (List.map Port.ds l)=List.map Port.ds l:=LV (fun c=>by rw [Port.ds_eq]; simp only [erC,er]) l
def Agent.dm (c:Agent):List D:=[.int .i64 c.kind,.int .i64 c.level,.int .i64 c.value,.fz (List.map AY c.data),.sl (List.map Port.ds c.ports)]
@[go_sem] theorem Agent.dm_eq (c:Agent):c.dm=[.int .i64 c.kind,.int .i64 c.level,.int .i64 c.value,.fz (List.map AY c.data),.sl (List.map Port.ds c.ports)] :=rfl
theorem Agent.dm_len (c:Agent):c.dm.length=5:=rfl
@[go_sem] theorem Agent.dm_er (l:List Agent):erR (List.map Agent.dm l)=List.map Agent.ds l:=LV (fun c=>by rw [Agent.ds_eq]; simp only [Agent.dm,erC,er,Port.ds_er]) l
end Go.Proofs.YtckcfdggbbabfaaGreat.Ab
namespace Go.Proofs.YtckcfdggbbabfaaGreat.Ab
set_option linter.unusedVariables false
set_option linter.unusedSimpArgs false
set_option maxRecDepth 20000
set_option maxHeartbeats 4000000
open Go.RowKit
def I6 (a0:List Port) (a1:Int):Option (Int):=
 (if (decide ((IntKind.i64.wrap (a1 - ((List.length a0:Nat):Int)))<0))=true then (some (-1)) else (some (IntKind.i64.wrap (a1 - ((List.length a0:Nat):Int)))))
def Hf (a0:Agent) (a1:Int):Option (Int):=
 (Option.bind (Hy a0.data a1) fun v2003=>(if (decide (v2003<0))=true then (some (-1)) else (Option.bind (I6 a0.ports v2003) fun v5003=>(if (decide (v5003<0))=true then (some (-1)) else (some v5003)))))
def Dm:Nat→(List Agent)→Int→Int→Option (Int)
 |0,_,_,_=>none
 |n+1,a0,p0_0,p0_1=>(if (decide (p0_1<((List.length a0:Nat):Int)))=true then (Option.bind (at? a0 p0_1) fun v8002=>(Option.bind (Hf v8002 p0_0) fun v8005=>(if (decide (v8005<0))=true then (some (-1)) else (Dm n a0 v8005 (IntKind.i64.wrap (p0_1+1)))))) else (some p0_0))
def H1 (a0:List Agent) (a1:Int):Option (Int):=
 (if (decide ((IntKind.i64.wrap (a1 - ((List.length a0:Nat):Int)))<0))=true then (some (-1)) else (Dm fuel a0 (IntKind.i64.wrap (a1 - ((List.length a0:Nat):Int))) 0))
def Jk (a0:Net) (a1:Int):Option (Int):=
 (Option.bind (H1 a0.agents a1) fun v2003=>(if (decide (v2003<0))=true then (some (-1)) else (some v2003)))
def Er:Nat→(List Net)→Int→Int→Option (Int)
 |0,_,_,_=>none
 |n+1,a0,p0_0,p0_1=>(if (decide (p0_1<((List.length a0:Nat):Int)))=true then (Option.bind (at? a0 p0_1) fun v8002=>(Option.bind (Jk v8002 p0_0) fun v8005=>(if (decide (v8005<0))=true then (some (-1)) else (Er n a0 v8005 (IntKind.i64.wrap (p0_1+1)))))) else (some p0_0))
def Kp (a0:List Net) (a1:Int):Option (Int):=
 (if (decide ((IntKind.i64.wrap (a1 - ((List.length a0:Nat):Int)))<0))=true then (some (-1)) else (Er fuel a0 (IntKind.i64.wrap (a1 - ((List.length a0:Nat):Int))) 0))
def I7 (a0:Port):Option (Port):=
 (some a0)
def EB:Nat→(List Port)→(List Port)→Int→Option ((List Port))
 |0,_,_,_=>none
 |n+1,a0,p1_0,p1_1=>(if (decide (p1_1<((List.length a0:Nat):Int)))=true then (Option.bind (at? a0 p1_1) fun v6004=>(Option.bind (I7 v6004) fun v6006=>(Option.bind (at? p1_0 p1_1) fun v6007=>(Option.bind (D2 p1_0 p1_1 v6006) fun v6008_12=>(EB n a0 v6008_12 (IntKind.i64.wrap (p1_1+1))))))) else (some p1_0))
def I8 (a0:List Port):Option ((List Port)):=
 (Option.bind (Nk ((List.length a0:Nat):Int) (⟨0,0⟩:Port)) fun v2002=>(EB fuel a0 v2002 0))
def Hg (a0:Agent):Option (Agent):=
 (Option.bind (Hz a0.data) fun v6002=>(Option.bind (I8 a0.ports) fun v7002=>(some (⟨a0.kind,a0.level,a0.value,v6002,v7002⟩:Agent))))
def Dn:Nat→(List Agent)→(List Agent)→Int→Option ((List Agent))
 |0,_,_,_=>none
 |n+1,a0,p1_0,p1_1=>(if (decide (p1_1<((List.length a0:Nat):Int)))=true then (Option.bind (at? a0 p1_1) fun v6004=>(Option.bind (Hg v6004) fun v6006=>(Option.bind (at? p1_0 p1_1) fun v6007=>(Option.bind (D2 p1_0 p1_1 v6006) fun v6008_12=>(Dn n a0 v6008_12 (IntKind.i64.wrap (p1_1+1))))))) else (some p1_0))
def H2 (a0:List Agent):Option ((List Agent)):=
 (Option.bind (Nk ((List.length a0:Nat):Int) (⟨0,0,0,[],[]⟩:Agent)) fun v2002=>(Dn fuel a0 v2002 0))
def Gg (a0:Net):Option (Net):=
 (Option.bind (H2 a0.agents) fun v3002=>(some (⟨v3002⟩:Net)))
def Es:Nat→(List Net)→(List Net)→Int→Option ((List Net))
 |0,_,_,_=>none
 |n+1,a0,p1_0,p1_1=>(if (decide (p1_1<((List.length a0:Nat):Int)))=true then (Option.bind (at? a0 p1_1) fun v6004=>(Option.bind (Gg v6004) fun v6006=>(Option.bind (at? p1_0 p1_1) fun v6007=>(Option.bind (D2 p1_0 p1_1 v6006) fun v6008_12=>(Es n a0 v6008_12 (IntKind.i64.wrap (p1_1+1))))))) else (some p1_0))
def G2 (a0:List Net):Option ((List Net)):=
 (Option.bind (Nk ((List.length a0:Nat):Int) (⟨[]⟩:Net)) fun v2002=>(Es fuel a0 v2002 0))
def I9 (a0:Port) (a1:Port):Option (Bool):=
 (if (!decide (a0.agent=a1.agent))=true then (some false) else (if (!decide (a0.slot=a1.slot))=true then (some false) else (some true)))
def EC:Nat→(List Port)→(List Port)→Int→Option (Bool)
 |0,_,_,_=>none
 |n+1,a0,a1,p0_0=>(if (decide (p0_0<((List.length a0:Nat):Int)))=true then (Option.bind (at? a0 p0_0) fun v7002=>(Option.bind (at? a1 p0_0) fun v7006=>(Option.bind (I9 v7002 v7006) fun v7008=>(if (!v7008)=true then (some false) else (EC n a0 a1 (IntKind.i64.wrap (p0_0+1))))))) else (some true))
def JA (a0:List Port) (a1:List Port):Option (Bool):=
 (if (!decide (((List.length a0:Nat):Int)=((List.length a1:Nat):Int)))=true then (some false) else (EC fuel a0 a1 0))
def Hh (a0:Agent) (a1:Agent):Option (Bool):=
 (if (!decide (a0.kind=a1.kind))=true then (some false) else (if (!decide (a0.level=a1.level))=true then (some false) else (if (!decide (a0.value=a1.value))=true then (some false) else (Option.bind (H0 a0.data a1.data) fun v8004=>(if (!v8004)=true then (some false) else (Option.bind (JA a0.ports a1.ports) fun v10004=>(if (!v10004)=true then (some false) else (some true))))))))
def Do:Nat→(List Agent)→(List Agent)→Int→Option (Bool)
 |0,_,_,_=>none
 |n+1,a0,a1,p0_0=>(if (decide (p0_0<((List.length a0:Nat):Int)))=true then (Option.bind (at? a0 p0_0) fun v7002=>(Option.bind (at? a1 p0_0) fun v7006=>(Option.bind (Hh v7002 v7006) fun v7008=>(if (!v7008)=true then (some false) else (Do n a0 a1 (IntKind.i64.wrap (p0_0+1))))))) else (some true))
def H3 (a0:List Agent) (a1:List Agent):Option (Bool):=
 (if (!decide (((List.length a0:Nat):Int)=((List.length a1:Nat):Int)))=true then (some false) else (Do fuel a0 a1 0))
def IY (a0:Net) (a1:Net):Option (Bool):=
 (Option.bind (H3 a0.agents a1.agents) fun v2004=>(if (!v2004)=true then (some false) else (some true)))
def Et:Nat→(List Net)→(List Net)→Int→Option (Bool)
 |0,_,_,_=>none
 |n+1,a0,a1,p0_0=>(if (decide (p0_0<((List.length a0:Nat):Int)))=true then (Option.bind (at? a0 p0_0) fun v7002=>(Option.bind (at? a1 p0_0) fun v7006=>(Option.bind (IY v7002 v7006) fun v7008=>(if (!v7008)=true then (some false) else (Et n a0 a1 (IntKind.i64.wrap (p0_0+1))))))) else (some true))
def JB (a0:List Net) (a1:List Net):Option (Bool):=
 (if (!decide (((List.length a0:Nat):Int)=((List.length a1:Nat):Int)))=true then (some false) else (Et fuel a0 a1 0))
def Gz (a0:List Int):Option ((List Int)):=
 (Option.bind (app? [] a0) fun v2002=>(some v2002))
def s_l11OwnAgent (a0:Agent):Option (Agent):=
 (Option.bind (Gz a0.data) fun v2016=>(Option.bind (app? [] a0.ports) fun v2022=>(some (⟨a0.kind,a0.level,a0.value,v2016,v2022⟩:Agent))))
def BV:Nat→(List Int)→Int→(Int→Option Bool)→Option (Int)
 |0,_,_,_=>none
 |n+1,a0,p0_0,f1=>(if (decide (p0_0<((List.length a0:Nat):Int)))=true then (Option.bind (at? a0 p0_0) fun v5003=>(Option.bind (f1 v5003) fun v5005=>(if v5005=true then (some p0_0) else (BV n a0 (IntKind.i64.wrap (p0_0+1)) f1)))) else (some (-1)))
def ED (a0:List Int) (f1:(Int→Option Bool)):Option (Int):=
 (BV fuel a0 0 f1)
def BU (a0:List Int) (f1:(Int→Option Bool)):Option (Bool):=
 (Option.bind (ED a0 f1) fun v2002=>(some (decide (0≤v2002))))
def H4 (a0:Int):Option (Bool):=
 (if (decide (1≤a0))=true then (some (decide (a0≤12))) else (some false))
def DZ (a0:Int) (p1_0:Bool):Option (Int):=
 (if p1_0=true then (some 0) else (Option.bind (atI [0,1,3,3,3,1,1,3,2,0,2,2,1] a0) fun v6002=>(some v6002)))
def Ct (a0:Int) (a1:Int) (p0_0:Bool):Option (Int):=
 (if p0_0=true then (some (IntKind.i64.wrap (a1+1))) else (Option.bind (H4 a0) fun v4001=>(if (!v4001)=true then (DZ a0 true) else (if (decide (a0=9))=true then (DZ a0 true) else (DZ a0 (!decide (a1=0)))))))
def Fk (a0:Int) (a1:Int):Option (Int):=
 (if (decide (a0=9))=true then (if (decide (0≤a1))=true then (Ct a0 a1 (decide (a1≤3))) else (Ct a0 a1 false)) else (Ct a0 a1 false))
def H5 (a0:Int) (a1:Int):Option (Int):=
 (if (decide (a0=9))=true then (some (IntKind.i64.wrap (a1 - 1))) else (some 0))
def Dg (a0:Int):Option (Bool):=
 (Option.bind (H4 a0) fun v2001=>(if v2001=true then (if (!decide (a0=1))=true then (if (!decide (a0=5))=true then (some (!decide (a0=6))) else (some false)) else (some false)) else (some false)))
def Fg (a0:Int):Option (Bool):=
 (if (decide (0≤a0))=true then (some (decide (a0≤8))) else (some false))
def Cz (a0:Int) (a1:Int):Option (Bool):=
 (Option.bind (H4 a0) fun v2001=>(if v2001=true then (if (decide (a1=0))=true then (some true) else (Option.bind (Dg a0) fun v2007=>(if v2007=true then (Option.bind (Fg a1) fun v2010=>(some v2010)) else (some false)))) else (some false)))
def E4 (a0:Int):Option (Bool):=
 (if (decide (0≤a0))=true then (some (decide (a0<24))) else (some false))
def Eu (a0:Int):Option (Bool):=
 (Option.bind (E4 a0) fun v2001=>(some (!v2001)))
def LW (a0:Int):Option (Bool):=
 (if (decide ((-2147483648)≤a0))=true then (some (decide (a0≤2147483647))) else (some false))
def E5 (a0:Int):Option (Bool):=
 (if (decide (1≤a0))=true then (some (decide (a0≤6))) else (some false))
def Ao (p1_0:Bool) (p1_1:Bool):Option (Bool):=
 (if p1_0=true then (some p1_1) else (some false))
def Bz (a0:Agent) (p0_0:Bool):Option (Bool):=
 (if p0_0=true then (some false) else (Option.bind (BU a0.data (fun y0=>Eu y0)) fun v5002=>(if (decide (a0.kind=6))=true then (Option.bind (LW a0.value) fun v8002=>(Ao v8002 (decide (((List.length a0.data:Nat):Int)=0)))) else (if (decide (a0.kind=7))=true then (Option.bind (E5 a0.value) fun v10002=>(Ao v10002 (decide (((List.length a0.data:Nat):Int)=0)))) else (if (decide (a0.kind=8))=true then (Option.bind (E5 a0.value) fun v12002=>(if v12002=true then (if (decide (((List.length a0.data:Nat):Int)=1))=true then (Option.bind (at? a0.data 0) fun v12012=>(Option.bind (LW v12012) fun v12014=>(some v12014))) else (some false)) else (some false))) else (if (decide (a0.kind=9))=true then (if (decide (0≤a0.value))=true then (Ao (decide (a0.value<4)) (decide (((List.length a0.data:Nat):Int)=0))) else (Ao false (decide (((List.length a0.data:Nat):Int)=0)))) else (if (decide (a0.kind=10))=true then (if (decide (1≤((List.length a0.data:Nat):Int)))=true then (if (decide (((List.length a0.data:Nat):Int)≤4))=true then (Ao (decide (a0.value=0)) (!v5002)) else (Ao (decide (a0.value=0)) false)) else (Ao (decide (a0.value=0)) false)) else (if (decide (a0.kind=11))=true then (if (decide (((List.length a0.data:Nat):Int)=2))=true then (Ao (decide (a0.value=0)) (!v5002)) else (Ao (decide (a0.value=0)) false)) else (if (decide (a0.kind=12))=true then (Option.bind (E4 a0.value) fun v20002=>(Ao v20002 (decide (((List.length a0.data:Nat):Int)=0)))) else (Ao (decide (a0.value=0)) (decide (((List.length a0.data:Nat):Int)=0))))))))))))
def GA (a0:Agent):Option (Bool):=
 (if (decide (((List.length a0.ports:Nat):Int)=0))=true then (Bz a0 true) else (Option.bind (H5 a0.kind ((List.length a0.ports:Nat):Int)) fun v2012=>(Option.bind (Fk a0.kind v2012) fun v2013=>(if (!decide (v2013=((List.length a0.ports:Nat):Int)))=true then (Bz a0 true) else (Option.bind (Cz a0.kind a0.level) fun v2024=>(Bz a0 (!v2024)))))))
mutual
def CD:Nat→(List Agent)→Int→Option (Bool)
 |0,_,_=>none
 |n+1,a0,p1_0=>(if (decide (p1_0<((List.length a0:Nat):Int)))=true then (Option.bind (at? a0 p1_0) fun v6001=>(Option.bind (GA v6001) fun v7001=>(if (!v7001)=true then (DG n a0 p1_0 true) else (DG n a0 p1_0 (!((decide (v6001.kind=1)) == (decide (p1_0=0)))))))) else (some true))
def DG:Nat→(List Agent)→Int→Bool→Option (Bool)
 |0,_,_,_=>none
 |n+1,a0,p1_0,p2_0=>(if p2_0=true then (some false) else (CD n a0 (IntKind.i64.wrap (p1_0+1))))
end
def Dx (a0:List Agent) (p0_0:Bool):Option (Bool):=
 (if p0_0=true then (some false) else (CD fuel a0 0))
def G3 (a0:List Agent):Option (Bool):=
 (if (decide (((List.length a0:Nat):Int)<1))=true then (Dx a0 true) else (Dx a0 (decide (600<((List.length a0:Nat):Int)))))
def A0:Nat→(List Port)→Int→(Port→Option Bool)→Option (Int)
 |0,_,_,_=>none
 |n+1,a0,p0_0,f1=>(if (decide (p0_0<((List.length a0:Nat):Int)))=true then (Option.bind (at? a0 p0_0) fun v5003=>(Option.bind (f1 v5003) fun v5005=>(if v5005=true then (some p0_0) else (A0 n a0 (IntKind.i64.wrap (p0_0+1)) f1)))) else (some (-1)))
def Cu (a0:List Port) (f1:(Port→Option Bool)):Option (Int):=
 (A0 fuel a0 0 f1)
def Bh (a0:List Port) (f1:(Port→Option Bool)):Option (Bool):=
 (Option.bind (Cu a0 f1) fun v2002=>(some (decide (0≤v2002))))
mutual
def Bt:Nat→Net→(List Port)→Int→Option ((List Port))
 |0,_,_,_=>none
 |n+1,a0,p0_0,p0_1=>(if (decide (p0_1<((List.length a0.agents:Nat):Int)))=true then (Option.bind (at? a0.agents p0_1) fun v5001=>(Cc n a0 p0_1 v5001 p0_0 0)) else (some p0_0))
def Cc:Nat→Net→Int→Agent→(List Port)→Int→Option ((List Port))
 |0,_,_,_,_,_=>none
 |n+1,a0,p0_1,v5001,p4_0,p4_1=>(if (decide (p4_1<((List.length v5001.ports:Nat):Int)))=true then (Option.bind (app? p4_0 [(⟨p0_1,p4_1⟩:Port)]) fun v9005=>(Cc n a0 p0_1 v5001 v9005 (IntKind.i64.wrap (p4_1+1)))) else (Bt n a0 p4_0 (IntKind.i64.wrap (p0_1+1))))
end
def G4 (a0:Net):Option ((List Port)):=
 (Bt fuel a0 [] 0)
def Ci (a0:Net) (a1:Port):Option (Port):=
 (Option.bind (at? a0.agents a1.agent) fun v2006=>(Option.bind (at? v2006.ports a1.slot) fun v2011=>(some v2011)))
def JC (a0:List Agent) (a1:Port):Option (Bool):=
 (if (decide (0≤a1.agent))=true then (if (decide (a1.agent<((List.length a0:Nat):Int)))=true then (if (decide (0≤a1.slot))=true then (Option.bind (at? a0 a1.agent) fun v2021=>(some (decide (a1.slot<((List.length v2021.ports:Nat):Int))))) else (some false)) else (some false)) else (some false))
def GB (a0:Port) (a1:Net):Option (Bool):=
 (Option.bind (Ci a1 a0) fun v2001=>(if (decide (v2001.agent=a0.agent)&&decide (v2001.slot=a0.slot))=true then (some true) else (Option.bind (JC a1.agents v2001) fun v3007=>(if (!v3007)=true then (some true) else (Option.bind (Ci a1 v2001) fun v3012=>(some (!(decide (v3012.agent=a0.agent)&&decide (v3012.slot=a0.slot)))))))))
def GT (a0:Net):Option (Bool):=
 (Option.bind (G3 a0.agents) fun v2002=>(if (!v2002)=true then (some false) else (Option.bind (G4 a0) fun v4000=>(Option.bind (Bh v4000 (fun y0=>GB y0 a0)) fun v4002=>(some (!v4002))))))
def CB (a0:Int) (a1:Int) (a2:Int):Option (Bool):=
 (if (decide (a1≤a0))=true then (some (decide (a0≤a2))) else (some false))
def Ca (a0:Agent):Option (Int):=
 (if (decide (a0.kind=9))=true then (some (IntKind.i64.wrap (((List.length a0.ports:Nat):Int) - 1))) else (some 0))
def EE (p2_0:Bool):Option (Int):=
 (if p2_0=true then (some 3) else (some 0))
def E6 (a0:Int) (p1_0:Bool):Option (Int):=
 (if p1_0=true then (some 2) else (if (decide (a0=2))=true then (EE (decide (a0=2))) else (if (decide (a0=3))=true then (EE (decide (a0=3))) else (if (decide (a0=4))=true then (EE (decide (a0=4))) else (EE (decide (a0=7)))))))
def EF (a0:Int) (p0_0:Bool):Option (Int):=
 (if p0_0=true then (some 1) else (if (decide (a0=8))=true then (E6 a0 (decide (a0=8))) else (if (decide (a0=10))=true then (E6 a0 (decide (a0=10))) else (E6 a0 (decide (a0=11))))))
def GU (a0:Int) (a1:Int):Option (Int):=
 (if (decide (a0=9))=true then (Option.bind (CB a1 0 3) fun v3001=>(if v3001=true then (some (IntKind.i64.wrap (1+a1))) else (some 0))) else (if (!decide (a1=0))=true then (some 0) else (if (decide (a0=1))=true then (EF a0 (decide (a0=1))) else (if (decide (a0=5))=true then (EF a0 (decide (a0=5))) else (if (decide (a0=6))=true then (EF a0 (decide (a0=6))) else (EF a0 (decide (a0=12))))))))
def BA (p0_0:Bool):Option (Bool):=
 (if p0_0=true then (some true) else (some false))
def Dh (a0:Int):Option (Bool):=
 (if (decide (a0=2))=true then (BA (decide (a0=2))) else (if (decide (a0=3))=true then (BA (decide (a0=3))) else (if (decide (a0=4))=true then (BA (decide (a0=4))) else (if (decide (a0=7))=true then (BA (decide (a0=7))) else (if (decide (a0=8))=true then (BA (decide (a0=8))) else (if (decide (a0=9))=true then (BA (decide (a0=9))) else (if (decide (a0=10))=true then (BA (decide (a0=10))) else (if (decide (a0=11))=true then (BA (decide (a0=11))) else (BA (decide (a0=12)))))))))))
def JD (a0:Int):Option (Bool):=
 (Option.bind (CB a0 1 12) fun v2001=>(some v2001))
def EA (a0:Int) (a1:Int):Option (Bool):=
 (Option.bind (Dh a0) fun v2001=>(if v2001=true then (Option.bind (CB a1 0 8) fun v3001=>(some v3001)) else (Option.bind (JD a0) fun v4001=>(if v4001=true then (some (decide (a1=0))) else (some false)))))
def H6 (a0:Int):Option (Bool):=
 (Option.bind (CB a0 0 23) fun v2001=>(some v2001))
def CO:Nat→Agent→Int→Option (Bool)
 |0,_,_=>none
 |n+1,a0,p2_0=>(if (decide (p2_0<((List.length a0.data:Nat):Int)))=true then (Option.bind (at? a0.data p2_0) fun v20005=>(Option.bind (H6 v20005) fun v20007=>(if (!v20007)=true then (some false) else (CO n a0 (IntKind.i64.wrap (p2_0+1)))))) else (some true))
def B0 (a0:Agent) (p1_0:Bool):Option (Bool):=
 (if p1_0=true then (some false) else (CO fuel a0 0))
def EP (a0:Agent) (p0_0:Bool):Option (Bool):=
 (if p0_0=true then (if (!decide (a0.value=0))=true then (B0 a0 true) else (if (decide (a0.kind=11))=true then (if (!decide (((List.length a0.data:Nat):Int)=2))=true then (B0 a0 true) else (if (decide (a0.kind=10))=true then (Option.bind (CB ((List.length a0.data:Nat):Int) 1 4) fun v15032=>(B0 a0 (!v15032))) else (B0 a0 false))) else (if (decide (a0.kind=10))=true then (Option.bind (CB ((List.length a0.data:Nat):Int) 1 4) fun v15032=>(B0 a0 (!v15032))) else (B0 a0 false)))) else (if (decide (a0.value=0))=true then (some (decide (((List.length a0.data:Nat):Int)=0))) else (some false)))
def GC (a0:Agent):Option (Bool):=
 (if (decide (a0.kind=6))=true then (if (decide (((List.length a0.data:Nat):Int)=0))=true then (Option.bind (CB a0.value (-2147483648) 2147483647) fun v4011=>(some v4011)) else (some false)) else (if (decide (a0.kind=7))=true then (if (decide (((List.length a0.data:Nat):Int)=0))=true then (Option.bind (CB a0.value 1 6) fun v6011=>(some v6011)) else (some false)) else (if (decide (a0.kind=8))=true then (if (decide (((List.length a0.data:Nat):Int)=1))=true then (Option.bind (CB a0.value 1 6) fun v8011=>(if v8011=true then (Option.bind (at? a0.data 0) fun v8018=>(Option.bind (CB v8018 (-2147483648) 2147483647) fun v8020=>(some v8020))) else (some false))) else (some false)) else (if (decide (a0.kind=9))=true then (if (decide (((List.length a0.data:Nat):Int)=0))=true then (Option.bind (CB a0.value 0 3) fun v10011=>(some v10011)) else (some false)) else (if (decide (a0.kind=12))=true then (if (decide (((List.length a0.data:Nat):Int)=0))=true then (Option.bind (H6 a0.value) fun v12011=>(some v12011)) else (some false)) else (if (decide (a0.kind=10))=true then (EP a0 (decide (a0.kind=10))) else (EP a0 (decide (a0.kind=11)))))))))
def H7 (a0:Agent):Option (Bool):=
 (Option.bind (Ca a0) fun v2005=>(Option.bind (GU a0.kind v2005) fun v2006=>(if (decide (0<v2006))=true then (if (decide (((List.length a0.ports:Nat):Int)=v2006))=true then (Option.bind (EA a0.kind a0.level) fun v3020=>(if v3020=true then (Option.bind (GC a0) fun v3024=>(some v3024)) else (some false))) else (some false)) else (some false))))
mutual
def CE:Nat→(List Agent)→Int→Option (Bool)
 |0,_,_=>none
 |n+1,a0,p0_0=>(if (decide (p0_0<((List.length a0:Nat):Int)))=true then (Option.bind (at? a0 p0_0) fun v7002=>(Option.bind (H7 v7002) fun v7003=>(if (!v7003)=true then (DH n a0 p0_0 true) else (Option.bind (at? a0 p0_0) fun v7008=>(DH n a0 p0_0 (!((decide (v7008.kind=1)) == (decide (p0_0=0))))))))) else (some true))
def DH:Nat→(List Agent)→Int→Bool→Option (Bool)
 |0,_,_,_=>none
 |n+1,a0,p0_0,p1_0=>(if p1_0=true then (some false) else (CE n a0 (IntKind.i64.wrap (p0_0+1))))
end
def G5 (a0:List Agent):Option (Bool):=
 (Option.bind (CB ((List.length a0:Nat):Int) 1 600) fun v2002=>(if (!v2002)=true then (some false) else (CE fuel a0 0)))
def JE (a0:List Agent) (a1:Port):Option (Bool):=
 (Option.bind (CB a1.agent 0 (IntKind.i64.wrap (((List.length a0:Nat):Int) - 1))) fun v2005=>(if v2005=true then (Option.bind (at? a0 a1.agent) fun v2012=>(Option.bind (CB a1.slot 0 (IntKind.i64.wrap (((List.length v2012.ports:Nat):Int) - 1))) fun v2017=>(some v2017))) else (some false)))
mutual
def Dp:Nat→Net→Int→Option (Bool)
 |0,_,_=>none
 |n+1,a0,p0_0=>(if (decide (p0_0<((List.length a0.agents:Nat):Int)))=true then (Option.bind (at? a0.agents p0_0) fun v7005=>(D5 n a0 p0_0 v7005 0)) else (some true))
def D5:Nat→Net→Int→Agent→Int→Option (Bool)
 |0,_,_,_,_=>none
 |n+1,a0,p0_0,v7005,p1_0=>(if (decide (p1_0<((List.length v7005.ports:Nat):Int)))=true then (Option.bind (at? v7005.ports p1_0) fun v12005=>(if (decide (v12005.agent=p0_0)&&decide (v12005.slot=p1_0))=true then (D6 n a0 p0_0 p1_0 v7005 true) else (Option.bind (JE a0.agents v12005) fun v13009=>(if (!v13009)=true then (D6 n a0 p0_0 p1_0 v7005 true) else (Option.bind (at? a0.agents v12005.agent) fun v13019=>(Option.bind (at? v13019.ports v12005.slot) fun v13024=>(D6 n a0 p0_0 p1_0 v7005 (!(decide (v13024.agent=p0_0)&&decide (v13024.slot=p1_0)))))))))) else (Dp n a0 (IntKind.i64.wrap (p0_0+1))))
def D6:Nat→Net→Int→Int→Agent→Bool→Option (Bool)
 |0,_,_,_,_,_=>none
 |n+1,a0,p0_0,p1_0,v7005,p2_0=>(if p2_0=true then (some false) else (D5 n a0 p0_0 v7005 (IntKind.i64.wrap (p1_0+1))))
end
def Ji (a0:Net):Option (Bool):=
 (Option.bind (G5 a0.agents) fun v2004=>(if (!v2004)=true then (some false) else (Dp fuel a0 0)))
def BB:Nat→(List Net)→Int→(Net→Option Bool)→Option (Int)
 |0,_,_,_=>none
 |n+1,a0,p0_0,f1=>(if (decide (p0_0<((List.length a0:Nat):Int)))=true then (Option.bind (at? a0 p0_0) fun v5003=>(Option.bind (f1 v5003) fun v5005=>(if v5005=true then (some p0_0) else (BB n a0 (IntKind.i64.wrap (p0_0+1)) f1)))) else (some (-1)))
def DK (a0:List Net) (f1:(Net→Option Bool)):Option (Int):=
 (BB fuel a0 0 f1)
def Bu (a0:List Net) (f1:(Net→Option Bool)):Option (Bool):=
 (Option.bind (DK a0 f1) fun v2002=>(some (decide (0≤v2002))))
def EG (a0:Net):Option (Bool):=
 (Option.bind (GT a0) fun v2001=>(some (!v2001)))
def Dw (a0:List Net):Option (Bool):=
 (if (decide (((List.length a0:Nat):Int)≤24))=true then (Option.bind (Bu a0 (fun y0=>EG y0)) fun v2005=>(some (!v2005))) else (some false))
def EH:Nat→(List Net)→Int→Option (Bool)
 |0,_,_=>none
 |n+1,a0,p0_0=>(if (decide (p0_0<((List.length a0:Nat):Int)))=true then (Option.bind (at? a0 p0_0) fun v7002=>(Option.bind (Ji v7002) fun v7003=>(if (!v7003)=true then (some false) else (EH n a0 (IntKind.i64.wrap (p0_0+1)))))) else (some true))
def I5 (a0:List Net):Option (Bool):=
 (if (decide (24<((List.length a0:Nat):Int)))=true then (some false) else (EH fuel a0 0))
end Go.Proofs.YtckcfdggbbabfaaGreat.Ab
