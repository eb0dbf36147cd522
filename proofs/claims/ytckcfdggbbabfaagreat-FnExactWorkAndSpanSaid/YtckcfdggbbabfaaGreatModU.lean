/-
  Data of the program as Lean types; how they lie in memory. Printed by wip/ab/gen.py.
-/
import Derived.Test.YtckcfdggbbabfaaGreatAbY
import Derived.Test.YtckcfdggbbabfaaGreatMod
namespace Go.Proofs.YtckcfdggbbabfaaGreat.Ab
set_option linter.unusedVariables false
set_option linter.unusedSimpArgs false
set_option maxRecDepth 20000
set_option maxHeartbeats 4000000
open Go.RowKit
structure Port where
 agent:Int
 slot:Int
def Port.ds (c:Port):List D:=[.int .i64 c.agent,.int .i64 c.slot]
theorem Port.ds_eq (c:Port):c.ds=[.int .i64 c.agent,.int .i64 c.slot] :=rfl
@[go_sem] def Port.avs (c:Port):List AV:=[.int .i64 c.agent,.int .i64 c.slot]
@[go_sem] def Port.rv (c:Port):List RV:=[.int .i64 c.agent,.int .i64 c.slot]
@[go_sem] def Port.rvn (c:Port):List RV:=[.int .i64 c.agent,.int .i64 c.slot]
attribute [go_sem] Port.ds_eq
theorem Port.ds_len (c:Port):c.ds.length=2:=by rw [Port.ds_eq]; rfl
structure Agent where
 kind:Int
 level:Int
 value:Int
 data:List Int
 ports:List Port
def Agent.ds (c:Agent):List D:=[.int .i64 c.kind,.int .i64 c.level,.int .i64 c.value,.sl (List.map AO c.data),.sl (List.map Port.ds c.ports)]
theorem Agent.ds_eq (c:Agent):c.ds=[.int .i64 c.kind,.int .i64 c.level,.int .i64 c.value,.sl (List.map AO c.data),.sl (List.map Port.ds c.ports)] :=rfl
@[go_sem] def Agent.avs (c:Agent):List AV:=[.int .i64 c.kind,.int .i64 c.level,.int .i64 c.value,.ro (List.map AO c.data),.ro (List.map Port.ds c.ports)]
@[go_sem] def Agent.rv (c:Agent):List RV:=[.int .i64 c.kind,.int .i64 c.level,.int .i64 c.value,.ow (some 1) (List.map AO c.data),.ow (some 2) (List.map Port.ds c.ports)]
@[go_sem] def Agent.rvn (c:Agent):List RV:=[.int .i64 c.kind,.int .i64 c.level,.int .i64 c.value,.ow none (List.map AO c.data),.ow none (List.map Port.ds c.ports)]
attribute [go_sem] Agent.ds_eq
theorem Agent.ds_len (c:Agent):c.ds.length=5:=by rw [Agent.ds_eq]; rfl
def Agent.dz (c:Agent):List D:=[.int .i64 c.kind,.int .i64 c.level,.int .i64 c.value,.fz (List.map AO c.data),.fz (List.map Port.ds c.ports)]
@[go_sem] theorem Agent.dz_eq (c:Agent):c.dz=[.int .i64 c.kind,.int .i64 c.level,.int .i64 c.value,.fz (List.map AO c.data),.fz (List.map Port.ds c.ports)] :=rfl
@[go_sem] theorem Agent.dz_er (l:List Agent):erR (List.map Agent.dz l)=List.map Agent.ds l:=Ms (fun c=>by rw [Agent.ds_eq]; simp only [Agent.dz,erC,er]) l
structure Net where
 agents:List Agent
def Net.ds (c:Net):List D:=[.sl (List.map Agent.ds c.agents)]
theorem Net.ds_eq (c:Net):c.ds=[.sl (List.map Agent.ds c.agents)] :=rfl
@[go_sem] def Net.avs (c:Net):List AV:=[.ro (List.map Agent.ds c.agents)]
@[go_sem] def Net.rv (c:Net):List RV:=[.ow (some 5) (List.map Agent.ds c.agents)]
@[go_sem] def Net.rvn (c:Net):List RV:=[.ow none (List.map Agent.ds c.agents)]
attribute [go_sem] Net.ds_eq
theorem Net.ds_len (c:Net):c.ds.length=1:=by rw [Net.ds_eq]; rfl
def Net.dz (c:Net):List D:=[.fz (List.map Agent.ds c.agents)]
@[go_sem] theorem Net.dz_eq (c:Net):c.dz=[.fz (List.map Agent.ds c.agents)] :=rfl
@[go_sem] theorem Net.dz_er (l:List Net):erR (List.map Net.dz l)=List.map Net.ds l:=Ms (fun c=>by rw [Net.ds_eq]; simp only [Net.dz,erC,er]) l
@[go_sem] theorem Port.ds_er (l:List Port):erR (List.map Port.ds l)=List.map Port.ds l:=Ms (fun c=>by rw [Port.ds_eq]; simp only [erC,er]) l
def Agent.dm (c:Agent):List D:=[.int .i64 c.kind,.int .i64 c.level,.int .i64 c.value,.fz (List.map AO c.data),.sl (List.map Port.ds c.ports)]
@[go_sem] theorem Agent.dm_eq (c:Agent):c.dm=[.int .i64 c.kind,.int .i64 c.level,.int .i64 c.value,.fz (List.map AO c.data),.sl (List.map Port.ds c.ports)] :=rfl
theorem Agent.dm_len (c:Agent):c.dm.length=5:=rfl
@[go_sem] theorem Agent.dm_er (l:List Agent):erR (List.map Agent.dm l)=List.map Agent.ds l:=Ms (fun c=>by rw [Agent.ds_eq]; simp only [Agent.dm,erC,er,Port.ds_er]) l
end Go.Proofs.YtckcfdggbbabfaaGreat.Ab
namespace Go.Proofs.YtckcfdggbbabfaaGreat.Ab
set_option linter.unusedVariables false
set_option linter.unusedSimpArgs false
set_option maxRecDepth 20000
set_option maxHeartbeats 4000000
open Go.RowKit
def C0:Nat→(List Port)→Int→Int→Option (Int × (List Port))
 |0,_,_,_=>none
 |n+1,p0_0,p0_1,p0_2=>(if (decide (p0_2<((List.length p0_0:Nat):Int)))=true then (Option.bind (at? p0_0 p0_2) fun v5003=>(Option.bind (CF p0_0 p0_2 (⟨p0_1,v5003.slot⟩:Port)) fun v5005_15=>(Option.bind (at? v5005_15 p0_2) fun v7003=>(Option.bind (CF v5005_15 p0_2 (⟨v7003.agent,(IntKind.i64.wrap (p0_1+1))⟩:Port)) fun v7005_16=>(C0 n v7005_16 (IntKind.i64.wrap ((IntKind.i64.wrap (p0_1+1))+1)) (IntKind.i64.wrap (p0_2+1))))))) else (some (p0_1,p0_0)))
def H5 (a0:List Port) (a1:Int):Option (Int × (List Port)):=
 (C0 fuel a0 a1 0)
def Cf:Nat→(List Agent)→Int→Int→Option (Int × (List Agent))
 |0,_,_,_=>none
 |n+1,p0_0,p0_1,p0_2=>(if (decide (p0_2<((List.length p0_0:Nat):Int)))=true then (Option.bind (at? p0_0 p0_2) fun v5003=>(Option.bind (CF p0_0 p0_2 (⟨p0_1,v5003.level,v5003.value,v5003.data,v5003.ports⟩:Agent)) fun v5005_43=>(Option.bind (at? v5005_43 p0_2) fun v7003=>(Option.bind (CF v5005_43 p0_2 (⟨v7003.kind,(IntKind.i64.wrap (p0_1+1)),v7003.value,v7003.data,v7003.ports⟩:Agent)) fun v7005_44=>(Option.bind (at? v7005_44 p0_2) fun v9003=>(Option.bind (CF v7005_44 p0_2 (⟨v9003.kind,v9003.level,(IntKind.i64.wrap ((IntKind.i64.wrap (p0_1+1))+1)),v9003.data,v9003.ports⟩:Agent)) fun v9005_45=>(Option.bind (at? v9005_45 p0_2) fun v11002=>(Option.bind (D3 v11002.data (IntKind.i64.wrap ((IntKind.i64.wrap ((IntKind.i64.wrap (p0_1+1))+1))+1))) fun v11006=>(Option.bind (CF v9005_45 p0_2 (⟨v11002.kind,v11002.level,v11002.value,v11006.2,v11002.ports⟩:Agent)) fun v11006_47=>(Option.bind (at? v11006_47 p0_2) fun v12002=>(Option.bind (H5 v12002.ports v11006.1) fun v12006=>(Option.bind (CF v11006_47 p0_2 (⟨v12002.kind,v12002.level,v12002.value,v12002.data,v12006.2⟩:Agent)) fun v12006_48=>(Cf n v12006_48 v12006.1 (IntKind.i64.wrap (p0_2+1))))))))))))))) else (some (p0_1,p0_0)))
def Fp (a0:List Agent) (a1:Int):Option (Int × (List Agent)):=
 (Cf fuel a0 a1 0)
def Gl (a0:Net) (a1:Int):Option (Int × (List Agent)):=
 (Option.bind (Fp a0.agents a1) fun v2003=>(some (v2003.1,v2003.2)))
def DY:Nat→(List Net)→Int→Int→Option (Int × (List Net))
 |0,_,_,_=>none
 |n+1,p0_0,p0_1,p0_2=>(if (decide (p0_2<((List.length p0_0:Nat):Int)))=true then (Option.bind (at? p0_0 p0_2) fun v5002=>(Option.bind (Fp v5002.agents p0_1) fun v5006=>(Option.bind (CF p0_0 p0_2 (⟨v5006.2⟩:Net)) fun v5006_8=>(DY n v5006_8 v5006.1 (IntKind.i64.wrap (p0_2+1)))))) else (some (p0_1,p0_0)))
def Fc (a0:List Net) (a1:Int):Option (Int × (List Net)):=
 (DY fuel a0 a1 0)
def KP (a0:List Port) (a1:Int):Option (Int):=
 (if (decide ((IntKind.i64.wrap (a1 - ((List.length a0:Nat):Int)))<0))=true then (some (-1)) else (some (IntKind.i64.wrap (a1 - ((List.length a0:Nat):Int)))))
def Il (a0:Agent) (a1:Int):Option (Int):=
 (Option.bind (I7 a0.data a1) fun v2003=>(if (decide (v2003<0))=true then (some (-1)) else (Option.bind (KP a0.ports v2003) fun v5003=>(if (decide (v5003<0))=true then (some (-1)) else (some v5003)))))
def EQ:Nat→(List Agent)→Int→Int→Option (Int)
 |0,_,_,_=>none
 |n+1,a0,p0_0,p0_1=>(if (decide (p0_1<((List.length a0:Nat):Int)))=true then (Option.bind (at? a0 p0_1) fun v8002=>(Option.bind (Il v8002 p0_0) fun v8005=>(if (decide (v8005<0))=true then (some (-1)) else (EQ n a0 v8005 (IntKind.i64.wrap (p0_1+1)))))) else (some p0_0))
def JB (a0:List Agent) (a1:Int):Option (Int):=
 (if (decide ((IntKind.i64.wrap (a1 - ((List.length a0:Nat):Int)))<0))=true then (some (-1)) else (EQ fuel a0 (IntKind.i64.wrap (a1 - ((List.length a0:Nat):Int))) 0))
def IT (a0:Net) (a1:Int):Option (Int):=
 (Option.bind (JB a0.agents a1) fun v2003=>(if (decide (v2003<0))=true then (some (-1)) else (some v2003)))
def Fe:Nat→(List Net)→Int→Int→Option (Int)
 |0,_,_,_=>none
 |n+1,a0,p0_0,p0_1=>(if (decide (p0_1<((List.length a0:Nat):Int)))=true then (Option.bind (at? a0 p0_1) fun v8002=>(Option.bind (IT v8002 p0_0) fun v8005=>(if (decide (v8005<0))=true then (some (-1)) else (Fe n a0 v8005 (IntKind.i64.wrap (p0_1+1)))))) else (some p0_0))
def I9 (a0:List Net) (a1:Int):Option (Int):=
 (if (decide ((IntKind.i64.wrap (a1 - ((List.length a0:Nat):Int)))<0))=true then (some (-1)) else (Fe fuel a0 (IntKind.i64.wrap (a1 - ((List.length a0:Nat):Int))) 0))
def KQ (a0:Port):Option (Port):=
 (some a0)
def Ew:Nat→(List Port)→(List Port)→Int→Option ((List Port))
 |0,_,_,_=>none
 |n+1,a0,p1_0,p1_1=>(if (decide (p1_1<((List.length a0:Nat):Int)))=true then (Option.bind (at? a0 p1_1) fun v6004=>(Option.bind (KQ v6004) fun v6006=>(Option.bind (at? p1_0 p1_1) fun v6007=>(Option.bind (CF p1_0 p1_1 v6006) fun v6008_12=>(Ew n a0 v6008_12 (IntKind.i64.wrap (p1_1+1))))))) else (some p1_0))
def KR (a0:List Port):Option ((List Port)):=
 (Option.bind (rep? ((List.length a0:Nat):Int) (⟨0,0⟩:Port)) fun v2002=>(Ew fuel a0 v2002 0))
def Im (a0:Agent):Option (Agent):=
 (Option.bind (I8 a0.data) fun v6002=>(Option.bind (KR a0.ports) fun v7002=>(some (⟨a0.kind,a0.level,a0.value,v6002,v7002⟩:Agent))))
def ER:Nat→(List Agent)→(List Agent)→Int→Option ((List Agent))
 |0,_,_,_=>none
 |n+1,a0,p1_0,p1_1=>(if (decide (p1_1<((List.length a0:Nat):Int)))=true then (Option.bind (at? a0 p1_1) fun v6004=>(Option.bind (Im v6004) fun v6006=>(Option.bind (at? p1_0 p1_1) fun v6007=>(Option.bind (CF p1_0 p1_1 v6006) fun v6008_12=>(ER n a0 v6008_12 (IntKind.i64.wrap (p1_1+1))))))) else (some p1_0))
def JC (a0:List Agent):Option ((List Agent)):=
 (Option.bind (rep? ((List.length a0:Nat):Int) (⟨0,0,0,[],[]⟩:Agent)) fun v2002=>(ER fuel a0 v2002 0))
def C5 (a0:Net):Option (Net):=
 (Option.bind (JC a0.agents) fun v3002=>(some (⟨v3002⟩:Net)))
def Ff:Nat→(List Net)→(List Net)→Int→Option ((List Net))
 |0,_,_,_=>none
 |n+1,a0,p1_0,p1_1=>(if (decide (p1_1<((List.length a0:Nat):Int)))=true then (Option.bind (at? a0 p1_1) fun v6004=>(Option.bind (C5 v6004) fun v6006=>(Option.bind (at? p1_0 p1_1) fun v6007=>(Option.bind (CF p1_0 p1_1 v6006) fun v6008_12=>(Ff n a0 v6008_12 (IntKind.i64.wrap (p1_1+1))))))) else (some p1_0))
def Ck (a0:List Net):Option ((List Net)):=
 (Option.bind (rep? ((List.length a0:Nat):Int) (⟨[]⟩:Net)) fun v2002=>(Ff fuel a0 v2002 0))
def KS (a0:Port) (a1:Port):Option (Bool):=
 (if (!decide (a0.agent=a1.agent))=true then (some false) else (if (!decide (a0.slot=a1.slot))=true then (some false) else (some true)))
def Ex:Nat→(List Port)→(List Port)→Int→Option (Bool)
 |0,_,_,_=>none
 |n+1,a0,a1,p0_0=>(if (decide (p0_0<((List.length a0:Nat):Int)))=true then (Option.bind (at? a0 p0_0) fun v7002=>(Option.bind (at? a1 p0_0) fun v7006=>(Option.bind (KS v7002 v7006) fun v7008=>(if (!v7008)=true then (some false) else (Ex n a0 a1 (IntKind.i64.wrap (p0_0+1))))))) else (some true))
def KU (a0:List Port) (a1:List Port):Option (Bool):=
 (if (!decide (((List.length a0:Nat):Int)=((List.length a1:Nat):Int)))=true then (some false) else (Ex fuel a0 a1 0))
def In (a0:Agent) (a1:Agent):Option (Bool):=
 (if (!decide (a0.kind=a1.kind))=true then (some false) else (if (!decide (a0.level=a1.level))=true then (some false) else (if (!decide (a0.value=a1.value))=true then (some false) else (Option.bind (Dk a0.data a1.data) fun v8004=>(if (!v8004)=true then (some false) else (Option.bind (KU a0.ports a1.ports) fun v10004=>(if (!v10004)=true then (some false) else (some true))))))))
def ES:Nat→(List Agent)→(List Agent)→Int→Option (Bool)
 |0,_,_,_=>none
 |n+1,a0,a1,p0_0=>(if (decide (p0_0<((List.length a0:Nat):Int)))=true then (Option.bind (at? a0 p0_0) fun v7002=>(Option.bind (at? a1 p0_0) fun v7006=>(Option.bind (In v7002 v7006) fun v7008=>(if (!v7008)=true then (some false) else (ES n a0 a1 (IntKind.i64.wrap (p0_0+1))))))) else (some true))
def JD (a0:List Agent) (a1:List Agent):Option (Bool):=
 (if (!decide (((List.length a0:Nat):Int)=((List.length a1:Nat):Int)))=true then (some false) else (ES fuel a0 a1 0))
def GM (a0:Net) (a1:Net):Option (Bool):=
 (Option.bind (JD a0.agents a1.agents) fun v2004=>(if (!v2004)=true then (some false) else (some true)))
def Fg:Nat→(List Net)→(List Net)→Int→Option (Bool)
 |0,_,_,_=>none
 |n+1,a0,a1,p0_0=>(if (decide (p0_0<((List.length a0:Nat):Int)))=true then (Option.bind (at? a0 p0_0) fun v7002=>(Option.bind (at? a1 p0_0) fun v7006=>(Option.bind (GM v7002 v7006) fun v7008=>(if (!v7008)=true then (some false) else (Fg n a0 a1 (IntKind.i64.wrap (p0_0+1))))))) else (some true))
def GC (a0:List Net) (a1:List Net):Option (Bool):=
 (if (!decide (((List.length a0:Nat):Int)=((List.length a1:Nat):Int)))=true then (some false) else (Fg fuel a0 a1 0))
def H2 (a0:List Int):Option ((List Int)):=
 (Option.bind (app? [] a0) fun v2002=>(some v2002))
def s_l11OwnAgent (a0:Agent):Option (Agent):=
 (Option.bind (H2 a0.data) fun v2016=>(Option.bind (app? [] a0.ports) fun v2022=>(some (⟨a0.kind,a0.level,a0.value,v2016,v2022⟩:Agent))))
def BX:Nat→(List Int)→Int→(Int→Option Bool)→Option (Int)
 |0,_,_,_=>none
 |n+1,a0,p0_0,f1=>(if (decide (p0_0<((List.length a0:Nat):Int)))=true then (Option.bind (at? a0 p0_0) fun v5003=>(Option.bind (f1 v5003) fun v5005=>(if v5005=true then (some p0_0) else (BX n a0 (IntKind.i64.wrap (p0_0+1)) f1)))) else (some (-1)))
def Ey (a0:List Int) (f1:(Int→Option Bool)):Option (Int):=
 (BX fuel a0 0 f1)
def BK (a0:List Int) (f1:(Int→Option Bool)):Option (Bool):=
 (Option.bind (Ey a0 f1) fun v2002=>(some (decide (0≤v2002))))
def JE (a0:Int):Option (Bool):=
 (if (decide (1≤a0))=true then (some (decide (a0≤12))) else (some false))
def EB (a0:Int) (p1_0:Bool):Option (Int):=
 (if p1_0=true then (some 0) else (Option.bind (atI [0,1,3,3,3,1,1,3,2,0,2,2,1] a0) fun v6002=>(some v6002)))
def DO (a0:Int) (a1:Int) (p0_0:Bool):Option (Int):=
 (if p0_0=true then (some (IntKind.i64.wrap (a1+1))) else (Option.bind (JE a0) fun v4001=>(if (!v4001)=true then (EB a0 true) else (if (decide (a0=9))=true then (EB a0 true) else (EB a0 (!decide (a1=0)))))))
def Gm (a0:Int) (a1:Int):Option (Int):=
 (if (decide (a0=9))=true then (if (decide (0≤a1))=true then (DO a0 a1 (decide (a1≤3))) else (DO a0 a1 false)) else (DO a0 a1 false))
def JF (a0:Int) (a1:Int):Option (Int):=
 (if (decide (a0=9))=true then (some (IntKind.i64.wrap (a1 - 1))) else (some 0))
def EJ (a0:Int):Option (Bool):=
 (Option.bind (JE a0) fun v2001=>(if v2001=true then (if (!decide (a0=1))=true then (if (!decide (a0=5))=true then (some (!decide (a0=6))) else (some false)) else (some false)) else (some false)))
def Gg (a0:Int):Option (Bool):=
 (if (decide (0≤a0))=true then (some (decide (a0≤8))) else (some false))
def DU (a0:Int) (a1:Int):Option (Bool):=
 (Option.bind (JE a0) fun v2001=>(if v2001=true then (if (decide (a1=0))=true then (some true) else (Option.bind (EJ a0) fun v2007=>(if v2007=true then (Option.bind (Gg a1) fun v2010=>(some v2010)) else (some false)))) else (some false)))
def Fq (a0:Int):Option (Bool):=
 (if (decide (0≤a0))=true then (some (decide (a0<24))) else (some false))
def Fh (a0:Int):Option (Bool):=
 (Option.bind (Fq a0) fun v2001=>(some (!v2001)))
def Mt (a0:Int):Option (Bool):=
 (if (decide ((-2147483648)≤a0))=true then (some (decide (a0≤2147483647))) else (some false))
def Fs (a0:Int):Option (Bool):=
 (if (decide (1≤a0))=true then (some (decide (a0≤6))) else (some false))
def Au (p1_0:Bool) (p1_1:Bool):Option (Bool):=
 (if p1_0=true then (some p1_1) else (some false))
def CB (a0:Agent) (p0_0:Bool):Option (Bool):=
 (if p0_0=true then (some false) else (Option.bind (BK a0.data (fun y0=>Fh y0)) fun v5002=>(if (decide (a0.kind=6))=true then (Option.bind (Mt a0.value) fun v8002=>(Au v8002 (decide (((List.length a0.data:Nat):Int)=0)))) else (if (decide (a0.kind=7))=true then (Option.bind (Fs a0.value) fun v10002=>(Au v10002 (decide (((List.length a0.data:Nat):Int)=0)))) else (if (decide (a0.kind=8))=true then (Option.bind (Fs a0.value) fun v12002=>(if v12002=true then (if (decide (((List.length a0.data:Nat):Int)=1))=true then (Option.bind (at? a0.data 0) fun v12012=>(Option.bind (Mt v12012) fun v12014=>(some v12014))) else (some false)) else (some false))) else (if (decide (a0.kind=9))=true then (if (decide (0≤a0.value))=true then (Au (decide (a0.value<4)) (decide (((List.length a0.data:Nat):Int)=0))) else (Au false (decide (((List.length a0.data:Nat):Int)=0)))) else (if (decide (a0.kind=10))=true then (if (decide (1≤((List.length a0.data:Nat):Int)))=true then (if (decide (((List.length a0.data:Nat):Int)≤4))=true then (Au (decide (a0.value=0)) (!v5002)) else (Au (decide (a0.value=0)) false)) else (Au (decide (a0.value=0)) false)) else (if (decide (a0.kind=11))=true then (if (decide (((List.length a0.data:Nat):Int)=2))=true then (Au (decide (a0.value=0)) (!v5002)) else (Au (decide (a0.value=0)) false)) else (if (decide (a0.kind=12))=true then (Option.bind (Fq a0.value) fun v20002=>(Au v20002 (decide (((List.length a0.data:Nat):Int)=0)))) else (Au (decide (a0.value=0)) (decide (((List.length a0.data:Nat):Int)=0))))))))))))
def HG (a0:Agent):Option (Bool):=
 (if (decide (((List.length a0.ports:Nat):Int)=0))=true then (CB a0 true) else (Option.bind (JF a0.kind ((List.length a0.ports:Nat):Int)) fun v2012=>(Option.bind (Gm a0.kind v2012) fun v2013=>(if (!decide (v2013=((List.length a0.ports:Nat):Int)))=true then (CB a0 true) else (Option.bind (DU a0.kind a0.level) fun v2024=>(CB a0 (!v2024)))))))
mutual
def CS:Nat→(List Agent)→Int→Option (Bool)
 |0,_,_=>none
 |n+1,a0,p1_0=>(if (decide (p1_0<((List.length a0:Nat):Int)))=true then (Option.bind (at? a0 p1_0) fun v6001=>(Option.bind (HG v6001) fun v7001=>(if (!v7001)=true then (Dp n a0 p1_0 true) else (Dp n a0 p1_0 (!((decide (v6001.kind=1)) == (decide (p1_0=0)))))))) else (some true))
def Dp:Nat→(List Agent)→Int→Bool→Option (Bool)
 |0,_,_,_=>none
 |n+1,a0,p1_0,p2_0=>(if p2_0=true then (some false) else (CS n a0 (IntKind.i64.wrap (p1_0+1))))
end
def Ee (a0:List Agent) (p0_0:Bool):Option (Bool):=
 (if p0_0=true then (some false) else (CS fuel a0 0))
def H6 (a0:List Agent):Option (Bool):=
 (if (decide (((List.length a0:Nat):Int)<1))=true then (Ee a0 true) else (Ee a0 (decide (600<((List.length a0:Nat):Int)))))
def BB:Nat→(List Port)→Int→(Port→Option Bool)→Option (Int)
 |0,_,_,_=>none
 |n+1,a0,p0_0,f1=>(if (decide (p0_0<((List.length a0:Nat):Int)))=true then (Option.bind (at? a0 p0_0) fun v5003=>(Option.bind (f1 v5003) fun v5005=>(if v5005=true then (some p0_0) else (BB n a0 (IntKind.i64.wrap (p0_0+1)) f1)))) else (some (-1)))
def DP (a0:List Port) (f1:(Port→Option Bool)):Option (Int):=
 (BB fuel a0 0 f1)
def Bm (a0:List Port) (f1:(Port→Option Bool)):Option (Bool):=
 (Option.bind (DP a0 f1) fun v2002=>(some (decide (0≤v2002))))
mutual
def B5:Nat→Net→(List Port)→Int→Option ((List Port))
 |0,_,_,_=>none
 |n+1,a0,p0_0,p0_1=>(if (decide (p0_1<((List.length a0.agents:Nat):Int)))=true then (Option.bind (at? a0.agents p0_1) fun v5001=>(C1 n a0 p0_1 v5001 p0_0 0)) else (some p0_0))
def C1:Nat→Net→Int→Agent→(List Port)→Int→Option ((List Port))
 |0,_,_,_,_,_=>none
 |n+1,a0,p0_1,v5001,p4_0,p4_1=>(if (decide (p4_1<((List.length v5001.ports:Nat):Int)))=true then (Option.bind (app? p4_0 [(⟨p0_1,p4_1⟩:Port)]) fun v9005=>(C1 n a0 p0_1 v5001 v9005 (IntKind.i64.wrap (p4_1+1)))) else (B5 n a0 p4_0 (IntKind.i64.wrap (p0_1+1))))
end
def H7 (a0:Net):Option ((List Port)):=
 (B5 fuel a0 [] 0)
def DB (a0:Net) (a1:Port):Option (Port):=
 (Option.bind (at? a0.agents a1.agent) fun v2006=>(Option.bind (at? v2006.ports a1.slot) fun v2011=>(some v2011)))
def KV (a0:List Agent) (a1:Port):Option (Bool):=
 (if (decide (0≤a1.agent))=true then (if (decide (a1.agent<((List.length a0:Nat):Int)))=true then (if (decide (0≤a1.slot))=true then (Option.bind (at? a0 a1.agent) fun v2021=>(some (decide (a1.slot<((List.length v2021.ports:Nat):Int))))) else (some false)) else (some false)) else (some false))
def HH (a0:Port) (a1:Net):Option (Bool):=
 (Option.bind (DB a1 a0) fun v2001=>(if (decide (v2001.agent=a0.agent)&&decide (v2001.slot=a0.slot))=true then (some true) else (Option.bind (KV a1.agents v2001) fun v3007=>(if (!v3007)=true then (some true) else (Option.bind (DB a1 v2001) fun v3012=>(some (!(decide (v3012.agent=a0.agent)&&decide (v3012.slot=a0.slot)))))))))
def Hb (a0:Net):Option (Bool):=
 (Option.bind (H6 a0.agents) fun v2002=>(if (!v2002)=true then (some false) else (Option.bind (H7 a0) fun v4000=>(Option.bind (Bm v4000 (fun y0=>HH y0 a0)) fun v4002=>(some (!v4002))))))
def Ci (a0:Int) (a1:Int) (a2:Int):Option (Bool):=
 (if (decide (a1≤a0))=true then (some (decide (a0≤a2))) else (some false))
def Cy (a0:Agent):Option (Int):=
 (if (decide (a0.kind=9))=true then (some (IntKind.i64.wrap (((List.length a0.ports:Nat):Int) - 1))) else (some 0))
def Ez (p2_0:Bool):Option (Int):=
 (if p2_0=true then (some 3) else (some 0))
def Ft (a0:Int) (p1_0:Bool):Option (Int):=
 (if p1_0=true then (some 2) else (if (decide (a0=2))=true then (Ez (decide (a0=2))) else (if (decide (a0=3))=true then (Ez (decide (a0=3))) else (if (decide (a0=4))=true then (Ez (decide (a0=4))) else (Ez (decide (a0=7)))))))
def E0 (a0:Int) (p0_0:Bool):Option (Int):=
 (if p0_0=true then (some 1) else (if (decide (a0=8))=true then (Ft a0 (decide (a0=8))) else (if (decide (a0=10))=true then (Ft a0 (decide (a0=10))) else (Ft a0 (decide (a0=11))))))
def Hc (a0:Int) (a1:Int):Option (Int):=
 (if (decide (a0=9))=true then (Option.bind (Ci a1 0 3) fun v3001=>(if v3001=true then (some (IntKind.i64.wrap (1+a1))) else (some 0))) else (if (!decide (a1=0))=true then (some 0) else (if (decide (a0=1))=true then (E0 a0 (decide (a0=1))) else (if (decide (a0=5))=true then (E0 a0 (decide (a0=5))) else (if (decide (a0=6))=true then (E0 a0 (decide (a0=6))) else (E0 a0 (decide (a0=12))))))))
def BG (p0_0:Bool):Option (Bool):=
 (if p0_0=true then (some true) else (some false))
def EL (a0:Int):Option (Bool):=
 (if (decide (a0=2))=true then (BG (decide (a0=2))) else (if (decide (a0=3))=true then (BG (decide (a0=3))) else (if (decide (a0=4))=true then (BG (decide (a0=4))) else (if (decide (a0=7))=true then (BG (decide (a0=7))) else (if (decide (a0=8))=true then (BG (decide (a0=8))) else (if (decide (a0=9))=true then (BG (decide (a0=9))) else (if (decide (a0=10))=true then (BG (decide (a0=10))) else (if (decide (a0=11))=true then (BG (decide (a0=11))) else (BG (decide (a0=12)))))))))))
def KW (a0:Int):Option (Bool):=
 (Option.bind (Ci a0 1 12) fun v2001=>(some v2001))
def Eu (a0:Int) (a1:Int):Option (Bool):=
 (Option.bind (EL a0) fun v2001=>(if v2001=true then (Option.bind (Ci a1 0 8) fun v3001=>(some v3001)) else (Option.bind (KW a0) fun v4001=>(if v4001=true then (some (decide (a1=0))) else (some false)))))
def JG (a0:Int):Option (Bool):=
 (Option.bind (Ci a0 0 23) fun v2001=>(some v2001))
def Cg:Nat→Agent→Int→Option (Bool)
 |0,_,_=>none
 |n+1,a0,p2_0=>(if (decide (p2_0<((List.length a0.data:Nat):Int)))=true then (Option.bind (at? a0.data p2_0) fun v20005=>(Option.bind (JG v20005) fun v20007=>(if (!v20007)=true then (some false) else (Cg n a0 (IntKind.i64.wrap (p2_0+1)))))) else (some true))
def CC (a0:Agent) (p1_0:Bool):Option (Bool):=
 (if p1_0=true then (some false) else (Cg fuel a0 0))
def FA (a0:Agent) (p0_0:Bool):Option (Bool):=
 (if p0_0=true then (if (!decide (a0.value=0))=true then (CC a0 true) else (if (decide (a0.kind=11))=true then (if (!decide (((List.length a0.data:Nat):Int)=2))=true then (CC a0 true) else (if (decide (a0.kind=10))=true then (Option.bind (Ci ((List.length a0.data:Nat):Int) 1 4) fun v15032=>(CC a0 (!v15032))) else (CC a0 false))) else (if (decide (a0.kind=10))=true then (Option.bind (Ci ((List.length a0.data:Nat):Int) 1 4) fun v15032=>(CC a0 (!v15032))) else (CC a0 false)))) else (if (decide (a0.value=0))=true then (some (decide (((List.length a0.data:Nat):Int)=0))) else (some false)))
def HI (a0:Agent):Option (Bool):=
 (if (decide (a0.kind=6))=true then (if (decide (((List.length a0.data:Nat):Int)=0))=true then (Option.bind (Ci a0.value (-2147483648) 2147483647) fun v4011=>(some v4011)) else (some false)) else (if (decide (a0.kind=7))=true then (if (decide (((List.length a0.data:Nat):Int)=0))=true then (Option.bind (Ci a0.value 1 6) fun v6011=>(some v6011)) else (some false)) else (if (decide (a0.kind=8))=true then (if (decide (((List.length a0.data:Nat):Int)=1))=true then (Option.bind (Ci a0.value 1 6) fun v8011=>(if v8011=true then (Option.bind (at? a0.data 0) fun v8018=>(Option.bind (Ci v8018 (-2147483648) 2147483647) fun v8020=>(some v8020))) else (some false))) else (some false)) else (if (decide (a0.kind=9))=true then (if (decide (((List.length a0.data:Nat):Int)=0))=true then (Option.bind (Ci a0.value 0 3) fun v10011=>(some v10011)) else (some false)) else (if (decide (a0.kind=12))=true then (if (decide (((List.length a0.data:Nat):Int)=0))=true then (Option.bind (JG a0.value) fun v12011=>(some v12011)) else (some false)) else (if (decide (a0.kind=10))=true then (FA a0 (decide (a0.kind=10))) else (FA a0 (decide (a0.kind=11)))))))))
def JH (a0:Agent):Option (Bool):=
 (Option.bind (Cy a0) fun v2005=>(Option.bind (Hc a0.kind v2005) fun v2006=>(if (decide (0<v2006))=true then (if (decide (((List.length a0.ports:Nat):Int)=v2006))=true then (Option.bind (Eu a0.kind a0.level) fun v3020=>(if v3020=true then (Option.bind (HI a0) fun v3024=>(some v3024)) else (some false))) else (some false)) else (some false))))
mutual
def CT:Nat→(List Agent)→Int→Option (Bool)
 |0,_,_=>none
 |n+1,a0,p0_0=>(if (decide (p0_0<((List.length a0:Nat):Int)))=true then (Option.bind (at? a0 p0_0) fun v7002=>(Option.bind (JH v7002) fun v7003=>(if (!v7003)=true then (Dq n a0 p0_0 true) else (Option.bind (at? a0 p0_0) fun v7008=>(Dq n a0 p0_0 (!((decide (v7008.kind=1)) == (decide (p0_0=0))))))))) else (some true))
def Dq:Nat→(List Agent)→Int→Bool→Option (Bool)
 |0,_,_,_=>none
 |n+1,a0,p0_0,p1_0=>(if p1_0=true then (some false) else (CT n a0 (IntKind.i64.wrap (p0_0+1))))
end
def H8 (a0:List Agent):Option (Bool):=
 (Option.bind (Ci ((List.length a0:Nat):Int) 1 600) fun v2002=>(if (!v2002)=true then (some false) else (CT fuel a0 0)))
def KX (a0:List Agent) (a1:Port):Option (Bool):=
 (Option.bind (Ci a1.agent 0 (IntKind.i64.wrap (((List.length a0:Nat):Int) - 1))) fun v2005=>(if v2005=true then (Option.bind (at? a0 a1.agent) fun v2012=>(Option.bind (Ci a1.slot 0 (IntKind.i64.wrap (((List.length v2012.ports:Nat):Int) - 1))) fun v2017=>(some v2017))) else (some false)))
mutual
def ET:Nat→Net→Int→Option (Bool)
 |0,_,_=>none
 |n+1,a0,p0_0=>(if (decide (p0_0<((List.length a0.agents:Nat):Int)))=true then (Option.bind (at? a0.agents p0_0) fun v7005=>(Ep n a0 p0_0 v7005 0)) else (some true))
def Ep:Nat→Net→Int→Agent→Int→Option (Bool)
 |0,_,_,_,_=>none
 |n+1,a0,p0_0,v7005,p1_0=>(if (decide (p1_0<((List.length v7005.ports:Nat):Int)))=true then (Option.bind (at? v7005.ports p1_0) fun v12005=>(if (decide (v12005.agent=p0_0)&&decide (v12005.slot=p1_0))=true then (Er n a0 p0_0 p1_0 v7005 true) else (Option.bind (KX a0.agents v12005) fun v13009=>(if (!v13009)=true then (Er n a0 p0_0 p1_0 v7005 true) else (Option.bind (at? a0.agents v12005.agent) fun v13019=>(Option.bind (at? v13019.ports v12005.slot) fun v13024=>(Er n a0 p0_0 p1_0 v7005 (!(decide (v13024.agent=p0_0)&&decide (v13024.slot=p1_0)))))))))) else (ET n a0 (IntKind.i64.wrap (p0_0+1))))
def Er:Nat→Net→Int→Int→Agent→Bool→Option (Bool)
 |0,_,_,_,_,_=>none
 |n+1,a0,p0_0,p1_0,v7005,p2_0=>(if p2_0=true then (some false) else (Ep n a0 p0_0 v7005 (IntKind.i64.wrap (p1_0+1))))
end
def K3 (a0:Net):Option (Bool):=
 (Option.bind (H8 a0.agents) fun v2004=>(if (!v2004)=true then (some false) else (ET fuel a0 0)))
def BH:Nat→(List Net)→Int→(Net→Option Bool)→Option (Int)
 |0,_,_,_=>none
 |n+1,a0,p0_0,f1=>(if (decide (p0_0<((List.length a0:Nat):Int)))=true then (Option.bind (at? a0 p0_0) fun v5003=>(Option.bind (f1 v5003) fun v5005=>(if v5005=true then (some p0_0) else (BH n a0 (IntKind.i64.wrap (p0_0+1)) f1)))) else (some (-1)))
def Du (a0:List Net) (f1:(Net→Option Bool)):Option (Int):=
 (BH fuel a0 0 f1)
def B6 (a0:List Net) (f1:(Net→Option Bool)):Option (Bool):=
 (Option.bind (Du a0 f1) fun v2002=>(some (decide (0≤v2002))))
def E1 (a0:Net):Option (Bool):=
 (Option.bind (Hb a0) fun v2001=>(some (!v2001)))
def Ed (a0:List Net):Option (Bool):=
 (if (decide (((List.length a0:Nat):Int)≤24))=true then (Option.bind (B6 a0 (fun y0=>E1 y0)) fun v2005=>(some (!v2005))) else (some false))
def E2:Nat→(List Net)→Int→Option (Bool)
 |0,_,_=>none
 |n+1,a0,p0_0=>(if (decide (p0_0<((List.length a0:Nat):Int)))=true then (Option.bind (at? a0 p0_0) fun v7002=>(Option.bind (K3 v7002) fun v7003=>(if (!v7003)=true then (some false) else (E2 n a0 (IntKind.i64.wrap (p0_0+1)))))) else (some true))
def KO (a0:List Net):Option (Bool):=
 (if (decide (24<((List.length a0:Nat):Int)))=true then (some false) else (E2 fuel a0 0))
end Go.Proofs.YtckcfdggbbabfaaGreat.Ab
