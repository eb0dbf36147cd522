/-
  Data of the program as Lean types; how they lie in memory. Printed by wip/ab/gen.py.
-/
import Derived.Test.YtclmbjbbojdojaaGreatAbY
import Derived.Test.YtclmbjbbojdojaaGreatMod
namespace Go.Proofs.YtclmbjbbojdojaaGreat.Ab
set_option linter.unusedVariables false
set_option linter.unusedSimpArgs false
set_option maxRecDepth 20000
set_option maxHeartbeats 4000000
open Go.RowKit
structure Port where
 agent:Int
 slot:Int
def Port.ds (c:Port):List D:=[.int .i64 c.agent,.int .i64 c.slot]
theorem Port.ds_eq (c:Port):c.ds=[.int .i64 c.agent,.int .i64 c.slot] :=rfl
@[go_sem] def Port.avs (c:Port):List AV:=[.int .i64 c.agent,.int .i64 c.slot]
@[go_sem] def Port.rv (c:Port):List RV:=[.int .i64 c.agent,.int .i64 c.slot]
@[go_sem] def Port.rvn (c:Port):List RV:=[.int .i64 c.agent,.int .i64 c.slot]
attribute [go_sem] Port.ds_eq
theorem Port.ds_len (c:Port):c.ds.length=2:=by rw [Port.ds_eq]; rfl
structure Agent where
 kind:Int
 level:Int
 value:Int
 data:List Int
 ports:List Port
def Agent.ds (c:Agent):List D:=[.int .i64 c.kind,.int .i64 c.level,.int .i64 c.value,.sl (List.map AJ c.data),.sl (List.map Port.ds c.ports)]
theorem Agent.ds_eq (c:Agent):c.ds=[.int .i64 c.kind,.int .i64 c.level,.int .i64 c.value,.sl (List.map AJ c.data),.sl (List.map Port.ds c.ports)] :=rfl
@[go_sem] def Agent.avs (c:Agent):List AV:=[.int .i64 c.kind,.int .i64 c.level,.int .i64 c.value,.ro (List.map AJ c.data),.ro (List.map Port.ds c.ports)]
@[go_sem] def Agent.rv (c:Agent):List RV:=[.int .i64 c.kind,.int .i64 c.level,.int .i64 c.value,.ow (some 1) (List.map AJ c.data),.ow (some 2) (List.map Port.ds c.ports)]
@[go_sem] def Agent.rvn (c:Agent):List RV:=[.int .i64 c.kind,.int .i64 c.level,.int .i64 c.value,.ow none (List.map AJ c.data),.ow none (List.map Port.ds c.ports)]
attribute [go_sem] Agent.ds_eq
theorem Agent.ds_len (c:Agent):c.ds.length=5:=by rw [Agent.ds_eq]; rfl
def Agent.dz (c:Agent):List D:=[.int .i64 c.kind,.int .i64 c.level,.int .i64 c.value,.fz (List.map AJ c.data),.fz (List.map Port.ds c.ports)]
@[go_sem] theorem Agent.dz_eq (c:Agent):c.dz=[.int .i64 c.kind,.int .i64 c.level,.int .i64 c.value,.fz (List.map AJ c.data),.fz (List.map Port.ds c.ports)] :=rfl
theorem Agent.dz_len (c:Agent):c.dz.length=5:=rfl
theorem Agent.dz_fz (c:Agent):fzC c.ds=c.dz:=by rw [Agent.ds_eq]; rfl
theorem Agent.dz_ng (c:Agent):∀d ∈ c.ds,d≠ .gone :=by rw [Agent.ds_eq]; exact Hn rfl
@[go_sem] theorem Agent.dz_er (l:List Agent):erR (List.map Agent.dz l)=List.map Agent.ds l:=B4 (fun c=>by rw [Agent.ds_eq]; simp only [Agent.dz,erC,er]) l
structure Net where
 agents:List Agent
def Net.ds (c:Net):List D:=[.sl (List.map Agent.ds c.agents)]
theorem Net.ds_eq (c:Net):c.ds=[.sl (List.map Agent.ds c.agents)] :=rfl
@[go_sem] def Net.avs (c:Net):List AV:=[.ro (List.map Agent.ds c.agents)]
@[go_sem] def Net.rv (c:Net):List RV:=[.ow (some 5) (List.map Agent.ds c.agents)]
@[go_sem] def Net.rvn (c:Net):List RV:=[.ow none (List.map Agent.ds c.agents)]
attribute [go_sem] Net.ds_eq
theorem Net.ds_len (c:Net):c.ds.length=1:=by rw [Net.ds_eq]; rfl
def Net.dz (c:Net):List D:=[.fz (List.map Agent.ds c.agents)]
@[go_sem] theorem Net.dz_eq (c:Net):c.dz=[.fz (List.map Agent.ds c.agents)] :=rfl
theorem Net.dz_len (c:Net):c.dz.length=1:=rfl
theorem Net.dz_fz (c:Net):fzC c.ds=c.dz:=by rw [Net.ds_eq]; rfl
theorem Net.dz_ng (c:Net):∀d ∈ c.ds,d≠ .gone :=by rw [Net.ds_eq]; exact Hn rfl
@[go_sem] theorem Net.dz_er (l:List Net):erR (List.map Net.dz l)=List.map Net.ds l:=B4 (fun c=>by rw [Net.ds_eq]; simp only [Net.dz,erC,er]) l
structure Wire where
 a:Port
 b:Port
def Wire.ds (c:Wire):List D:=[.int .i64 c.a.agent,.int .i64 c.a.slot,.int .i64 c.b.agent,.int .i64 c.b.slot]
theorem Wire.ds_eq (c:Wire):c.ds=[.int .i64 c.a.agent,.int .i64 c.a.slot,.int .i64 c.b.agent,.int .i64 c.b.slot] :=rfl
@[go_sem] def Wire.avs (c:Wire):List AV:=[.int .i64 c.a.agent,.int .i64 c.a.slot,.int .i64 c.b.agent,.int .i64 c.b.slot]
@[go_sem] def Wire.rv (c:Wire):List RV:=[.int .i64 c.a.agent,.int .i64 c.a.slot,.int .i64 c.b.agent,.int .i64 c.b.slot]
@[go_sem] def Wire.rvn (c:Wire):List RV:=[.int .i64 c.a.agent,.int .i64 c.a.slot,.int .i64 c.b.agent,.int .i64 c.b.slot]
attribute [go_sem] Wire.ds_eq
theorem Wire.ds_len (c:Wire):c.ds.length=4:=by rw [Wire.ds_eq]; rfl
@[go_sem] theorem Port.ds_er (l:List Port):erR (List.map Port.ds l)=List.map Port.ds l:=B4 (fun c=>by rw [Port.ds_eq]; simp only [erC,er]) l
def Agent.dm (c:Agent):List D:=[.int .i64 c.kind,.int .i64 c.level,.int .i64 c.value,.fz (List.map AJ c.data),.sl (List.map Port.ds c.ports)]
@[go_sem] theorem Agent.dm_eq (c:Agent):c.dm=[.int .i64 c.kind,.int .i64 c.level,.int .i64 c.value,.fz (List.map AJ c.data),.sl (List.map Port.ds c.ports)] :=rfl
@[go_sem] theorem Agent.dm_er (l:List Agent):erR (List.map Agent.dm l)=List.map Agent.ds l:=B4 (fun c=>by rw [Agent.ds_eq]; simp only [Agent.dm,erC,er,Port.ds_er]) l
end Go.Proofs.YtclmbjbbojdojaaGreat.Ab
namespace Go.Proofs.YtclmbjbbojdojaaGreat.Ab
set_option linter.unusedVariables false
set_option linter.unusedSimpArgs false
set_option maxRecDepth 20000
set_option maxHeartbeats 4000000
open Go.RowKit
mutual
def Bk:Nat→Net→(List Port)→Int→Option ((List Port))
 |0,_,_,_=>none
 |n+1,a0,p0_0,p0_1=>(if (decide (p0_1<((List.length a0.agents:Nat):Int)))=true then (Option.bind (at? a0.agents p0_1) fun v5001=>(Cm n a0 p0_1 v5001 p0_0 0)) else (some p0_0))
def Cm:Nat→Net→Int→Agent→(List Port)→Int→Option ((List Port))
 |0,_,_,_,_,_=>none
 |n+1,a0,p0_1,v5001,p4_0,p4_1=>(if (decide (p4_1<((List.length v5001.ports:Nat):Int)))=true then (Option.bind (app? p4_0 [(⟨p0_1,p4_1⟩:Port)]) fun v9005=>(Cm n a0 p0_1 v5001 v9005 (IntKind.i64.wrap (p4_1+1)))) else (Bk n a0 p4_0 (IntKind.i64.wrap (p0_1+1))))
end
def Ex (a0:Net):Option ((List Port)):=
 (Bk fuel a0 [] 0)
def Aq:Nat→(List Int)→Int→(Int→Option Bool)→Option (Int)
 |0,_,_,_=>none
 |n+1,a0,p0_0,f1=>(if (decide (p0_0<((List.length a0:Nat):Int)))=true then (Option.bind (at? a0 p0_0) fun v5003=>(Option.bind (f1 v5003) fun v5005=>(if v5005=true then (some p0_0) else (Aq n a0 (IntKind.i64.wrap (p0_0+1)) f1)))) else (some (-1)))
def EN (a0:List Int) (f1:(Int→Option Bool)):Option (Int):=
 (Aq fuel a0 0 f1)
def Ay (a0:List Int) (f1:(Int→Option Bool)):Option (Bool):=
 (Option.bind (EN a0 f1) fun v2002=>(some (decide (0≤v2002))))
def Hw (a0:Int):Option (Bool):=
 (if (decide (1≤a0))=true then (some (decide (a0≤12))) else (some false))
def EO (a0:Int) (p1_0:Bool):Option (Int):=
 (if p1_0=true then (some 0) else (Option.bind (atI [0,1,3,3,3,1,1,3,2,0,2,2,1] a0) fun v6002=>(some v6002)))
def EP (a0:Int) (a1:Int) (p0_0:Bool):Option (Int):=
 (if p0_0=true then (some (IntKind.i64.wrap (a1+1))) else (Option.bind (Hw a0) fun v4001=>(if (!v4001)=true then (EO a0 true) else (if (decide (a0=9))=true then (EO a0 true) else (EO a0 (!decide (a1=0)))))))
def HT (a0:Int) (a1:Int):Option (Int):=
 (if (decide (a0=9))=true then (if (decide (0≤a1))=true then (EP a0 a1 (decide (a1≤3))) else (EP a0 a1 false)) else (EP a0 a1 false))
def Hx (a0:Int) (a1:Int):Option (Int):=
 (if (decide (a0=9))=true then (some (IntKind.i64.wrap (a1 - 1))) else (some 0))
def JW (a0:Int):Option (Bool):=
 (Option.bind (Hw a0) fun v2001=>(if v2001=true then (if (!decide (a0=1))=true then (if (!decide (a0=5))=true then (some (!decide (a0=6))) else (some false)) else (some false)) else (some false)))
def K6 (a0:Int):Option (Bool):=
 (if (decide (0≤a0))=true then (some (decide (a0≤8))) else (some false))
def Fr (a0:Int) (a1:Int):Option (Bool):=
 (Option.bind (Hw a0) fun v2001=>(if v2001=true then (if (decide (a1=0))=true then (some true) else (Option.bind (JW a0) fun v2007=>(if v2007=true then (Option.bind (K6 a1) fun v2010=>(some v2010)) else (some false)))) else (some false)))
def E9 (a0:Int):Option (Bool):=
 (if (decide (0≤a0))=true then (some (decide (a0<24))) else (some false))
def Ey (a0:Int):Option (Bool):=
 (Option.bind (E9 a0) fun v2001=>(some (!v2001)))
def K7 (a0:Int):Option (Bool):=
 (if (decide ((-2147483648)≤a0))=true then (some (decide (a0≤2147483647))) else (some false))
def FA (a0:Int):Option (Bool):=
 (if (decide (1≤a0))=true then (some (decide (a0≤6))) else (some false))
def Aj (p1_0:Bool) (p1_1:Bool):Option (Bool):=
 (if p1_0=true then (some p1_1) else (some false))
def CN (a0:Agent) (p0_0:Bool):Option (Bool):=
 (if p0_0=true then (some false) else (Option.bind (Ay a0.data (fun y0=>Ey y0)) fun v5002=>(if (decide (a0.kind=6))=true then (Option.bind (K7 a0.value) fun v8002=>(Aj v8002 (decide (((List.length a0.data:Nat):Int)=0)))) else (if (decide (a0.kind=7))=true then (Option.bind (FA a0.value) fun v10002=>(Aj v10002 (decide (((List.length a0.data:Nat):Int)=0)))) else (if (decide (a0.kind=8))=true then (Option.bind (FA a0.value) fun v12002=>(if v12002=true then (if (decide (((List.length a0.data:Nat):Int)=1))=true then (Option.bind (at? a0.data 0) fun v12012=>(Option.bind (K7 v12012) fun v12014=>(some v12014))) else (some false)) else (some false))) else (if (decide (a0.kind=9))=true then (if (decide (0≤a0.value))=true then (Aj (decide (a0.value<4)) (decide (((List.length a0.data:Nat):Int)=0))) else (Aj false (decide (((List.length a0.data:Nat):Int)=0)))) else (if (decide (a0.kind=10))=true then (if (decide (1≤((List.length a0.data:Nat):Int)))=true then (if (decide (((List.length a0.data:Nat):Int)≤4))=true then (Aj (decide (a0.value=0)) (!v5002)) else (Aj (decide (a0.value=0)) false)) else (Aj (decide (a0.value=0)) false)) else (if (decide (a0.kind=11))=true then (if (decide (((List.length a0.data:Nat):Int)=2))=true then (Aj (decide (a0.value=0)) (!v5002)) else (Aj (decide (a0.value=0)) false)) else (if (decide (a0.kind=12))=true then (Option.bind (E9 a0.value) fun v20002=>(Aj v20002 (decide (((List.length a0.data:Nat):Int)=0)))) else (Aj (decide (a0.value=0)) (decide (((List.length a0.data:Nat):Int)=0))))))))))))
def E7 (a0:Agent):Option (Bool):=
 (if (decide (((List.length a0.ports:Nat):Int)=0))=true then (CN a0 true) else (Option.bind (Hx a0.kind ((List.length a0.ports:Nat):Int)) fun v2012=>(Option.bind (HT a0.kind v2012) fun v2013=>(if (!decide (v2013=((List.length a0.ports:Nat):Int)))=true then (CN a0 true) else (Option.bind (Fr a0.kind a0.level) fun v2024=>(CN a0 (!v2024)))))))
mutual
def CD:Nat→(List Agent)→Int→Option (Bool)
 |0,_,_=>none
 |n+1,a0,p1_0=>(if (decide (p1_0<((List.length a0:Nat):Int)))=true then (Option.bind (at? a0 p1_0) fun v6001=>(Option.bind (E7 v6001) fun v7001=>(if (!v7001)=true then (DM n a0 p1_0 true) else (DM n a0 p1_0 (!((decide (v6001.kind=1)) == (decide (p1_0=0)))))))) else (some true))
def DM:Nat→(List Agent)→Int→Bool→Option (Bool)
 |0,_,_,_=>none
 |n+1,a0,p1_0,p2_0=>(if p2_0=true then (some false) else (CD n a0 (IntKind.i64.wrap (p1_0+1))))
end
def Ez (a0:List Agent) (p0_0:Bool):Option (Bool):=
 (if p0_0=true then (some false) else (CD fuel a0 0))
def Gn (a0:List Agent):Option (Bool):=
 (if (decide (((List.length a0:Nat):Int)<1))=true then (Ez a0 true) else (Ez a0 (decide (600<((List.length a0:Nat):Int)))))
def As:Nat→(List Port)→Int→(Port→Option Bool)→Option (Int)
 |0,_,_,_=>none
 |n+1,a0,p0_0,f1=>(if (decide (p0_0<((List.length a0:Nat):Int)))=true then (Option.bind (at? a0 p0_0) fun v5003=>(Option.bind (f1 v5003) fun v5005=>(if v5005=true then (some p0_0) else (As n a0 (IntKind.i64.wrap (p0_0+1)) f1)))) else (some (-1)))
def C8 (a0:List Port) (f1:(Port→Option Bool)):Option (Int):=
 (As fuel a0 0 f1)
def BW (a0:List Port) (f1:(Port→Option Bool)):Option (Bool):=
 (Option.bind (C8 a0 f1) fun v2002=>(some (decide (0≤v2002))))
def EM (a0:Net) (a1:Port):Option (Port):=
 (Option.bind (at? a0.agents a1.agent) fun v2006=>(Option.bind (at? v2006.ports a1.slot) fun v2011=>(some v2011)))
def Ip (a0:List Agent) (a1:Port):Option (Bool):=
 (if (decide (0≤a1.agent))=true then (if (decide (a1.agent<((List.length a0:Nat):Int)))=true then (if (decide (0≤a1.slot))=true then (Option.bind (at? a0 a1.agent) fun v2021=>(some (decide (a1.slot<((List.length v2021.ports:Nat):Int))))) else (some false)) else (some false)) else (some false))
def F9 (a0:Port) (a1:Net):Option (Bool):=
 (Option.bind (EM a1 a0) fun v2001=>(if (decide (v2001.agent=a0.agent)&&decide (v2001.slot=a0.slot))=true then (some true) else (Option.bind (Ip a1.agents v2001) fun v3007=>(if (!v3007)=true then (some true) else (Option.bind (EM a1 v2001) fun v3012=>(some (!(decide (v3012.agent=a0.agent)&&decide (v3012.slot=a0.slot)))))))))
def Hv (a0:Net):Option (Bool):=
 (Option.bind (Gn a0.agents) fun v2002=>(if (!v2002)=true then (some false) else (Option.bind (Ex a0) fun v4000=>(Option.bind (BW v4000 (fun y0=>F9 y0 a0)) fun v4002=>(some (!v4002))))))
def Cp (a0:Int) (a1:Int) (a2:Int):Option (Bool):=
 (if (decide (a1≤a0))=true then (some (decide (a0≤a2))) else (some false))
def EQ (p2_0:Bool):Option (Int):=
 (if p2_0=true then (some 3) else (some 0))
def FB (a0:Int) (p1_0:Bool):Option (Int):=
 (if p1_0=true then (some 2) else (if (decide (a0=2))=true then (EQ (decide (a0=2))) else (if (decide (a0=3))=true then (EQ (decide (a0=3))) else (if (decide (a0=4))=true then (EQ (decide (a0=4))) else (EQ (decide (a0=7)))))))
def ER (a0:Int) (p0_0:Bool):Option (Int):=
 (if p0_0=true then (some 1) else (if (decide (a0=8))=true then (FB a0 (decide (a0=8))) else (if (decide (a0=10))=true then (FB a0 (decide (a0=10))) else (FB a0 (decide (a0=11))))))
def HU (a0:Int) (a1:Int):Option (Int):=
 (if (decide (a0=9))=true then (Option.bind (Cp a1 0 3) fun v3001=>(if v3001=true then (some (IntKind.i64.wrap (1+a1))) else (some 0))) else (if (!decide (a1=0))=true then (some 0) else (if (decide (a0=1))=true then (ER a0 (decide (a0=1))) else (if (decide (a0=5))=true then (ER a0 (decide (a0=5))) else (if (decide (a0=6))=true then (ER a0 (decide (a0=6))) else (ER a0 (decide (a0=12))))))))
def Gp (a0:Agent):Option (Int):=
 (if (decide (a0.kind=9))=true then (some (IntKind.i64.wrap (((List.length a0.ports:Nat):Int) - 1))) else (some 0))
def BE (p0_0:Bool):Option (Bool):=
 (if p0_0=true then (some true) else (some false))
def Hy (a0:Int):Option (Bool):=
 (if (decide (a0=2))=true then (BE (decide (a0=2))) else (if (decide (a0=3))=true then (BE (decide (a0=3))) else (if (decide (a0=4))=true then (BE (decide (a0=4))) else (if (decide (a0=7))=true then (BE (decide (a0=7))) else (if (decide (a0=8))=true then (BE (decide (a0=8))) else (if (decide (a0=9))=true then (BE (decide (a0=9))) else (if (decide (a0=10))=true then (BE (decide (a0=10))) else (if (decide (a0=11))=true then (BE (decide (a0=11))) else (BE (decide (a0=12)))))))))))
def Iq (a0:Int):Option (Bool):=
 (Option.bind (Cp a0 1 12) fun v2001=>(some v2001))
def GS (a0:Int) (a1:Int):Option (Bool):=
 (Option.bind (Hy a0) fun v2001=>(if v2001=true then (Option.bind (Cp a1 0 8) fun v3001=>(some v3001)) else (Option.bind (Iq a0) fun v4001=>(if v4001=true then (some (decide (a1=0))) else (some false)))))
def Hz (a0:Int):Option (Bool):=
 (Option.bind (Cp a0 0 23) fun v2001=>(some v2001))
def CO:Nat→Agent→Int→Option (Bool)
 |0,_,_=>none
 |n+1,a0,p2_0=>(if (decide (p2_0<((List.length a0.data:Nat):Int)))=true then (Option.bind (at? a0.data p2_0) fun v20005=>(Option.bind (Hz v20005) fun v20007=>(if (!v20007)=true then (some false) else (CO n a0 (IntKind.i64.wrap (p2_0+1)))))) else (some true))
def Bq (a0:Agent) (p1_0:Bool):Option (Bool):=
 (if p1_0=true then (some false) else (CO fuel a0 0))
def EY (a0:Agent) (p0_0:Bool):Option (Bool):=
 (if p0_0=true then (if (!decide (a0.value=0))=true then (Bq a0 true) else (if (decide (a0.kind=11))=true then (if (!decide (((List.length a0.data:Nat):Int)=2))=true then (Bq a0 true) else (if (decide (a0.kind=10))=true then (Option.bind (Cp ((List.length a0.data:Nat):Int) 1 4) fun v15032=>(Bq a0 (!v15032))) else (Bq a0 false))) else (if (decide (a0.kind=10))=true then (Option.bind (Cp ((List.length a0.data:Nat):Int) 1 4) fun v15032=>(Bq a0 (!v15032))) else (Bq a0 false)))) else (if (decide (a0.value=0))=true then (some (decide (((List.length a0.data:Nat):Int)=0))) else (some false)))
def GA (a0:Agent):Option (Bool):=
 (if (decide (a0.kind=6))=true then (if (decide (((List.length a0.data:Nat):Int)=0))=true then (Option.bind (Cp a0.value (-2147483648) 2147483647) fun v4011=>(some v4011)) else (some false)) else (if (decide (a0.kind=7))=true then (if (decide (((List.length a0.data:Nat):Int)=0))=true then (Option.bind (Cp a0.value 1 6) fun v6011=>(some v6011)) else (some false)) else (if (decide (a0.kind=8))=true then (if (decide (((List.length a0.data:Nat):Int)=1))=true then (Option.bind (Cp a0.value 1 6) fun v8011=>(if v8011=true then (Option.bind (at? a0.data 0) fun v8018=>(Option.bind (Cp v8018 (-2147483648) 2147483647) fun v8020=>(some v8020))) else (some false))) else (some false)) else (if (decide (a0.kind=9))=true then (if (decide (((List.length a0.data:Nat):Int)=0))=true then (Option.bind (Cp a0.value 0 3) fun v10011=>(some v10011)) else (some false)) else (if (decide (a0.kind=12))=true then (if (decide (((List.length a0.data:Nat):Int)=0))=true then (Option.bind (Hz a0.value) fun v12011=>(some v12011)) else (some false)) else (if (decide (a0.kind=10))=true then (EY a0 (decide (a0.kind=10))) else (EY a0 (decide (a0.kind=11)))))))))
def H0 (a0:Agent):Option (Bool):=
 (Option.bind (Gp a0) fun v2005=>(Option.bind (HU a0.kind v2005) fun v2006=>(if (decide (0<v2006))=true then (if (decide (((List.length a0.ports:Nat):Int)=v2006))=true then (Option.bind (GS a0.kind a0.level) fun v3020=>(if v3020=true then (Option.bind (GA a0) fun v3024=>(some v3024)) else (some false))) else (some false)) else (some false))))
mutual
def CE:Nat→(List Agent)→Int→Option (Bool)
 |0,_,_=>none
 |n+1,a0,p0_0=>(if (decide (p0_0<((List.length a0:Nat):Int)))=true then (Option.bind (at? a0 p0_0) fun v7002=>(Option.bind (H0 v7002) fun v7003=>(if (!v7003)=true then (DN n a0 p0_0 true) else (Option.bind (at? a0 p0_0) fun v7008=>(DN n a0 p0_0 (!((decide (v7008.kind=1)) == (decide (p0_0=0))))))))) else (some true))
def DN:Nat→(List Agent)→Int→Bool→Option (Bool)
 |0,_,_,_=>none
 |n+1,a0,p0_0,p1_0=>(if p1_0=true then (some false) else (CE n a0 (IntKind.i64.wrap (p0_0+1))))
end
def Gq (a0:List Agent):Option (Bool):=
 (Option.bind (Cp ((List.length a0:Nat):Int) 1 600) fun v2002=>(if (!v2002)=true then (some false) else (CE fuel a0 0)))
def Ir (a0:List Agent) (a1:Port):Option (Bool):=
 (Option.bind (Cp a1.agent 0 (IntKind.i64.wrap (((List.length a0:Nat):Int) - 1))) fun v2005=>(if v2005=true then (Option.bind (at? a0 a1.agent) fun v2012=>(Option.bind (Cp a1.slot 0 (IntKind.i64.wrap (((List.length v2012.ports:Nat):Int) - 1))) fun v2017=>(some v2017))) else (some false)))
mutual
def Dp:Nat→Net→Int→Option (Bool)
 |0,_,_=>none
 |n+1,a0,p0_0=>(if (decide (p0_0<((List.length a0.agents:Nat):Int)))=true then (Option.bind (at? a0.agents p0_0) fun v7005=>(EI n a0 p0_0 v7005 0)) else (some true))
def EI:Nat→Net→Int→Agent→Int→Option (Bool)
 |0,_,_,_,_=>none
 |n+1,a0,p0_0,v7005,p1_0=>(if (decide (p1_0<((List.length v7005.ports:Nat):Int)))=true then (Option.bind (at? v7005.ports p1_0) fun v12005=>(if (decide (v12005.agent=p0_0)&&decide (v12005.slot=p1_0))=true then (EJ n a0 p0_0 p1_0 v7005 true) else (Option.bind (Ir a0.agents v12005) fun v13009=>(if (!v13009)=true then (EJ n a0 p0_0 p1_0 v7005 true) else (Option.bind (at? a0.agents v12005.agent) fun v13019=>(Option.bind (at? v13019.ports v12005.slot) fun v13024=>(EJ n a0 p0_0 p1_0 v7005 (!(decide (v13024.agent=p0_0)&&decide (v13024.slot=p1_0)))))))))) else (Dp n a0 (IntKind.i64.wrap (p0_0+1))))
def EJ:Nat→Net→Int→Int→Agent→Bool→Option (Bool)
 |0,_,_,_,_,_=>none
 |n+1,a0,p0_0,p1_0,v7005,p2_0=>(if p2_0=true then (some false) else (EI n a0 p0_0 v7005 (IntKind.i64.wrap (p1_0+1))))
end
def M2 (a0:Net):Option (Bool):=
 (Option.bind (Gq a0.agents) fun v2004=>(if (!v2004)=true then (some false) else (Dp fuel a0 0)))
def Is (a0:List Port) (a1:Int):Option (Int):=
 (if (decide ((IntKind.i64.wrap (a1 - ((List.length a0:Nat):Int)))<0))=true then (some (-1)) else (some (IntKind.i64.wrap (a1 - ((List.length a0:Nat):Int)))))
def HV (a0:Agent) (a1:Int):Option (Int):=
 (Option.bind (Ho a0.data a1) fun v2003=>(if (decide (v2003<0))=true then (some (-1)) else (Option.bind (Is a0.ports v2003) fun v5003=>(if (decide (v5003<0))=true then (some (-1)) else (some v5003)))))
def Dq:Nat→(List Agent)→Int→Int→Option (Int)
 |0,_,_,_=>none
 |n+1,a0,p0_0,p0_1=>(if (decide (p0_1<((List.length a0:Nat):Int)))=true then (Option.bind (at? a0 p0_1) fun v8002=>(Option.bind (HV v8002 p0_0) fun v8005=>(if (decide (v8005<0))=true then (some (-1)) else (Dq n a0 v8005 (IntKind.i64.wrap (p0_1+1)))))) else (some p0_0))
def H1 (a0:List Agent) (a1:Int):Option (Int):=
 (if (decide ((IntKind.i64.wrap (a1 - ((List.length a0:Nat):Int)))<0))=true then (some (-1)) else (Dq fuel a0 (IntKind.i64.wrap (a1 - ((List.length a0:Nat):Int))) 0))
def M1 (a0:Net) (a1:Int):Option (Int):=
 (Option.bind (H1 a0.agents a1) fun v2003=>(if (decide (v2003<0))=true then (some (-1)) else (some v2003)))
def It (a0:Port):Option (Port):=
 (some a0)
def ES:Nat→(List Port)→(List Port)→Int→Option ((List Port))
 |0,_,_,_=>none
 |n+1,a0,p1_0,p1_1=>(if (decide (p1_1<((List.length a0:Nat):Int)))=true then (Option.bind (at? a0 p1_1) fun v6004=>(Option.bind (It v6004) fun v6006=>(Option.bind (at? p1_0 p1_1) fun v6007=>(Option.bind (Ah p1_0 p1_1 v6006) fun v6008_12=>(ES n a0 v6008_12 (IntKind.i64.wrap (p1_1+1))))))) else (some p1_0))
def Iu (a0:List Port):Option ((List Port)):=
 (Option.bind (rep? ((List.length a0:Nat):Int) (⟨0,0⟩:Port)) fun v2002=>(ES fuel a0 v2002 0))
def HW (a0:Agent):Option (Agent):=
 (Option.bind (Dl a0.data) fun v6002=>(Option.bind (Iu a0.ports) fun v7002=>(some (⟨a0.kind,a0.level,a0.value,v6002,v7002⟩:Agent))))
def Dr:Nat→(List Agent)→(List Agent)→Int→Option ((List Agent))
 |0,_,_,_=>none
 |n+1,a0,p1_0,p1_1=>(if (decide (p1_1<((List.length a0:Nat):Int)))=true then (Option.bind (at? a0 p1_1) fun v6004=>(Option.bind (HW v6004) fun v6006=>(Option.bind (at? p1_0 p1_1) fun v6007=>(Option.bind (Ah p1_0 p1_1 v6006) fun v6008_12=>(Dr n a0 v6008_12 (IntKind.i64.wrap (p1_1+1))))))) else (some p1_0))
def H2 (a0:List Agent):Option ((List Agent)):=
 (Option.bind (rep? ((List.length a0:Nat):Int) (⟨0,0,0,[],[]⟩:Agent)) fun v2002=>(Dr fuel a0 v2002 0))
def HD (a0:Net):Option (Net):=
 (Option.bind (H2 a0.agents) fun v3002=>(some (⟨v3002⟩:Net)))
def Iv (a0:Port) (a1:Port):Option (Bool):=
 (if (!decide (a0.agent=a1.agent))=true then (some false) else (if (!decide (a0.slot=a1.slot))=true then (some false) else (some true)))
def ET:Nat→(List Port)→(List Port)→Int→Option (Bool)
 |0,_,_,_=>none
 |n+1,a0,a1,p0_0=>(if (decide (p0_0<((List.length a0:Nat):Int)))=true then (Option.bind (at? a0 p0_0) fun v7002=>(Option.bind (at? a1 p0_0) fun v7006=>(Option.bind (Iv v7002 v7006) fun v7008=>(if (!v7008)=true then (some false) else (ET n a0 a1 (IntKind.i64.wrap (p0_0+1))))))) else (some true))
def Iw (a0:List Port) (a1:List Port):Option (Bool):=
 (if (!decide (((List.length a0:Nat):Int)=((List.length a1:Nat):Int)))=true then (some false) else (ET fuel a0 a1 0))
def HX (a0:Agent) (a1:Agent):Option (Bool):=
 (if (!decide (a0.kind=a1.kind))=true then (some false) else (if (!decide (a0.level=a1.level))=true then (some false) else (if (!decide (a0.value=a1.value))=true then (some false) else (Option.bind (Cs a0.data a1.data) fun v8004=>(if (!v8004)=true then (some false) else (Option.bind (Iw a0.ports a1.ports) fun v10004=>(if (!v10004)=true then (some false) else (some true))))))))
def Ds:Nat→(List Agent)→(List Agent)→Int→Option (Bool)
 |0,_,_,_=>none
 |n+1,a0,a1,p0_0=>(if (decide (p0_0<((List.length a0:Nat):Int)))=true then (Option.bind (at? a0 p0_0) fun v7002=>(Option.bind (at? a1 p0_0) fun v7006=>(Option.bind (HX v7002 v7006) fun v7008=>(if (!v7008)=true then (some false) else (Ds n a0 a1 (IntKind.i64.wrap (p0_0+1))))))) else (some true))
def H3 (a0:List Agent) (a1:List Agent):Option (Bool):=
 (if (!decide (((List.length a0:Nat):Int)=((List.length a1:Nat):Int)))=true then (some false) else (Ds fuel a0 a1 0))
def K5 (a0:Net) (a1:Net):Option (Bool):=
 (Option.bind (H3 a0.agents a1.agents) fun v2004=>(if (!v2004)=true then (some false) else (some true)))
def Gr (a0:Port) (a1:Port):Option (Bool):=
 (if (decide (a0.agent<a1.agent))=true then (some true) else (if (decide (a0.agent=a1.agent))=true then (some (decide (a0.slot<a1.slot))) else (some false)))
mutual
def Bl:Nat→Net→(List Wire)→Int→Option ((List Wire))
 |0,_,_,_=>none
 |n+1,a0,p3_0,p3_1=>(if (decide (p3_1<((List.length a0.agents:Nat):Int)))=true then (Bm n a0 p3_1 p3_0 0) else (some p3_0))
def Bm:Nat→Net→Int→(List Wire)→Int→Option ((List Wire))
 |0,_,_,_,_=>none
 |n+1,a0,p3_1,p5_0,p5_1=>(Option.bind (at? a0.agents p3_1) fun v7006=>(if (decide (p5_1<((List.length v7006.ports:Nat):Int)))=true then (Option.bind (at? a0.agents p3_1) fun v10006=>(Option.bind (at? v10006.ports p5_1) fun v10010=>(Option.bind (Gr (⟨p3_1,p5_1⟩:Port) v10010) fun v10012=>(if v10012=true then (Option.bind (at? a0.agents p3_1) fun v11007=>(Option.bind (at? v11007.ports p5_1) fun v11011=>(Option.bind (app? p5_0 [(⟨(⟨p3_1,p5_1⟩:Port),v11011⟩:Wire)]) fun v11015=>(Bm n a0 p3_1 v11015 (IntKind.i64.wrap (p5_1+1)))))) else (Bm n a0 p3_1 p5_0 (IntKind.i64.wrap (p5_1+1))))))) else (Bl n a0 p5_0 (IntKind.i64.wrap (p3_1+1)))))
end
def GR (a0:Net):Option ((List Wire)):=
 (Bl fuel a0 [] 0)
end Go.Proofs.YtclmbjbbojdojaaGreat.Ab
