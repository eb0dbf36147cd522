/-
  Data of the program as Lean types; how they lie in memory. Printed by wip/ab/gen.py.
-/
import Derived.Test.YtclmbjbbojdojaaGreatAbY
import Derived.Test.YtclmbjbbojdojaaGreatMod
namespace Go.Proofs.YtclmbjbbojdojaaGreat.Ab
set_option linter.unusedVariables false
set_option linter.unusedSimpArgs false
set_option maxRecDepth 20000
set_option maxHeartbeats 4000000
open Go.RowKit
structure Port where
 agent:Int
 slot:Int
def Port.ds (c:Port):List D:=[.int .i64 c.agent,.int .i64 c.slot]
theorem Port.ds_eq (c:Port):c.ds=[.int .i64 c.agent,.int .i64 c.slot] :=rfl
@[go_sem] def Port.avs (c:Port):List AV:=[.int .i64 c.agent,.int .i64 c.slot]
@[go_sem] def Port.rv (c:Port):List RV:=[.int .i64 c.agent,.int .i64 c.slot]
@[go_sem] def Port.rvn (c:Port):List RV:=[.int .i64 c.agent,.int .i64 c.slot]
attribute [go_sem] Port.ds_eq
theorem Port.ds_len (c:Port):c.ds.length=2:=by rw [Port.ds_eq]; rfl
structure Agent where
 kind:Int
 level:Int
 value:Int
 data:List Int
 ports:List Port
def Agent.ds (c:Agent):List D:=[.int .i64 c.kind,.int .i64 c.level,.int .i64 c.value,.sl (c.data.map AB),.sl (c.ports.map Port.ds)]
theorem Agent.ds_eq (c:Agent):c.ds=[.int .i64 c.kind,.int .i64 c.level,.int .i64 c.value,.sl (c.data.map AB),.sl (c.ports.map Port.ds)] :=rfl
@[go_sem] def Agent.avs (c:Agent):List AV:=[.int .i64 c.kind,.int .i64 c.level,.int .i64 c.value,.ro (c.data.map AB),.ro (c.ports.map Port.ds)]
@[go_sem] def Agent.rv (c:Agent):List RV:=[.int .i64 c.kind,.int .i64 c.level,.int .i64 c.value,.ow (some 1) (c.data.map AB),.ow (some 2) (c.ports.map Port.ds)]
@[go_sem] def Agent.rvn (c:Agent):List RV:=[.int .i64 c.kind,.int .i64 c.level,.int .i64 c.value,.ow none (c.data.map AB),.ow none (c.ports.map Port.ds)]
attribute [go_sem] Agent.ds_eq
theorem Agent.ds_len (c:Agent):c.ds.length=5:=by rw [Agent.ds_eq]; rfl
def Agent.dz (c:Agent):List D:=[.int .i64 c.kind,.int .i64 c.level,.int .i64 c.value,.fz (c.data.map AB),.fz (c.ports.map Port.ds)]
@[go_sem] theorem Agent.dz_eq (c:Agent):c.dz=[.int .i64 c.kind,.int .i64 c.level,.int .i64 c.value,.fz (c.data.map AB),.fz (c.ports.map Port.ds)] :=rfl
theorem Agent.dz_len (c:Agent):c.dz.length=5:=rfl
theorem Agent.dz_fz (c:Agent):fzC c.ds=c.dz:=by rw [Agent.ds_eq]; rfl
theorem Agent.dz_ng (c:Agent):∀d ∈ c.ds,d≠ .gone :=by rw [Agent.ds_eq]; exact MF rfl
@[go_sem] theorem Agent.dz_er (l:List Agent):erR (l.map Agent.dz)=List.map Agent.ds l:=HX (fun c=>by rw [Agent.ds_eq]; simp only [Agent.dz,erC,er]) l
structure Net where
 agents:List Agent
def Net.ds (c:Net):List D:=[.sl (c.agents.map Agent.ds)]
theorem Net.ds_eq (c:Net):c.ds=[.sl (c.agents.map Agent.ds)] :=rfl
@[go_sem] def Net.avs (c:Net):List AV:=[.ro (c.agents.map Agent.ds)]
@[go_sem] def Net.rv (c:Net):List RV:=[.ow (some 5) (c.agents.map Agent.ds)]
@[go_sem] def Net.rvn (c:Net):List RV:=[.ow none (c.agents.map Agent.ds)]
attribute [go_sem] Net.ds_eq
theorem Net.ds_len (c:Net):c.ds.length=1:=by rw [Net.ds_eq]; rfl
def Net.dz (c:Net):List D:=[.fz (c.agents.map Agent.ds)]
@[go_sem] theorem Net.dz_eq (c:Net):c.dz=[.fz (c.agents.map Agent.ds)] :=rfl
theorem Net.dz_len (c:Net):c.dz.length=1:=rfl
theorem Net.dz_fz (c:Net):fzC c.ds=c.dz:=by rw [Net.ds_eq]; rfl
theorem Net.dz_ng (c:Net):∀d ∈ c.ds,d≠ .gone :=by rw [Net.ds_eq]; exact MF rfl
@[go_sem] theorem Net.dz_er (l:List Net):erR (l.map Net.dz)=List.map Net.ds l:=HX (fun c=>by rw [Net.ds_eq]; simp only [Net.dz,erC,er]) l
structure Wire where
 a:Port
 b:Port
def Wire.ds (c:Wire):List D:=[.int .i64 c.a.agent,.int .i64 c.a.slot,.int .i64 c.b.agent,.int .i64 c.b.slot]
theorem Wire.ds_eq (c:Wire):c.ds=[.int .i64 c.a.agent,.int .i64 c.a.slot,.int .i64 c.b.agent,.int .i64 c.b.slot] :=rfl
@[go_sem] def Wire.avs (c:Wire):List AV:=[.int .i64 c.a.agent,.int .i64 c.a.slot,.int .i64 c.b.agent,.int .i64 c.b.slot]
@[go_sem] def Wire.rv (c:Wire):List RV:=[.int .i64 c.a.agent,.int .i64 c.a.slot,.int .i64 c.b.agent,.int .i64 c.b.slot]
@[go_sem] def Wire.rvn (c:Wire):List RV:=[.int .i64 c.a.agent,.int .i64 c.a.slot,.int .i64 c.b.agent,.int .i64 c.b.slot]
attribute [go_sem] Wire.ds_eq
theorem Wire.ds_len (c:Wire):c.ds.length=4:=by rw [Wire.ds_eq]; rfl
def Agent.dm (c:Agent):List D:=[.int .i64 c.kind,.int .i64 c.level,.int .i64 c.value,.fz (c.data.map AB),.sl (c.ports.map Port.ds)]
@[go_sem] theorem Agent.dm_eq (c:Agent):c.dm=[.int .i64 c.kind,.int .i64 c.level,.int .i64 c.value,.fz (c.data.map AB),.sl (c.ports.map Port.ds)] :=rfl
def Ap:Nat→(List Int)→Int→(Int→Option Bool)→Option (Int)
 |0,_,_,_=>none
 |n+1,a0,p0_0,f1=>(if (decide (p0_0<(a0.length:Int)))=true then ((at? a0 p0_0).bind fun v5003=>((f1 v5003).bind fun v5005=>(if v5005=true then (some p0_0) else (Ap n a0 (IntKind.i64.wrap (p0_0+1)) f1)))) else (some (-1)))
def F1 (a0:List Int) (f1:(Int→Option Bool)):Option (Int):=
 (Ap fuel a0 0 f1)
def BC (a0:List Int) (f1:(Int→Option Bool)):Option (Bool):=
 ((F1 a0 f1).bind fun v2002=>(some (decide (0≤v2002))))
def KL (a0:Int):Option (Bool):=
 (if (decide (1≤a0))=true then (some (decide (a0≤12))) else (some false))
def F2 (a0:Int) (p1_0:Bool):Option (Int):=
 (if p1_0=true then (some 0) else ((atI [0,1,3,3,3,1,1,3,2,0,2,2,1] a0).bind fun v6002=>(some v6002)))
def F3 (a0:Int) (a1:Int) (p0_0:Bool):Option (Int):=
 (if p0_0=true then (some (IntKind.i64.wrap (a1+1))) else ((KL a0).bind fun v4001=>(if (!v4001)=true then (F2 a0 true) else (if (decide (a0=9))=true then (F2 a0 true) else (F2 a0 (!decide (a1=0)))))))
def Jr (a0:Int) (a1:Int):Option (Int):=
 (if (decide (a0=9))=true then (if (decide (0≤a1))=true then (F3 a0 a1 (decide (a1≤3))) else (F3 a0 a1 false)) else (F3 a0 a1 false))
def KM (a0:Int) (a1:Int):Option (Int):=
 (if (decide (a0=9))=true then (some (IntKind.i64.wrap (a1 - 1))) else (some 0))
def MG (a0:Int):Option (Bool):=
 ((KL a0).bind fun v2001=>(if v2001=true then (if (!decide (a0=1))=true then (if (!decide (a0=5))=true then (some (!decide (a0=6))) else (some false)) else (some false)) else (some false)))
def N7 (a0:Int):Option (Bool):=
 (if (decide (0≤a0))=true then (some (decide (a0≤8))) else (some false))
def Ht (a0:Int) (a1:Int):Option (Bool):=
 ((KL a0).bind fun v2001=>(if v2001=true then (if (decide (a1=0))=true then (some true) else ((MG a0).bind fun v2007=>(if v2007=true then ((N7 a1).bind fun v2010=>(some v2010)) else (some false)))) else (some false)))
def G4 (a0:Int):Option (Bool):=
 (if (decide (0≤a0))=true then (some (decide (a0<24))) else (some false))
def Gk (a0:Int):Option (Bool):=
 ((G4 a0).bind fun v2001=>(some (!v2001)))
def N8 (a0:Int):Option (Bool):=
 (if (decide ((-2147483648)≤a0))=true then (some (decide (a0≤2147483647))) else (some false))
def G5 (a0:Int):Option (Bool):=
 (if (decide (1≤a0))=true then (some (decide (a0≤6))) else (some false))
def A0 (p1_0:Bool) (p1_1:Bool):Option (Bool):=
 (if p1_0=true then (some p1_1) else (some false))
def C9 (a0:Agent) (p0_0:Bool):Option (Bool):=
 (if p0_0=true then (some false) else ((BC a0.data (fun y0=>Gk y0)).bind fun v5002=>(if (decide (a0.kind=6))=true then ((N8 a0.value).bind fun v8002=>(A0 v8002 (decide ((a0.data.length:Int)=0)))) else (if (decide (a0.kind=7))=true then ((G5 a0.value).bind fun v10002=>(A0 v10002 (decide ((a0.data.length:Int)=0)))) else (if (decide (a0.kind=8))=true then ((G5 a0.value).bind fun v12002=>(if v12002=true then (if (decide ((a0.data.length:Int)=1))=true then ((at? a0.data 0).bind fun v12012=>((N8 v12012).bind fun v12014=>(some v12014))) else (some false)) else (some false))) else (if (decide (a0.kind=9))=true then (if (decide (0≤a0.value))=true then (A0 (decide (a0.value<4)) (decide ((a0.data.length:Int)=0))) else (A0 false (decide ((a0.data.length:Int)=0)))) else (if (decide (a0.kind=10))=true then (if (decide (1≤(a0.data.length:Int)))=true then (if (decide ((a0.data.length:Int)≤4))=true then (A0 (decide (a0.value=0)) (!v5002)) else (A0 (decide (a0.value=0)) false)) else (A0 (decide (a0.value=0)) false)) else (if (decide (a0.kind=11))=true then (if (decide ((a0.data.length:Int)=2))=true then (A0 (decide (a0.value=0)) (!v5002)) else (A0 (decide (a0.value=0)) false)) else (if (decide (a0.kind=12))=true then ((G4 a0.value).bind fun v20002=>(A0 v20002 (decide ((a0.data.length:Int)=0)))) else (A0 (decide (a0.value=0)) (decide ((a0.data.length:Int)=0))))))))))))
def ID (a0:Agent):Option (Bool):=
 (if (decide ((a0.ports.length:Int)=0))=true then (C9 a0 true) else ((KM a0.kind (a0.ports.length:Int)).bind fun v2012=>((Jr a0.kind v2012).bind fun v2013=>(if (!decide (v2013=(a0.ports.length:Int)))=true then (C9 a0 true) else ((Ht a0.kind a0.level).bind fun v2024=>(C9 a0 (!v2024)))))))
def CK (a0:Int) (a1:Int) (a2:Int):Option (Bool):=
 (if (decide (a1≤a0))=true then (some (decide (a0≤a2))) else (some false))
def F4 (p2_0:Bool):Option (Int):=
 (if p2_0=true then (some 3) else (some 0))
def G6 (a0:Int) (p1_0:Bool):Option (Int):=
 (if p1_0=true then (some 2) else (if (decide (a0=2))=true then (F4 (decide (a0=2))) else (if (decide (a0=3))=true then (F4 (decide (a0=3))) else (if (decide (a0=4))=true then (F4 (decide (a0=4))) else (F4 (decide (a0=7)))))))
def F5 (a0:Int) (p0_0:Bool):Option (Int):=
 (if p0_0=true then (some 1) else (if (decide (a0=8))=true then (G6 a0 (decide (a0=8))) else (if (decide (a0=10))=true then (G6 a0 (decide (a0=10))) else (G6 a0 (decide (a0=11))))))
def Js (a0:Int) (a1:Int):Option (Int):=
 (if (decide (a0=9))=true then ((CK a1 0 3).bind fun v3001=>(if v3001=true then (some (IntKind.i64.wrap (1+a1))) else (some 0))) else (if (!decide (a1=0))=true then (some 0) else (if (decide (a0=1))=true then (F5 a0 (decide (a0=1))) else (if (decide (a0=5))=true then (F5 a0 (decide (a0=5))) else (if (decide (a0=6))=true then (F5 a0 (decide (a0=6))) else (F5 a0 (decide (a0=12))))))))
def JH (a0:Agent):Option (Int):=
 (if (decide (a0.kind=9))=true then (some (IntKind.i64.wrap ((a0.ports.length:Int) - 1))) else (some 0))
def Bm (p0_0:Bool):Option (Bool):=
 (if p0_0=true then (some true) else (some false))
def KN (a0:Int):Option (Bool):=
 (if (decide (a0=2))=true then (Bm (decide (a0=2))) else (if (decide (a0=3))=true then (Bm (decide (a0=3))) else (if (decide (a0=4))=true then (Bm (decide (a0=4))) else (if (decide (a0=7))=true then (Bm (decide (a0=7))) else (if (decide (a0=8))=true then (Bm (decide (a0=8))) else (if (decide (a0=9))=true then (Bm (decide (a0=9))) else (if (decide (a0=10))=true then (Bm (decide (a0=10))) else (if (decide (a0=11))=true then (Bm (decide (a0=11))) else (Bm (decide (a0=12)))))))))))
def Lh (a0:Int):Option (Bool):=
 ((CK a0 1 12).bind fun v2001=>(some v2001))
def Io (a0:Int) (a1:Int):Option (Bool):=
 ((KN a0).bind fun v2001=>(if v2001=true then ((CK a1 0 8).bind fun v3001=>(some v3001)) else ((Lh a0).bind fun v4001=>(if v4001=true then (some (decide (a1=0))) else (some false)))))
def KO (a0:Int):Option (Bool):=
 ((CK a0 0 23).bind fun v2001=>(some v2001))
def DA:Nat→Agent→Int→Option (Bool)
 |0,_,_=>none
 |n+1,a0,p2_0=>(if (decide (p2_0<(a0.data.length:Int)))=true then ((at? a0.data p2_0).bind fun v20005=>((KO v20005).bind fun v20007=>(if (!v20007)=true then (some false) else (DA n a0 (IntKind.i64.wrap (p2_0+1)))))) else (some true))
def CZ (a0:Agent) (p1_0:Bool):Option (Bool):=
 (if p1_0=true then (some false) else (DA fuel a0 0))
def GF (a0:Agent) (p0_0:Bool):Option (Bool):=
 (if p0_0=true then (if (!decide (a0.value=0))=true then (CZ a0 true) else (if (decide (a0.kind=11))=true then (if (!decide ((a0.data.length:Int)=2))=true then (CZ a0 true) else (if (decide (a0.kind=10))=true then ((CK (a0.data.length:Int) 1 4).bind fun v15032=>(CZ a0 (!v15032))) else (CZ a0 false))) else (if (decide (a0.kind=10))=true then ((CK (a0.data.length:Int) 1 4).bind fun v15032=>(CZ a0 (!v15032))) else (CZ a0 false)))) else (if (decide (a0.value=0))=true then (some (decide ((a0.data.length:Int)=0))) else (some false)))
def IE (a0:Agent):Option (Bool):=
 (if (decide (a0.kind=6))=true then (if (decide ((a0.data.length:Int)=0))=true then ((CK a0.value (-2147483648) 2147483647).bind fun v4011=>(some v4011)) else (some false)) else (if (decide (a0.kind=7))=true then (if (decide ((a0.data.length:Int)=0))=true then ((CK a0.value 1 6).bind fun v6011=>(some v6011)) else (some false)) else (if (decide (a0.kind=8))=true then (if (decide ((a0.data.length:Int)=1))=true then ((CK a0.value 1 6).bind fun v8011=>(if v8011=true then ((at? a0.data 0).bind fun v8018=>((CK v8018 (-2147483648) 2147483647).bind fun v8020=>(some v8020))) else (some false))) else (some false)) else (if (decide (a0.kind=9))=true then (if (decide ((a0.data.length:Int)=0))=true then ((CK a0.value 0 3).bind fun v10011=>(some v10011)) else (some false)) else (if (decide (a0.kind=12))=true then (if (decide ((a0.data.length:Int)=0))=true then ((KO a0.value).bind fun v12011=>(some v12011)) else (some false)) else (if (decide (a0.kind=10))=true then (GF a0 (decide (a0.kind=10))) else (GF a0 (decide (a0.kind=11)))))))))
def KH (a0:Agent):Option (Bool):=
 ((JH a0).bind fun v2005=>((Js a0.kind v2005).bind fun v2006=>(if (decide (0<v2006))=true then (if (decide ((a0.ports.length:Int)=v2006))=true then ((Io a0.kind a0.level).bind fun v3020=>(if v3020=true then ((IE a0).bind fun v3024=>(some v3024)) else (some false))) else (some false)) else (some false))))
end Go.Proofs.YtclmbjbbojdojaaGreat.Ab
