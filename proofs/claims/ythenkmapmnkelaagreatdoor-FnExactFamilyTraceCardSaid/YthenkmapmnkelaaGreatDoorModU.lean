/- Data of the program as Lean types. -/
import Derived.Test.YthenkmapmnkelaaGreatDoorAbY
import Derived.Test.YthenkmapmnkelaaGreatDoorMod
namespace Go.Proofs.YthenkmapmnkelaaGreatDoor.Ab
set_option linter.unusedVariables false
set_option linter.unusedSimpArgs false
set_option maxRecDepth 20000
set_option maxHeartbeats 4000000
open Go.RowKit
structure Port where
 agent:Int
 slot:Int
def Port.ds (c:Port):List D:=[.int .i64 c.agent,.int .i64 c.slot]
theorem Port.ds_eq (c:Port):c.ds=[.int .i64 c.agent,.int .i64 c.slot] :=rfl
@[go_sem] def Port.avs (c:Port):List AV:=[.int .i64 c.agent,.int .i64 c.slot]
@[go_sem] def Port.rv (c:Port):List RV:=[.int .i64 c.agent,.int .i64 c.slot]
@[go_sem] def Port.rvn (c:Port):List RV:=[.int .i64 c.agent,.int .i64 c.slot]
attribute [go_sem] Port.ds_eq
theorem Port.ds_len (c:Port):c.ds.length=2:=by rw [Port.ds_eq]; rfl
structure Agent where
 kind:Int
 level:Int
 value:Int
 data:List Int
 ports:List Port
def Agent.ds (c:Agent):List D:=[.int .i64 c.kind,.int .i64 c.level,.int .i64 c.value,.sl (c.data.map AD),.sl (c.ports.map Port.ds)]
theorem Agent.ds_eq (c:Agent):c.ds=[.int .i64 c.kind,.int .i64 c.level,.int .i64 c.value,.sl (c.data.map AD),.sl (c.ports.map Port.ds)] :=rfl
@[go_sem] def Agent.avs (c:Agent):List AV:=[.int .i64 c.kind,.int .i64 c.level,.int .i64 c.value,.ro (c.data.map AD),.ro (c.ports.map Port.ds)]
@[go_sem] def Agent.rv (c:Agent):List RV:=[.int .i64 c.kind,.int .i64 c.level,.int .i64 c.value,.ow (some 1) (c.data.map AD),.ow (some 2) (c.ports.map Port.ds)]
@[go_sem] def Agent.rvn (c:Agent):List RV:=[.int .i64 c.kind,.int .i64 c.level,.int .i64 c.value,.ow none (c.data.map AD),.ow none (c.ports.map Port.ds)]
attribute [go_sem] Agent.ds_eq
theorem Agent.ds_len (c:Agent):c.ds.length=5:=by rw [Agent.ds_eq]; rfl
def Agent.dz (c:Agent):List D:=[.int .i64 c.kind,.int .i64 c.level,.int .i64 c.value,.fz (c.data.map AD),.fz (c.ports.map Port.ds)]
@[go_sem] theorem Agent.dz_eq (c:Agent):c.dz=[.int .i64 c.kind,.int .i64 c.level,.int .i64 c.value,.fz (c.data.map AD),.fz (c.ports.map Port.ds)] :=rfl
theorem Agent.dz_fz (c:Agent):fzC c.ds=c.dz:=by rw [Agent.ds_eq]; rfl
theorem Agent.dz_ng (c:Agent):∀d ∈ c.ds,d≠ .gone :=by rw [Agent.ds_eq]; exact Od rfl
@[go_sem] theorem Agent.dz_er (l:List Agent):erR (l.map Agent.dz)=List.map Agent.ds l:=H2 (fun c=>by rw [Agent.ds_eq]; simp only [Agent.dz,erC,er]) l
structure Net where
 agents:List Agent
def Net.ds (c:Net):List D:=[.sl (c.agents.map Agent.ds)]
theorem Net.ds_eq (c:Net):c.ds=[.sl (c.agents.map Agent.ds)] :=rfl
@[go_sem] def Net.avs (c:Net):List AV:=[.ro (c.agents.map Agent.ds)]
@[go_sem] def Net.rv (c:Net):List RV:=[.ow (some 5) (c.agents.map Agent.ds)]
@[go_sem] def Net.rvn (c:Net):List RV:=[.ow none (c.agents.map Agent.ds)]
attribute [go_sem] Net.ds_eq
theorem Net.ds_len (c:Net):c.ds.length=1:=by rw [Net.ds_eq]; rfl
def Net.dz (c:Net):List D:=[.fz (c.agents.map Agent.ds)]
@[go_sem] theorem Net.dz_eq (c:Net):c.dz=[.fz (c.agents.map Agent.ds)] :=rfl
theorem Net.dz_fz (c:Net):fzC c.ds=c.dz:=by rw [Net.ds_eq]; rfl
theorem Net.dz_ng (c:Net):∀d ∈ c.ds,d≠ .gone :=by rw [Net.ds_eq]; exact Od rfl
@[go_sem] theorem Net.dz_er (l:List Net):erR (l.map Net.dz)=List.map Net.ds l:=H2 (fun c=>by rw [Net.ds_eq]; simp only [Net.dz,erC,er]) l
@[go_sem] theorem Port.ds_er (l:List Port):erR (l.map Port.ds)=List.map Port.ds l:=H2 (fun c=>by rw [Port.ds_eq]; simp only [erC,er]) l
def Agent.dm (c:Agent):List D:=[.int .i64 c.kind,.int .i64 c.level,.int .i64 c.value,.fz (c.data.map AD),.sl (c.ports.map Port.ds)]
@[go_sem] theorem Agent.dm_eq (c:Agent):c.dm=[.int .i64 c.kind,.int .i64 c.level,.int .i64 c.value,.fz (c.data.map AD),.sl (c.ports.map Port.ds)] :=rfl
theorem Agent.dm_len (c:Agent):c.dm.length=5:=rfl
@[go_sem] theorem Agent.dm_er (l:List Agent):erR (l.map Agent.dm)=List.map Agent.ds l:=H2 (fun c=>by rw [Agent.ds_eq]; simp only [Agent.dm,erC,er,Port.ds_er]) l
def DG:Nat→(List Port)→Int→Int→Option (Int × (List Port))
 |0,_,_,_=>none
 |n+1,v,w,u=>if decide (u<(v.length:Int)) then (at? v u).bind fun x=>(Br v u (⟨w,x.slot⟩:Port)).bind fun v5005_15=>(at? v5005_15 u).bind fun y=>(Br v5005_15 u (⟨y.agent,(IntKind.i64.wrap (w+1))⟩:Port)).bind fun v7005_16=>DG n v7005_16 (IntKind.i64.wrap ((IntKind.i64.wrap (w+1))+1)) (IntKind.i64.wrap (u+1)) else some (w,v)
def IP (u:List Port) (v:Int):Option (Int × (List Port)):=
 DG fuel u v 0
def Ck:Nat→(List Agent)→Int→Int→Option (Int × (List Agent))
 |0,_,_,_=>none
 |n+1,y,v,u=>if decide (u<(y.length:Int)) then (at? y u).bind fun z=>(Br y u (⟨v,z.level,z.value,z.data,z.ports⟩:Agent)).bind fun v5005_43=>(at? v5005_43 u).bind fun b=>(Br v5005_43 u (⟨b.kind,(IntKind.i64.wrap (v+1)),b.value,b.data,b.ports⟩:Agent)).bind fun v7005_44=>(at? v7005_44 u).bind fun c=>(Br v7005_44 u (⟨c.kind,c.level,(IntKind.i64.wrap ((IntKind.i64.wrap (v+1))+1)),c.data,c.ports⟩:Agent)).bind fun v9005_45=>(at? v9005_45 u).bind fun w=>(Da w.data (IntKind.i64.wrap ((IntKind.i64.wrap ((IntKind.i64.wrap (v+1))+1))+1))).bind fun d=>(Br v9005_45 u (⟨w.kind,w.level,w.value,d.2,w.ports⟩:Agent)).bind fun v11006_47=>(at? v11006_47 u).bind fun x=>(IP x.ports d.1).bind fun e=>(Br v11006_47 u (⟨x.kind,x.level,x.value,x.data,e.2⟩:Agent)).bind fun v12006_48=>Ck n v12006_48 e.1 (IntKind.i64.wrap (u+1)) else some (v,y)
def GK (u:List Agent) (v:Int):Option (Int × (List Agent)):=
 Ck fuel u v 0
def It (v:Net) (w:Int):Option (Int × (List Agent)):=
 (GK v.agents w).bind fun u=>some (u.1,u.2)
def Do:Nat→(List Net)→Int→Int→Option (Int × (List Net))
 |0,_,_,_=>none
 |n+1,u,w,v=>if decide (v<(u.length:Int)) then (at? u v).bind fun y=>(GK y.agents w).bind fun x=>(Br u v (⟨x.2⟩:Net)).bind fun v5006_8=>Do n v5006_8 x.1 (IntKind.i64.wrap (v+1)) else some (w,u)
def Hu (u:List Net) (v:Int):Option (Int × (List Net)):=
 Do fuel u v 0
def Kt (u:List Port) (v:Int):Option Int:=
 if decide ((IntKind.i64.wrap (v - (u.length:Int)))<0) then some (-1) else some (IntKind.i64.wrap (v - (u.length:Int)))
def Iz (u:Agent) (x:Int):Option Int:=
 (JP u.data x).bind fun v=>if decide (v<0) then some (-1) else (Kt u.ports v).bind fun w=>if decide (w<0) then some (-1) else some w
def Eh:Nat→(List Agent)→Int→Int→Option Int
 |0,_,_,_=>none
 |n+1,u,w,v=>if decide (v<(u.length:Int)) then (at? u v).bind fun y=>(Iz y w).bind fun x=>if decide (x<0) then some (-1) else Eh n u x (IntKind.i64.wrap (v+1)) else some w
def JT (u:List Agent) (v:Int):Option Int:=
 if decide ((IntKind.i64.wrap (v - (u.length:Int)))<0) then some (-1) else Eh fuel u (IntKind.i64.wrap (v - (u.length:Int))) 0
def Ld (v:Net) (w:Int):Option Int:=
 (JT v.agents w).bind fun u=>if decide (u<0) then some (-1) else some u
def F9:Nat→(List Net)→Int→Int→Option Int
 |0,_,_,_=>none
 |n+1,u,w,v=>if decide (v<(u.length:Int)) then (at? u v).bind fun y=>(Ld y w).bind fun x=>if decide (x<0) then some (-1) else F9 n u x (IntKind.i64.wrap (v+1)) else some w
def Mu (u:List Net) (v:Int):Option Int:=
 if decide ((IntKind.i64.wrap (v - (u.length:Int)))<0) then some (-1) else F9 fuel u (IntKind.i64.wrap (v - (u.length:Int))) 0
def Ku (u:Port):Option Port:=
 some u
def FI:Nat→(List Port)→(List Port)→Int→Option ((List Port))
 |0,_,_,_=>none
 |n+1,v,w,u=>if decide (u<(v.length:Int)) then (at? v u).bind fun x=>(Ku x).bind fun y=>(at? w u).bind fun z=>(Br w u y).bind fun v6008_12=>FI n v v6008_12 (IntKind.i64.wrap (u+1)) else some w
def Kv (u:List Port):Option ((List Port)):=
 (Pm (u.length:Int) (⟨0,0⟩:Port)).bind fun v=>FI fuel u v 0
def I0 (u:Agent):Option Agent:=
 (Ea u.data).bind fun v=>(Kv u.ports).bind fun w=>some (⟨u.kind,u.level,u.value,v,w⟩:Agent)
def Ei:Nat→(List Agent)→(List Agent)→Int→Option ((List Agent))
 |0,_,_,_=>none
 |n+1,v,w,u=>if decide (u<(v.length:Int)) then (at? v u).bind fun x=>(I0 x).bind fun y=>(at? w u).bind fun z=>(Br w u y).bind fun v6008_12=>Ei n v v6008_12 (IntKind.i64.wrap (u+1)) else some w
def JU (u:List Agent):Option ((List Agent)):=
 (Pm (u.length:Int) (⟨0,0,0,[],[]⟩:Agent)).bind fun v=>Ei fuel u v 0
def HC (u:Net):Option Net:=
 (JU u.agents).bind fun v=>some (⟨v⟩:Net)
def GA:Nat→(List Net)→(List Net)→Int→Option ((List Net))
 |0,_,_,_=>none
 |n+1,v,w,u=>if decide (u<(v.length:Int)) then (at? v u).bind fun x=>(HC x).bind fun y=>(at? w u).bind fun z=>(Br w u y).bind fun v6008_12=>GA n v v6008_12 (IntKind.i64.wrap (u+1)) else some w
def HA (u:List Net):Option ((List Net)):=
 (Pm (u.length:Int) (⟨[]⟩:Net)).bind fun v=>GA fuel u v 0
def Kw (u:Port) (v:Port):Option Bool:=
 if !decide (u.agent=v.agent) then some false else if !decide (u.slot=v.slot) then some false else some true
def FJ:Nat→(List Port)→(List Port)→Int→Option Bool
 |0,_,_,_=>none
 |n+1,v,w,u=>if decide (u<(v.length:Int)) then (at? v u).bind fun x=>(at? w u).bind fun y=>(Kw x y).bind fun z=>if !z then some false else FJ n v w (IntKind.i64.wrap (u+1)) else some true
def Kx (u:List Port) (v:List Port):Option Bool:=
 if !decide ((u.length:Int)=(v.length:Int)) then some false else FJ fuel u v 0
def I1 (u:Agent) (v:Agent):Option Bool:=
 if !decide (u.kind=v.kind) then some false else if !decide (u.level=v.level) then some false else if !decide (u.value=v.value) then some false else (D0 u.data v.data).bind fun w=>if !w then some false else (Kx u.ports v.ports).bind fun x=>if !x then some false else some true
def Ej:Nat→(List Agent)→(List Agent)→Int→Option Bool
 |0,_,_,_=>none
 |n+1,v,w,u=>if decide (u<(v.length:Int)) then (at? v u).bind fun x=>(at? w u).bind fun y=>(I1 x y).bind fun z=>if !z then some false else Ej n v w (IntKind.i64.wrap (u+1)) else some true
def JV (u:List Agent) (v:List Agent):Option Bool:=
 if !decide ((u.length:Int)=(v.length:Int)) then some false else Ej fuel u v 0
def J2 (u:Net) (v:Net):Option Bool:=
 (JV u.agents v.agents).bind fun w=>if !w then some false else some true
def GB:Nat→(List Net)→(List Net)→Int→Option Bool
 |0,_,_,_=>none
 |n+1,v,w,u=>if decide (u<(v.length:Int)) then (at? v u).bind fun x=>(at? w u).bind fun y=>(J2 x y).bind fun z=>if !z then some false else GB n v w (IntKind.i64.wrap (u+1)) else some true
def Kj (u:List Net) (v:List Net):Option Bool:=
 if !decide ((u.length:Int)=(v.length:Int)) then some false else GB fuel u v 0
def FZ (u:List Int):Option ((List Int)):=
 (app? [] u).bind fun v=>some v
def CE (u:Agent):Option Agent:=
 (FZ u.data).bind fun v=>(app? [] u.ports).bind fun w=>some (⟨u.kind,u.level,u.value,v,w⟩:Agent)
def Bi:Nat→(List Int)→Int→(Int→Option Bool)→Option Int
 |0,_,_,_=>none
 |n+1,v,u,f1=>if decide (u<(v.length:Int)) then (at? v u).bind fun w=>(f1 w).bind fun x=>if x then some u else Bi n v (IntKind.i64.wrap (u+1)) f1 else some (-1)
def FK (u:List Int) (f1:(Int→Option Bool)):Option Int:=
 Bi fuel u 0 f1
def Bg (u:List Int) (f1:(Int→Option Bool)):Option Bool:=
 (FK u f1).bind fun v=>some (decide (0≤v))
def JW (u:Int):Option Bool:=
 if decide (1≤u) then some (decide (u≤12)) else some false
def FL (u:Int) (v:Bool):Option Int:=
 if v then some 0 else (atI [0,1,3,3,3,1,1,3,2,0,2,2,1] u).bind fun w=>some w
def FM (u:Int) (v:Int) (w:Bool):Option Int:=
 if w then some (IntKind.i64.wrap (v+1)) else (JW u).bind fun x=>if !x then FL u true else if decide (u=9) then FL u true else FL u (!decide (v=0))
def I2 (v:Int) (u:Int):Option Int:=
 if decide (v=9) then if decide (0≤u) then FM v u (decide (u≤3)) else FM v u false else FM v u false
def JX (u:Int) (v:Int):Option Int:=
 if decide (u=9) then some (IntKind.i64.wrap (v - 1)) else some 0
def FD (u:Int):Option Bool:=
 (JW u).bind fun v=>if v then if !decide (u=1) then if !decide (u=5) then some (!decide (u=6)) else some false else some false else some false
def Hv (u:Int):Option Bool:=
 if decide (0≤u) then some (decide (u≤8)) else some false
def EN (u:Int) (v:Int):Option Bool:=
 (JW u).bind fun w=>if w then if decide (v=0) then some true else (FD u).bind fun x=>if x then (Hv v).bind fun y=>some y else some false else some false
def GL (u:Int):Option Bool:=
 if decide (0≤u) then some (decide (u<24)) else some false
def GC (u:Int):Option Bool:=
 (GL u).bind fun v=>some (!v)
def Ni (u:Int):Option Bool:=
 if decide ((-2147483648)≤u) then some (decide (u≤2147483647)) else some false
def GM (u:Int):Option Bool:=
 if decide (1≤u) then some (decide (u≤6)) else some false
def Ap (u:Bool) (v:Bool):Option Bool:=
 if u then some v else some false
def Cl (u:Agent) (w:Bool):Option Bool:=
 if w then some false else (Bg u.data (fun x=>GC x)).bind fun v=>if decide (u.kind=6) then (Ni u.value).bind fun y=>Ap y (decide ((u.data.length:Int)=0)) else if decide (u.kind=7) then (GM u.value).bind fun z=>Ap z (decide ((u.data.length:Int)=0)) else if decide (u.kind=8) then (GM u.value).bind fun b=>if b then if decide ((u.data.length:Int)=1) then (at? u.data 0).bind fun c=>(Ni c).bind fun d=>some d else some false else some false else if decide (u.kind=9) then if decide (0≤u.value) then Ap (decide (u.value<4)) (decide ((u.data.length:Int)=0)) else Ap false (decide ((u.data.length:Int)=0)) else if decide (u.kind=10) then if decide (1≤(u.data.length:Int)) then if decide ((u.data.length:Int)≤4) then Ap (decide (u.value=0)) (!v) else Ap (decide (u.value=0)) false else Ap (decide (u.value=0)) false else if decide (u.kind=11) then if decide ((u.data.length:Int)=2) then Ap (decide (u.value=0)) (!v) else Ap (decide (u.value=0)) false else if decide (u.kind=12) then (GL u.value).bind fun e=>Ap e (decide ((u.data.length:Int)=0)) else Ap (decide (u.value=0)) (decide ((u.data.length:Int)=0))
def HY (u:Agent):Option Bool:=
 if decide ((u.ports.length:Int)=0) then Cl u true else (JX u.kind (u.ports.length:Int)).bind fun v=>(I2 u.kind v).bind fun w=>if !decide (w=(u.ports.length:Int)) then Cl u true else (EN u.kind u.level).bind fun x=>Cl u (!x)
mutual
def CY:Nat→(List Agent)→Int→Option Bool
 |0,_,_=>none
 |n+1,v,u=>if decide (u<(v.length:Int)) then (at? v u).bind fun w=>(HY w).bind fun x=>if !x then ED n v u true else ED n v u (!((decide (w.kind=1)) == (decide (u=0)))) else some true
def ED:Nat→(List Agent)→Int→Bool→Option Bool
 |0,_,_,_=>none
 |n+1,u,v,w=>if w then some false else CY n u (IntKind.i64.wrap (v+1))
end
def GD (u:List Agent) (v:Bool):Option Bool:=
 if v then some false else CY fuel u 0
def IQ (u:List Agent):Option Bool:=
 if decide ((u.length:Int)<1) then GD u true else GD u (decide (600<(u.length:Int)))
def A7:Nat→(List Port)→Int→(Port→Option Bool)→Option Int
 |0,_,_,_=>none
 |n+1,v,u,f1=>if decide (u<(v.length:Int)) then (at? v u).bind fun w=>(f1 w).bind fun x=>if x then some u else A7 n v (IntKind.i64.wrap (u+1)) f1 else some (-1)
def Dg (u:List Port) (f1:(Port→Option Bool)):Option Int:=
 A7 fuel u 0 f1
def B5 (u:List Port) (f1:(Port→Option Bool)):Option Bool:=
 (Dg u f1).bind fun v=>some (decide (0≤v))
mutual
def CF:Nat→Net→(List Port)→Int→Option ((List Port))
 |0,_,_,_=>none
 |n+1,u,w,v=>if decide (v<(u.agents.length:Int)) then (at? u.agents v).bind fun x=>DH n u v x w 0 else some w
def DH:Nat→Net→Int→Agent→(List Port)→Int→Option ((List Port))
 |0,_,_,_,_,_=>none
 |n+1,w,u,x,y,v=>if decide (v<(x.ports.length:Int)) then (app? y [(⟨u,v⟩:Port)]).bind fun z=>DH n w u x z (IntKind.i64.wrap (v+1)) else CF n w y (IntKind.i64.wrap (u+1))
end
def IR (u:Net):Option ((List Port)):=
 CF fuel u [] 0
def Bf (v:Net) (u:Port):Option Port:=
 (at? v.agents u.agent).bind fun w=>(at? w.ports u.slot).bind fun x=>some x
def Ky (v:List Agent) (u:Port):Option Bool:=
 if decide (0≤u.agent) then if decide (u.agent<(v.length:Int)) then if decide (0≤u.slot) then (at? v u.agent).bind fun w=>some (decide (u.slot<(w.ports.length:Int))) else some false else some false else some false
def HZ (u:Port) (w:Net):Option Bool:=
 (Bf w u).bind fun v=>if decide (v.agent=u.agent)&&decide (v.slot=u.slot) then some true else (Ky w.agents v).bind fun y=>if !y then some true else (Bf w v).bind fun x=>some (!(decide (x.agent=u.agent)&&decide (x.slot=u.slot)))
def EA (u:Net):Option Bool:=
 (IQ u.agents).bind fun v=>if !v then some false else (IR u).bind fun w=>(B5 w (fun x=>HZ x u)).bind fun y=>some (!y)
def CU (u:Int) (v:Int) (w:Int):Option Bool:=
 if decide (v≤u) then some (decide (u≤w)) else some false
def Dm (u:Agent):Option Int:=
 if decide (u.kind=9) then some (IntKind.i64.wrap ((u.ports.length:Int) - 1)) else some 0
def FN (u:Bool):Option Int:=
 if u then some 3 else some 0
def GN (u:Int) (v:Bool):Option Int:=
 if v then some 2 else if decide (u=2) then FN (decide (u=2)) else if decide (u=3) then FN (decide (u=3)) else if decide (u=4) then FN (decide (u=4)) else FN (decide (u=7))
def FO (u:Int) (v:Bool):Option Int:=
 if v then some 1 else if decide (u=8) then GN u (decide (u=8)) else if decide (u=10) then GN u (decide (u=10)) else GN u (decide (u=11))
def I3 (u:Int) (v:Int):Option Int:=
 if decide (u=9) then (CU v 0 3).bind fun w=>if w then some (IntKind.i64.wrap (1+v)) else some 0 else if !decide (v=0) then some 0 else if decide (u=1) then FO u (decide (u=1)) else if decide (u=5) then FO u (decide (u=5)) else if decide (u=6) then FO u (decide (u=6)) else FO u (decide (u=12))
def BF (u:Bool):Option Bool:=
 if u then some true else some false
def Ee (u:Int):Option Bool:=
 if decide (u=2) then BF (decide (u=2)) else if decide (u=3) then BF (decide (u=3)) else if decide (u=4) then BF (decide (u=4)) else if decide (u=7) then BF (decide (u=7)) else if decide (u=8) then BF (decide (u=8)) else if decide (u=9) then BF (decide (u=9)) else if decide (u=10) then BF (decide (u=10)) else if decide (u=11) then BF (decide (u=11)) else BF (decide (u=12))
def Kz (u:Int):Option Bool:=
 (CU u 1 12).bind fun v=>some v
def FF (u:Int) (v:Int):Option Bool:=
 (Ee u).bind fun w=>if w then (CU v 0 8).bind fun x=>some x else (Kz u).bind fun y=>if y then some (decide (v=0)) else some false
def JY (u:Int):Option Bool:=
 (CU u 0 23).bind fun v=>some v
def Cm:Nat→Agent→Int→Option Bool
 |0,_,_=>none
 |n+1,u,v=>if decide (v<(u.data.length:Int)) then (at? u.data v).bind fun w=>(JY w).bind fun x=>if !x then some false else Cm n u (IntKind.i64.wrap (v+1)) else some true
def CJ (u:Agent) (v:Bool):Option Bool:=
 if v then some false else Cm fuel u 0
def Fb (u:Agent) (w:Bool):Option Bool:=
 if w then if !decide (u.value=0) then CJ u true else if decide (u.kind=11) then if !decide ((u.data.length:Int)=2) then CJ u true else if decide (u.kind=10) then (CU (u.data.length:Int) 1 4).bind fun v=>CJ u (!v) else CJ u false else if decide (u.kind=10) then (CU (u.data.length:Int) 1 4).bind fun v=>CJ u (!v) else CJ u false else if decide (u.value=0) then some (decide ((u.data.length:Int)=0)) else some false
def Ha (u:Agent):Option Bool:=
 if decide (u.kind=6) then if decide ((u.data.length:Int)=0) then (CU u.value (-2147483648) 2147483647).bind fun v=>some v else some false else if decide (u.kind=7) then if decide ((u.data.length:Int)=0) then (CU u.value 1 6).bind fun w=>some w else some false else if decide (u.kind=8) then if decide ((u.data.length:Int)=1) then (CU u.value 1 6).bind fun x=>if x then (at? u.data 0).bind fun y=>(CU y (-2147483648) 2147483647).bind fun z=>some z else some false else some false else if decide (u.kind=9) then if decide ((u.data.length:Int)=0) then (CU u.value 0 3).bind fun b=>some b else some false else if decide (u.kind=12) then if decide ((u.data.length:Int)=0) then (JY u.value).bind fun c=>some c else some false else if decide (u.kind=10) then Fb u (decide (u.kind=10)) else Fb u (decide (u.kind=11))
def JZ (u:Agent):Option Bool:=
 (Dm u).bind fun w=>(I3 u.kind w).bind fun v=>if decide (0<v) then if decide ((u.ports.length:Int)=v) then (FF u.kind u.level).bind fun x=>if x then (Ha u).bind fun y=>some y else some false else some false else some false
mutual
def CZ:Nat→(List Agent)→Int→Option Bool
 |0,_,_=>none
 |n+1,v,u=>if decide (u<(v.length:Int)) then (at? v u).bind fun w=>(JZ w).bind fun x=>if !x then EE n v u true else (at? v u).bind fun y=>EE n v u (!((decide (y.kind=1)) == (decide (u=0)))) else some true
def EE:Nat→(List Agent)→Int→Bool→Option Bool
 |0,_,_,_=>none
 |n+1,u,v,w=>if w then some false else CZ n u (IntKind.i64.wrap (v+1))
end
def IS (u:List Agent):Option Bool:=
 (CU (u.length:Int) 1 600).bind fun v=>if !v then some false else CZ fuel u 0
def K0 (v:List Agent) (u:Port):Option Bool:=
 (CU u.agent 0 (IntKind.i64.wrap ((v.length:Int) - 1))).bind fun w=>if w then (at? v u.agent).bind fun x=>(CU u.slot 0 (IntKind.i64.wrap ((x.ports.length:Int) - 1))).bind fun y=>some y else some false
mutual
def Ek:Nat→Net→Int→Option Bool
 |0,_,_=>none
 |n+1,u,v=>if decide (v<(u.agents.length:Int)) then (at? u.agents v).bind fun w=>E9 n u v w 0 else some true
def E9:Nat→Net→Int→Agent→Int→Option Bool
 |0,_,_,_,_=>none
 |n+1,v,w,x,u=>if decide (u<(x.ports.length:Int)) then (at? x.ports u).bind fun y=>if decide (y.agent=w)&&decide (y.slot=u) then FA n v w u x true else (K0 v.agents y).bind fun b=>if !b then FA n v w u x true else (at? v.agents y.agent).bind fun c=>(at? c.ports y.slot).bind fun z=>FA n v w u x (!(decide (z.agent=w)&&decide (z.slot=u))) else Ek n v (IntKind.i64.wrap (w+1))
def FA:Nat→Net→Int→Int→Agent→Bool→Option Bool
 |0,_,_,_,_,_=>none
 |n+1,u,v,w,x,y=>if y then some false else E9 n u v x (IntKind.i64.wrap (w+1))
end
def Lf (u:Net):Option Bool:=
 (IS u.agents).bind fun v=>if !v then some false else Ek fuel u 0
def BG:Nat→(List Net)→Int→(Net→Option Bool)→Option Int
 |0,_,_,_=>none
 |n+1,v,u,f1=>if decide (u<(v.length:Int)) then (at? v u).bind fun w=>(f1 w).bind fun x=>if x then some u else BG n v (IntKind.i64.wrap (u+1)) f1 else some (-1)
def EG (u:List Net) (f1:(Net→Option Bool)):Option Int:=
 BG fuel u 0 f1
def CG (u:List Net) (f1:(Net→Option Bool)):Option Bool:=
 (EG u f1).bind fun v=>some (decide (0≤v))
def FP (u:Net):Option Bool:=
 (EA u).bind fun v=>some (!v)
def Ey (u:List Net):Option Bool:=
 if decide ((u.length:Int)≤24) then (CG u (fun v=>FP v)).bind fun w=>some (!w) else some false
def FQ:Nat→(List Net)→Int→Option Bool
 |0,_,_=>none
 |n+1,u,v=>if decide (v<(u.length:Int)) then (at? u v).bind fun w=>(Lf w).bind fun x=>if !x then some false else FQ n u (IntKind.i64.wrap (v+1)) else some true
def Kq (u:List Net):Option Bool:=
 if decide (24<(u.length:Int)) then some false else FQ fuel u 0
end Go.Proofs.YthenkmapmnkelaaGreatDoor.Ab
