/- Data of the program as Lean types. -/
import Derived.Test.YtjnifengdhcojaaGreatDoorAbY
import Derived.Test.YtjnifengdhcojaaGreatDoorMod
namespace Go.Proofs.YtjnifengdhcojaaGreatDoor.Ab
set_option linter.unusedVariables false
set_option linter.unusedSimpArgs false
set_option maxRecDepth 20000
set_option maxHeartbeats 4000000
open Go.RowKit
structure Port where
 agent:Int
 slot:Int
def Port.ds (c:Port):List D:=[.int .i64 c.agent,.int .i64 c.slot]
theorem Port.ds_eq (c:Port):c.ds=[.int .i64 c.agent,.int .i64 c.slot] :=rfl
@[go_sem] def Port.avs (c:Port):List AV:=[.int .i64 c.agent,.int .i64 c.slot]
@[go_sem] def Port.rv (c:Port):List RV:=[.int .i64 c.agent,.int .i64 c.slot]
@[go_sem] def Port.rvn (c:Port):List RV:=[.int .i64 c.agent,.int .i64 c.slot]
attribute [go_sem] Port.ds_eq
theorem Port.ds_len (c:Port):c.ds.length=2:=by rw [Port.ds_eq]; rfl
structure Agent where
 kind:Int
 level:Int
 value:Int
 data:List Int
 ports:List Port
def Agent.ds (c:Agent):List D:=[.int .i64 c.kind,.int .i64 c.level,.int .i64 c.value,.sl (c.data.map AD),.sl (c.ports.map Port.ds)]
theorem Agent.ds_eq (c:Agent):c.ds=[.int .i64 c.kind,.int .i64 c.level,.int .i64 c.value,.sl (c.data.map AD),.sl (c.ports.map Port.ds)] :=rfl
@[go_sem] def Agent.avs (c:Agent):List AV:=[.int .i64 c.kind,.int .i64 c.level,.int .i64 c.value,.ro (c.data.map AD),.ro (c.ports.map Port.ds)]
@[go_sem] def Agent.rv (c:Agent):List RV:=[.int .i64 c.kind,.int .i64 c.level,.int .i64 c.value,.ow (some 1) (c.data.map AD),.ow (some 2) (c.ports.map Port.ds)]
@[go_sem] def Agent.rvn (c:Agent):List RV:=[.int .i64 c.kind,.int .i64 c.level,.int .i64 c.value,.ow none (c.data.map AD),.ow none (c.ports.map Port.ds)]
attribute [go_sem] Agent.ds_eq
theorem Agent.ds_len (c:Agent):c.ds.length=5:=by rw [Agent.ds_eq]; rfl
def Agent.dz (c:Agent):List D:=[.int .i64 c.kind,.int .i64 c.level,.int .i64 c.value,.fz (c.data.map AD),.fz (c.ports.map Port.ds)]
@[go_sem] theorem Agent.dz_eq (c:Agent):c.dz=[.int .i64 c.kind,.int .i64 c.level,.int .i64 c.value,.fz (c.data.map AD),.fz (c.ports.map Port.ds)] :=rfl
theorem Agent.dz_len (c:Agent):c.dz.length=5:=rfl
theorem Agent.dz_fz (c:Agent):fzC c.ds=c.dz:=by rw [Agent.ds_eq]; rfl
theorem Agent.dz_ng (c:Agent):∀d ∈ c.ds,d≠ .gone :=by rw [Agent.ds_eq]; exact LR rfl
@[go_sem] theorem Agent.dz_er (l:List Agent):erR (l.map Agent.dz)=List.map Agent.ds l:=H5 (fun c=>by rw [Agent.ds_eq]; simp only [Agent.dz,erC,er]) l
structure Net where
 agents:List Agent
def Net.ds (c:Net):List D:=[.sl (c.agents.map Agent.ds)]
theorem Net.ds_eq (c:Net):c.ds=[.sl (c.agents.map Agent.ds)] :=rfl
@[go_sem] def Net.avs (c:Net):List AV:=[.ro (c.agents.map Agent.ds)]
@[go_sem] def Net.rv (c:Net):List RV:=[.ow (some 5) (c.agents.map Agent.ds)]
@[go_sem] def Net.rvn (c:Net):List RV:=[.ow none (c.agents.map Agent.ds)]
attribute [go_sem] Net.ds_eq
theorem Net.ds_len (c:Net):c.ds.length=1:=by rw [Net.ds_eq]; rfl
def Net.dz (c:Net):List D:=[.fz (c.agents.map Agent.ds)]
@[go_sem] theorem Net.dz_eq (c:Net):c.dz=[.fz (c.agents.map Agent.ds)] :=rfl
theorem Net.dz_len (c:Net):c.dz.length=1:=rfl
theorem Net.dz_fz (c:Net):fzC c.ds=c.dz:=by rw [Net.ds_eq]; rfl
theorem Net.dz_ng (c:Net):∀d ∈ c.ds,d≠ .gone :=by rw [Net.ds_eq]; exact LR rfl
@[go_sem] theorem Net.dz_er (l:List Net):erR (l.map Net.dz)=List.map Net.ds l:=H5 (fun c=>by rw [Net.ds_eq]; simp only [Net.dz,erC,er]) l
def Agent.dm (c:Agent):List D:=[.int .i64 c.kind,.int .i64 c.level,.int .i64 c.value,.fz (c.data.map AD),.sl (c.ports.map Port.ds)]
@[go_sem] theorem Agent.dm_eq (c:Agent):c.dm=[.int .i64 c.kind,.int .i64 c.level,.int .i64 c.value,.fz (c.data.map AD),.sl (c.ports.map Port.ds)] :=rfl
def Ch:Nat→(List Port)→Int→Int→Option (Int × (List Port))
 |0,_,_,_=>none
 |n+1,v,w,u=>if decide (u<(v.length:Int)) then (at? v u).bind fun x=>(Cn v u (⟨w,x.slot⟩:Port)).bind fun v5005_15=>(at? v5005_15 u).bind fun y=>(Cn v5005_15 u (⟨y.agent,(IntKind.i64.wrap (w+1))⟩:Port)).bind fun v7005_16=>Ch n v7005_16 (IntKind.i64.wrap ((IntKind.i64.wrap (w+1))+1)) (IntKind.i64.wrap (u+1)) else some (w,v)
def IR (u:List Port) (v:Int):Option (Int × (List Port)):=
 Ch fuel u v 0
def CI:Nat→(List Agent)→Int→Int→Option (Int × (List Agent))
 |0,_,_,_=>none
 |n+1,y,v,u=>if decide (u<(y.length:Int)) then (at? y u).bind fun z=>(Cn y u (⟨v,z.level,z.value,z.data,z.ports⟩:Agent)).bind fun v5005_43=>(at? v5005_43 u).bind fun b=>(Cn v5005_43 u (⟨b.kind,(IntKind.i64.wrap (v+1)),b.value,b.data,b.ports⟩:Agent)).bind fun v7005_44=>(at? v7005_44 u).bind fun c=>(Cn v7005_44 u (⟨c.kind,c.level,(IntKind.i64.wrap ((IntKind.i64.wrap (v+1))+1)),c.data,c.ports⟩:Agent)).bind fun v9005_45=>(at? v9005_45 u).bind fun w=>(Eu w.data (IntKind.i64.wrap ((IntKind.i64.wrap ((IntKind.i64.wrap (v+1))+1))+1))).bind fun d=>(Cn v9005_45 u (⟨w.kind,w.level,w.value,d.2,w.ports⟩:Agent)).bind fun v11006_47=>(at? v11006_47 u).bind fun x=>(IR x.ports d.1).bind fun e=>(Cn v11006_47 u (⟨x.kind,x.level,x.value,x.data,e.2⟩:Agent)).bind fun v12006_48=>CI n v12006_48 e.1 (IntKind.i64.wrap (u+1)) else some (v,y)
def HU (u:List Agent) (v:Int):Option (Int × (List Agent)):=
 CI fuel u v 0
def Iz (v:Net) (w:Int):Option (Int × (List Agent)):=
 (HU v.agents w).bind fun u=>some (u.1,u.2)
def Kt (u:List Port) (v:Int):Option Int:=
 if decide ((IntKind.i64.wrap (v - (u.length:Int)))<0) then some (-1) else some (IntKind.i64.wrap (v - (u.length:Int)))
def I6 (u:Agent) (x:Int):Option Int:=
 (Hr u.data x).bind fun v=>if decide (v<0) then some (-1) else (Kt u.ports v).bind fun w=>if decide (w<0) then some (-1) else some w
def EM:Nat→(List Agent)→Int→Int→Option Int
 |0,_,_,_=>none
 |n+1,u,w,v=>if decide (v<(u.length:Int)) then (at? u v).bind fun y=>(I6 y w).bind fun x=>if decide (x<0) then some (-1) else EM n u x (IntKind.i64.wrap (v+1)) else some w
def Jb (u:List Agent) (v:Int):Option Int:=
 if decide ((IntKind.i64.wrap (v - (u.length:Int)))<0) then some (-1) else EM fuel u (IntKind.i64.wrap (v - (u.length:Int))) 0
def Pq (v:Net) (w:Int):Option Int:=
 (Jb v.agents w).bind fun u=>if decide (u<0) then some (-1) else some u
def Ku (u:Port):Option Port:=
 some u
def E6:Nat→(List Port)→(List Port)→Int→Option ((List Port))
 |0,_,_,_=>none
 |n+1,v,w,u=>if decide (u<(v.length:Int)) then (at? v u).bind fun x=>(Ku x).bind fun y=>(at? w u).bind fun z=>(Cn w u y).bind fun v6008_12=>E6 n v v6008_12 (IntKind.i64.wrap (u+1)) else some w
def Kv (u:List Port):Option ((List Port)):=
 (Vl (u.length:Int) (⟨0,0⟩:Port)).bind fun v=>E6 fuel u v 0
def I7 (u:Agent):Option Agent:=
 (Hs u.data).bind fun v=>(Kv u.ports).bind fun w=>some (⟨u.kind,u.level,u.value,v,w⟩:Agent)
def EN:Nat→(List Agent)→(List Agent)→Int→Option ((List Agent))
 |0,_,_,_=>none
 |n+1,v,w,u=>if decide (u<(v.length:Int)) then (at? v u).bind fun x=>(I7 x).bind fun y=>(at? w u).bind fun z=>(Cn w u y).bind fun v6008_12=>EN n v v6008_12 (IntKind.i64.wrap (u+1)) else some w
def Jc (u:List Agent):Option ((List Agent)):=
 (Vl (u.length:Int) (⟨0,0,0,[],[]⟩:Agent)).bind fun v=>EN fuel u v 0
def Ip (u:Net):Option Net:=
 (Jc u.agents).bind fun v=>some (⟨v⟩:Net)
def Kw (u:Port) (v:Port):Option Bool:=
 if !decide (u.agent=v.agent) then some false else if !decide (u.slot=v.slot) then some false else some true
def E7:Nat→(List Port)→(List Port)→Int→Option Bool
 |0,_,_,_=>none
 |n+1,v,w,u=>if decide (u<(v.length:Int)) then (at? v u).bind fun x=>(at? w u).bind fun y=>(Kw x y).bind fun z=>if !z then some false else E7 n v w (IntKind.i64.wrap (u+1)) else some true
def Kx (u:List Port) (v:List Port):Option Bool:=
 if !decide ((u.length:Int)=(v.length:Int)) then some false else E7 fuel u v 0
def I8 (u:Agent) (v:Agent):Option Bool:=
 if !decide (u.kind=v.kind) then some false else if !decide (u.level=v.level) then some false else if !decide (u.value=v.value) then some false else (Fl u.data v.data).bind fun w=>if !w then some false else (Kx u.ports v.ports).bind fun x=>if !x then some false else some true
def EO:Nat→(List Agent)→(List Agent)→Int→Option Bool
 |0,_,_,_=>none
 |n+1,v,w,u=>if decide (u<(v.length:Int)) then (at? v u).bind fun x=>(at? w u).bind fun y=>(I8 x y).bind fun z=>if !z then some false else EO n v w (IntKind.i64.wrap (u+1)) else some true
def Jd (u:List Agent) (v:List Agent):Option Bool:=
 if !decide ((u.length:Int)=(v.length:Int)) then some false else EO fuel u v 0
def NQ (u:Net) (v:Net):Option Bool:=
 (Jd u.agents v.agents).bind fun w=>if !w then some false else some true
def BK:Nat→(List Int)→Int→(Int→Option Bool)→Option Int
 |0,_,_,_=>none
 |n+1,v,u,f1=>if decide (u<(v.length:Int)) then (at? v u).bind fun w=>(f1 w).bind fun x=>if x then some u else BK n v (IntKind.i64.wrap (u+1)) f1 else some (-1)
def E8 (u:List Int) (f1:(Int→Option Bool)):Option Int:=
 BK fuel u 0 f1
def AW (u:List Int) (f1:(Int→Option Bool)):Option Bool:=
 (E8 u f1).bind fun v=>some (decide (0≤v))
def Je (u:Int):Option Bool:=
 if decide (1≤u) then some (decide (u≤12)) else some false
def E9 (u:Int) (v:Bool):Option Int:=
 if v then some 0 else (atI [0,1,3,3,3,1,1,3,2,0,2,2,1] u).bind fun w=>some w
def FA (u:Int) (v:Int) (w:Bool):Option Int:=
 if w then some (IntKind.i64.wrap (v+1)) else (Je u).bind fun x=>if !x then E9 u true else if decide (u=9) then E9 u true else E9 u (!decide (v=0))
def I9 (v:Int) (u:Int):Option Int:=
 if decide (v=9) then if decide (0≤u) then FA v u (decide (u≤3)) else FA v u false else FA v u false
def Jf (u:Int) (v:Int):Option Int:=
 if decide (u=9) then some (IntKind.i64.wrap (v - 1)) else some 0
def Fu (u:Int):Option Bool:=
 (Je u).bind fun v=>if v then if !decide (u=1) then if !decide (u=5) then some (!decide (u=6)) else some false else some false else some false
def Hz (u:Int):Option Bool:=
 if decide (0≤u) then some (decide (u≤8)) else some false
def D7 (u:Int) (v:Int):Option Bool:=
 (Je u).bind fun w=>if w then if decide (v=0) then some true else (Fu u).bind fun x=>if x then (Hz v).bind fun y=>some y else some false else some false
def D0 (u:Int):Option Bool:=
 if decide (0≤u) then some (decide (u<24)) else some false
def Fy (u:Int):Option Bool:=
 (D0 u).bind fun v=>some (!v)
def LS (u:Int):Option Bool:=
 if decide ((-2147483648)≤u) then some (decide (u≤2147483647)) else some false
def Ew (u:Int):Option Bool:=
 if decide (1≤u) then some (decide (u≤6)) else some false
def Aj (u:Bool) (v:Bool):Option Bool:=
 if u then some v else some false
def CJ (u:Agent) (w:Bool):Option Bool:=
 if w then some false else (AW u.data (fun x=>Fy x)).bind fun v=>if decide (u.kind=6) then (LS u.value).bind fun y=>Aj y (decide ((u.data.length:Int)=0)) else if decide (u.kind=7) then (Ew u.value).bind fun z=>Aj z (decide ((u.data.length:Int)=0)) else if decide (u.kind=8) then (Ew u.value).bind fun b=>if b then if decide ((u.data.length:Int)=1) then (at? u.data 0).bind fun c=>(LS c).bind fun d=>some d else some false else some false else if decide (u.kind=9) then if decide (0≤u.value) then Aj (decide (u.value<4)) (decide ((u.data.length:Int)=0)) else Aj false (decide ((u.data.length:Int)=0)) else if decide (u.kind=10) then if decide (1≤(u.data.length:Int)) then if decide ((u.data.length:Int)≤4) then Aj (decide (u.value=0)) (!v) else Aj (decide (u.value=0)) false else Aj (decide (u.value=0)) false else if decide (u.kind=11) then if decide ((u.data.length:Int)=2) then Aj (decide (u.value=0)) (!v) else Aj (decide (u.value=0)) false else if decide (u.kind=12) then (D0 u.value).bind fun e=>Aj e (decide ((u.data.length:Int)=0)) else Aj (decide (u.value=0)) (decide ((u.data.length:Int)=0))
def HV (u:Agent):Option Bool:=
 if decide ((u.ports.length:Int)=0) then CJ u true else (Jf u.kind (u.ports.length:Int)).bind fun v=>(I9 u.kind v).bind fun w=>if !decide (w=(u.ports.length:Int)) then CJ u true else (D7 u.kind u.level).bind fun x=>CJ u (!x)
mutual
def B8:Nat→(List Agent)→Int→Option Bool
 |0,_,_=>none
 |n+1,v,u=>if decide (u<(v.length:Int)) then (at? v u).bind fun w=>(HV w).bind fun x=>if !x then Dj n v u true else Dj n v u (!((decide (w.kind=1)) == (decide (u=0)))) else some true
def Dj:Nat→(List Agent)→Int→Bool→Option Bool
 |0,_,_,_=>none
 |n+1,u,v,w=>if w then some false else B8 n u (IntKind.i64.wrap (v+1))
end
def Fz (u:List Agent) (v:Bool):Option Bool:=
 if v then some false else B8 fuel u 0
def IS (u:List Agent):Option Bool:=
 if decide ((u.length:Int)<1) then Fz u true else Fz u (decide (600<(u.length:Int)))
def Au:Nat→(List Port)→Int→(Port→Option Bool)→Option Int
 |0,_,_,_=>none
 |n+1,v,u,f1=>if decide (u<(v.length:Int)) then (at? v u).bind fun w=>(f1 w).bind fun x=>if x then some u else Au n v (IntKind.i64.wrap (u+1)) f1 else some (-1)
def C6 (u:List Port) (f1:(Port→Option Bool)):Option Int:=
 Au fuel u 0 f1
def Ba (u:List Port) (f1:(Port→Option Bool)):Option Bool:=
 (C6 u f1).bind fun v=>some (decide (0≤v))
mutual
def Bl:Nat→Net→(List Port)→Int→Option ((List Port))
 |0,_,_,_=>none
 |n+1,u,w,v=>if decide (v<(u.agents.length:Int)) then (at? u.agents v).bind fun x=>Ci n u v x w 0 else some w
def Ci:Nat→Net→Int→Agent→(List Port)→Int→Option ((List Port))
 |0,_,_,_,_,_=>none
 |n+1,w,u,x,y,v=>if decide (v<(x.ports.length:Int)) then (app? y [(⟨u,v⟩:Port)]).bind fun z=>Ci n w u x z (IntKind.i64.wrap (v+1)) else Bl n w y (IntKind.i64.wrap (u+1))
end
def IT (u:Net):Option ((List Port)):=
 Bl fuel u [] 0
def Cv (v:Net) (u:Port):Option Port:=
 (at? v.agents u.agent).bind fun w=>(at? w.ports u.slot).bind fun x=>some x
def Ky (v:List Agent) (u:Port):Option Bool:=
 if decide (0≤u.agent) then if decide (u.agent<(v.length:Int)) then if decide (0≤u.slot) then (at? v u.agent).bind fun w=>some (decide (u.slot<(w.ports.length:Int))) else some false else some false else some false
def HX (u:Port) (w:Net):Option Bool:=
 (Cv w u).bind fun v=>if decide (v.agent=u.agent)&&decide (v.slot=u.slot) then some true else (Ky w.agents v).bind fun y=>if !y then some true else (Cv w v).bind fun x=>some (!(decide (x.agent=u.agent)&&decide (x.slot=u.slot)))
def EJ (u:Net):Option Bool:=
 (IS u.agents).bind fun v=>if !v then some false else (IT u).bind fun w=>(Ba w (fun x=>HX x u)).bind fun y=>some (!y)
def BN (u:Int) (v:Int) (w:Int):Option Bool:=
 if decide (v≤u) then some (decide (u≤w)) else some false
def IU (u:Agent):Option Int:=
 if decide (u.kind=9) then some (IntKind.i64.wrap ((u.ports.length:Int) - 1)) else some 0
def FB (u:Bool):Option Int:=
 if u then some 3 else some 0
def GD (u:Int) (v:Bool):Option Int:=
 if v then some 2 else if decide (u=2) then FB (decide (u=2)) else if decide (u=3) then FB (decide (u=3)) else if decide (u=4) then FB (decide (u=4)) else FB (decide (u=7))
def FC (u:Int) (v:Bool):Option Int:=
 if v then some 1 else if decide (u=8) then GD u (decide (u=8)) else if decide (u=10) then GD u (decide (u=10)) else GD u (decide (u=11))
def JA (u:Int) (v:Int):Option Int:=
 if decide (u=9) then (BN v 0 3).bind fun w=>if w then some (IntKind.i64.wrap (1+v)) else some 0 else if !decide (v=0) then some 0 else if decide (u=1) then FC u (decide (u=1)) else if decide (u=5) then FC u (decide (u=5)) else if decide (u=6) then FC u (decide (u=6)) else FC u (decide (u=12))
def Az (u:Bool):Option Bool:=
 if u then some true else some false
def E3 (u:Int):Option Bool:=
 if decide (u=2) then Az (decide (u=2)) else if decide (u=3) then Az (decide (u=3)) else if decide (u=4) then Az (decide (u=4)) else if decide (u=7) then Az (decide (u=7)) else if decide (u=8) then Az (decide (u=8)) else if decide (u=9) then Az (decide (u=9)) else if decide (u=10) then Az (decide (u=10)) else if decide (u=11) then Az (decide (u=11)) else Az (decide (u=12))
def Kz (u:Int):Option Bool:=
 (BN u 1 12).bind fun v=>some v
def E2 (u:Int) (v:Int):Option Bool:=
 (E3 u).bind fun w=>if w then (BN v 0 8).bind fun x=>some x else (Kz u).bind fun y=>if y then some (decide (v=0)) else some false
def Jg (u:Int):Option Bool:=
 (BN u 0 23).bind fun v=>some v
def CK:Nat→Agent→Int→Option Bool
 |0,_,_=>none
 |n+1,u,v=>if decide (v<(u.data.length:Int)) then (at? u.data v).bind fun w=>(Jg w).bind fun x=>if !x then some false else CK n u (IntKind.i64.wrap (v+1)) else some true
def Bn (u:Agent) (v:Bool):Option Bool:=
 if v then some false else CK fuel u 0
def FM (u:Agent) (w:Bool):Option Bool:=
 if w then if !decide (u.value=0) then Bn u true else if decide (u.kind=11) then if !decide ((u.data.length:Int)=2) then Bn u true else if decide (u.kind=10) then (BN (u.data.length:Int) 1 4).bind fun v=>Bn u (!v) else Bn u false else if decide (u.kind=10) then (BN (u.data.length:Int) 1 4).bind fun v=>Bn u (!v) else Bn u false else if decide (u.value=0) then some (decide ((u.data.length:Int)=0)) else some false
def HY (u:Agent):Option Bool:=
 if decide (u.kind=6) then if decide ((u.data.length:Int)=0) then (BN u.value (-2147483648) 2147483647).bind fun v=>some v else some false else if decide (u.kind=7) then if decide ((u.data.length:Int)=0) then (BN u.value 1 6).bind fun w=>some w else some false else if decide (u.kind=8) then if decide ((u.data.length:Int)=1) then (BN u.value 1 6).bind fun x=>if x then (at? u.data 0).bind fun y=>(BN y (-2147483648) 2147483647).bind fun z=>some z else some false else some false else if decide (u.kind=9) then if decide ((u.data.length:Int)=0) then (BN u.value 0 3).bind fun b=>some b else some false else if decide (u.kind=12) then if decide ((u.data.length:Int)=0) then (Jg u.value).bind fun c=>some c else some false else if decide (u.kind=10) then FM u (decide (u.kind=10)) else FM u (decide (u.kind=11))
def Jh (u:Agent):Option Bool:=
 (IU u).bind fun w=>(JA u.kind w).bind fun v=>if decide (0<v) then if decide ((u.ports.length:Int)=v) then (E2 u.kind u.level).bind fun x=>if x then (HY u).bind fun y=>some y else some false else some false else some false
mutual
def B9:Nat→(List Agent)→Int→Option Bool
 |0,_,_=>none
 |n+1,v,u=>if decide (u<(v.length:Int)) then (at? v u).bind fun w=>(Jh w).bind fun x=>if !x then Dk n v u true else (at? v u).bind fun y=>Dk n v u (!((decide (y.kind=1)) == (decide (u=0)))) else some true
def Dk:Nat→(List Agent)→Int→Bool→Option Bool
 |0,_,_,_=>none
 |n+1,u,v,w=>if w then some false else B9 n u (IntKind.i64.wrap (v+1))
end
def IV (u:List Agent):Option Bool:=
 (BN (u.length:Int) 1 600).bind fun v=>if !v then some false else B9 fuel u 0
def K0 (v:List Agent) (u:Port):Option Bool:=
 (BN u.agent 0 (IntKind.i64.wrap ((v.length:Int) - 1))).bind fun w=>if w then (at? v u.agent).bind fun x=>(BN u.slot 0 (IntKind.i64.wrap ((x.ports.length:Int) - 1))).bind fun y=>some y else some false
mutual
def EP:Nat→Net→Int→Option Bool
 |0,_,_=>none
 |n+1,u,v=>if decide (v<(u.agents.length:Int)) then (at? u.agents v).bind fun w=>Er n u v w 0 else some true
def Er:Nat→Net→Int→Agent→Int→Option Bool
 |0,_,_,_,_=>none
 |n+1,v,w,x,u=>if decide (u<(x.ports.length:Int)) then (at? x.ports u).bind fun y=>if decide (y.agent=w)&&decide (y.slot=u) then Es n v w u x true else (K0 v.agents y).bind fun b=>if !b then Es n v w u x true else (at? v.agents y.agent).bind fun c=>(at? c.ports y.slot).bind fun z=>Es n v w u x (!(decide (z.agent=w)&&decide (z.slot=u))) else EP n v (IntKind.i64.wrap (w+1))
def Es:Nat→Net→Int→Int→Agent→Bool→Option Bool
 |0,_,_,_,_,_=>none
 |n+1,u,v,w,x,y=>if y then some false else Er n u v x (IntKind.i64.wrap (w+1))
end
def Pp (u:Net):Option Bool:=
 (IV u.agents).bind fun v=>if !v then some false else EP fuel u 0
end Go.Proofs.YtjnifengdhcojaaGreatDoor.Ab
