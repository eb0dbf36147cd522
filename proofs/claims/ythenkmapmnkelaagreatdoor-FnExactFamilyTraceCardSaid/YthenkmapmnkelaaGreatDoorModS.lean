/- Data of the program as Lean types. -/
import Derived.Test.YthenkmapmnkelaaGreatDoorAbY
import Derived.Test.YthenkmapmnkelaaGreatDoorModR
import Derived.Test.YthenkmapmnkelaaGreatDoorModQ
namespace Go.Proofs.YthenkmapmnkelaaGreatDoor.Ab
set_option linter.unusedVariables false
set_option linter.unusedSimpArgs false
set_option maxRecDepth 20000
set_option maxHeartbeats 4000000
open Go.RowKit
structure L16Walk where
 n:Net
 steps:Int
 nodes:Int
 entered:List Int
 origins:List Int
 labels:List ByteArray
 code:Int
def L16Walk.ds (c:L16Walk):List D:=[.ptr (Net.ds c.n),.int .i64 c.steps,.int .i64 c.nodes,.sl (c.entered.map AD),.sl (c.origins.map AD),.sl (c.labels.map Be),.int .i64 c.code]
theorem L16Walk.ds_eq (c:L16Walk):c.ds=[.ptr (Net.ds c.n),.int .i64 c.steps,.int .i64 c.nodes,.sl (c.entered.map AD),.sl (c.origins.map AD),.sl (c.labels.map Be),.int .i64 c.code] :=rfl
@[go_sem] def L16Walk.avs (c:L16Walk):List AV:=[.rop [.ro (c.n.agents.map Agent.ds)] 0,.int .i64 c.steps,.int .i64 c.nodes,.ro (c.entered.map AD),.ro (c.origins.map AD),.ro (c.labels.map Be),.int .i64 c.code]
attribute [go_sem] L16Walk.ds_eq
theorem L16Walk.ds_len (c:L16Walk):c.ds.length=7:=by rw [L16Walk.ds_eq]; rfl
def L16Walk.dz (c:L16Walk):List D:=[.ptr (Net.ds c.n),.int .i64 c.steps,.int .i64 c.nodes,.fz (c.entered.map AD),.fz (c.origins.map AD),.fz (c.labels.map Be),.int .i64 c.code]
@[go_sem] theorem L16Walk.dz_eq (c:L16Walk):c.dz=[.ptr (Net.ds c.n),.int .i64 c.steps,.int .i64 c.nodes,.fz (c.entered.map AD),.fz (c.origins.map AD),.fz (c.labels.map Be),.int .i64 c.code] :=rfl
theorem L16Walk.dz_fz (c:L16Walk):fzC c.ds=c.dz:=by rw [L16Walk.ds_eq]; rfl
theorem L16Walk.dz_ng (c:L16Walk):∀d ∈ c.ds,d≠ .gone :=by rw [L16Walk.ds_eq]; exact Od rfl
@[go_sem] theorem L16Walk.dz_er (l:List L16Walk):erR (l.map L16Walk.dz)=List.map L16Walk.ds l:=H2 (fun c=>by rw [L16Walk.ds_eq]; simp only [L16Walk.dz,erC,er]) l
structure Core where
 kind:Int
 value:Int
 data:List Int
 kids:List Core
mutual
def Core.ds:Core→List D
 |⟨x0,x1,x2,x3⟩=>[.int .i64 x0,.int .i64 x1,.sl (x2.map AD),.sl (Core.rows x3)]
def Core.rows:List Core→List (List D)
 | [] =>[]
 |c::cs=>Core.ds c::Core.rows cs
end
theorem Core.rows_map:∀l:List Core,Core.rows l=List.map Core.ds l
 | [] =>by rw [Core.rows]; rfl
 |c::cs=>by rw [Core.rows,Core.rows_map cs]; rfl
theorem Core.ds_eq (c:Core):c.ds=[.int .i64 c.kind,.int .i64 c.value,.sl (c.data.map AD),.sl (c.kids.map Core.ds)] :=by
 cases c; rw [Core.ds]; simp only [Core.rows_map]
@[go_sem] def Core.avs (c:Core):List AV:=[.int .i64 c.kind,.int .i64 c.value,.ro (c.data.map AD),.ro (c.kids.map Core.ds)]
@[go_sem] def Core.rv (c:Core):List RV:=[.int .i64 c.kind,.int .i64 c.value,.ow (some 1) (c.data.map AD),.ow (some 4) (c.kids.map Core.ds)]
@[go_sem] def Core.rvn (c:Core):List RV:=[.int .i64 c.kind,.int .i64 c.value,.ow none (c.data.map AD),.ow none (c.kids.map Core.ds)]
attribute [go_sem] Core.ds_eq
theorem Core.ds_len (c:Core):c.ds.length=4:=by rw [Core.ds_eq]; rfl
def Core.dz (c:Core):List D:=[.int .i64 c.kind,.int .i64 c.value,.fz (c.data.map AD),.fz (c.kids.map Core.ds)]
@[go_sem] theorem Core.dz_eq (c:Core):c.dz=[.int .i64 c.kind,.int .i64 c.value,.fz (c.data.map AD),.fz (c.kids.map Core.ds)] :=rfl
theorem Core.dz_fz (c:Core):fzC c.ds=c.dz:=by rw [Core.ds_eq]; rfl
theorem Core.dz_ng (c:Core):∀d ∈ c.ds,d≠ .gone :=by rw [Core.ds_eq]; exact Od rfl
@[go_sem] theorem Core.dz_er (l:List Core):erR (l.map Core.dz)=List.map Core.ds l:=H2 (fun c=>by rw [Core.ds_eq]; simp only [Core.dz,erC,er]) l
structure L16Binder where
 agent:Int
 stacks:List (List Int)
def L16Binder.ds (c:L16Binder):List D:=[.int .i64 c.agent,.sl (List.map (slD AD) c.stacks)]
theorem L16Binder.ds_eq (c:L16Binder):c.ds=[.int .i64 c.agent,.sl (List.map (slD AD) c.stacks)] :=rfl
@[go_sem] def L16Binder.avs (c:L16Binder):List AV:=[.int .i64 c.agent,.ro (List.map (slD AD) c.stacks)]
@[go_sem] def L16Binder.rv (c:L16Binder):List RV:=[.int .i64 c.agent,.ow (some 1) (List.map (slD AD) c.stacks)]
@[go_sem] def L16Binder.rvn (c:L16Binder):List RV:=[.int .i64 c.agent,.ow none (List.map (slD AD) c.stacks)]
attribute [go_sem] L16Binder.ds_eq
theorem L16Binder.ds_len (c:L16Binder):c.ds.length=2:=by rw [L16Binder.ds_eq]; rfl
def L16Binder.dz (c:L16Binder):List D:=[.int .i64 c.agent,.fz (List.map (slD AD) c.stacks)]
@[go_sem] theorem L16Binder.dz_eq (c:L16Binder):c.dz=[.int .i64 c.agent,.fz (List.map (slD AD) c.stacks)] :=rfl
theorem L16Binder.dz_fz (c:L16Binder):fzC c.ds=c.dz:=by rw [L16Binder.ds_eq]; rfl
theorem L16Binder.dz_ng (c:L16Binder):∀d ∈ c.ds,d≠ .gone :=by rw [L16Binder.ds_eq]; exact Od rfl
@[go_sem] theorem L16Binder.dz_er (l:List L16Binder):erR (l.map L16Binder.dz)=List.map L16Binder.ds l:=H2 (fun c=>by rw [L16Binder.ds_eq]; simp only [L16Binder.dz,erC,er]) l
def JS (u:Port):Option ByteArray:=
 (Hz u.agent).bind fun v=>(Hi v (ByteArray.mk #[46])).bind fun w=>(Hz u.slot).bind fun x=>(Hi w x).bind fun y=>(Hi y (ByteArray.mk #[59])).bind fun z=>some z
def Bb (u:L16Walk) (v:Int):Option (Core × L16Walk):=
 if decide (u.code=0) then some ((⟨0,0,[],[]⟩:Core),(⟨u.n,u.steps,u.nodes,u.entered,u.origins,u.labels,v⟩:L16Walk)) else some ((⟨0,0,[],[]⟩:Core),u)
def Kr (w:List (List Int)) (u:Int) (x:List Int):Option ((List (List Int))):=
 (app? [] w).bind fun v=>(at? v u).bind fun y=>(Br v u x).bind fun v3004_1=>some v3004_1
def C4:Nat→Agent→(List Int)→Int→Option (Int × (List Int))
 |0,_,_,_=>none
 |n+1,v,w,u=>if decide (u<(v.ports.length:Int)) then (app? w [u]).bind fun x=>C4 n v x (IntKind.i64.wrap (u+1)) else some (8,w)
def Gc (u:Agent) (v:Bool):Option (Int × (List Int)):=
 if v then some (10,[0]) else if decide (u.kind=12) then some (11,[]) else some (0,[])
def HO (u:Agent) (v:Int) (w:Bool):Option (Int × (List Int)):=
 if w then some (9,[0]) else if decide (u.kind=11) then Gc u (decide (v=1)) else Gc u false
def HQ (u:Agent) (v:Int) (w:Bool):Option (Int × (List Int)):=
 if w then C4 fuel u [] 1 else if decide (u.kind=10) then HO u v (decide (v=1)) else HO u v false
def HR (u:Agent) (v:Int) (w:Bool):Option (Int × (List Int)):=
 if w then some (3,[0]) else if decide (u.kind=9) then HQ u v (decide (v=0)) else HQ u v false
def HT (u:Agent) (v:Int) (w:Bool):Option (Int × (List Int)):=
 if w then some (3,[0,1]) else if decide (u.kind=8) then HR u v (decide (v=1)) else HR u v false
def HU (u:Agent) (v:Int) (w:Bool):Option (Int × (List Int)):=
 if w then some (5,[0,1]) else if decide (u.kind=6) then some (2,[]) else if decide (u.kind=7) then HT u v (decide (v=2)) else HT u v false
def HV (u:Agent) (v:Int) (w:Bool):Option (Int × (List Int)):=
 if w then some (1,[]) else if decide (u.kind=3) then HU u v (decide (v=2)) else HU u v false
def HX (u:Agent) (v:Int) (w:Bool):Option (Int × (List Int)):=
 if w then some (4,[2]) else if decide (u.kind=2) then HV u v (decide (v=1)) else HV u v false
def Ks (u:Agent) (v:Int):Option (Int × (List Int)):=
 if decide (u.kind=2) then HX u v (decide (v=0)) else HX u v false
def H0 (u:List (List Int)) (v:Int):Option ((List (List Int))):=
 (cutL u 0 v).bind fun w=>some w
def FH:Nat→(List Int)→(List Int)→Int→Option Bool
 |0,_,_,_=>none
 |n+1,v,w,u=>if decide (u<(v.length:Int)) then (at? v u).bind fun x=>(at? w u).bind fun y=>if !decide (x=y) then some false else FH n v w (IntKind.i64.wrap (u+1)) else some true
def Iy (u:List Int) (v:List Int):Option Bool:=
 if !decide ((u.length:Int)=(v.length:Int)) then some false else FH fuel u v 0
def CM:Nat→(List (List Int))→(List (List Int))→Int→Option Bool
 |0,_,_,_=>none
 |n+1,v,w,u=>if decide (u<(v.length:Int)) then (at? v u).bind fun x=>(at? w u).bind fun y=>(Iy x y).bind fun z=>if !z then some false else CM n v w (IntKind.i64.wrap (u+1)) else some true
def Fa (u:List (List Int)) (v:List (List Int)):Option Bool:=
 if !decide ((u.length:Int)=(v.length:Int)) then some false else CM fuel u v 0
mutual
def A0:Nat→Int→(List L16Binder)→(List (List Int))→Int→Option Int
 |0,_,_,_,_=>none
 |n+1,w,v,x,u=>if decide (0≤u) then (at? v u).bind fun y=>if decide (y.agent=w) then (at? v u).bind fun z=>(Fa z.stacks x).bind fun b=>Bh n w v u x b else Bh n w v u x false else some (-1)
def Bh:Nat→Int→(List L16Binder)→Int→(List (List Int))→Bool→Option Int
 |0,_,_,_,_,_=>none
 |n+1,w,u,v,x,y=>if y then some (IntKind.i64.wrap ((IntKind.i64.wrap ((u.length:Int) - 1)) - v)) else A0 n w u x (IntKind.i64.wrap (v - 1))
end
def EB (w:L16Walk) (u:Int) (x:List (List Int)) (v:List L16Binder):Option Int:=
 (at? w.n.agents u).bind fun y=>(H0 x y.level).bind fun z=>A0 fuel u v z (IntKind.i64.wrap ((v.length:Int) - 1))
def Ez (u:L16Walk) (x:Int) (y:Int) (z:ByteArray):Option (Bool × L16Walk):=
 (app? u.origins [x]).bind fun v=>(app? u.labels [z]).bind fun w=>if decide ((IntKind.i64.wrap (u.nodes+1))≤400) then some ((decide (y≤80)),(⟨u.n,u.steps,(IntKind.i64.wrap (u.nodes+1)),u.entered,v,w,u.code⟩:L16Walk)) else some (false,(⟨u.n,u.steps,(IntKind.i64.wrap (u.nodes+1)),u.entered,v,w,u.code⟩:L16Walk))
def W6 (u:Int):Option Core:=
 some (⟨2,u,[],[]⟩:Core)
mutual
def CX:Nat→L16Walk→Port→(List (List Int))→(List L16Binder)→Int→Option (Core × L16Walk)
 |0,_,_,_,_,_=>none
 |n+1,u,v,w,x,y=>BY n u x y u.steps u.entered w v.agent v.slot (ByteArray.mk #[])
def BY:Nat→L16Walk→(List L16Binder)→Int→Int→(List Int)→(List (List Int))→Int→Int→ByteArray→Option (Core × L16Walk)
 |0,_,_,_,_,_,_,_,_,_=>none
 |n+1,u,b,c,v,w,d,x,y,g=>if !decide (u.code=0) then some ((⟨0,0,[],[]⟩:Core),(⟨u.n,v,u.nodes,w,u.origins,u.labels,u.code⟩:L16Walk)) else (JS (⟨x,y⟩:Port)).bind fun i=>(Hi g i).bind fun e=>if decide (4000<(IntKind.i64.wrap (v+1))) then (Bb (⟨u.n,(IntKind.i64.wrap (v+1)),u.nodes,w,u.origins,u.labels,u.code⟩:L16Walk) 4).bind fun f=>some (f.1,f.2) else (at? u.n.agents x).bind fun z=>if !decide (z.kind=2) then Bu n u b c v w d x y e z true else Bu n u b c v w d x y e z (!decide (y=1))
def Bu:Nat→L16Walk→(List L16Binder)→Int→Int→(List Int)→(List (List Int))→Int→Int→ByteArray→Agent→Bool→Option (Core × L16Walk)
 |0,_,_,_,_,_,_,_,_,_,_,_=>none
 |n+1,v,w,x,y,z,b,u,c,d,e,f=>if f then (app? z [u]).bind fun g=>BE n v w x y b u c d e g else BE n v w x y b u c d e z
def BE:Nat→L16Walk→(List L16Binder)→Int→Int→(List (List Int))→Int→Int→ByteArray→Agent→(List Int)→Option (Core × L16Walk)
 |0,_,_,_,_,_,_,_,_,_,_=>none
 |n+1,u,b,d,w,y,c,z,e,f,x=>if !decide (f.kind=4) then (at? u.n.agents c).bind fun g=>(Ks g z).bind fun v=>if decide (v.1 =0) then (Bb (⟨u.n,(IntKind.i64.wrap (w+1)),u.nodes,x,u.origins,u.labels,u.code⟩:L16Walk) 13).bind fun j=>some (j.1,j.2) else if decide (v.1 =1) then (EB (⟨u.n,(IntKind.i64.wrap (w+1)),u.nodes,x,u.origins,u.labels,u.code⟩:L16Walk) c y b).bind fun k=>if decide (k<0) then (Bb (⟨u.n,(IntKind.i64.wrap (w+1)),u.nodes,x,u.origins,u.labels,u.code⟩:L16Walk) 13).bind fun l=>some (l.1,l.2) else Ao n u d w y c z x e g v b k [] else if decide (v.1 =2) then Ad n u b d w y c z x e g v (decide (v.1 =2)) else if decide (v.1 =3) then Ad n u b d w y c z x e g v (decide (v.1 =3)) else if decide (v.1 =8) then Ad n u b d w y c z x e g v (decide (v.1 =8)) else Ad n u b d w y c z x e g v (decide (v.1 =11)) else (at? y f.level).bind fun i=>if decide (0<z) then (FZ i).bind fun p=>(app? p [z]).bind fun q=>(Kr y f.level q).bind fun r=>EC n u b d w c z x e f r else if decide ((i.length:Int)=0) then (Bb (⟨u.n,(IntKind.i64.wrap (w+1)),u.nodes,x,u.origins,u.labels,u.code⟩:L16Walk) 13).bind fun m=>some (m.1,m.2) else (at? i (IntKind.i64.wrap ((i.length:Int) - 1))).bind fun s=>(cutL i 0 (IntKind.i64.wrap ((i.length:Int) - 1))).bind fun t=>(FZ t).bind fun A=>(Kr y f.level A).bind fun B=>(at? f.ports s).bind fun o=>BY n u b d (IntKind.i64.wrap (w+1)) x B o.agent o.slot e
def Ao:Nat→L16Walk→Int→Int→(List (List Int))→Int→Int→(List Int)→ByteArray→Agent→(Int × (List Int))→(List L16Binder)→Int→(List Int)→Option (Core × L16Walk)
 |0,_,_,_,_,_,_,_,_,_,_,_,_,_=>none
 |n+1,w,x,k,z,b,s,l,m,y,c,d,e,f=>(Ez (⟨w.n,(IntKind.i64.wrap (k+1)),w.nodes,l,w.origins,w.labels,w.code⟩:L16Walk) b x m).bind fun u=>if !u.1 then (Bb u.2 4).bind fun g=>some (g.1,g.2) else if decide (y.kind=8) then (Hz b).bind fun o=>(Hi o (ByteArray.mk #[46,120,59])).bind fun p=>(Ez u.2 (-1) (IntKind.i64.wrap (x+1)) p).bind fun v=>if !v.1 then (Bb v.2 4).bind fun i=>some (i.1,i.2) else (at? y.data 0).bind fun q=>(W6 q).bind fun j=>(app? [] [(⟨j.kind,j.value,[],[]⟩:Core)]).bind fun r=>CN n x z d e f y c v.2.n.agents v.2.steps v.2.nodes v.2.entered v.2.origins v.2.labels v.2.code r else CN n x z d e f y c u.2.n.agents u.2.steps u.2.nodes u.2.entered u.2.origins u.2.labels u.2.code []
def CN:Nat→Int→(List (List Int))→(List L16Binder)→Int→(List Int)→Agent→(Int × (List Int))→(List Agent)→Int→Int→(List Int)→(List Int)→(List ByteArray)→Int→(List Core)→Option (Core × L16Walk)
 |0,_,_,_,_,_,_,_,_,_,_,_,_,_,_,_=>none
 |n+1,u,v,w,x,y,z,b,c,d,e,f,g,i,j,k=>Ay n u v w x y z b c d e f g i j k 0
def Ay:Nat→Int→(List (List Int))→(List L16Binder)→Int→(List Int)→Agent→(Int × (List Int))→(List Agent)→Int→Int→(List Int)→(List Int)→(List ByteArray)→Int→(List Core)→Int→Option (Core × L16Walk)
 |0,_,_,_,_,_,_,_,_,_,_,_,_,_,_,_,_=>none
 |n+1,x,y,z,b,c,d,v,e,f,g,i,j,k,l,m,w=>if decide (w<((List.length v.2 :Nat):Int)) then (at? v.2 w).bind fun o=>(at? d.ports o).bind fun p=>(CX n (⟨(⟨e⟩:Net),f,g,i,j,k,l⟩:L16Walk) p y z (IntKind.i64.wrap (x+1))).bind fun u=>(app? m [u.1]).bind fun q=>Ay n x y z b c d v u.2.n.agents u.2.steps u.2.nodes u.2.entered u.2.origins u.2.labels u.2.code q (IntKind.i64.wrap (w+1)) else some ((⟨v.1,b,c,m⟩:Core),(⟨(⟨e⟩:Net),f,g,i,j,k,l⟩:L16Walk))
def Ad:Nat→L16Walk→(List L16Binder)→Int→Int→(List (List Int))→Int→Int→(List Int)→ByteArray→Agent→(Int × (List Int))→Bool→Option (Core × L16Walk)
 |0,_,_,_,_,_,_,_,_,_,_,_,_=>none
 |n+1,w,x,y,z,b,c,d,e,f,v,u,g=>if g then Ao n w y z b c d e f v u x v.value [] else if decide (u.1 =9) then Bv n w x y z b c d e f v u (decide (u.1 =9)) else Bv n w x y z b c d e f v u (decide (u.1 =10))
def Bv:Nat→L16Walk→(List L16Binder)→Int→Int→(List (List Int))→Int→Int→(List Int)→ByteArray→Agent→(Int × (List Int))→Bool→Option (Core × L16Walk)
 |0,_,_,_,_,_,_,_,_,_,_,_,_=>none
 |n+1,y,z,b,c,v,w,d,e,f,u,x,g=>if g then (FZ u.data).bind fun i=>Ao n y b c v w d e f u x z 0 i else if decide (x.1 =4) then (app? [] z).bind fun j=>(H0 v u.level).bind fun k=>(app? j [(⟨w,k⟩:L16Binder)]).bind fun l=>Ao n y b c v w d e f u x l 0 [] else Ao n y b c v w d e f u x z 0 []
def EC:Nat→L16Walk→(List L16Binder)→Int→Int→Int→Int→(List Int)→ByteArray→Agent→(List (List Int))→Option (Core × L16Walk)
 |0,_,_,_,_,_,_,_,_,_,_=>none
 |n+1,v,w,x,y,e,f,z,b,c,d=>(at? c.ports 0).bind fun u=>BY n v w x (IntKind.i64.wrap (y+1)) z d u.agent u.slot b
end
def Df:Nat→Net→(List (List Int))→Int→Option (Core × L16Walk)
 |0,_,_,_=>none
 |n+1,u,v,w=>if decide (w≤8) then (app? v [[]]).bind fun y=>Df n u y (IntKind.i64.wrap (w+1)) else (at? u.agents 0).bind fun z=>(at? z.ports 0).bind fun b=>(CX fuel (⟨u,0,0,[],[],[],0⟩:L16Walk) b v [] 1).bind fun x=>some (x.1,x.2)
def Km (u:Net):Option (Core × L16Walk):=
 Df fuel u [] 0
end Go.Proofs.YthenkmapmnkelaaGreatDoor.Ab
