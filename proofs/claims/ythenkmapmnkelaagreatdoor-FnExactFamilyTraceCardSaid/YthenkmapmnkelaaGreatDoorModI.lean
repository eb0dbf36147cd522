/- Data of the program as Lean types. -/
import Derived.Test.YthenkmapmnkelaaGreatDoorAbY
import Derived.Test.YthenkmapmnkelaaGreatDoorManK
import Derived.Test.YthenkmapmnkelaaGreatDoorModS
import Derived.Test.YthenkmapmnkelaaGreatDoorManL
namespace Go.Proofs.YthenkmapmnkelaaGreatDoor.Ab
set_option linter.unusedVariables false
set_option linter.unusedSimpArgs false
set_option maxRecDepth 20000
set_option maxHeartbeats 4000000
open Go.RowKit
structure Reading where
 net:Net
 entered:Int
 nodes:Int
 origins:List Int
 times:List Int
 labels:List ByteArray
def Reading.ds (c:Reading):List D:=[.sl (c.net.agents.map Agent.ds),.int .i64 c.entered,.int .i64 c.nodes,.sl (c.origins.map AD),.sl (c.times.map AD),.sl (c.labels.map Be)]
theorem Reading.ds_eq (c:Reading):c.ds=[.sl (c.net.agents.map Agent.ds),.int .i64 c.entered,.int .i64 c.nodes,.sl (c.origins.map AD),.sl (c.times.map AD),.sl (c.labels.map Be)] :=rfl
@[go_sem] def Reading.avs (c:Reading):List AV:=[.ro (c.net.agents.map Agent.ds),.int .i64 c.entered,.int .i64 c.nodes,.ro (c.origins.map AD),.ro (c.times.map AD),.ro (c.labels.map Be)]
@[go_sem] def Reading.rv (c:Reading):List RV:=[.ow (some 5) (c.net.agents.map Agent.ds),.int .i64 c.entered,.int .i64 c.nodes,.ow (some 1) (c.origins.map AD),.ow (some 1) (c.times.map AD),.ow (some 1) (c.labels.map Be)]
@[go_sem] def Reading.rvn (c:Reading):List RV:=[.ow none (c.net.agents.map Agent.ds),.int .i64 c.entered,.int .i64 c.nodes,.ow none (c.origins.map AD),.ow none (c.times.map AD),.ow none (c.labels.map Be)]
attribute [go_sem] Reading.ds_eq
theorem Reading.ds_len (c:Reading):c.ds.length=6:=by rw [Reading.ds_eq]; rfl
def Reading.dz (c:Reading):List D:=[.fz (c.net.agents.map Agent.ds),.int .i64 c.entered,.int .i64 c.nodes,.fz (c.origins.map AD),.fz (c.times.map AD),.fz (c.labels.map Be)]
@[go_sem] theorem Reading.dz_eq (c:Reading):c.dz=[.fz (c.net.agents.map Agent.ds),.int .i64 c.entered,.int .i64 c.nodes,.fz (c.origins.map AD),.fz (c.times.map AD),.fz (c.labels.map Be)] :=rfl
theorem Reading.dz_fz (c:Reading):fzC c.ds=c.dz:=by rw [Reading.ds_eq]; rfl
theorem Reading.dz_ng (c:Reading):∀d ∈ c.ds,d≠ .gone :=by rw [Reading.ds_eq]; exact Od rfl
@[go_sem] theorem Reading.dz_er (l:List Reading):erR (l.map Reading.dz)=List.map Reading.ds l:=H2 (fun c=>by rw [Reading.ds_eq]; simp only [Reading.dz,erC,er]) l
def CL (u:Reading) (v:Port) (w:Bool):Option (Int × Reading):=
 if w then (at? u.times v.agent).bind fun x=>(at? u.times v.agent).bind fun y=>(Br u.times v.agent (IntKind.i64.wrap (x+1))).bind fun v7010_2=>some (0,(⟨u.net,(IntKind.i64.wrap (u.entered+1)),u.nodes,u.origins,v7010_2,u.labels⟩:Reading)) else some (0,(⟨u.net,(IntKind.i64.wrap (u.entered+1)),u.nodes,u.origins,u.times,u.labels⟩:Reading))
def EJ (u:Reading) (v:Port):Option (Int × Reading):=
 if decide (4000<(IntKind.i64.wrap (u.entered+1))) then some (4,(⟨u.net,(IntKind.i64.wrap (u.entered+1)),u.nodes,u.origins,u.times,u.labels⟩:Reading)) else (at? u.net.agents v.agent).bind fun w=>if !decide (w.kind=4) then if decide (w.kind=2) then CL u v (!(decide (v.slot=1))) else CL u v true else CL u v false
def IJ (u:Port):Option ByteArray:=
 (Hx u.agent).bind fun v=>(Hi v (ByteArray.mk #[46])).bind fun w=>(Hx u.slot).bind fun x=>(Hi w x).bind fun y=>(Hi y (ByteArray.mk #[59])).bind fun z=>some z
def C2 (x:Reading) (w:Port) (u:Stacks):Option (Port × Bool × Stacks):=
 (at? x.net.agents w.agent).bind fun v=>if decide (0<w.slot) then (at? [u.e0,u.e1,u.e2,u.e3,u.e4,u.e5,u.e6,u.e7,u.e8] v.level).bind fun y=>(at? [u.e0,u.e1,u.e2,u.e3,u.e4,u.e5,u.e6,u.e7,u.e8] v.level).bind fun d=>(Br [u.e0,u.e1,u.e2,u.e3,u.e4,u.e5,u.e6,u.e7,u.e8] v.level (some (⟨w.slot,y⟩:Stack))).bind fun v4013_7=>(Stacks.of? v4013_7).bind fun v4013_8=>(Bf x.net (⟨w.agent,0⟩:Port)).bind fun z=>some (z,true,v4013_8) else (at? [u.e0,u.e1,u.e2,u.e3,u.e4,u.e5,u.e6,u.e7,u.e8] v.level).bind fun b=>iJ b (some ((⟨0,0⟩:Port),false,u)) (fun v7001_8n=>(at? [u.e0,u.e1,u.e2,u.e3,u.e4,u.e5,u.e6,u.e7,u.e8] v.level).bind fun e=>(Br [u.e0,u.e1,u.e2,u.e3,u.e4,u.e5,u.e6,u.e7,u.e8] v.level v7001_8n.rest).bind fun v9008_11=>(Stacks.of? v9008_11).bind fun v9008_12=>(Bf x.net (⟨w.agent,v7001_8n.port⟩:Port)).bind fun c=>some (c,true,v9008_12))
def Hy (u:Int):Option Core:=
 some (⟨2,u,[],[]⟩:Core)
def BJ:Nat→Stacks→Stacks→Int→Int→Option Bool
 |0,_,_,_,_=>none
 |n+1,u,v,x,w=>if decide (w<x) then (at? [u.e0,u.e1,u.e2,u.e3,u.e4,u.e5,u.e6,u.e7,u.e8] w).bind fun y=>(at? [v.e0,v.e1,v.e2,v.e3,v.e4,v.e5,v.e6,v.e7,v.e8] w).bind fun z=>(Mp y z).bind fun b=>if !b then some false else BJ n u v x (IntKind.i64.wrap (w+1)) else some true
def D2 (u:Stacks) (v:Stacks) (w:Int):Option Bool:=
 BJ fuel u v w 0
mutual
def Az:Nat→Reading→Int→Stacks→(Option ReadBinder)→Int→Option Int
 |0,_,_,_,_,_=>none
 |n+1,v,u,w,y,x=>iJ y (some (-1)) (fun v3001_8nnn=>if decide (v3001_8nnn.lam=u) then (at? v.net.agents u).bind fun z=>(D2 w v3001_8nnn.stacks z.level).bind fun b=>CB n v u w x v3001_8nnn b else CB n v u w x v3001_8nnn false)
def CB:Nat→Reading→Int→Stacks→Int→ReadBinder→Bool→Option Int
 |0,_,_,_,_,_,_=>none
 |n+1,v,w,x,u,v3001_8nnn,y=>if y then some u else Az n v w x v3001_8nnn.rest (IntKind.i64.wrap (u+1))
end
def Cy (u:Reading) (v:Int) (w:Stacks) (x:Option ReadBinder):Option Int:=
 Az fuel u v w x 0
def Nf (u:Int):Option Core:=
 some (⟨1,u,[],[]⟩:Core)
def Ng (u:Int):Option Core:=
 some (⟨11,u,[],[]⟩:Core)
def BM:Nat→Agent→(List Int)→Int→Option (Core × (List Int) × Bool)
 |0,_,_,_=>none
 |n+1,u,w,v=>if decide (v<(u.ports.length:Int)) then (app? w [v]).bind fun x=>BM n u x (IntKind.i64.wrap (v+1)) else some ((⟨8,u.value,[],[]⟩:Core),w,true)
def DY (u:Agent) (w:Bool):Option (Core × (List Int) × Bool):=
 if w then (CW u.data).bind fun x=>some ((⟨10,0,x,[]⟩:Core),[0],true) else if decide (u.kind=12) then (Ng u.value).bind fun v=>some ((⟨v.kind,v.value,[],[]⟩:Core),[],true) else some ((⟨0,0,[],[]⟩:Core),[],false)
def D3 (v:Port) (u:Agent) (w:Bool):Option (Core × (List Int) × Bool):=
 if w then (CW u.data).bind fun x=>some ((⟨9,0,x,[]⟩:Core),[0],true) else if decide (u.kind=11) then DY u (decide (v.slot=1)) else DY u false
def D4 (v:Port) (u:Agent) (w:Bool):Option (Core × (List Int) × Bool):=
 if w then BM fuel u [] 1 else if decide (u.kind=10) then D3 v u (decide (v.slot=1)) else D3 v u false
def D5 (v:Port) (u:Agent) (w:Bool):Option (Core × (List Int) × Bool):=
 if w then some ((⟨3,u.value,[],[]⟩:Core),[0],true) else if decide (u.kind=9) then D4 v u (decide (v.slot=0)) else D4 v u false
def D6 (v:Port) (u:Agent) (w:Bool):Option (Core × (List Int) × Bool):=
 if w then some ((⟨3,u.value,[],[]⟩:Core),[0,1],true) else if decide (u.kind=8) then D5 v u (decide (v.slot=1)) else D5 v u false
def D7 (v:Port) (u:Agent) (x:Bool):Option (Core × (List Int) × Bool):=
 if x then some ((⟨5,0,[],[]⟩:Core),[0,1],true) else if decide (u.kind=6) then (Hy u.value).bind fun w=>some ((⟨w.kind,w.value,[],[]⟩:Core),[],true) else if decide (u.kind=7) then D6 v u (decide (v.slot=2)) else D6 v u false
def D8 (y:Reading) (u:Port) (z:Stacks) (b:Option ReadBinder) (v:Agent) (c:Bool):Option (Core × (List Int) × Bool):=
 if c then (Cy y u.agent z b).bind fun w=>(Nf w).bind fun x=>some ((⟨x.kind,x.value,[],[]⟩:Core),[],(decide (0≤w))) else if decide (v.kind=3) then D7 u v (decide (u.slot=2)) else D7 u v false
def D9 (w:Reading) (u:Port) (x:Stacks) (y:Option ReadBinder) (v:Agent) (z:Bool):Option (Core × (List Int) × Bool):=
 if z then some ((⟨4,0,[],[]⟩:Core),[2],true) else if decide (v.kind=2) then D8 w u x y v (decide (u.slot=1)) else D8 w u x y v false
def FW (v:Reading) (u:Port) (x:Stacks) (y:Option ReadBinder):Option (Core × (List Int) × Bool):=
 (at? v.net.agents u.agent).bind fun w=>if decide (w.kind=2) then D9 v u x y w (decide (u.slot=0)) else D9 v u x y w false
def ES (u:Reading) (v:Int) (w:ByteArray) (x:Bool):Option (Int × Reading):=
 if x then some (4,u) else (app? u.origins [v]).bind fun y=>(app? u.labels [w]).bind fun z=>some (0,(⟨u.net,u.entered,(IntKind.i64.wrap (u.nodes+1)),y,u.times,z⟩:Reading))
def DC (u:Reading) (v:Int) (w:ByteArray) (x:Int):Option (Int × Reading):=
 if decide (u.nodes=400) then ES u v w true else ES u v w (decide (80<x))
mutual
def DD:Nat→Reading→Port→Stacks→(Option ReadBinder)→Int→Option (Core × Int × Reading)
 |0,_,_,_,_,_=>none
 |n+1,v,w,u,x,y=>B8 n v x y v.entered v.nodes v.origins v.times v.labels w.agent w.slot u.e0 u.e1 u.e2 u.e3 u.e4 u.e5 u.e6 u.e7 u.e8 (ByteArray.mk #[])
def B8:Nat→Reading→(Option ReadBinder)→Int→Int→Int→(List Int)→(List Int)→(List ByteArray)→Int→Int→(Option Stack)→(Option Stack)→(Option Stack)→(Option Stack)→(Option Stack)→(Option Stack)→(Option Stack)→(Option Stack)→(Option Stack)→ByteArray→Option (Core × Int × Reading)
 |0,_,_,_,_,_,_,_,_,_,_,_,_,_,_,_,_,_,_,_,_=>none
 |n+1,w,p,d,t,A,B,C,D,x,c,e,f,g,i,j,k,l,m,o,E=>(EJ (⟨w.net,t,A,B,C,D⟩:Reading) (⟨x,c⟩:Port)).bind fun u=>if !decide (u.1 =0) then some ((⟨0,0,[],[]⟩:Core),u.1,(⟨w.net,u.2.entered,u.2.nodes,u.2.origins,u.2.times,u.2.labels⟩:Reading)) else (IJ (⟨x,c⟩:Port)).bind fun F=>(Hi E F).bind fun q=>(at? w.net.agents x).bind fun G=>if !decide (G.kind=4) then (FW (⟨w.net,u.2.entered,u.2.nodes,u.2.origins,u.2.times,u.2.labels⟩:Reading) (⟨x,c⟩:Port) (⟨e,f,g,i,j,k,l,m,o⟩:Stacks) p).bind fun b=>if !b.2.2 then some ((⟨0,0,[],[]⟩:Core),13,(⟨w.net,u.2.entered,u.2.nodes,u.2.origins,u.2.times,u.2.labels⟩:Reading)) else (DC (⟨w.net,u.2.entered,u.2.nodes,u.2.origins,u.2.times,u.2.labels⟩:Reading) x q d).bind fun v=>if !decide (v.1 =0) then some ((⟨0,0,[],[]⟩:Core),v.1,(⟨w.net,v.2.entered,v.2.nodes,v.2.origins,v.2.times,v.2.labels⟩:Reading)) else (at? w.net.agents x).bind fun r=>if decide (r.kind=8) then (Hx x).bind fun H=>(Hi H (ByteArray.mk #[46,120,59])).bind fun I=>(DC (⟨w.net,v.2.entered,v.2.nodes,v.2.origins,v.2.times,v.2.labels⟩:Reading) (-1) I (IntKind.i64.wrap (d+1))).bind fun y=>if !decide (y.1 =0) then some ((⟨0,0,[],[]⟩:Core),y.1,(⟨w.net,y.2.entered,y.2.nodes,y.2.origins,y.2.times,y.2.labels⟩:Reading)) else (at? r.data 0).bind fun J=>(Hy J).bind fun s=>(app? b.1.kids [(⟨s.kind,s.value,[],[]⟩:Core)]).bind fun K=>BC n w d x c e f g i j k l m o b y.2.entered y.2.nodes y.2.origins y.2.times y.2.labels p K else if decide (b.1.kind =4) then BC n w d x c e f g i j k l m o b v.2.entered v.2.nodes v.2.origins v.2.times v.2.labels (some (⟨x,(⟨e,f,g,i,j,k,l,m,o⟩:Stacks),p⟩:ReadBinder)) b.1.kids else BC n w d x c e f g i j k l m o b v.2.entered v.2.nodes v.2.origins v.2.times v.2.labels p b.1.kids else (C2 (⟨w.net,u.2.entered,u.2.nodes,u.2.origins,u.2.times,u.2.labels⟩:Reading) (⟨x,c⟩:Port) (⟨e,f,g,i,j,k,l,m,o⟩:Stacks)).bind fun z=>if !z.2.1 then some ((⟨0,0,[],[]⟩:Core),13,(⟨w.net,u.2.entered,u.2.nodes,u.2.origins,u.2.times,u.2.labels⟩:Reading)) else B8 n w p d u.2.entered u.2.nodes u.2.origins u.2.times u.2.labels z.1.agent z.1.slot z.2.2.e0 z.2.2.e1 z.2.2.e2 z.2.2.e3 z.2.2.e4 z.2.2.e5 z.2.2.e6 z.2.2.e7 z.2.2.e8 q
def BC:Nat→Reading→Int→Int→Int→(Option Stack)→(Option Stack)→(Option Stack)→(Option Stack)→(Option Stack)→(Option Stack)→(Option Stack)→(Option Stack)→(Option Stack)→(Core × (List Int) × Bool)→Int→Int→(List Int)→(List Int)→(List ByteArray)→(Option ReadBinder)→(List Core)→Option (Core × Int × Reading)
 |0,_,_,_,_,_,_,_,_,_,_,_,_,_,_,_,_,_,_,_,_,_=>none
 |n+1,u,v,w,x,y,z,b,c,d,e,f,g,i,j,k,l,m,o,p,q,r=>B9 n u v w x y z b c d e f g i q j k l m o p r 0
def B9:Nat→Reading→Int→Int→Int→(Option Stack)→(Option Stack)→(Option Stack)→(Option Stack)→(Option Stack)→(Option Stack)→(Option Stack)→(Option Stack)→(Option Stack)→(Option ReadBinder)→(Core × (List Int) × Bool)→Int→Int→(List Int)→(List Int)→(List ByteArray)→(List Core)→Int→Option (Core × Int × Reading)
 |0,_,_,_,_,_,_,_,_,_,_,_,_,_,_,_,_,_,_,_,_,_,_=>none
 |n+1,w,y,z,t,b,c,d,e,f,g,i,j,k,l,v,m,o,p,q,r,s,x=>if decide (x<((List.length v.2.1 :Nat):Int)) then (at? v.2.1 x).bind fun A=>(Bf w.net (⟨z,A⟩:Port)).bind fun B=>(DD n (⟨w.net,m,o,p,q,r⟩:Reading) B (⟨b,c,d,e,f,g,i,j,k⟩:Stacks) l (IntKind.i64.wrap (y+1))).bind fun u=>if !decide (u.2.1 =0) then some ((⟨0,0,[],[]⟩:Core),u.2.1,(⟨w.net,u.2.2.entered,u.2.2.nodes,u.2.2.origins,u.2.2.times,u.2.2.labels⟩:Reading)) else (app? s [u.1]).bind fun C=>B9 n w y z t b c d e f g i j k l v u.2.2.entered u.2.2.nodes u.2.2.origins u.2.2.times u.2.2.labels C (IntKind.i64.wrap (x+1)) else some ((⟨v.1.kind,v.1.value,v.1.data,s⟩:Core),0,(⟨w.net,m,o,p,q,r⟩:Reading))
end
def Hw (v:Net):Option (Reading × Core × Int):=
 (EA v).bind fun w=>if !w then some ((⟨(⟨[]⟩:Net),0,0,[],[],[]⟩:Reading),(⟨0,0,[],[]⟩:Core),1) else (Pm (v.agents.length:Int) (0:Int)).bind fun x=>(Bf v (⟨0,0⟩:Port)).bind fun y=>(DD fuel (⟨v,0,0,[],x,[]⟩:Reading) y (⟨none,none,none,none,none,none,none,none,none⟩:Stacks) none 1).bind fun u=>some ((⟨v,u.2.2.entered,u.2.2.nodes,u.2.2.origins,u.2.2.times,u.2.2.labels⟩:Reading),u.1,u.2.1)
end Go.Proofs.YthenkmapmnkelaaGreatDoor.Ab
