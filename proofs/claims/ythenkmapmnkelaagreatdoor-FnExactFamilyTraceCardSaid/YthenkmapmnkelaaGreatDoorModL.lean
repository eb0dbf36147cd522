/- Models of the functions. -/
import Derived.Test.YthenkmapmnkelaaGreatDoorModU
namespace Go.Proofs.YthenkmapmnkelaaGreatDoor.Ab
set_option linter.unusedVariables false
set_option linter.unusedSimpArgs false
set_option maxRecDepth 20000
set_option maxHeartbeats 4000000
open Go.RowKit
def s_l11Link (y:Net) (w:Port) (x:Port):Option Net:=
 (at? y.agents w.agent).bind fun u=>(at? u.ports w.slot).bind fun z=>(Br u.ports w.slot x).bind fun v2013_3=>(Br y.agents w.agent (⟨u.kind,u.level,u.value,u.data,v2013_3⟩:Agent)).bind fun v2013_4=>(at? v2013_4 x.agent).bind fun v=>(at? v.ports x.slot).bind fun b=>(Br v.ports x.slot w).bind fun v3013_5=>(Br v2013_4 x.agent (⟨v.kind,v.level,v.value,v.data,v3013_5⟩:Agent)).bind fun v3013_6=>some (⟨v3013_6⟩:Net)
def Gw (v:Net) (u:Port):Option Port:=
 (at? v.agents u.agent).bind fun w=>(at? w.ports u.slot).bind fun x=>some x
def GI (u:Net) (x:Port) (v:Port):Option Net:=
 (Gw u x).bind fun w=>(Gw u v).bind fun y=>if !(decide (w.agent=v.agent)&&decide (w.slot=v.slot)) then (s_l11Link u w y).bind fun z=>some z else some u
def B0 (u:Net) (v:Port) (w:Port):Option Net:=
 (Gw u v).bind fun x=>(s_l11Link u w x).bind fun y=>some y
def Ix (u:Int) (w:Int) (v:Int) (x:Int):Option Bool:=
 (FF u w).bind fun y=>if y then (FF v x).bind fun z=>if z then if !decide (u=1) then some (!decide (v=1)) else some false else some false else some false
def FX (u:Int) (v:Int) (w:Int) (x:Bool):Option Bool:=
 if x then some true else (Ee v).bind fun y=>if y then some (decide (u<w)) else some false
def FY (v:Int) (u:Int) (w:Int) (x:Bool):Option Bool:=
 if x then some false else if decide (u=6) then FX v u w true else FX v u w (decide (u=12))
def HJ (u:Int) (v:Int) (w:Int):Option Bool:=
 (CU u 0 8).bind fun x=>if !x then FY u v w true else (FF v w).bind fun y=>FY u v w (!y)
def Ch (u:Bool):Option Bool:=
 if u then some true else some false
def HK (u:Int):Option Bool:=
 if decide (u=3) then Ch (decide (u=3)) else if decide (u=7) then Ch (decide (u=7)) else if decide (u=8) then Ch (decide (u=8)) else if decide (u=10) then Ch (decide (u=10)) else Ch (decide (u=11))
def HL (u:Int) (v:Int) (w:Int) (x:Bool):Option Int:=
 if x then some 2 else (HJ u v w).bind fun y=>if y then some 3 else some 0
def HM (u:Bool):Option Int:=
 if u then some 1 else some 0
def HN (u:Int) (v:Bool):Option Int:=
 if v then some 5 else if decide (u=11) then some 6 else some 0
def Gx (v:Int) (w:Int) (u:Int) (x:Int):Option Int:=
 if decide (v=5) then some 4 else if decide (v=4) then if decide (u=4) then HL w u x (decide (w=x)) else HL w u x false else if decide (v=2) then if decide (u=3) then HM (decide (w=x)) else HM false else if decide (v=6) then if decide (u=7) then HN u (decide (u=7)) else HN u (decide (u=8)) else if decide (v=9) then if decide (u=10) then some 6 else some 0 else if decide (v=12) then (HK u).bind fun y=>if y then some 7 else some 0 else some 0
def GZ (u:Int) (v:Int) (w:Int) (x:Int):Option Int:=
 (Ix u v w x).bind fun y=>if !y then some 0 else (Gx u v w x).bind fun z=>if !decide (z=0) then some 1 else (Gx w x u v).bind fun b=>if !decide (b=0) then some 2 else some 0
def Ed (w:Net) (u:Int) (v:Int):Option (Int × Int):=
 (at? w.agents u).bind fun x=>(at? w.agents v).bind fun y=>(GZ x.kind x.level y.kind y.level).bind fun z=>if decide (z=2) then some (v,u) else some (u,v)
def F4 (u:Int):Option Int:=
 if decide (u=0) then some 8 else some u
def IK (u:Int) (v:Int) (w:Int) (x:Int):Option Int:=
 (Ix u v w x).bind fun z=>if !z then some 0 else (Gx u v w x).bind fun y=>if decide (y=0) then (Gx w x u v).bind fun b=>F4 b else F4 y
def Fo (u:Agent) (v:Agent) (w:Bool):Option Int:=
 if w then some 8 else (IK u.kind u.level v.kind v.level).bind fun x=>some x
def Fp (u:Agent) (v:Agent) (w:Bool):Option Int:=
 if w then some 8 else if decide (u.kind=10) then if decide (v.kind=9) then Fo u v (decide ((u.data.length:Int)≤v.value)) else Fo u v false else Fo u v false
def Gk (u:Agent) (v:Agent):Option Int:=
 if decide (u.kind=9) then if decide (v.kind=10) then Fp u v (decide ((v.data.length:Int)≤u.value)) else Fp u v false else Fp u v false
def Mv (u:Int) (v:Int):Option Int:=
 if decide (v<u) then some u else some v
def Ci:Nat→Net→Int→Int→Option Int
 |0,_,_,_=>none
 |n+1,u,w,v=>if decide (v<(u.agents.length:Int)) then (at? u.agents v).bind fun x=>(Mv w x.level).bind fun y=>Ci n u y (IntKind.i64.wrap (v+1)) else some w
def Il (u:Net):Option Int:=
 Ci fuel u 0 0
def Dl (u:Int) (v:Int) (w:Int) (x:Int):Option (Int × Int):=
 (CU u v w).bind fun y=>if !y then some (0,2) else some (x,0)
def IL (v:Int) (u:Int) (w:Bool):Option (Int × Int):=
 if w then Dl u 0 0 (-2) else if decide (v=3) then Dl u 0 3 u else if decide (v=4) then Dl u 0 3 (IntKind.i64.wrap (u - 2)) else if decide (v=5) then Dl u 0 0 (-1) else if decide (v=6) then Dl u 0 3 (IntKind.i64.wrap (u - 1)) else if decide (v=7) then Dl u 2 600 (IntKind.i64.wrap (u - 2)) else some (0,2)
def Mw (u:Int) (v:Int):Option (Int × Int):=
 if decide (u=1) then IL u v (decide (u=1)) else IL u v (decide (u=2))
def DE (u:Int) (v:Int):Option (Int × Int):=
 (Mw u v).bind fun w=>some (w.1,0)
def F5 (w:List Net) (v:Agent) (x:Agent) (u:Int) (y:Bool):Option (Int × Int):=
 if y then DE u (IntKind.i64.wrap ((x.ports.length:Int) - 1)) else if decide (u=6) then (Dm v).bind fun z=>DE u z else if decide (u=7) then if decide ((w.length:Int)≤v.value) then some (0,3) else (at? w v.value).bind fun b=>(at? w v.value).bind fun c=>(Il c).bind fun d=>if decide (8<(IntKind.i64.wrap (d+v.level))) then some (0,9) else DE u (b.agents.length:Int) else DE u 0
def IM (y:List Net) (v:Net) (b:Int) (c:Int):Option (Int × Int):=
 (Ed v b c).bind fun z=>(at? v.agents z.1).bind fun w=>(at? v.agents z.2).bind fun x=>(Gk w x).bind fun u=>if decide (u=8) then some (0,11) else if decide (u=3) then F5 y w x u (decide (u=3)) else F5 y w x u (decide (u=4))
def Dc:Nat→Net→Int→Int→Option Int
 |0,_,_,_=>none
 |n+1,u,w,v=>if decide (v<(u.agents.length:Int)) then (at? u.agents v).bind fun x=>if !decide (x.kind=0) then Dc n u (IntKind.i64.wrap (w+1)) (IntKind.i64.wrap (v+1)) else Dc n u w (IntKind.i64.wrap (v+1)) else some w
def Nh (u:Net):Option Int:=
 Dc fuel u 0 0
def AZ (u:Int) (v:Int):Option Port:=
 some (⟨u,v⟩:Port)
def E7:Nat→Net→Int→Int→Int→(List Int)→(List Port)→Int→Option (Int × Net)
 |0,_,_,_,_,_,_,_=>none
 |n+1,u,v,w,x,y,z,b=>if decide (0<b) then (app? z [(⟨0,0⟩:Port)]).bind fun d=>E7 n u v w x y d (IntKind.i64.wrap (b - 1)) else (app? u.agents [(⟨v,w,x,y,z⟩:Agent)]).bind fun c=>some ((IntKind.i64.wrap ((c.length:Int) - 1)),(⟨c⟩:Net))
def Cn (u:Net) (v:Int) (w:Int) (x:Int) (y:List Int) (z:Int):Option (Int × Net):=
 (FZ y).bind fun b=>E7 fuel u v w x b [] z
def CA:Nat→Int→Agent→(Int × Net)→(List Agent)→Int→Option Net
 |0,_,_,_,_,_=>none
 |n+1,v,w,x,y,u=>if decide (u<(w.ports.length:Int)) then (AZ v u).bind fun z=>(AZ (IntKind.i64.wrap (x.1 +u)) 0).bind fun b=>(B0 (⟨y⟩:Net) z b).bind fun c=>CA n v w x c.agents (IntKind.i64.wrap (u+1)) else some (⟨y⟩:Net)
def Bl:Nat→Int→Int→Agent→Agent→(Int × Net)→(Int × Net)→(List Agent)→Int→Option Net
 |0,_,_,_,_,_,_,_,_=>none
 |n+1,w,b,c,x,y,u,d,v=>if decide (v<(x.ports.length:Int)) then (Cn (⟨d⟩:Net) 4 c.level 0 [] 3).bind fun z=>(AZ z.1 1).bind fun e=>(AZ y.1 v).bind fun f=>(s_l11Link z.2 e f).bind fun g=>(AZ z.1 2).bind fun i=>(AZ u.1 v).bind fun j=>(s_l11Link g i j).bind fun k=>Bl n w b c x y u k.agents (IntKind.i64.wrap (v+1)) else (AZ w 1).bind fun l=>(AZ y.1 0).bind fun m=>(B0 (⟨d⟩:Net) l m).bind fun o=>(AZ w 2).bind fun p=>(AZ u.1 0).bind fun q=>(B0 o p q).bind fun r=>CA fuel b x u r.agents 1
def F6 (v:Net) (w:Int) (x:Int):Option Net:=
 (at? v.agents w).bind fun b=>(at? v.agents x).bind fun c=>(CE c).bind fun u=>(Cn v u.kind u.level u.value u.data (u.ports.length:Int)).bind fun y=>(Cn y.2 u.kind u.level u.value u.data (u.ports.length:Int)).bind fun z=>Bl fuel w x b u y z z.2.agents 1
def Ga (u:Int):Option Int:=
 some (IntKind.i64.wrap (IntKind.i32.wrap (IntKind.u32.wrap (IntKind.u64.wrap u))))
def Kn (u:Bool):Option Int:=
 if u then some 1 else some 0
def Ko (v:Int) (x:Int) (y:Int):Option Int:=
 (Ga x).bind fun w=>(Ga y).bind fun u=>if decide (v=1) then (Ga (IntKind.i64.wrap (w+u))).bind fun z=>some z else if decide (v=2) then (Ga (IntKind.i64.wrap (w - u))).bind fun b=>some b else if decide (v=3) then (Ga (IntKind.i64.wrap (w*u))).bind fun c=>some c else if decide (v=4) then if decide (u=0) then some 0 else (nz? u).bind fun g=>(Ga (IntKind.i64.wrap (Int.tdiv w u))).bind fun d=>some d else if decide (v=5) then (Kn (decide (w<u))).bind fun e=>some e else if decide (v=6) then (Kn (decide (w=u))).bind fun f=>some f else some 0
def GJ (v:Net) (b:Int) (w:Int):Option Net:=
 (at? v.agents w).bind fun c=>(CE c).bind fun u=>(at? v.agents b).bind fun y=>if decide (u.kind=8) then (at? u.data 0).bind fun d=>(Ko u.value d y.value).bind fun e=>(Cn v 6 0 e [] 1).bind fun z=>(AZ w 1).bind fun f=>(AZ z.1 0).bind fun g=>(B0 z.2 f g).bind fun i=>some i else (Cn v 8 u.level u.value [y.value] 2).bind fun x=>(AZ w 1).bind fun j=>(AZ x.1 0).bind fun k=>(B0 x.2 j k).bind fun l=>(AZ w 2).bind fun m=>(AZ x.1 1).bind fun o=>(B0 l m o).bind fun p=>some p
def F7 (v:Net) (w:Int) (x:Agent) (y:Int):Option Net:=
 (Cn v 12 x.level y [] 1).bind fun u=>(AZ w 1).bind fun z=>(AZ u.1 0).bind fun b=>(B0 u.2 z b).bind fun c=>some c
def DF:Nat→Int→Int→Agent→Int→(List Agent)→Int→Int→Int→Option Net
 |0,_,_,_,_,_,_,_,_=>none
 |n+1,w,x,y,z,b,c,d,v=>if decide (v≤z) then (Cn (⟨b⟩:Net) 3 y.level 0 [] 3).bind fun u=>(AZ u.1 0).bind fun f=>(s_l11Link u.2 (⟨c,d⟩:Port) f).bind fun g=>(AZ w v).bind fun i=>(AZ u.1 1).bind fun j=>(B0 g i j).bind fun k=>(AZ u.1 2).bind fun e=>DF n w x y z k.agents e.agent e.slot (IntKind.i64.wrap (v+1)) else (AZ x 1).bind fun l=>(B0 (⟨b⟩:Net) l (⟨c,d⟩:Port)).bind fun m=>some m
def E8 (v:Net) (w:Int) (x:Int):Option Net:=
 (at? v.agents x).bind fun b=>(CE b).bind fun u=>if decide (u.kind=11) then (at? u.data 1).bind fun c=>(at? v.agents w).bind fun d=>if !decide (d.value=0) then (at? u.data 0).bind fun e=>F7 v x u e else F7 v x u c else (at? v.agents w).bind fun f=>(Dm f).bind fun g=>(at? v.agents w).bind fun i=>(at? u.data i.value).bind fun j=>(Cn v 12 u.level j [] 1).bind fun y=>(AZ y.1 0).bind fun z=>DF fuel w x u g y.2.agents z.agent z.slot 1
mutual
def BN:Nat→Net→Net→Int→Agent→(List Agent)→Int→Option Net
 |0,_,_,_,_,_,_=>none
 |n+1,u,x,y,z,b,w=>if decide (w<(u.agents.length:Int)) then (at? u.agents w).bind fun d=>(CE d).bind fun v=>(Ee v.kind).bind fun e=>if e then DS n u x y b w z v (IntKind.i64.wrap (v.level+z.level)) else DS n u x y b w z v v.level else (at? u.agents 0).bind fun f=>(at? f.ports 0).bind fun c=>(AZ (IntKind.i64.wrap ((IntKind.i64.wrap ((x.agents.length:Int) - 1))+c.agent)) c.slot).bind fun g=>(AZ y 0).bind fun i=>(s_l11Link (⟨b⟩:Net) g i).bind fun j=>some j
def DS:Nat→Net→Net→Int→(List Agent)→Int→Agent→Agent→Int→Option Net
 |0,_,_,_,_,_,_,_,_=>none
 |n+1,v,w,x,y,z,b,u,c=>Cj n v w x y z c b u u.ports 0
def Cj:Nat→Net→Net→Int→(List Agent)→Int→Int→Agent→Agent→(List Port)→Int→Option Net
 |0,_,_,_,_,_,_,_,_,_,_=>none
 |n+1,y,x,z,b,c,d,e,w,u,v=>if decide (v<(u.length:Int)) then (at? u v).bind fun f=>(at? u v).bind fun g=>(Br u v (⟨(IntKind.i64.wrap (f.agent+(IntKind.i64.wrap ((x.agents.length:Int) - 1)))),g.slot⟩:Port)).bind fun v12010_144=>Cj n y x z b c d e w v12010_144 (IntKind.i64.wrap (v+1)) else (app? b [(⟨w.kind,d,w.value,w.data,u⟩:Agent)]).bind fun i=>BN n y x z e i (IntKind.i64.wrap (c+1))
end
def IN (v:Net) (u:Net) (w:Int) (x:Int):Option Net:=
 (at? u.agents w).bind fun y=>BN fuel v u x y u.agents 1
def ET (u:Net) (v:Int):Option Net:=
 (at? u.agents v).bind fun w=>(Br u.agents v (⟨0,0,0,[],[]⟩:Agent)).bind fun v1007_1=>some (⟨v1007_1⟩:Net)
def Cz (u:Int × Int) (w:Int) (x:List Agent):Option (Int × Net):=
 (ET (⟨x⟩:Net) u.1).bind fun v=>if !decide (w=7) then (ET v u.2).bind fun y=>some (0,y) else some (0,v)
def Ef:Nat→(Int × Int)→Int→Agent→(List Agent)→Int→Option (Int × Net)
 |0,_,_,_,_,_=>none
 |n+1,u,w,x,y,v=>if decide (v<(x.ports.length:Int)) then (Cn (⟨y⟩:Net) 5 0 0 [] 1).bind fun z=>(AZ u.2 v).bind fun b=>(AZ z.1 0).bind fun c=>(B0 z.2 b c).bind fun d=>Ef n u w x d.agents (IntKind.i64.wrap (v+1)) else Cz u w y
def Gl (x:List Net) (w:Net) (u:Int × Int) (v:Int) (y:Bool):Option (Int × Net):=
 if y then (AZ u.1 1).bind fun z=>(AZ u.2 1).bind fun b=>(GI w z b).bind fun c=>(AZ u.1 2).bind fun d=>(AZ u.2 2).bind fun e=>(GI c d e).bind fun f=>Cz u v f.agents else if decide (v=3) then (F6 w u.1 u.2).bind fun g=>Cz u v g.agents else if decide (v=4) then (at? w.agents u.2).bind fun i=>Ef fuel u v i w.agents 1 else if decide (v=5) then (GJ w u.1 u.2).bind fun j=>Cz u v j.agents else if decide (v=6) then (E8 w u.1 u.2).bind fun k=>Cz u v k.agents else if decide (v=7) then (at? w.agents u.1).bind fun l=>(at? x l.value).bind fun m=>(IN m w u.1 u.2).bind fun o=>Cz u v o.agents else Cz u v w.agents
def J3 (x:List Net) (u:Net) (z:Int) (b:Int):Option (Int × Net):=
 (IM x u z b).bind fun y=>if !decide (y.2 =0) then some (y.2,u) else (Nh u).bind fun c=>if decide (600<(IntKind.i64.wrap (c+y.1))) then some (4,u) else (Ed u z b).bind fun w=>(at? u.agents w.1).bind fun d=>(at? u.agents w.2).bind fun e=>(Gk d e).bind fun v=>if decide (v=1) then Gl x u w v (decide (v=1)) else Gl x u w v (decide (v=2))
mutual
def Bc:Nat→Net→(List Int)→(List Agent)→Int→Option Net
 |0,_,_,_,_=>none
 |n+1,u,x,w,v=>if decide (v<(u.agents.length:Int)) then (at? u.agents v).bind fun z=>if !decide (z.kind=0) then (at? u.agents v).bind fun b=>(CE b).bind fun y=>Dn n u x w v y y.ports 0 else Bc n u x w (IntKind.i64.wrap (v+1)) else some (⟨w⟩:Net)
def Dn:Nat→Net→(List Int)→(List Agent)→Int→Agent→(List Port)→Int→Option Net
 |0,_,_,_,_,_,_,_=>none
 |n+1,y,x,z,b,u,v,w=>if decide (w<(v.length:Int)) then (at? v w).bind fun c=>(at? x c.agent).bind fun d=>(at? v w).bind fun e=>(Br v w (⟨d,e.slot⟩:Port)).bind fun v18014_144=>Dn n y x z b u v18014_144 (IntKind.i64.wrap (w+1)) else (app? z [(⟨u.kind,u.level,u.value,u.data,v⟩:Agent)]).bind fun f=>Bc n y x f (IntKind.i64.wrap (b+1))
end
def Dd:Nat→Net→(List Int)→Int→Int→Option Net
 |0,_,_,_,_=>none
 |n+1,u,x,w,v=>if decide (v<(u.agents.length:Int)) then (app? x [w]).bind fun y=>(at? u.agents v).bind fun z=>if !decide (z.kind=0) then Dd n u y (IntKind.i64.wrap (w+1)) (IntKind.i64.wrap (v+1)) else Dd n u y w (IntKind.i64.wrap (v+1)) else Bc fuel u x [] 0
def Iw (u:Net):Option Net:=
 Dd fuel u [] 0 0
def F8:Nat→Net→(List Agent)→Int→Option Net
 |0,_,_,_=>none
 |n+1,u,w,v=>if decide (v<(u.agents.length:Int)) then (at? u.agents v).bind fun x=>(CE x).bind fun y=>(app? w [y]).bind fun z=>F8 n u z (IntKind.i64.wrap (v+1)) else some (⟨w⟩:Net)
def Ms (u:Net):Option Net:=
 F8 fuel u [] 0
end Go.Proofs.YthenkmapmnkelaaGreatDoor.Ab
