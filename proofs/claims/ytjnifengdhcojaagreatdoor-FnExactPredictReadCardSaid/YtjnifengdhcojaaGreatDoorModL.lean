/- Data of the program as Lean types. -/
import Derived.Test.YtjnifengdhcojaaGreatDoorAbY
import Derived.Test.YtjnifengdhcojaaGreatDoorModD
namespace Go.Proofs.YtjnifengdhcojaaGreatDoor.Ab
set_option linter.unusedVariables false
set_option linter.unusedSimpArgs false
set_option maxRecDepth 20000
set_option maxHeartbeats 4000000
open Go.RowKit
structure Pair where
 a:Int
 b:Int
def Pair.ds (c:Pair):List D:=[.int .i64 c.a,.int .i64 c.b]
theorem Pair.ds_eq (c:Pair):c.ds=[.int .i64 c.a,.int .i64 c.b] :=rfl
@[go_sem] def Pair.avs (c:Pair):List AV:=[.int .i64 c.a,.int .i64 c.b]
@[go_sem] def Pair.rv (c:Pair):List RV:=[.int .i64 c.a,.int .i64 c.b]
@[go_sem] def Pair.rvn (c:Pair):List RV:=[.int .i64 c.a,.int .i64 c.b]
attribute [go_sem] Pair.ds_eq
theorem Pair.ds_len (c:Pair):c.ds.length=2:=by rw [Pair.ds_eq]; rfl
mutual
def B4:Nat→Int→(Core × L16Walk)→(List Int)→Int→Option ((List Int) × Core × Int)
 |0,_,_,_,_=>none
 |n+1,v,u,x,w=>if decide (w<((List.length u.2.origins :Nat):Int)) then if decide (0≤v) then (at? u.2.origins w).bind fun y=>EK n v x w u (decide (y=v)) else EK n v x w u false else some (x,u.1,0)
def EK:Nat→Int→(List Int)→Int→(Core × L16Walk)→Bool→Option ((List Int) × Core × Int)
 |0,_,_,_,_,_=>none
 |n+1,v,w,u,x,y=>if y then (app? w [u]).bind fun z=>B4 n v x z (IntKind.i64.wrap (u+1)) else B4 n v x w (IntKind.i64.wrap (u+1))
end
def JX (v:Net) (w:Int):Option ((List Int) × Core × Int):=
 (Ko v).bind fun u=>if !decide (u.2.code =0) then some ([],(⟨0,0,[],[]⟩:Core),u.2.code) else B4 fuel w u [] 0
def I3 (u:Int) (w:Int) (v:Int) (x:Int):Option Bool:=
 (E2 u w).bind fun y=>if y then (E2 v x).bind fun z=>if z then if !decide (u=1) then some (!decide (v=1)) else some false else some false else some false
def FI (u:Int) (v:Int) (w:Int) (x:Bool):Option Bool:=
 if x then some true else (E3 v).bind fun y=>if y then some (decide (u<w)) else some false
def FJ (v:Int) (u:Int) (w:Int) (x:Bool):Option Bool:=
 if x then some false else if decide (u=6) then FI v u w true else FI v u w (decide (u=12))
def G9 (u:Int) (v:Int) (w:Int):Option Bool:=
 (BN u 0 8).bind fun x=>if !x then FJ u v w true else (E2 v w).bind fun y=>FJ u v w (!y)
def CH (u:Bool):Option Bool:=
 if u then some true else some false
def HA (u:Int):Option Bool:=
 if decide (u=3) then CH (decide (u=3)) else if decide (u=7) then CH (decide (u=7)) else if decide (u=8) then CH (decide (u=8)) else if decide (u=10) then CH (decide (u=10)) else CH (decide (u=11))
def HC (u:Int) (v:Int) (w:Int) (x:Bool):Option Int:=
 if x then some 2 else (G9 u v w).bind fun y=>if y then some 3 else some 0
def HD (u:Bool):Option Int:=
 if u then some 1 else some 0
def HE (u:Int) (v:Bool):Option Int:=
 if v then some 5 else if decide (u=11) then some 6 else some 0
def Gu (v:Int) (w:Int) (u:Int) (x:Int):Option Int:=
 if decide (v=5) then some 4 else if decide (v=4) then if decide (u=4) then HC w u x (decide (w=x)) else HC w u x false else if decide (v=2) then if decide (u=3) then HD (decide (w=x)) else HD false else if decide (v=6) then if decide (u=7) then HE u (decide (u=7)) else HE u (decide (u=8)) else if decide (v=9) then if decide (u=10) then some 6 else some 0 else if decide (v=12) then (HA u).bind fun y=>if y then some 7 else some 0 else some 0
def GP (u:Int) (v:Int) (w:Int) (x:Int):Option Int:=
 (I3 u v w x).bind fun y=>if !y then some 0 else (Gu u v w x).bind fun z=>if !decide (z=0) then some 1 else (Gu w x u v).bind fun b=>if !decide (b=0) then some 2 else some 0
def LU (w:Net) (u:Int) (v:Int):Option (Int × Int):=
 (at? w.agents u).bind fun x=>(at? w.agents v).bind fun y=>(GP x.kind x.level y.kind y.level).bind fun z=>if decide (z=2) then some (v,u) else some (u,v)
def Ft (u:Int):Option Int:=
 if decide (u=0) then some 8 else some u
def IP (u:Int) (v:Int) (w:Int) (x:Int):Option Int:=
 (I3 u v w x).bind fun z=>if !z then some 0 else (Gu u v w x).bind fun y=>if decide (y=0) then (Gu w x u v).bind fun b=>Ft b else Ft y
def FX (u:Agent) (v:Agent) (w:Bool):Option Int:=
 if w then some 8 else (IP u.kind u.level v.kind v.level).bind fun x=>some x
def FY (u:Agent) (v:Agent) (w:Bool):Option Int:=
 if w then some 8 else if decide (u.kind=10) then if decide (v.kind=9) then FX u v (decide ((u.data.length:Int)≤v.value)) else FX u v false else FX u v false
def JY (u:Agent) (v:Agent):Option Int:=
 if decide (u.kind=9) then if decide (v.kind=10) then FY u v (decide ((v.data.length:Int)≤u.value)) else FY u v false else FY u v false
def CR (v:Net) (u:Int × Int) (w:Int) (x:Bool):Option Int:=
 if x then some u.2 else if decide (w=5) then (at? v.agents u.2).bind fun y=>if decide (y.kind=8) then some u.2 else some (-1) else some (-1)
def FZ (v:Net) (x:Pair):Option Int:=
 (LU v x.a x.b).bind fun w=>(at? v.agents w.1).bind fun y=>(at? v.agents w.2).bind fun z=>(JY y z).bind fun u=>if decide (u=1) then CR v w u (decide (u=1)) else if decide (u=6) then CR v w u (decide (u=6)) else CR v w u (decide (u=7))
mutual
def Bk:Nat→Net→(List Pair)→Int→Option ((List Pair))
 |0,_,_,_=>none
 |n+1,v,w,u=>if decide (u<(v.agents.length:Int)) then (at? v.agents u).bind fun y=>if decide (y.kind=0) then Bk n v w (IntKind.i64.wrap (u+1)) else (at? v.agents u).bind fun z=>(at? z.ports 0).bind fun x=>if decide (x.slot=0) then Fa n v w u x (decide (u<x.agent)) else Fa n v w u x false else some w
def Fa:Nat→Net→(List Pair)→Int→Port→Bool→Option ((List Pair))
 |0,_,_,_,_,_=>none
 |n+1,v,w,u,x,y=>if y then (app? w [(⟨u,x.agent⟩:Pair)]).bind fun z=>Bk n v z (IntKind.i64.wrap (u+1)) else Bk n v w (IntKind.i64.wrap (u+1))
end
def JZ (u:Net):Option ((List Pair)):=
 Bk fuel u [] 1
def Kp (u:Net) (v:Int):Option (Pair × Int):=
 (Pp u).bind fun x=>if !x then some ((⟨0,0⟩:Pair),1) else (JZ u).bind fun w=>(BN v 0 (IntKind.i64.wrap ((w.length:Int) - 1))).bind fun y=>if !y then some ((⟨0,0⟩:Pair),2) else (at? w v).bind fun z=>some (z,0)
def GL (y:Book) (v:Net) (z:Int):Option (Core × Int):=
 (Kp v z).bind fun w=>if !decide (w.2 =0) then some ((⟨0,0,[],[]⟩:Core),w.2) else (FZ v w.1).bind fun b=>(JX v b).bind fun u=>if !decide (u.2.2 =0) then some ((⟨0,0,[],[]⟩:Core),u.2.2) else (IL y u.2.1 u.1).bind fun x=>some (x.1,x.2)
def FK (v:Int) (u:Int) (w:Int) (x:Bool):Option Bool:=
 if x then some false else if decide (u=6) then some true else if decide (u=12) then some true else (Fu u).bind fun y=>if y then some (decide (v<w)) else some false
def HF (u:Int) (v:Int) (w:Int):Option Bool:=
 (Hz u).bind fun x=>if !x then FK u v w true else (D7 v w).bind fun y=>FK u v w (!y)
def HG (u:Int):Option Bool:=
 if decide (u=3) then some true else if decide (u=7) then some true else if decide (u=8) then some true else if decide (u=10) then some true else some (decide (u=11))
def HH (u:Int) (v:Int) (w:Int) (x:Bool):Option Int:=
 if x then some 2 else (HF u v w).bind fun y=>if y then some 3 else some 0
def HJ (u:Bool):Option Int:=
 if u then some 1 else some 0
def HK (u:Int) (v:Bool):Option Int:=
 if v then some 5 else if decide (u=11) then some 6 else some 0
def I4 (v:Int) (w:Int) (u:Int) (x:Int):Option Int:=
 if decide (v=5) then some 4 else if decide (v=4) then if decide (u=4) then HH w u x (decide (w=x)) else HH w u x false else if decide (v=2) then if decide (u=3) then HJ (decide (w=x)) else HJ false else if decide (v=6) then if decide (u=7) then HK u (decide (u=7)) else HK u (decide (u=8)) else if decide (v=9) then if decide (u=10) then some 6 else some 0 else if decide (v=12) then (HG u).bind fun y=>if y then some 7 else some 0 else some 0
def Fv (u:Int) (v:Int) (w:Int) (x:Int) (b:Bool):Option (Int × Int):=
 if b then some (0,0) else (I4 u v w x).bind fun y=>if !decide (y=0) then some (y,1) else (I4 w x u v).bind fun z=>if !decide (z=0) then some (z,2) else some (8,0)
def Mm (u:Int) (w:Int) (v:Int) (x:Int):Option (Int × Int):=
 if decide (u=1) then Fv u w v x true else if decide (v=1) then Fv u w v x true else (D7 u w).bind fun y=>if !y then Fv u w v x true else (D7 v x).bind fun z=>Fv u w v x (!z)
def DN (u:Int × Int) (v:Bool):Option (Int × Bool):=
 if v then some (8,false) else some (u.1,(decide (u.2 =2)))
def DO (u:Int × Int) (y:Int) (z:Int) (v:Int) (b:List Int) (c:List Port) (w:Int) (d:Int) (e:Int) (x:List Int) (f:List Port):Option (Int × Bool):=
 if decide (u.1 =6) then if decide (w=10) then DN u (decide ((x.length:Int)≤v)) else DN u false else DN u false
def GQ (x:Net) (y:Pair):Option (Int × Bool):=
 (at? x.agents y.a).bind fun u=>(at? x.agents y.b).bind fun v=>(Mm u.kind u.level v.kind v.level).bind fun w=>if decide (w.2 =2) then DO w v.kind v.level v.value v.data v.ports u.kind u.level u.value u.data u.ports else DO w u.kind u.level u.value u.data u.ports v.kind v.level v.value v.data v.ports
def BH (v:Net) (u:Int) (w:Int × Bool) (x:Bool):Option Int:=
 if x then some u else if decide (w.1 =5) then (at? v.agents u).bind fun y=>if decide (y.kind=8) then some u else some (-1) else some (-1)
def Bc (v:Net) (u:Int × Bool) (w:Int):Option Int:=
 if decide (u.1 =1) then BH v w u (decide (u.1 =1)) else if decide (u.1 =6) then BH v w u (decide (u.1 =6)) else BH v w u (decide (u.1 =7))
def Ee (u:Net) (v:Pair):Option Int:=
 (GQ u v).bind fun w=>if w.2 =true then Bc u w v.a else Bc u w v.b
mutual
def DJ:Nat→(Reading × Core × Int)→Int→(List Int)→Int→Option (Core × (List Int) × Int)
 |0,_,_,_,_=>none
 |n+1,u,v,x,w=>if decide (w<((List.length u.1.origins :Nat):Int)) then (at? u.1.origins w).bind fun y=>if decide (0≤v) then Fw n x w u v (decide (y=v)) else Fw n x w u v false else some (u.2.1,x,0)
def Fw:Nat→(List Int)→Int→(Reading × Core × Int)→Int→Bool→Option (Core × (List Int) × Int)
 |0,_,_,_,_,_=>none
 |n+1,v,u,w,x,y=>if y then (app? v [u]).bind fun z=>DJ n w x z (IntKind.i64.wrap (u+1)) else DJ n w x v (IntKind.i64.wrap (u+1))
end
def Mn (v:Net) (w:Pair):Option (Core × (List Int) × Int):=
 (Hy v).bind fun u=>if !decide (u.2.2 =0) then some ((⟨0,0,[],[]⟩:Core),[],u.2.2) else (Ee v w).bind fun x=>DJ fuel u x [] 0
mutual
def BW:Nat→Net→(List Pair)→Int→Option ((List Pair))
 |0,_,_,_=>none
 |n+1,v,x,u=>if decide (u<(v.agents.length:Int)) then (at? v.agents u).bind fun y=>(at? y.ports 0).bind fun w=>if decide (w.slot=0) then if decide (u<w.agent) then Cg n v x u w (!decide (y.kind=1)) else Cg n v x u w false else Cg n v x u w false else some x
def Cg:Nat→Net→(List Pair)→Int→Port→Bool→Option ((List Pair))
 |0,_,_,_,_,_=>none
 |n+1,v,w,u,x,y=>if y then (app? w [(⟨u,x.agent⟩:Pair)]).bind fun z=>BW n v z (IntKind.i64.wrap (u+1)) else BW n v w (IntKind.i64.wrap (u+1))
end
def IQ (u:Net):Option ((List Pair)):=
 BW fuel u [] 0
def Fx (u:Int) (v:(List Pair)) (w:Bool):Option (Pair × Int):=
 if w then some ((⟨0,0⟩:Pair),2) else (at? v u).bind fun x=>some (x,0)
def Mo (w:Net) (u:Int):Option (Pair × Int):=
 (EJ w).bind fun x=>if !x then some ((⟨0,0⟩:Pair),1) else (IQ w).bind fun v=>if decide (u<0) then Fx u v true else Fx u v (decide ((v.length:Int)≤u))
def FQ (y:Book) (w:Net) (z:Int):Option (Core × Int):=
 (Mo w z).bind fun v=>if !decide (v.2 =0) then some ((⟨0,0,[],[]⟩:Core),v.2) else (Mn w v.1).bind fun u=>if !decide (u.2.2 =0) then some ((⟨0,0,[],[]⟩:Core),u.2.2) else (Ec y u.1 u.2.1).bind fun x=>some (x.1,x.2)
def Bw (v:Core × Int) (u:Int × (List Int) × (List Core)) (x:Bool):Option Bool:=
 if x then some false else (Gb (⟨v.1.kind,v.1.value,u.2.1,u.2.2⟩:Core) 1).bind fun w=>if decide (w<0) then some false else if !decide (w=u.1) then some false else some true
def BQ (z:Book) (b:Net) (c:Int) (w:Core × Int) (u:Core × Int) (d:Bool):Option Bool:=
 if d then some false else (Hq u.1 1).bind fun v=>(Gb (⟨u.1.kind,u.1.value,v.2.1,v.2.2⟩:Core) 1).bind fun x=>if decide (x<0) then some false else if !decide (x=v.1) then some false else (G2 z).bind fun e=>(Ip b).bind fun f=>(FQ e f c).bind fun y=>(EW fuel y.1 w.1).bind fun g=>if !g then Bw u v true else Bw u v (!decide (y.2 =w.2))
def Bx (w:Book) (x:Net) (y:Int) (u:Core × Int) (z:Book) (b:Net) (v:Core × Int) (c:Bool):Option Bool:=
 if c then some false else (G2 w).bind fun d=>(Kg z d).bind fun e=>if !e then some false else (Ip x).bind fun f=>(NQ b f).bind fun g=>if !g then some false else (Hp z 1).bind fun i=>(Iz b i.1).bind fun j=>if decide (j.1 <0) then BQ w x y u v true else (EW fuel v.1 u.1).bind fun k=>if !k then BQ w x y u v true else BQ w x y u v (!decide (v.2 =u.2))
def Dt (u:Book) (v:Net) (w:Int):Option Bool:=
 (Mk u 1048576).bind fun c=>if decide (c<0) then some true else (Pq v c).bind fun d=>if decide (d<0) then some true else (G2 u).bind fun e=>(Ip v).bind fun f=>(GL e f w).bind fun x=>(G2 u).bind fun z=>(Ip v).bind fun b=>(FQ z b w).bind fun y=>(EW fuel y.1 x.1).bind fun g=>if !g then Bx u v w x z b y true else Bx u v w x z b y (!decide (y.2 =x.2))
end Go.Proofs.YtjnifengdhcojaaGreatDoor.Ab
