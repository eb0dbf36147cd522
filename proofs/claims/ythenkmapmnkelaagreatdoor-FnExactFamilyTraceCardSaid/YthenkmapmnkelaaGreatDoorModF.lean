/- Models of the functions. -/
import Derived.Test.YthenkmapmnkelaaGreatDoorModI
namespace Go.Proofs.YthenkmapmnkelaaGreatDoor.Ab
set_option linter.unusedVariables false
set_option linter.unusedSimpArgs false
set_option maxRecDepth 20000
set_option maxHeartbeats 4000000
open Go.RowKit
mutual
def CD:Nat→Net→(List Pair)→Int→Option ((List Pair))
 |0,_,_,_=>none
 |n+1,v,w,u=>if decide (u<(v.agents.length:Int)) then (at? v.agents u).bind fun y=>if decide (y.kind=0) then CD n v w (IntKind.i64.wrap (u+1)) else (at? v.agents u).bind fun z=>(at? z.ports 0).bind fun x=>if decide (x.slot=0) then Fl n v w u x (decide (u<x.agent)) else Fl n v w u x false else some w
def Fl:Nat→Net→(List Pair)→Int→Port→Bool→Option ((List Pair))
 |0,_,_,_,_,_=>none
 |n+1,v,w,u,x,y=>if y then (app? w [(⟨u,x.agent⟩:Pair)]).bind fun z=>CD n v z (IntKind.i64.wrap (u+1)) else CD n v w (IntKind.i64.wrap (u+1))
end
def JQ (u:Net):Option ((List Pair)):=
 CD fuel u [] 1
mutual
def CS:Nat→Int→(Core × L16Walk)→(List Int)→Int→Option ((List Int) × Core × Int)
 |0,_,_,_,_=>none
 |n+1,v,u,x,w=>if decide (w<((List.length u.2.origins :Nat):Int)) then if decide (0≤v) then (at? u.2.origins w).bind fun y=>Ec n v x w u (decide (y=v)) else Ec n v x w u false else some (x,u.1,0)
def Ec:Nat→Int→(List Int)→Int→(Core × L16Walk)→Bool→Option ((List Int) × Core × Int)
 |0,_,_,_,_,_=>none
 |n+1,v,w,u,x,y=>if y then (app? w [u]).bind fun z=>CS n v x z (IntKind.i64.wrap (u+1)) else CS n v x w (IntKind.i64.wrap (u+1))
end
def JR (v:Net) (w:Int):Option ((List Int) × Core × Int):=
 (Km v).bind fun u=>if !decide (u.2.code =0) then some ([],(⟨0,0,[],[]⟩:Core),u.2.code) else CS fuel w u [] 0
def Cv (v:Net) (u:Int × Int) (w:Int) (x:Bool):Option Int:=
 if x then some u.2 else if decide (w=5) then (at? v.agents u.2).bind fun y=>if decide (y.kind=8) then some u.2 else some (-1) else some (-1)
def Fm (v:Net) (x:Pair):Option Int:=
 (Ed v x.a x.b).bind fun w=>(at? v.agents w.1).bind fun y=>(at? v.agents w.2).bind fun z=>(Gk y z).bind fun u=>if decide (u=1) then Cv v w u (decide (u=1)) else if decide (u=6) then Cv v w u (decide (u=6)) else Cv v w u (decide (u=7))
mutual
def CO:Nat→(List Net)→(List Int)→Int→(List Agent)→(List Int)→Int→Option ((List Int) × Int)
 |0,_,_,_,_,_,_=>none
 |n+1,b,u,x,y,v,w=>if decide (w<x) then (JQ (⟨y⟩:Net)).bind fun z=>if decide ((z.length:Int)=0) then some (v,0) else if decide (0<(u.length:Int)) then (nz? (u.length:Int)).bind fun d=>(at? u (Int.tmod w (u.length:Int))).bind fun c=>Bz n b u x y v w z c else Bz n b u x y v w z 0 else some (v,0)
def Bz:Nat→(List Net)→(List Int)→Int→(List Agent)→(List Int)→Int→(List Pair)→Int→Option ((List Int) × Int)
 |0,_,_,_,_,_,_,_,_=>none
 |n+1,z,c,d,u,e,f,v,g=>(nz? (v.length:Int)).bind fun l=>(at? v (Int.tmod g (v.length:Int))).bind fun w=>(Fm (⟨u⟩:Net) w).bind fun i=>(JR (⟨u⟩:Net) i).bind fun x=>if !decide (x.2.2 =0) then some ([],x.2.2) else (J3 z (⟨u⟩:Net) w.a w.b).bind fun y=>if !decide (y.1 =0) then some ([],y.1) else (Iw y.2).bind fun j=>(app? e [((List.length x.1 :Nat):Int)]).bind fun k=>CO n z c d j.agents k (IntKind.i64.wrap (f+1))
end
def GX (u:List Net) (v:Net) (w:List Int) (x:Int):Option ((List Int) × Int):=
 (JM u v w x).bind fun y=>if !decide (y=0) then some ([],y) else (Ms v).bind fun z=>CO fuel u w x z.agents [] 0
mutual
def Bt:Nat→Net→(List Pair)→Int→Option ((List Pair))
 |0,_,_,_=>none
 |n+1,v,x,u=>if decide (u<(v.agents.length:Int)) then (at? v.agents u).bind fun y=>(at? y.ports 0).bind fun w=>if decide (w.slot=0) then if decide (u<w.agent) then DA n v x u w (!decide (y.kind=1)) else DA n v x u w false else DA n v x u w false else some x
def DA:Nat→Net→(List Pair)→Int→Port→Bool→Option ((List Pair))
 |0,_,_,_,_,_=>none
 |n+1,v,w,u,x,y=>if y then (app? w [(⟨u,x.agent⟩:Pair)]).bind fun z=>Bt n v z (IntKind.i64.wrap (u+1)) else Bt n v w (IntKind.i64.wrap (u+1))
end
def II (u:Net):Option ((List Pair)):=
 Bt fuel u [] 0
def Ff (u:List Pair) (v:Int):Option Pair:=
 (nz? (u.length:Int)).bind fun x=>(at? u (Int.tmod v (u.length:Int))).bind fun w=>some w
def JN (u:List Int) (v:List Pair) (w:Int):Option Pair:=
 if decide (0<(u.length:Int)) then (nz? (u.length:Int)).bind fun y=>(at? u (Int.tmod w (u.length:Int))).bind fun x=>Ff v x else Ff v 0
def Ce (v:Net) (u:Int) (w:Int × Bool) (x:Bool):Option Int:=
 if x then some u else if decide (w.1 =5) then (at? v.agents u).bind fun y=>if decide (y.kind=8) then some u else some (-1) else some (-1)
def DX (v:Net) (u:Int × Bool) (w:Int):Option Int:=
 if decide (u.1 =1) then Ce v w u (decide (u.1 =1)) else if decide (u.1 =6) then Ce v w u (decide (u.1 =6)) else Ce v w u (decide (u.1 =7))
def Ex (u:Net) (v:Pair):Option Int:=
 (Fi u v).bind fun w=>if w.2 =true then DX u w v.a else DX u w v.b
mutual
def Dk:Nat→(Reading × Core × Int)→Int→(List Int)→Int→Option (Core × (List Int) × Int)
 |0,_,_,_,_=>none
 |n+1,u,v,x,w=>if decide (w<((List.length u.1.origins :Nat):Int)) then (at? u.1.origins w).bind fun y=>if decide (0≤v) then F3 n x w u v (decide (y=v)) else F3 n x w u v false else some (u.2.1,x,0)
def F3:Nat→(List Int)→Int→(Reading × Core × Int)→Int→Bool→Option (Core × (List Int) × Int)
 |0,_,_,_,_,_=>none
 |n+1,v,u,w,x,y=>if y then (app? v [u]).bind fun z=>Dk n w x z (IntKind.i64.wrap (u+1)) else Dk n w x v (IntKind.i64.wrap (u+1))
end
def Mt (v:Net) (w:Pair):Option (Core × (List Int) × Int):=
 (Hw v).bind fun u=>if !decide (u.2.2 =0) then some ((⟨0,0,[],[]⟩:Core),[],u.2.2) else (Ex v w).bind fun x=>Dk fuel u x [] 0
def Ct:Nat→(List Net)→(List Int)→Int→(List Agent)→(List Int)→Int→Option ((List Int) × Int)
 |0,_,_,_,_,_,_=>none
 |n+1,z,b,c,v,w,x=>if decide (x<c) then (II (⟨v⟩:Net)).bind fun d=>if decide ((d.length:Int)=0) then some (w,0) else (JN b d x).bind fun e=>(Mt (⟨v⟩:Net) e).bind fun y=>if !decide (y.2.2 =0) then some ([],y.2.2) else (Fk z (⟨v⟩:Net)).bind fun f=>(A6 f e).bind fun u=>if !decide (u.1 =0) then some ([],u.1) else (app? w [((List.length y.2.1 :Nat):Int)]).bind fun g=>(DM (⟨u.2.net,f.book,u.2.removed⟩:Rewriter)).bind fun i=>Ct n z b c i.agents g (IntKind.i64.wrap (x+1)) else some (w,0)
def Fg (u:List Net) (v:Net) (w:List Int) (x:Int):Option ((List Int) × Int):=
 (ID u v w x).bind fun y=>if !decide (y=0) then some ([],y) else Ct fuel u w x v.agents [] 0
def CP (u:Int × (List Int)) (w:Bool):Option Bool:=
 if w then some false else (FC u.2 1).bind fun v=>if decide (v<0) then some false else if !decide (v=u.1) then some false else some true
def Bo (y:List Net) (z:Net) (b:List Int) (c:Int) (v:(List Int) × Int) (d:(List Int) × Int) (e:Bool):Option Bool:=
 if e then some false else (Da d.1 1).bind fun u=>(FC u.2 1).bind fun w=>if decide (w<0) then some false else if !decide (w=u.1) then some false else (HA y).bind fun f=>(HC z).bind fun g=>(Ea b).bind fun i=>(Fg f g i c).bind fun x=>(D0 x.1 v.1).bind fun j=>if !j then CP u true else CP u (!decide (x.2 =v.2))
def CQ (w:List Net) (x:Net) (y:List Int) (z:Int) (u:(List Int) × Int) (b:(List Net)) (c:Net) (d:(List Int)) (v:(List Int) × Int) (e:Bool):Option Bool:=
 if e then some false else (HA w).bind fun f=>(Kj b f).bind fun g=>if !g then some false else (HC x).bind fun i=>(J2 c i).bind fun j=>if !j then some false else (Ea y).bind fun k=>(D0 d k).bind fun l=>if !l then some false else (Hu b 1).bind fun m=>(It c m.1).bind fun o=>(Da d o.1).bind fun p=>if decide (p.1 <0) then Bo w x y z u v true else (D0 v.1 u.1).bind fun q=>if !q then Bo w x y z u v true else Bo w x y z u v (!decide (v.2 =u.2))
def EM (u:List Net) (v:Net) (w:List Int) (x:Int):Option Bool:=
 if decide (1048576<(w.length:Int)) then some true else (Mu u 1048576).bind fun e=>if decide (e<0) then some true else (Ld v e).bind fun f=>if decide (f<0) then some true else (HA u).bind fun g=>(HC v).bind fun i=>(Ea w).bind fun j=>(GX g i j x).bind fun y=>(HA u).bind fun b=>(HC v).bind fun c=>(Ea w).bind fun d=>(Fg b c d x).bind fun z=>(D0 z.1 y.1).bind fun k=>if !k then CQ u v w x y b c d z true else CQ u v w x y b c d z (!decide (z.2 =y.2))
end Go.Proofs.YthenkmapmnkelaaGreatDoor.Ab
