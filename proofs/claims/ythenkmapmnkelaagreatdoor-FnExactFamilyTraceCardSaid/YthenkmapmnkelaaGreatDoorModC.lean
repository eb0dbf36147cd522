/- Data of the program as Lean types. -/
import Derived.Test.YthenkmapmnkelaaGreatDoorAbY
import Derived.Test.YthenkmapmnkelaaGreatDoorModL
namespace Go.Proofs.YthenkmapmnkelaaGreatDoor.Ab
set_option linter.unusedVariables false
set_option linter.unusedSimpArgs false
set_option maxRecDepth 20000
set_option maxHeartbeats 4000000
open Go.RowKit
structure Pair where
 a:Int
 b:Int
def Pair.ds (c:Pair):List D:=[.int .i64 c.a,.int .i64 c.b]
theorem Pair.ds_eq (c:Pair):c.ds=[.int .i64 c.a,.int .i64 c.b] :=rfl
@[go_sem] def Pair.avs (c:Pair):List AV:=[.int .i64 c.a,.int .i64 c.b]
@[go_sem] def Pair.rv (c:Pair):List RV:=[.int .i64 c.a,.int .i64 c.b]
@[go_sem] def Pair.rvn (c:Pair):List RV:=[.int .i64 c.a,.int .i64 c.b]
attribute [go_sem] Pair.ds_eq
theorem Pair.ds_len (c:Pair):c.ds.length=2:=by rw [Pair.ds_eq]; rfl
structure Rewriter where
 net:Net
 book:List Net
 removed:List (Int × Bool)
def FV (v:Int) (u:Int) (w:Int) (x:Bool):Option Bool:=
 if x then some false else if decide (u=6) then some true else if decide (u=12) then some true else (FD u).bind fun y=>if y then some (decide (v<w)) else some false
def HD (u:Int) (v:Int) (w:Int):Option Bool:=
 (Hv u).bind fun x=>if !x then FV u v w true else (EN v w).bind fun y=>FV u v w (!y)
def HE (u:Int):Option Bool:=
 if decide (u=3) then some true else if decide (u=7) then some true else if decide (u=8) then some true else if decide (u=10) then some true else some (decide (u=11))
def HF (u:Int) (v:Int) (w:Int) (x:Bool):Option Int:=
 if x then some 2 else (HD u v w).bind fun y=>if y then some 3 else some 0
def HG (u:Bool):Option Int:=
 if u then some 1 else some 0
def HH (u:Int) (v:Bool):Option Int:=
 if v then some 5 else if decide (u=11) then some 6 else some 0
def Iu (v:Int) (w:Int) (u:Int) (x:Int):Option Int:=
 if decide (v=5) then some 4 else if decide (v=4) then if decide (u=4) then HF w u x (decide (w=x)) else HF w u x false else if decide (v=2) then if decide (u=3) then HG (decide (w=x)) else HG false else if decide (v=6) then if decide (u=7) then HH u (decide (u=7)) else HH u (decide (u=8)) else if decide (v=9) then if decide (u=10) then some 6 else some 0 else if decide (v=12) then (HE u).bind fun y=>if y then some 7 else some 0 else some 0
def F1 (u:Int) (v:Int) (w:Int) (x:Int) (b:Bool):Option (Int × Int):=
 if b then some (0,0) else (Iu u v w x).bind fun y=>if !decide (y=0) then some (y,1) else (Iu w x u v).bind fun z=>if !decide (z=0) then some (z,2) else some (8,0)
def Mq (u:Int) (w:Int) (v:Int) (x:Int):Option (Int × Int):=
 if decide (u=1) then F1 u w v x true else if decide (v=1) then F1 u w v x true else (EN u w).bind fun y=>if !y then F1 u w v x true else (EN v x).bind fun z=>F1 u w v x (!z)
def Dq (u:Int × Int) (v:Bool):Option (Int × Bool):=
 if v then some (8,false) else some (u.1,(decide (u.2 =2)))
def Dr (u:Int × Int) (y:Int) (z:Int) (v:Int) (b:List Int) (c:List Port) (w:Int) (d:Int) (e:Int) (x:List Int) (f:List Port):Option (Int × Bool):=
 if decide (u.1 =6) then if decide (w=10) then Dq u (decide ((x.length:Int)≤v)) else Dq u false else Dq u false
def Fi (x:Net) (y:Pair):Option (Int × Bool):=
 (at? x.agents y.a).bind fun u=>(at? x.agents y.b).bind fun v=>(Mq u.kind u.level v.kind v.level).bind fun w=>if decide (w.2 =2) then Dr w v.kind v.level v.value v.data v.ports u.kind u.level u.value u.data u.ports else Dr w u.kind u.level u.value u.data u.ports v.kind v.level v.value v.data v.ports
def Cu (u:List Port):Option ((List Port)):=
 (app? [] u).bind fun v=>some v
def Ds (u:List Int):Option ((List Int)):=
 (app? [] u).bind fun v=>some v
def Fj (u:Agent):Option Agent:=
 (Ds u.data).bind fun v=>(Cu u.ports).bind fun w=>some (⟨u.kind,u.level,u.value,v,w⟩:Agent)
def D1:Nat→Net→(List Agent)→Int→Option Net
 |0,_,_,_=>none
 |n+1,u,w,v=>if decide (v<(u.agents.length:Int)) then (at? u.agents v).bind fun x=>(Fj x).bind fun y=>(app? w [y]).bind fun z=>D1 n u z (IntKind.i64.wrap (v+1)) else some (⟨w⟩:Net)
def IE (u:Net):Option Net:=
 (Pm (u.agents.length:Int) (⟨0,0,0,[],[]⟩:Agent)).bind fun v=>D1 fuel u [] 0
def Fk (u:List Net) (v:Net):Option Rewriter:=
 (IE v).bind fun w=>some (⟨w,u,[]⟩:Rewriter)
def CV (y:Net) (w:Port) (x:Port):Option Net:=
 (at? y.agents w.agent).bind fun u=>(at? u.ports w.slot).bind fun z=>(Br u.ports w.slot x).bind fun v2013_3=>(Br y.agents w.agent (⟨u.kind,u.level,u.value,u.data,v2013_3⟩:Agent)).bind fun v2013_4=>(at? v2013_4 x.agent).bind fun v=>(at? v.ports x.slot).bind fun b=>(Br v.ports x.slot w).bind fun v3013_5=>(Br v2013_4 x.agent (⟨v.kind,v.level,v.value,v.data,v3013_5⟩:Agent)).bind fun v3013_6=>some (⟨v3013_6⟩:Net)
def CI (u:Rewriter) (x:Port) (v:Port):Option Rewriter:=
 (Bf u.net x).bind fun w=>(Bf u.net v).bind fun y=>if !(decide (w.agent=v.agent)&&decide (w.slot=v.slot)) then (CV u.net w y).bind fun z=>some (⟨z,u.book,u.removed⟩:Rewriter) else some u
def AR (u:Rewriter) (v:Port) (w:Port):Option Rewriter:=
 (Bf u.net v).bind fun x=>(CV u.net x w).bind fun y=>some (⟨y,u.book,u.removed⟩:Rewriter)
def Av:Nat→Rewriter→(List Int)→(List (Int × Bool))→Int→Option Rewriter
 |0,_,_,_,_=>none
 |n+1,u,v,x,w=>if decide (w<(v.length:Int)) then (at? v w).bind fun y=>(Rx x y true).bind fun v4005_6=>Av n u v v4005_6 (IntKind.i64.wrap (w+1)) else some (⟨u.net,u.book,x⟩:Rewriter)
def BQ (u:Rewriter) (v:List Int):Option Rewriter:=
 Av fuel u v u.removed 0
def Eu (u:Rewriter):Option Int:=
 some (IntKind.i64.wrap ((u.net.agents.length:Int) - (u.removed.length:Int)))
def CW (u:List Int):Option ((List Int)):=
 (app? [] u).bind fun v=>some v
def F2 (u:Agent):Option Agent:=
 (CW u.data).bind fun v=>(Cu u.ports).bind fun w=>some (⟨u.kind,u.level,u.value,v,w⟩:Agent)
mutual
def An:Nat→Net→(List Int)→(List (Int × Int))→(List Agent)→Int→Option Net
 |0,_,_,_,_,_=>none
 |n+1,w,u,z,x,v=>if decide (v<(u.length:Int)) then (at? u v).bind fun b=>(at? w.agents b).bind fun c=>(F2 c).bind fun y=>Bs n w u z x v y y.ports 0 else some (⟨x⟩:Net)
def Bs:Nat→Net→(List Int)→(List (Int × Int))→(List Agent)→Int→Agent→(List Port)→Int→Option Net
 |0,_,_,_,_,_,_,_,_=>none
 |n+1,y,z,x,b,c,u,w,v=>if decide (v<(u.ports.length:Int)) then (at? w v).bind fun d=>(at? w v).bind fun e=>(Br w v (⟨((J0 x d.agent).getD 0),e.slot⟩:Port)).bind fun v16013_156=>Bs n y z x b c u v16013_156 (IntKind.i64.wrap (v+1)) else (app? b [(⟨u.kind,u.level,u.value,u.data,w⟩:Agent)]).bind fun f=>An n y z x f (IntKind.i64.wrap (c+1))
end
def B6:Nat→Net→(List Int)→(List (Int × Int))→Int→Option Net
 |0,_,_,_,_=>none
 |n+1,w,u,x,v=>if decide (v<(u.length:Int)) then (at? u v).bind fun y=>(Rx x y v).bind fun v6003_12=>B6 n w u v6003_12 (IntKind.i64.wrap (v+1)) else An fuel w u x [] 0
def Ew (u:Net) (v:List Int):Option Net:=
 B6 fuel u v [] 0
def A9:Nat→Rewriter→(List Int)→Int→Option Net
 |0,_,_,_=>none
 |n+1,u,w,v=>if decide (v<(u.net.agents.length:Int)) then if !((J0 u.removed v).getD false) then (app? w [v]).bind fun x=>A9 n u x (IntKind.i64.wrap (v+1)) else A9 n u w (IntKind.i64.wrap (v+1)) else (Ew u.net w).bind fun y=>some y
def DM (u:Rewriter):Option Net:=
 A9 fuel u [] 0
def FE:Nat→Net→(List Agent)→Int→Option Net
 |0,_,_,_=>none
 |n+1,u,w,v=>if decide (v<(u.agents.length:Int)) then (at? u.agents v).bind fun x=>(F2 x).bind fun y=>(app? w [y]).bind fun z=>FE n u z (IntKind.i64.wrap (v+1)) else some (⟨w⟩:Net)
def Kl (u:Net):Option Net:=
 (Pm (u.agents.length:Int) (⟨0,0,0,[],[]⟩:Agent)).bind fun v=>FE fuel u [] 0
def Db:Nat→Int→Net→(List Agent)→Int→Option (Net × Bool)
 |0,_,_,_,_=>none
 |n+1,x,y,w,u=>if decide (u<(y.agents.length:Int)) then (at? w u).bind fun v=>(FD v.kind).bind fun z=>if !z then Db n x y w (IntKind.i64.wrap (u+1)) else (Br w u (⟨v.kind,(IntKind.i64.wrap (v.level+x)),v.value,v.data,v.ports⟩:Agent)).bind fun v8008_23=>(at? v8008_23 u).bind fun v9003_24=>if decide (8<v9003_24.level) then some ((⟨[]⟩:Net),false) else Db n x y v8008_23 (IntKind.i64.wrap (u+1)) else some ((⟨w⟩:Net),true)
def Iv (v:Net) (w:Int):Option (Net × Bool):=
 (Kl v).bind fun u=>Db fuel w u u.agents 0
def DW (x:Rewriter) (u:Int) (v:Int) (w:Int × Bool):Option (Int × Int × Int × Int):=
 some (w.1,u,v,0)
def Cd (u:Rewriter) (v:Int × Bool) (w:Int) (y:Int):Option (Int × Int × Int × Int):=
 if decide (v.1 =8) then some (0,0,0,11) else if decide (v.1 =7) then (at? u.net.agents w).bind fun x=>if decide ((u.book.length:Int)≤x.value) then some (0,0,0,3) else (at? u.book x.value).bind fun z=>(Iv z x.level).bind fun b=>if !b.2 then some (0,0,0,9) else DW u w y v else DW u w y v
def CR (v:Rewriter) (u:Pair):Option (Int × Int × Int × Int):=
 (Fi v.net u).bind fun w=>if w.2 =true then Cd v w u.b u.a else Cd v w u.a u.b
def IF (u:Int) (v:Int) (w:Bool):Option (Int × Int):=
 if w then some (0,2) else some ((IntKind.i64.wrap (u+v)),0)
def Dj (u:Int) (w:Int) (x:Int) (v:Int):Option (Int × Int):=
 if decide (u<w) then IF u v true else IF u v (decide (x<u))
def IG (v:Int) (u:Int) (w:Bool):Option (Int × Int):=
 if w then Dj u 0 0 (-2) else if decide (v=3) then Dj u 0 3 0 else if decide (v=4) then Dj u 0 3 (-2) else if decide (v=5) then Dj u 0 0 (-1) else if decide (v=6) then Dj u 0 3 (-1) else if decide (v=7) then Dj u 2 600 (-2) else some (0,2)
def Mr (u:Int) (v:Int):Option (Int × Int):=
 if decide (u=1) then IG u v (decide (u=1)) else IG u v (decide (u=2))
def BA (x:Rewriter) (u:Int) (v:Int):Option Int:=
 (Mr u v).bind fun w=>some w.1
def C9 (u:Rewriter) (v:Int) (w:Int) (x:Int) (y:Bool):Option Int:=
 if y then (at? u.net.agents x).bind fun z=>BA u v (IntKind.i64.wrap ((z.ports.length:Int) - 1)) else if decide (v=6) then (at? u.net.agents w).bind fun b=>if decide (b.kind=9) then (at? u.net.agents w).bind fun c=>BA u v (IntKind.i64.wrap ((c.ports.length:Int) - 1)) else BA u v 0 else if decide (v=7) then (at? u.net.agents w).bind fun d=>(at? u.book d.value).bind fun e=>BA u v (e.agents.length:Int) else BA u v 0
def EO (v:Rewriter) (u:Int) (w:Int) (x:Int):Option Int:=
 if decide (u=3) then C9 v u w x (decide (u=3)) else C9 v u w x (decide (u=4))
end Go.Proofs.YthenkmapmnkelaaGreatDoor.Ab
