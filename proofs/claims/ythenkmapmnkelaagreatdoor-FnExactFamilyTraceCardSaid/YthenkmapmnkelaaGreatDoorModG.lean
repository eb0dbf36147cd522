/- Models of the functions. -/
import Derived.Test.YthenkmapmnkelaaGreatDoorModC
import Derived.Test.YthenkmapmnkelaaGreatDoorAbY
namespace Go.Proofs.YthenkmapmnkelaaGreatDoor.Ab
set_option linter.unusedVariables false
set_option linter.unusedSimpArgs false
set_option maxRecDepth 20000
set_option maxHeartbeats 4000000
open Go.RowKit
def Af (u:Rewriter) (w:Int) (x:Int) (y:Int) (z:List Int) (b:Int):Option (Int × Rewriter):=
 (Ds z).bind fun c=>(Pm b (⟨0,0⟩:Port)).bind fun d=>(app? u.net.agents [(⟨w,x,y,c,d⟩:Agent)]).bind fun v=>some ((IntKind.i64.wrap ((v.length:Int) - 1)),(⟨(⟨v⟩:Net),u.book,u.removed⟩:Rewriter))
def A5:Nat→Rewriter→Int→(List Int)→(List (Int × Bool))→(List Agent)→Int→Option Rewriter
 |0,_,_,_,_,_,_=>none
 |n+1,v,x,w,y,z,u=>if decide (u<(w.length:Int)) then (at? w u).bind fun c=>(AR (⟨(⟨z⟩:Net),v.book,y⟩:Rewriter) (⟨x,(IntKind.i64.wrap (u+1))⟩:Port) (⟨c,0⟩:Port)).bind fun b=>A5 n v x w b.removed b.net.agents (IntKind.i64.wrap (u+1)) else some (⟨(⟨z⟩:Net),v.book,y⟩:Rewriter)
def Ak:Nat→Rewriter→Int→Int→Agent→(Int × Rewriter)→(Int × Rewriter)→(List (Int × Bool))→(List Agent)→(List Int)→Int→Option Rewriter
 |0,_,_,_,_,_,_,_,_,_,_=>none
 |n+1,u,w,c,d,y,z,e,b,f,x=>if decide (x<(((List.length d.ports):Nat):Int)) then (at? b w).bind fun j=>(Af (⟨(⟨b⟩:Net),u.book,e⟩:Rewriter) 4 j.level 0 [] 3).bind fun v=>(CV v.2.net (⟨v.1,1⟩:Port) (⟨y.1,x⟩:Port)).bind fun k=>(CV k (⟨v.1,2⟩:Port) (⟨z.1,x⟩:Port)).bind fun l=>(app? f [v.1]).bind fun m=>Ak n u w c d y z v.2.removed l.agents m (IntKind.i64.wrap (x+1)) else (AR (⟨(⟨b⟩:Net),u.book,e⟩:Rewriter) (⟨w,1⟩:Port) (⟨y.1,0⟩:Port)).bind fun g=>(AR (⟨g.net,u.book,g.removed⟩:Rewriter) (⟨w,2⟩:Port) (⟨z.1,0⟩:Port)).bind fun i=>A5 fuel u c f i.removed i.net.agents 0
def DB (v:Rewriter) (z:Int) (y:Int):Option Rewriter:=
 (at? v.net.agents y).bind fun u=>(Af v u.kind u.level u.value u.data (((List.length u.ports):Nat):Int)).bind fun w=>(Af (⟨w.2.net,v.book,w.2.removed⟩:Rewriter) u.kind u.level u.value u.data (((List.length u.ports):Nat):Int)).bind fun x=>Ak fuel v z y u w x x.2.removed x.2.net.agents [] 1
def H4 (u:Bool):Option Int:=
 if u then some 1 else some 0
def EP (u:Int):Option Int:=
 some (IntKind.i64.wrap (IntKind.i32.wrap u))
def GH (v:Int) (x:Int) (y:Int):Option Int:=
 (EP x).bind fun w=>(EP y).bind fun u=>if decide (v=1) then (EP (IntKind.i64.wrap (w+u))).bind fun z=>some z else if decide (v=2) then (EP (IntKind.i64.wrap (w - u))).bind fun b=>some b else if decide (v=3) then (EP (IntKind.i64.wrap (w*u))).bind fun c=>some c else if decide (v=4) then if decide (u=0) then some 0 else (nz? u).bind fun g=>(EP (IntKind.i64.wrap (Int.tdiv w u))).bind fun d=>some d else if decide (v=5) then (H4 (decide (w<u))).bind fun e=>some e else if decide (v=6) then (H4 (decide (w=u))).bind fun f=>some f else some 0
def Cw (u:Rewriter) (e:Int) (w:Int):Option Rewriter:=
 (at? u.net.agents e).bind fun z=>(at? u.net.agents w).bind fun v=>if decide (v.kind=7) then (Af u 8 v.level v.value [z.value] 2).bind fun x=>(AR (⟨x.2.net,u.book,x.2.removed⟩:Rewriter) (⟨w,1⟩:Port) (⟨x.1,0⟩:Port)).bind fun b=>(AR (⟨b.net,u.book,b.removed⟩:Rewriter) (⟨w,2⟩:Port) (⟨x.1,1⟩:Port)).bind fun c=>some (⟨c.net,u.book,c.removed⟩:Rewriter) else (at? v.data 0).bind fun f=>(GH v.value f z.value).bind fun g=>(Af u 6 0 g [] 1).bind fun y=>(AR (⟨y.2.net,u.book,y.2.removed⟩:Rewriter) (⟨w,1⟩:Port) (⟨y.1,0⟩:Port)).bind fun d=>some (⟨d.net,u.book,d.removed⟩:Rewriter)
def BB:Nat→Rewriter→Int→Int→Int→Int→(List Int)→(List (Int × Bool))→(List Agent)→Int→Option Rewriter
 |0,_,_,_,_,_,_,_,_,_=>none
 |n+1,u,x,y,z,b,w,c,d,v=>if decide (v<(w.length:Int)) then (at? w v).bind fun g=>(AR (⟨(⟨d⟩:Net),u.book,c⟩:Rewriter) (⟨x,(IntKind.i64.wrap (v+1))⟩:Port) (⟨g,1⟩:Port)).bind fun e=>BB n u x y z b w e.removed e.net.agents (IntKind.i64.wrap (v+1)) else (AR (⟨(⟨d⟩:Net),u.book,c⟩:Rewriter) (⟨y,1⟩:Port) (⟨z,b⟩:Port)).bind fun f=>some (⟨f.net,u.book,f.removed⟩:Rewriter)
def BS:Nat→Rewriter→Int→Int→Agent→Agent→(List (Int × Bool))→(List Agent)→Int→Int→(List Int)→Int→Option Rewriter
 |0,_,_,_,_,_,_,_,_,_,_,_=>none
 |n+1,v,w,x,y,z,b,c,d,e,f,g=>if decide (g<(IntKind.i64.wrap ((((List.length y.ports):Nat):Int) - 1))) then (Af (⟨(⟨c⟩:Net),v.book,b⟩:Rewriter) 3 z.level 0 [] 3).bind fun u=>(CV u.2.net (⟨u.1,0⟩:Port) (⟨d,e⟩:Port)).bind fun i=>(app? f [u.1]).bind fun j=>BS n v w x y z u.2.removed i.agents u.1 2 j (IntKind.i64.wrap (g+1)) else BB fuel v w x d e f b c 0
def EQ (v:Rewriter) (w:Int) (x:Int) (y:Agent) (z:Agent) (u:Int × Rewriter):Option Rewriter:=
 BS fuel v w x y z u.2.removed u.2.net.agents u.1 0 [] 0
def B7 (u:Rewriter) (z:Int) (x:Int):Option Rewriter:=
 (at? u.net.agents z).bind fun w=>(at? u.net.agents x).bind fun v=>if decide (w.kind=6) then (H4 (decide (w.value=0))).bind fun c=>(at? v.data c).bind fun d=>(Af u 12 v.level d [] 1).bind fun y=>(AR (⟨y.2.net,u.book,y.2.removed⟩:Rewriter) (⟨x,1⟩:Port) (⟨y.1,0⟩:Port)).bind fun b=>some (⟨b.net,u.book,b.removed⟩:Rewriter) else (at? v.data w.value).bind fun e=>(Af u 12 v.level e [] 1).bind fun f=>EQ u z x w v f
inductive HAgent where
 |full (a:Agent)
 |gone (a:Agent)
def HAgent.ds:HAgent→List D
 | .full a=>a.ds
 | .gone a=>[.int .i64 a.kind,.int .i64 a.level,.int .i64 a.value,.gone,.gone]
def HAgent.full?:HAgent→Option Agent
 | .full a=>some a
 | .gone _=>none
theorem HAgent.full_some {h:HAgent} {a:Agent} (e:h.full?=some a):h= .full a:=by
 cases h with
 |full b=>cases e; rfl
 |gone b=>cases e
@[go_sem] theorem HAgent.ds_full (a:Agent):(HAgent.full a).ds =[.int .i64 a.kind,.int .i64 a.level,.int .i64 a.value,.sl (a.data.map AD),.sl (a.ports.map Port.ds)] :=by
 rw [HAgent.ds,Agent.ds_eq]
theorem HAgent.ds_len (h:HAgent):h.ds.length=5:=by
 cases h with
 |full a=>rw [HAgent.ds_full]; rfl
 |gone a=>rfl
@[go_sem] theorem HAgent.map_full (l:List Agent):List.map HAgent.ds (l.map HAgent.full)=List.map Agent.ds l:=by
 rw [List.map_map]
 rfl
theorem HAgent.puts {hs:List HAgent} {i:Int} {a:Agent} (h:at? hs i=some (.full a)):putR [(5,Int.toNat i,4)] (putR [(5,Int.toNat i,3)] (hs.map HAgent.ds) .gone) .gone =List.map HAgent.ds (List.set hs (Int.toNat i) (.gone a)):=by
 have h1:=AP (f:=HAgent.ds) h
 rw [HAgent.ds_full] at h1
 rw [Hs h1 (d':=.sl (a.data.map AD)) rfl,Hs (OZ h1) (d':=.sl (a.ports.map Port.ds)) rfl,List.set_set,List.map_set]
 rfl
mutual
def Al:Nat→Rewriter→Int→Port→(List Agent)→(List Agent)→(List HAgent)→Int→Option Rewriter
 |0,_,_,_,_,_,_,_=>none
 |n+1,u,x,v,y,z,b,w=>if decide (w<(y.length:Int)) then (at? b w).bind fun c=>(HAgent.full? c).bind fun v6001_156=>BI n u x z b w v y v6001_156 v6001_156.ports 0 else (CV (⟨z⟩:Net) (⟨x,0⟩:Port) (⟨(IntKind.i64.wrap (v.agent+(IntKind.i64.wrap ((u.net.agents.length:Int) - 1)))),v.slot⟩:Port)).bind fun d=>some (⟨d,u.book,u.removed⟩:Rewriter)
def BI:Nat→Rewriter→Int→(List Agent)→(List HAgent)→Int→Port→(List Agent)→Agent→(List Port)→Int→Option Rewriter
 |0,_,_,_,_,_,_,_,_,_,_=>none
 |n+1,w,y,z,b,x,c,d,v6001_156,v,u=>if decide (u<(v6001_156.ports.length:Int)) then (at? v u).bind fun e=>(at? v u).bind fun f=>(Br v u (⟨(IntKind.i64.wrap (e.agent+(IntKind.i64.wrap ((w.net.agents.length:Int) - 1)))),f.slot⟩:Port)).bind fun v10010_168=>BI n w y z b x c d v6001_156 v10010_168 (IntKind.i64.wrap (u+1)) else (app? z [(⟨v6001_156.kind,v6001_156.level,v6001_156.value,v6001_156.data,v⟩:Agent)]).bind fun g=>Al n w y c d g (List.set b (Int.toNat x) (HAgent.gone v6001_156)) (IntKind.i64.wrap (x+1))
end
def ER (u:Rewriter) (w:Int) (y:Int):Option Rewriter:=
 (at? u.net.agents w).bind fun z=>(at? u.book z.value).bind fun b=>(at? u.net.agents w).bind fun c=>(Iv b c.level).bind fun v=>(Bf v.1 (⟨0,0⟩:Port)).bind fun d=>(cutL v.1.agents 1 ((List.length v.1.agents :Nat):Int)).bind fun x=>Al fuel u y d x u.net.agents (x.map HAgent.full) 0
def Ac (u:Rewriter) (v:Int × Int × Int × Int) (x:List (Int × Bool)) (y:List Agent):Option (Int × Rewriter):=
 (BQ (⟨(⟨y⟩:Net),u.book,x⟩:Rewriter) [v.2.1,v.2.2.1]).bind fun w=>some (0,(⟨w.net,u.book,w.removed⟩:Rewriter))
def Ag:Nat→Rewriter→(Int × Int × Int × Int)→(List (Int × Bool))→(List Agent)→Int→Option (Int × Rewriter)
 |0,_,_,_,_,_=>none
 |n+1,u,v,z,w,x=>(at? w v.2.2.1).bind fun c=>if decide (x<(c.ports.length:Int)) then (Af (⟨(⟨w⟩:Net),u.book,z⟩:Rewriter) 5 0 0 [] 1).bind fun y=>(AR (⟨y.2.net,u.book,y.2.removed⟩:Rewriter) (⟨v.2.2.1,x⟩:Port) (⟨y.1,0⟩:Port)).bind fun b=>Ag n u v b.removed b.net.agents (IntKind.i64.wrap (x+1)) else Ac u v z w
def BX (v:Rewriter) (u:Int × Int × Int × Int) (e:Bool):Option (Int × Rewriter):=
 if e then (CI v (⟨u.2.1,1⟩:Port) (⟨u.2.2.1,1⟩:Port)).bind fun w=>(CI (⟨w.net,v.book,w.removed⟩:Rewriter) (⟨u.2.1,2⟩:Port) (⟨u.2.2.1,2⟩:Port)).bind fun x=>Ac v u x.removed x.net.agents else if decide (u.1 =3) then (DB v u.2.1 u.2.2.1).bind fun y=>Ac v u y.removed y.net.agents else if decide (u.1 =4) then Ag fuel v u v.removed v.net.agents 1 else if decide (u.1 =5) then (Cw v u.2.1 u.2.2.1).bind fun z=>Ac v u z.removed z.net.agents else if decide (u.1 =6) then (B7 v u.2.1 u.2.2.1).bind fun b=>Ac v u b.removed b.net.agents else if decide (u.1 =7) then (ER v u.2.1 u.2.2.1).bind fun c=>(BQ (⟨c.net,v.book,c.removed⟩:Rewriter) [u.2.1]).bind fun d=>some (0,(⟨d.net,v.book,d.removed⟩:Rewriter)) else Ac v u v.removed v.net.agents
def A6 (v:Rewriter) (w:Pair):Option (Int × Rewriter):=
 (CR v w).bind fun u=>if !decide (u.2.2.2 =0) then some (u.2.2.2,v) else (Eu v).bind fun x=>(EO v u.1 u.2.1 u.2.2.1).bind fun y=>if decide (600<(IntKind.i64.wrap (x+y))) then some (4,v) else if decide (u.1 =1) then BX v u (decide (u.1 =1)) else BX v u (decide (u.1 =2))
end Go.Proofs.YthenkmapmnkelaaGreatDoor.Ab
