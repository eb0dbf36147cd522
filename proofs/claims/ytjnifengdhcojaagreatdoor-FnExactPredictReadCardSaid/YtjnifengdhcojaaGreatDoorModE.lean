/- Models of the functions. -/
import Derived.Test.YtjnifengdhcojaaGreatDoorModI
namespace Go.Proofs.YtjnifengdhcojaaGreatDoor.Ab
set_option linter.unusedVariables false
set_option linter.unusedSimpArgs false
set_option maxRecDepth 20000
set_option maxHeartbeats 4000000
open Go.RowKit
mutual
def GC:Nat→Core→Int→(Core→Int→Option Core)→Option Core
 |0,_,_,_=>none
 |n+1,u,v,f2=>if decide (u.kind=1) then (f2 u v).bind fun w=>some w else (An u.data).bind fun x=>D4 n u v x [] 0 f2
def D4:Nat→Core→Int→(List Int)→(List Core)→Int→(Core→Int→Option Core)→Option Core
 |0,_,_,_,_,_,_=>none
 |n+1,u,w,x,y,v,f2=>if decide (v<(u.kids.length:Int)) then (at? u.kids v).bind fun z=>(F9 u v).bind fun b=>(GC n z (IntKind.i64.wrap (w+b)) f2).bind fun c=>(app? y [c]).bind fun d=>D4 n u w x d (IntKind.i64.wrap (v+1)) f2 else some (⟨u.kind,u.value,x,y⟩:Core)
end
def I2 (u:Core) (v:Int) (w:Int) (x:Int):Option Core:=
 if decide ((IntKind.i64.wrap (v+w))≤u.value) then (Q9 u.data).bind fun em0=>(Q9 u.kids).bind fun em1=>some (⟨u.kind,(IntKind.i64.wrap (u.value+x)),u.data,u.kids⟩:Core) else (Q9 u.data).bind fun em0=>(Q9 u.kids).bind fun em1=>some u
def Po (u:Core) (v:Int) (w:Int):Option Core:=
 (GC fuel u 0 (fun x y=>I2 x y w v)).bind fun z=>some z
def Dn (u:Core) (v:Int) (w:Core):Option Core:=
 if decide (u.value=v) then (Po w v 0).bind fun x=>some x else if decide (v<u.value) then (Q9 u.data).bind fun em0=>(Q9 u.kids).bind fun em1=>some (⟨u.kind,(IntKind.i64.wrap (u.value - 1)),u.data,u.kids⟩:Core) else (Q9 u.data).bind fun em0=>(Q9 u.kids).bind fun em1=>some u
def GO (u:Core) (v:Core):Option Core:=
 (GC fuel u 0 (fun w x=>Dn w x v)).bind fun y=>some y
mutual
def Fs:Nat→Core→Int→Option Int
 |0,_,_=>none
 |n+1,u,v=>if decide (u.kind=1) then if decide (u.value=v) then some 1 else some 0 else DG n u v 0 0
def DG:Nat→Core→Int→Int→Int→Option Int
 |0,_,_,_,_=>none
 |n+1,u,w,x,v=>if decide (v<(u.kids.length:Int)) then (at? u.kids v).bind fun y=>(Fm u v).bind fun z=>(Fs n y (IntKind.i64.wrap (w+z))).bind fun b=>DG n u w (IntKind.i64.wrap (x+b)) (IntKind.i64.wrap (v+1)) else some x
end
mutual
def EG:Nat→Core→Int→Int→Option Core
 |0,_,_,_=>none
 |n+1,u,w,v=>(FG u.data).bind fun x=>if decide (u.kind=1) then EH n u w v x (decide (v≤u.value)) else EH n u w v x false
def EH:Nat→Core→Int→Int→(List Int)→Bool→Option Core
 |0,_,_,_,_,_=>none
 |n+1,u,v,w,x,y=>if y then EI n u v w x (IntKind.i64.wrap (u.value+v)) else EI n u v w x u.value
def EI:Nat→Core→Int→Int→(List Int)→Int→Option Core
 |0,_,_,_,_,_=>none
 |n+1,u,v,w,x,y=>DH n u v w y x [] 0
def DH:Nat→Core→Int→Int→Int→(List Int)→(List Core)→Int→Option Core
 |0,_,_,_,_,_,_,_=>none
 |n+1,u,w,x,y,z,b,v=>if decide (v<(u.kids.length:Int)) then (at? u.kids v).bind fun c=>(Fm u v).bind fun d=>(EG n c w (IntKind.i64.wrap (x+d))).bind fun e=>(app? b [e]).bind fun f=>DH n u w x y z f (IntKind.i64.wrap (v+1)) else some (⟨u.kind,y,z,b⟩:Core)
end
mutual
def IM:Nat→Core→Core→Int→Option Core
 |0,_,_,_=>none
 |n+1,u,w,v=>if decide (u.kind=1) then if decide (u.value=v) then (EG fuel w v 0).bind fun x=>some x else if decide (v<u.value) then some (⟨1,(IntKind.i64.wrap (u.value - 1)),[],[]⟩:Core) else some (⟨1,u.value,[],[]⟩:Core) else (FG u.data).bind fun y=>Ep n u w v y [] 0
def Ep:Nat→Core→Core→Int→(List Int)→(List Core)→Int→Option Core
 |0,_,_,_,_,_,_=>none
 |n+1,u,w,x,y,z,v=>if decide (v<(u.kids.length:Int)) then (at? u.kids v).bind fun b=>(Fm u v).bind fun c=>(IM n b w (IntKind.i64.wrap (x+c))).bind fun d=>(app? z [d]).bind fun e=>Ep n u w x y e (IntKind.i64.wrap (v+1)) else some (⟨u.kind,u.value,y,z⟩:Core)
end
def JW (u:Int) (v:Int):Option Int:=
 if decide (v<u) then some u else some v
mutual
def E0:Nat→Core→Option Int
 |0,_=>none
 |n+1,u=>DI n u 0 0
def DI:Nat→Core→Int→Int→Option Int
 |0,_,_,_=>none
 |n+1,u,w,v=>if decide (v<(u.kids.length:Int)) then (at? u.kids v).bind fun x=>(E0 n x).bind fun y=>(JW w y).bind fun z=>DI n u z (IntKind.i64.wrap (v+1)) else some (IntKind.i64.wrap (w+1))
end
mutual
def D5:Nat→Core→Option Int
 |0,_=>none
 |n+1,u=>if decide (u.kind=1) then Cu n u u.value else Cu n u (-1)
def Cu:Nat→Core→Int→Option Int
 |0,_,_=>none
 |n+1,u,v=>CG n u v 0
def CG:Nat→Core→Int→Int→Option Int
 |0,_,_,_=>none
 |n+1,u,w,v=>if decide (v<(u.kids.length:Int)) then (at? u.kids v).bind fun x=>(D5 n x).bind fun y=>(JW w y).bind fun z=>CG n u z (IntKind.i64.wrap (v+1)) else some w
end
def FW (u:Core) (w:Core):Option (Core × Int):=
 (Fs fuel u 0).bind fun x=>(EF fuel u 80 400).bind fun y=>(EF fuel w 80 400).bind fun z=>if decide (400<(IntKind.i64.wrap (y+(IntKind.i64.wrap (x*(IntKind.i64.wrap (z - 1))))))) then some ((⟨0,0,[],[]⟩:Core),4) else (IM fuel u w 0).bind fun v=>(E0 fuel v).bind fun b=>if decide (80<b) then some ((⟨0,0,[],[]⟩:Core),4) else (D5 fuel v).bind fun c=>if decide (255<c) then some ((⟨0,0,[],[]⟩:Core),2) else some (v,0)
mutual
def Gt:Nat→Core→Int→Option Int
 |0,_,_=>none
 |n+1,u,v=>CU n u (IntKind.i64.wrap (v - 1)) 0
def CU:Nat→Core→Int→Int→Option Int
 |0,_,_,_=>none
 |n+1,u,v,w=>if decide (w<(u.kids.length:Int)) then D6 n u v w (decide (0≤v)) else D6 n u v w false
def D6:Nat→Core→Int→Int→Bool→Option Int
 |0,_,_,_,_=>none
 |n+1,u,v,w,x=>if x then (at? u.kids w).bind fun y=>(Gt n y v).bind fun z=>CU n u z (IntKind.i64.wrap (w+1)) else some v
end
def Km (u:Core):Option Bool:=
 (Gt fuel u 400).bind fun v=>if decide (0≤v) then (E0 fuel u).bind fun w=>some (decide (w≤80)) else some false
end Go.Proofs.YtjnifengdhcojaaGreatDoor.Ab
