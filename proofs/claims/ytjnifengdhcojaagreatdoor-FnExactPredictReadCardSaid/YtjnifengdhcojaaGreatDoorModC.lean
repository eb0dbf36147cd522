/- Data of the program as Lean types. -/
import Derived.Test.YtjnifengdhcojaaGreatDoorAbY
import Derived.Test.YtjnifengdhcojaaGreatDoorModU
import Derived.Test.YtjnifengdhcojaaGreatDoorModQ
namespace Go.Proofs.YtjnifengdhcojaaGreatDoor.Ab
set_option linter.unusedVariables false
set_option linter.unusedSimpArgs false
set_option maxRecDepth 20000
set_option maxHeartbeats 4000000
open Go.RowKit
structure Core where
 kind:Int
 value:Int
 data:List Int
 kids:List Core
mutual
def Core.ds:Core→List D
 |⟨x0,x1,x2,x3⟩=>[.int .i64 x0,.int .i64 x1,.sl (x2.map AD),.sl (Core.rows x3)]
def Core.rows:List Core→List (List D)
 | [] =>[]
 |c::cs=>Core.ds c::Core.rows cs
end
theorem Core.rows_map:∀l:List Core,Core.rows l=List.map Core.ds l
 | [] =>by rw [Core.rows]; rfl
 |c::cs=>by rw [Core.rows,Core.rows_map cs]; rfl
theorem Core.ds_eq (c:Core):c.ds=[.int .i64 c.kind,.int .i64 c.value,.sl (c.data.map AD),.sl (c.kids.map Core.ds)] :=by
 cases c; rw [Core.ds]; simp only [Core.rows_map]
@[go_sem] def Core.avs (c:Core):List AV:=[.int .i64 c.kind,.int .i64 c.value,.ro (c.data.map AD),.ro (c.kids.map Core.ds)]
@[go_sem] def Core.rv (c:Core):List RV:=[.int .i64 c.kind,.int .i64 c.value,.ow (some 1) (c.data.map AD),.ow (some 4) (c.kids.map Core.ds)]
@[go_sem] def Core.rvn (c:Core):List RV:=[.int .i64 c.kind,.int .i64 c.value,.ow none (c.data.map AD),.ow none (c.kids.map Core.ds)]
attribute [go_sem] Core.ds_eq
theorem Core.ds_len (c:Core):c.ds.length=4:=by rw [Core.ds_eq]; rfl
def Core.dz (c:Core):List D:=[.int .i64 c.kind,.int .i64 c.value,.fz (c.data.map AD),.fz (c.kids.map Core.ds)]
@[go_sem] theorem Core.dz_eq (c:Core):c.dz=[.int .i64 c.kind,.int .i64 c.value,.fz (c.data.map AD),.fz (c.kids.map Core.ds)] :=rfl
theorem Core.dz_len (c:Core):c.dz.length=4:=rfl
theorem Core.dz_fz (c:Core):fzC c.ds=c.dz:=by rw [Core.ds_eq]; rfl
theorem Core.dz_ng (c:Core):∀d ∈ c.ds,d≠ .gone :=by rw [Core.ds_eq]; exact LR rfl
@[go_sem] theorem Core.dz_er (l:List Core):erR (l.map Core.dz)=List.map Core.ds l:=H5 (fun c=>by rw [Core.ds_eq]; simp only [Core.dz,erC,er]) l
structure Book where
 defs:List Core
def Book.ds (c:Book):List D:=[.sl (c.defs.map Core.ds)]
theorem Book.ds_eq (c:Book):c.ds=[.sl (c.defs.map Core.ds)] :=rfl
@[go_sem] def Book.avs (c:Book):List AV:=[.ro (c.defs.map Core.ds)]
@[go_sem] def Book.rv (c:Book):List RV:=[.ow (some 4) (c.defs.map Core.ds)]
@[go_sem] def Book.rvn (c:Book):List RV:=[.ow none (c.defs.map Core.ds)]
attribute [go_sem] Book.ds_eq
theorem Book.ds_len (c:Book):c.ds.length=1:=by rw [Book.ds_eq]; rfl
def Book.dz (c:Book):List D:=[.fz (c.defs.map Core.ds)]
@[go_sem] theorem Book.dz_eq (c:Book):c.dz=[.fz (c.defs.map Core.ds)] :=rfl
theorem Book.dz_len (c:Book):c.dz.length=1:=rfl
theorem Book.dz_fz (c:Book):fzC c.ds=c.dz:=by rw [Book.ds_eq]; rfl
theorem Book.dz_ng (c:Book):∀d ∈ c.ds,d≠ .gone :=by rw [Book.ds_eq]; exact LR rfl
@[go_sem] theorem Book.dz_er (l:List Book):erR (l.map Book.dz)=List.map Book.ds l:=H5 (fun c=>by rw [Book.ds_eq]; simp only [Book.dz,erC,er]) l
mutual
def F7:Nat→(List Core)→Int→Option Int
 |0,_,_=>none
 |n+1,u,v=>if decide ((IntKind.i64.wrap (v - (u.length:Int)))<0) then some (-1) else Du n u (IntKind.i64.wrap (v - (u.length:Int))) 0
def Du:Nat→(List Core)→Int→Int→Option Int
 |0,_,_,_=>none
 |n+1,u,w,v=>if decide (v<(u.length:Int)) then (at? u v).bind fun y=>(JQ n y w).bind fun x=>if decide (x<0) then some (-1) else Du n u x (IntKind.i64.wrap (v+1)) else some w
def JQ:Nat→Core→Int→Option Int
 |0,_,_=>none
 |n+1,u,x=>(Hr u.data x).bind fun v=>if decide (v<0) then some (-1) else (F7 n u.kids v).bind fun w=>if decide (w<0) then some (-1) else some w
end
mutual
def FR:Nat→(List Core)→Option ((List Core))
 |0,_=>none
 |n+1,u=>(Vl (u.length:Int) (⟨0,0,[],[]⟩:Core)).bind fun v=>Dv n u v 0
def Dv:Nat→(List Core)→(List Core)→Int→Option ((List Core))
 |0,_,_,_=>none
 |n+1,v,w,u=>if decide (u<(v.length:Int)) then (at? v u).bind fun x=>(JR n x).bind fun y=>(at? w u).bind fun z=>(Cn w u y).bind fun v6008_12=>Dv n v v6008_12 (IntKind.i64.wrap (u+1)) else some w
def JR:Nat→Core→Option Core
 |0,_=>none
 |n+1,u=>(Hs u.data).bind fun v=>(FR n u.kids).bind fun w=>some (⟨u.kind,u.value,v,w⟩:Core)
end
mutual
def FS:Nat→(List Core)→(List Core)→Option Bool
 |0,_,_=>none
 |n+1,u,v=>if !decide ((u.length:Int)=(v.length:Int)) then some false else Dw n u v 0
def Dw:Nat→(List Core)→(List Core)→Int→Option Bool
 |0,_,_,_=>none
 |n+1,v,w,u=>if decide (u<(v.length:Int)) then (at? v u).bind fun x=>(at? w u).bind fun y=>(EW n x y).bind fun z=>if !z then some false else Dw n v w (IntKind.i64.wrap (u+1)) else some true
def EW:Nat→Core→Core→Option Bool
 |0,_,_=>none
 |n+1,u,v=>if !decide (u.kind=v.kind) then some false else if !decide (u.value=v.value) then some false else (Fl u.data v.data).bind fun w=>if !w then some false else (FS n u.kids v.kids).bind fun x=>if !x then some false else some true
end
mutual
def C9:Nat→(List Core)→Int→Option (Int × (List Core))
 |0,_,_=>none
 |n+1,u,v=>Ca n u v 0
def Ca:Nat→(List Core)→Int→Int→Option (Int × (List Core))
 |0,_,_,_=>none
 |n+1,v,w,u=>if decide (u<(v.length:Int)) then (at? v u).bind fun z=>(Cn v u (⟨w,z.value,z.data,z.kids⟩:Core)).bind fun v5005_36=>(at? v5005_36 u).bind fun b=>(Cn v5005_36 u (⟨b.kind,(IntKind.i64.wrap (w+1)),b.data,b.kids⟩:Core)).bind fun v7005_37=>(at? v7005_37 u).bind fun x=>(Eu x.data (IntKind.i64.wrap ((IntKind.i64.wrap (w+1))+1))).bind fun c=>(Cn v7005_37 u (⟨x.kind,x.value,c.2,x.kids⟩:Core)).bind fun v9006_39=>(at? v9006_39 u).bind fun y=>(C9 n y.kids c.1).bind fun d=>(Cn v9006_39 u (⟨y.kind,y.value,y.data,d.2⟩:Core)).bind fun v10006_40=>Ca n v10006_40 d.1 (IntKind.i64.wrap (u+1)) else some (w,v)
end
def Hq (u:Core) (x:Int):Option (Int × (List Int) × (List Core)):=
 (Eu u.data x).bind fun v=>(C9 fuel u.kids v.1).bind fun w=>some (w.1,v.2,w.2)
mutual
def Dx:Nat→(List Core)→Int→Option Int
 |0,_,_=>none
 |n+1,u,v=>Cb n u v 0
def Cb:Nat→(List Core)→Int→Int→Option Int
 |0,_,_,_=>none
 |n+1,u,w,v=>if decide (v<(u.length:Int)) then (at? u v).bind fun z=>if !decide (z.kind=w) then some (-1) else (at? u v).bind fun b=>if !decide (b.value=(IntKind.i64.wrap (w+1))) then some (-1) else (at? u v).bind fun c=>(F6 c.data (IntKind.i64.wrap ((IntKind.i64.wrap (w+1))+1))).bind fun x=>if decide (x<0) then some (-1) else (at? u v).bind fun d=>(Dx n d.kids x).bind fun y=>if decide (y<0) then some (-1) else Cb n u y (IntKind.i64.wrap (v+1)) else some w
end
def Gb (u:Core) (x:Int):Option Int:=
 (F6 u.data x).bind fun v=>if decide (v<0) then some (-1) else (Dx fuel u.kids v).bind fun w=>if decide (w<0) then some (-1) else some w
def As:Nat→(List Core)→Int→(Core→Option Bool)→Option Int
 |0,_,_,_=>none
 |n+1,v,u,f1=>if decide (u<(v.length:Int)) then (at? v u).bind fun w=>(f1 w).bind fun x=>if x then some u else As n v (IntKind.i64.wrap (u+1)) f1 else some (-1)
def C1 (u:List Core) (f1:(Core→Option Bool)):Option Int:=
 As fuel u 0 f1
def Ac (u:List Core) (f1:(Core→Option Bool)):Option Bool:=
 (C1 u f1).bind fun v=>some (decide (0≤v))
mutual
def Dy:Nat→Core→Option (Int × Int)
 |0,_=>none
 |n+1,u=>CE n u 1 1 0
def CE:Nat→Core→Int→Int→Int→Option (Int × Int)
 |0,_,_,_,_=>none
 |n+1,u,v,y,w=>if decide (w<(u.kids.length:Int)) then (at? u.kids w).bind fun z=>(Dy n z).bind fun x=>CE n u (if v<(IntKind.i64.wrap (x.1 +1)) then IntKind.i64.wrap (x.1 +1) else v) (IntKind.i64.wrap (y+x.2)) (IntKind.i64.wrap (w+1)) else some (v,y)
end
def Gc (v:Core):Option Bool:=
 (Dy fuel v).bind fun u=>if decide (u.1 ≤80) then some (decide (u.2 ≤400)) else some false
def Dz (u:Int):Option Bool:=
 (D0 u).bind fun v=>some (!v)
def AZ (u:Core) (v:Bool) (w:Bool) (x:Int):Option Bool:=
 if v then if w then if decide ((u.kids.length:Int)=x) then (AW u.data (fun y=>Dz y)).bind fun z=>some (!z) else some false else some false else some false
def DT (u:Core) (v:Bool):Option Bool:=
 if v then AZ u (decide (u.value=0)) (decide ((u.data.length:Int)=0)) 2 else if decide (u.kind=8) then if decide ((u.data.length:Int)=0) then if decide (0≤u.value) then if decide (u.value<4) then some (decide ((u.kids.length:Int)≤3)) else some false else some false else some false else if decide (u.kind=9) then if decide (1≤(u.data.length:Int)) then AZ u (decide (u.value=0)) (decide ((u.data.length:Int)≤4)) 1 else AZ u (decide (u.value=0)) false 1 else if decide (u.kind=10) then AZ u (decide (u.value=0)) (decide ((u.data.length:Int)=2)) 1 else if decide (u.kind=11) then (D0 u.value).bind fun w=>AZ u w (decide ((u.data.length:Int)=0)) 0 else some false
def DU (u:Core) (v:Bool):Option Bool:=
 if v then AZ u (decide (u.value=0)) (decide ((u.data.length:Int)=0)) 1 else if decide (u.kind=5) then DT u (decide (u.kind=5)) else DT u (decide (u.kind=7))
def FF (u:Core):Option Bool:=
 if decide (u.kind=1) then if decide (0≤u.value) then AZ u (decide (u.value≤255)) (decide ((u.data.length:Int)=0)) 0 else AZ u false (decide ((u.data.length:Int)=0)) 0 else if decide (u.kind=2) then (LS u.value).bind fun v=>AZ u v (decide ((u.data.length:Int)=0)) 0 else if decide (u.kind=3) then (Ew u.value).bind fun w=>AZ u w (decide ((u.data.length:Int)=0)) 2 else if decide (u.kind=4) then DU u (decide (u.kind=4)) else DU u (decide (u.kind=6))
mutual
def Em:Nat→Core→Option (Int × Int × Bool)
 |0,_=>none
 |n+1,u=>(FF u).bind fun v=>if !v then some (0,0,false) else Cc n u 1 1 0
def Cc:Nat→Core→Int→Int→Int→Option (Int × Int × Bool)
 |0,_,_,_,_=>none
 |n+1,v,w,y,x=>if decide (x<(v.kids.length:Int)) then (at? v.kids x).bind fun z=>(Em n z).bind fun u=>if !u.2.2 then some (0,0,false) else Cc n v (if w<(IntKind.i64.wrap (u.1 +1)) then IntKind.i64.wrap (u.1 +1) else w) (IntKind.i64.wrap (y+u.2.1)) (IntKind.i64.wrap (x+1)) else some (w,y,true)
end
def Gl (u:Core):Option Bool:=
 (Em fuel u).bind fun v=>if v.2.2 =true then (Gc u).bind fun w=>some w else some false
def F8 (u:Bool):Option Int:=
 if u then some 1 else some 0
def F9 (v:Core) (w:Int):Option Int:=
 if decide (v.kind=4) then (F8 true).bind fun u=>some u else if decide (v.kind=7) then (F8 (decide (w=1))).bind fun u=>some u else (F8 false).bind fun u=>some u
mutual
def DA:Nat→Core→Int→Option Bool
 |0,_,_=>none
 |n+1,u,v=>if decide (u.kind=1) then CP n u v (decide (v≤u.value)) else CP n u v false
def CP:Nat→Core→Int→Bool→Option Bool
 |0,_,_,_=>none
 |n+1,u,v,w=>if w then some false else By n u v 0
def By:Nat→Core→Int→Int→Option Bool
 |0,_,_,_=>none
 |n+1,u,w,v=>if decide (v<(u.kids.length:Int)) then (at? u.kids v).bind fun x=>(F9 u v).bind fun y=>(DA n x (IntKind.i64.wrap (w+y))).bind fun z=>if !z then some false else By n u w (IntKind.i64.wrap (v+1)) else some true
end
def Ht (u:Core):Option Bool:=
 (Gl u).bind fun v=>if v then (DA fuel u 0).bind fun w=>some w else some false
mutual
def IJ:Nat→Core→(Core→Option Bool)→Option Bool
 |0,_,_=>none
 |n+1,u,f1=>(GA n u f1).bind fun v=>some v
def GA:Nat→Core→(Core→Option Bool)→Option Bool
 |0,_,_=>none
 |n+1,u,f1=>(f1 u).bind fun v=>if v then some true else (Ac u.kids (fun w=>IJ n w f1)).bind fun x=>some x
end
def GY (u:Int) (v:Int):Option Bool:=
 some (decide (v≤u))
def H7 (u:Core) (v:Int):Option Bool:=
 if decide (u.kind=11) then if decide (v≤u.value) then some true else (AW u.data (fun w=>GY w v)).bind fun x=>some x else (AW u.data (fun w=>GY w v)).bind fun x=>some x
def Gm (u:Core) (v:Int):Option Bool:=
 (GA fuel u (fun w=>H7 w v)).bind fun x=>some (!x)
def GM (u:Core) (v:Book):Option Bool:=
 (Ht u).bind fun w=>if !w then some true else (Gm u (v.defs.length:Int)).bind fun x=>some (!x)
def EX (u:Book) (v:Bool):Option Bool:=
 if v then some false else (Ac u.defs (fun w=>GM w u)).bind fun x=>some (!x)
def IK (u:Book):Option Bool:=
 if decide ((u.defs.length:Int)<1) then EX u true else EX u (decide (24<(u.defs.length:Int)))
def GN (u:Int) (v:Bool):Option (Int × Int × Int × Int):=
 if v then some (1,1,0,0) else if decide (u=8) then some (0,3,0,0) else if decide (u=9) then some (1,1,1,4) else if decide (u=10) then some (1,1,2,2) else some (0,(-1),0,0)
def FT (u:Int) (v:Bool):Option (Int × Int × Int × Int):=
 if v then some (2,2,0,0) else if decide (u=4) then GN u (decide (u=4)) else GN u (decide (u=6))
def FU (u:Int) (v:Bool):Option (Int × Int × Int × Int):=
 if v then some (0,0,0,0) else if decide (u=3) then FT u (decide (u=3)) else if decide (u=5) then FT u (decide (u=5)) else FT u (decide (u=7))
def JS (u:Int):Option (Int × Int × Int × Int):=
 if decide (u=1) then FU u (decide (u=1)) else if decide (u=2) then FU u (decide (u=2)) else FU u (decide (u=11))
def JT (u:Core):Option Bool:=
 if decide (u.kind=1) then (BN u.value 0 255).bind fun v=>some v else if decide (u.kind=2) then (BN u.value (-2147483648) 2147483647).bind fun w=>some w else if decide (u.kind=3) then (BN u.value 1 6).bind fun x=>some x else if decide (u.kind=8) then (BN u.value 0 3).bind fun y=>some y else if decide (u.kind=11) then (BN u.value 0 23).bind fun z=>some z else some (decide (u.value=0))
mutual
def EF:Nat→Core→Int→Int→Option Int
 |0,_,_,_=>none
 |n+1,u,v,w=>(JS u.kind).bind fun x=>if decide (v<1) then Bi n u v w true else if decide (w<1) then Bi n u v w true else (BN (u.kids.length:Int) x.1 x.2.1).bind fun y=>if !y then Bi n u v w true else (BN (u.data.length:Int) x.2.2.1 x.2.2.2).bind fun z=>if !z then Bi n u v w true else (JT u).bind fun b=>Bi n u v w (!b)
def Bi:Nat→Core→Int→Int→Bool→Option Int
 |0,_,_,_,_=>none
 |n+1,u,v,w,x=>if x then some (-1) else DB n u v w 0
def DB:Nat→Core→Int→Int→Int→Option Int
 |0,_,_,_,_=>none
 |n+1,u,w,x,v=>if decide (v<(u.data.length:Int)) then (at? u.data v).bind fun y=>(BN y 0 23).bind fun z=>if !z then some (-1) else DB n u w x (IntKind.i64.wrap (v+1)) else DC n u w x 1 0
def DC:Nat→Core→Int→Int→Int→Int→Option Int
 |0,_,_,_,_,_=>none
 |n+1,u,x,y,v,w=>if decide (w<(u.kids.length:Int)) then (at? u.kids w).bind fun b=>(EF n b (IntKind.i64.wrap (x - 1)) (IntKind.i64.wrap (y - v))).bind fun z=>if decide (z<0) then some (-1) else DC n u x y (IntKind.i64.wrap (v+z)) (IntKind.i64.wrap (w+1)) else some v
end
def Pn (u:Core):Option Bool:=
 (EF fuel u 80 400).bind fun v=>some (decide (0<v))
def FV (u:Bool):Option Int:=
 if u then some 1 else some 0
def Fm (u:Core) (v:Int):Option Int:=
 if decide (u.kind=4) then FV true else if decide (u.kind=7) then FV (decide (v=1)) else FV false
mutual
def Fo:Nat→Core→Int→Option Bool
 |0,_,_=>none
 |n+1,u,v=>if decide (u.kind=1) then some (decide (v≤u.value)) else DD n u v 0
def DD:Nat→Core→Int→Int→Option Bool
 |0,_,_,_=>none
 |n+1,u,w,v=>if decide (v<(u.kids.length:Int)) then (at? u.kids v).bind fun x=>(Fm u v).bind fun y=>(Fo n x (IntKind.i64.wrap (w+y))).bind fun z=>if z then some true else DD n u w (IntKind.i64.wrap (v+1)) else some false
end
def Gn (u:Core):Option Bool:=
 (Pn u).bind fun v=>if v then (Fo fuel u 0).bind fun w=>some (!w) else some false
mutual
def GB:Nat→Core→Int→Option Bool
 |0,_,_=>none
 |n+1,u,v=>if decide (u.kind=11) then Ex n u v (decide (v≤u.value)) else Ex n u v false
def Ex:Nat→Core→Int→Bool→Option Bool
 |0,_,_,_=>none
 |n+1,u,v,w=>if w then some false else D1 n u v 0
def D1:Nat→Core→Int→Int→Option Bool
 |0,_,_,_=>none
 |n+1,u,v,w=>if decide (w<(u.data.length:Int)) then (at? u.data w).bind fun x=>if decide (v≤x) then some false else D1 n u v (IntKind.i64.wrap (w+1)) else D2 n u v 0
def D2:Nat→Core→Int→Int→Option Bool
 |0,_,_,_=>none
 |n+1,u,w,v=>if decide (v<(u.kids.length:Int)) then (at? u.kids v).bind fun x=>(GB n x w).bind fun y=>if !y then some false else D2 n u w (IntKind.i64.wrap (v+1)) else some true
end
mutual
def C2:Nat→Book→Int→Option Bool
 |0,_,_=>none
 |n+1,u,v=>if decide (v<(u.defs.length:Int)) then (at? u.defs v).bind fun w=>(Gn w).bind fun x=>if !x then Ey n u v true else (at? u.defs v).bind fun y=>(GB fuel y (u.defs.length:Int)).bind fun z=>Ey n u v (!z) else some true
def Ey:Nat→Book→Int→Bool→Option Bool
 |0,_,_,_=>none
 |n+1,u,v,w=>if w then some false else C2 n u (IntKind.i64.wrap (v+1))
end
def Ki (u:Book):Option Bool:=
 (BN (u.defs.length:Int) 1 24).bind fun v=>if !v then some false else C2 fuel u 0
def Mk (v:Book) (w:Int):Option Int:=
 (F7 fuel v.defs w).bind fun u=>if decide (u<0) then some (-1) else some u
def G2 (u:Book):Option Book:=
 (FR fuel u.defs).bind fun v=>some (⟨v⟩:Book)
def Kg (u:Book) (v:Book):Option Bool:=
 (FS fuel u.defs v.defs).bind fun w=>if !w then some false else some true
def Hp (v:Book) (w:Int):Option (Int × (List Core)):=
 (C9 fuel v.defs w).bind fun u=>some (u.1,u.2)
end Go.Proofs.YtjnifengdhcojaaGreatDoor.Ab
