/- Data of the program as Lean types. -/
import Derived.Test.YtjnifengdhcojaaGreatDoorAbY
import Derived.Test.YtjnifengdhcojaaGreatDoorModE
namespace Go.Proofs.YtjnifengdhcojaaGreatDoor.Ab
set_option linter.unusedVariables false
set_option linter.unusedSimpArgs false
set_option maxRecDepth 20000
set_option maxHeartbeats 4000000
open Go.RowKit
structure Marker where
 b:Book
 marks:List Int
 att:Int
def Marker.ds (c:Marker):List D:=[.sl (c.b.defs.map Core.ds),.sl (c.marks.map AD),.int .i64 c.att]
theorem Marker.ds_eq (c:Marker):c.ds=[.sl (c.b.defs.map Core.ds),.sl (c.marks.map AD),.int .i64 c.att] :=rfl
@[go_sem] def Marker.avs (c:Marker):List AV:=[.ro (c.b.defs.map Core.ds),.ro (c.marks.map AD),.int .i64 c.att]
@[go_sem] def Marker.rv (c:Marker):List RV:=[.ow (some 4) (c.b.defs.map Core.ds),.ow (some 1) (c.marks.map AD),.int .i64 c.att]
@[go_sem] def Marker.rvn (c:Marker):List RV:=[.ow none (c.b.defs.map Core.ds),.ow none (c.marks.map AD),.int .i64 c.att]
attribute [go_sem] Marker.ds_eq
theorem Marker.ds_len (c:Marker):c.ds.length=3:=by rw [Marker.ds_eq]; rfl
def Marker.dz (c:Marker):List D:=[.fz (c.b.defs.map Core.ds),.fz (c.marks.map AD),.int .i64 c.att]
@[go_sem] theorem Marker.dz_eq (c:Marker):c.dz=[.fz (c.b.defs.map Core.ds),.fz (c.marks.map AD),.int .i64 c.att] :=rfl
theorem Marker.dz_len (c:Marker):c.dz.length=3:=rfl
theorem Marker.dz_fz (c:Marker):fzC c.ds=c.dz:=by rw [Marker.ds_eq]; rfl
theorem Marker.dz_ng (c:Marker):∀d ∈ c.ds,d≠ .gone :=by rw [Marker.ds_eq]; exact LR rfl
@[go_sem] theorem Marker.dz_er (l:List Marker):erR (l.map Marker.dz)=List.map Marker.ds l:=H5 (fun c=>by rw [Marker.ds_eq]; simp only [Marker.dz,erC,er]) l
def Iq (u:Core):Option Bool:=
 if decide (u.kind=6) then some true else some (decide (u.kind=7))
def Hu (u:Core):Option Bool:=
 (Gl u).bind fun v=>if v then (GA fuel u (fun w=>Iq w)).bind fun x=>some (!x) else some false
def EY (u:Core):Option Bool:=
 (Hu u).bind fun v=>some (!v)
def G3 (u:Book):Option Bool:=
 (IK u).bind fun v=>if v then (Ac u.defs (fun w=>EY w)).bind fun x=>some (!x) else some false
def G4 (v:Book) (u:Core):Option Bool:=
 (Ht u).bind fun w=>if w then (Hu u).bind fun x=>if x then (Gm u (v.defs.length:Int)).bind fun y=>some y else some false else some false
def EZ (u:Book) (v:Core):Option Bool:=
 (G3 u).bind fun w=>if w then (G4 u v).bind fun x=>some x else some false
def Ea (u:Bool):Option Int:=
 if u then some 4 else some 0
def Fp (u:Core) (v:Core) (w:Bool):Option Int:=
 if w then some 2 else if decide (u.kind=11) then Ea true else if decide (u.kind=2) then Ea (decide (v.kind=11)) else Ea false
def DV (u:Bool):Option Int:=
 if u then some 3 else some 0
def DW (v:Core) (w:Core) (u:Bool):Option Int:=
 if u then DV u else if decide (v.kind=10) then DV (decide (w.kind=2)) else DV false
def Eb (v:Core) (u:Core) (w:Bool):Option Int:=
 if w then if decide (u.kind=11) then some 4 else if decide (v.kind=9) then if decide (u.kind=8) then DW v u (decide (u.value<(v.data.length:Int))) else DW v u false else DW v u false else some 0
def Gp (u:Core):Option Int:=
 if decide ((u.kids.length:Int)=0) then some 0 else (at? u.kids 0).bind fun v=>if decide (u.kind=5) then if decide (v.kind=4) then some 1 else if decide (v.kind=11) then some 4 else some 0 else if decide (u.kind=3) then (at? u.kids 1).bind fun w=>if decide (v.kind=2) then Fp v w (decide (w.kind=2)) else Fp v w false else if decide (u.kind=9) then Eb u v (decide (u.kind=9)) else Eb u v (decide (u.kind=10))
mutual
def BZ:Nat→Core→Int→(List Int)→Option ((List Int) × Int)
 |0,_,_,_=>none
 |n+1,u,v,w=>(Gp u).bind fun x=>if !decide (x=0) then (app? w [v]).bind fun y=>Bb n u v y else Bb n u v w
def Bb:Nat→Core→Int→(List Int)→Option ((List Int) × Int)
 |0,_,_,_=>none
 |n+1,u,v,w=>BG n u (IntKind.i64.wrap (v+1)) w 0
def BG:Nat→Core→Int→(List Int)→Int→Option ((List Int) × Int)
 |0,_,_,_,_=>none
 |n+1,u,w,x,v=>if decide (v<(u.kids.length:Int)) then (at? u.kids v).bind fun z=>(BZ n z w x).bind fun y=>BG n u y.2 y.1 (IntKind.i64.wrap (v+1)) else some (x,w)
end
def BO:Nat→(List Int)→Int→Option Bool
 |0,_,_=>none
 |n+1,u,v=>if decide (v<(u.length:Int)) then (at? u (IntKind.i64.wrap (v - 1))).bind fun w=>(at? u v).bind fun x=>if decide (x≤w) then some false else BO n u (IntKind.i64.wrap (v+1)) else some true
def Fq (u:List Int):Option Bool:=
 BO fuel u 1
def Bd:Nat→(List Int)→Int→Int→Option Int
 |0,_,_,_=>none
 |n+1,v,w,u=>if decide (u<(v.length:Int)) then (at? v u).bind fun x=>if decide (w=x) then some u else Bd n v w (IntKind.i64.wrap (u+1)) else some (-1)
def G5 (u:List Int) (v:Int):Option Int:=
 Bd fuel u v 0
def Co (u:List Int) (v:Int):Option Bool:=
 (G5 u v).bind fun w=>some (decide (0≤w))
def DX (u:Int) (v:List Int):Option Bool:=
 (Co v u).bind fun w=>some (!w)
def G6 (u:Int):Option Int:=
 some (IntKind.i64.wrap (IntKind.i32.wrap u))
def Kj (v:Int) (x:Int) (y:Int):Option Int:=
 (G6 x).bind fun w=>(G6 y).bind fun u=>if decide (v=1) then (G6 (IntKind.i64.wrap (w+u))).bind fun z=>some z else if decide (v=2) then (G6 (IntKind.i64.wrap (w - u))).bind fun b=>some b else if decide (v=3) then (G6 (IntKind.i64.wrap (w*u))).bind fun c=>some c else if decide (v=4) then if decide (u=0) then some 0 else (nz? u).bind fun g=>(G6 (IntKind.i64.wrap (Int.tdiv w u))).bind fun d=>some d else if decide (v=5) then (F8 (decide (w<u))).bind fun e=>some e else if decide (v=6) then (F8 (decide (w=u))).bind fun f=>some f else some 0
def NR (u:Core) (v:Core):Option Core:=
 some (⟨5,0,[],[u,v]⟩:Core)
def En:Nat→(List Core)→Int→Int→(List Int)→(List Core)→Int→Option Core
 |0,_,_,_,_,_,_=>none
 |n+1,v,x,y,z,b,w=>if decide (w<(v.length:Int)) then (at? v w).bind fun c=>(NR (⟨x,y,z,b⟩:Core) c).bind fun u=>En n v u.kind u.value u.data u.kids (IntKind.i64.wrap (w+1)) else some (⟨x,y,z,b⟩:Core)
def Ml (v:Int) (w:List Core):Option Core:=
 (Hv v).bind fun u=>En fuel w u.kind u.value [] [] 0
def Ez (u:List Core):Option ((List Core)):=
 (app? [] u).bind fun v=>some v
def JU (b:Book) (v:Int) (u:Core):Option Core:=
 if decide (v=1) then (at? u.kids 0).bind fun c=>(at? c.kids 0).bind fun d=>(at? u.kids 1).bind fun e=>(GO d e).bind fun f=>some f else if decide (v=2) then (at? u.kids 0).bind fun g=>(at? u.kids 1).bind fun i=>(Kj u.value g.value i.value).bind fun j=>(Gq j).bind fun x=>some (⟨x.kind,x.value,[],[]⟩:Core) else if decide (v=3) then if decide (u.kind=9) then (at? u.kids 0).bind fun k=>(at? u.data k.value).bind fun l=>(at? u.kids 0).bind fun m=>(Ml l m.kids).bind fun o=>some o else (at? u.kids 0).bind fun p=>(F8 (decide (p.value=0))).bind fun q=>(at? u.data q).bind fun r=>(Hv r).bind fun y=>some (⟨y.kind,y.value,[],[]⟩:Core) else (Ez u.kids).bind fun z=>(at? u.kids 0).bind fun s=>(F8 (!decide (s.kind=11))).bind fun w=>(at? u.kids w).bind fun t=>(at? b.defs t.value).bind fun A=>(at? z w).bind fun B=>(Cn z w A).bind fun v13014_2=>some (⟨u.kind,u.value,u.data,v13014_2⟩:Core)
def Bz (u:Marker) (z:Int) (v:Int) (w:Int) (x:List Int) (y:List Core):Option (Core × Bool × Marker):=
 (Gc (⟨v,w,x,y⟩:Core)).bind fun c=>some ((⟨v,w,x,y⟩:Core),c,(⟨u.b,u.marks,z⟩:Marker))
mutual
def BP:Nat→Marker→Core→Option (Core × Bool × Marker)
 |0,_,_=>none
 |n+1,u,v=>(Co u.marks u.att).bind fun w=>(An v.data).bind fun x=>Av n u v w x (IntKind.i64.wrap (u.att+1)) [] 0
def Av:Nat→Marker→Core→Bool→(List Int)→Int→(List Core)→Int→Option (Core × Bool × Marker)
 |0,_,_,_,_,_,_,_=>none
 |n+1,u,v,e,y,z,c,d=>if decide (d<(v.kids.length:Int)) then (at? v.kids d).bind fun f=>(BP n (⟨u.b,u.marks,z⟩:Marker) f).bind fun w=>if !w.2.1 then some ((⟨0,0,[],[]⟩:Core),false,(⟨u.b,u.marks,w.2.2.att⟩:Marker)) else (app? c [w.1]).bind fun g=>Av n u v e y w.2.2.att g (IntKind.i64.wrap (d+1)) else if e then (Gp v).bind fun i=>(JU u.b i (⟨v.kind,v.value,y,c⟩:Core)).bind fun x=>Bz u z x.kind x.value x.data x.kids else Bz u z v.kind v.value y c
end
mutual
def Fr:Nat→Core→Option Core
 |0,_=>none
 |n+1,u=>(An u.data).bind fun v=>DE n u v [] 0
def DE:Nat→Core→(List Int)→(List Core)→Int→Option Core
 |0,_,_,_,_=>none
 |n+1,u,w,x,v=>if decide (v<(u.kids.length:Int)) then (at? u.kids v).bind fun y=>(Fr n y).bind fun z=>(app? x [z]).bind fun b=>DE n u w b (IntKind.i64.wrap (v+1)) else some (⟨u.kind,u.value,w,x⟩:Core)
end
def CB (v:Book) (w:Core) (x:List Int) (y:Bool):Option (Core × Int):=
 if y then some ((⟨0,0,[],[]⟩:Core),2) else (BP fuel (⟨v,x,0⟩:Marker) w).bind fun u=>if !u.2.1 then some ((⟨0,0,[],[]⟩:Core),4) else (Fr fuel u.1).bind fun z=>some (z,0)
def Ec (w:Book) (u:Core) (v:List Int):Option (Core × Int):=
 (EZ w u).bind fun x=>if !x then some ((⟨0,0,[],[]⟩:Core),1) else (BZ fuel u 0 []).bind fun y=>(Fq v).bind fun z=>if !z then CB w u v true else (AW v (fun b=>DX b y.1)).bind fun c=>CB w u v c
mutual
def D3:Nat→Core→Option Bool
 |0,_=>none
 |n+1,u=>if decide (u.kind=6) then DY n u true else DY n u (decide (u.kind=7))
def DY:Nat→Core→Bool→Option Bool
 |0,_,_=>none
 |n+1,u,v=>if v then some false else Cd n u 0
def Cd:Nat→Core→Int→Option Bool
 |0,_,_=>none
 |n+1,u,v=>if decide (v<(u.kids.length:Int)) then (at? u.kids v).bind fun w=>(D3 n w).bind fun x=>if !x then some false else Cd n u (IntKind.i64.wrap (v+1)) else some true
end
def DF:Nat→Book→Int→Option Bool
 |0,_,_=>none
 |n+1,u,v=>if decide (v<(u.defs.length:Int)) then (at? u.defs v).bind fun w=>(D3 fuel w).bind fun x=>if !x then some false else DF n u (IntKind.i64.wrap (v+1)) else some true
def CT (u:Book) (v:Bool):Option Bool:=
 if v then some false else DF fuel u 0
def JV (u:Book) (v:Core):Option Bool:=
 (Ki u).bind fun w=>if !w then CT u true else (Gn v).bind fun x=>if !x then CT u true else (D3 fuel v).bind fun y=>if !y then CT u true else (GB fuel v (u.defs.length:Int)).bind fun z=>CT u (!z)
def G7 (u:Core) (v:Bool):Option Int:=
 if v then some 3 else (at? u.kids 0).bind fun w=>if decide (w.kind=11) then some 4 else some 0
def I0 (u:Core):Option Int:=
 if decide (u.kind=5) then (at? u.kids 0).bind fun v=>if decide (v.kind=4) then some 1 else if decide (v.kind=11) then some 4 else some 0 else if decide (u.kind=3) then (at? u.kids 0).bind fun y=>if decide (y.kind=11) then some 4 else (at? u.kids 0).bind fun z=>if decide (z.kind=2) then (at? u.kids 1).bind fun w=>if decide (w.kind=2) then some 2 else if decide (w.kind=11) then some 4 else some 0 else some 0 else if decide (u.kind=9) then (at? u.kids 0).bind fun b=>if decide (b.kind=8) then (at? u.kids 0).bind fun c=>G7 u (decide (c.value<(u.data.length:Int))) else G7 u false else if decide (u.kind=10) then (at? u.kids 0).bind fun x=>if decide (x.kind=2) then some 3 else if decide (x.kind=11) then some 4 else some 0 else some 0
mutual
def C3:Nat→Core→Int→(List Int)→Option ((List Int) × Int)
 |0,_,_,_=>none
 |n+1,u,v,w=>(I0 u).bind fun x=>if !decide (x=0) then (app? w [v]).bind fun y=>Ct n u v y else Ct n u v w
def Ct:Nat→Core→Int→(List Int)→Option ((List Int) × Int)
 |0,_,_,_=>none
 |n+1,u,v,w=>CF n u (IntKind.i64.wrap (v+1)) w 0
def CF:Nat→Core→Int→(List Int)→Int→Option ((List Int) × Int)
 |0,_,_,_,_=>none
 |n+1,u,w,x,v=>if decide (v<(u.kids.length:Int)) then (at? u.kids v).bind fun z=>(C3 n z w x).bind fun y=>CF n u y.2 y.1 (IntKind.i64.wrap (v+1)) else some (x,w)
end
def Eo:Nat→(List Int)→Int→Int→Option Bool
 |0,_,_,_=>none
 |n+1,u,w,v=>if decide (v<(u.length:Int)) then (at? u v).bind fun x=>if decide (x=w) then some true else Eo n u w (IntKind.i64.wrap (v+1)) else some false
def Kk (u:List Int) (v:Int):Option Bool:=
 Eo fuel u v 0
def G8 (u:Int):Option Int:=
 some (IntKind.i64.wrap (IntKind.i32.wrap (IntKind.u32.wrap (IntKind.u64.wrap u))))
def Kl (u:Bool):Option Int:=
 if u then some 1 else some 0
def I1 (v:Int) (x:Int) (y:Int):Option Int:=
 (G8 x).bind fun w=>(G8 y).bind fun u=>if decide (v=1) then (G8 (IntKind.i64.wrap (w+u))).bind fun z=>some z else if decide (v=2) then (G8 (IntKind.i64.wrap (w - u))).bind fun b=>some b else if decide (v=3) then (G8 (IntKind.i64.wrap (w*u))).bind fun c=>some c else if decide (v=4) then if decide (u=0) then some 0 else (nz? u).bind fun g=>(G8 (IntKind.i64.wrap (Int.tdiv w u))).bind fun d=>some d else if decide (v=5) then (Kl (decide (w<u))).bind fun e=>some e else if decide (v=6) then (Kl (decide (w=u))).bind fun f=>some f else some 0
def RB (u:Int):Option Core:=
 some (⟨11,u,[],[]⟩:Core)
def Xt (u:Int) (v:Int) (w:List Core):Option Core:=
 some (⟨u,v,[],w⟩:Core)
def Xu (u:Core) (v:Core):Option Core:=
 (Xt 5 0 [u,v]).bind fun w=>some w
def B6:Nat→(List Core)→Int→Int→(List Int)→(List Core)→Int→Option Core
 |0,_,_,_,_,_,_=>none
 |n+1,v,x,y,z,b,w=>if decide (w<(v.length:Int)) then (at? v w).bind fun c=>(Xu (⟨x,y,z,b⟩:Core) c).bind fun u=>B6 n v u.kind u.value u.data u.kids (IntKind.i64.wrap (w+1)) else some (⟨x,y,z,b⟩:Core)
def Gr (u:Core) (w:List Core):Option Core:=
 if decide (u.kind=10) then (at? u.kids 0).bind fun x=>if !decide (x.value=0) then (at? u.data 0).bind fun y=>(RB y).bind fun z=>some z else (at? u.data 1).bind fun b=>(RB b).bind fun c=>some c else (at? u.kids 0).bind fun d=>(at? u.data d.value).bind fun e=>(RB e).bind fun v=>B6 fuel w v.kind v.value v.data v.kids 0
def Ed (x:Book) (u:Core) (w:List Core) (v:Int):Option Core:=
 (at? u.kids v).bind fun y=>(at? x.defs y.value).bind fun z=>(at? w v).bind fun b=>(Cn w v z).bind fun v6018_2=>some (⟨u.kind,u.value,u.data,v6018_2⟩:Core)
def Gs (v:Book) (u:Core) (x:List Core):Option Core:=
 (app? [] x).bind fun w=>(at? u.kids 0).bind fun y=>if !decide (y.kind=11) then Ed v u w 1 else Ed v u w 0
def DK (u:Int) (v:Int) (w:Int) (x:List Int) (y:List Core) (z:Int):Option (Core × Int × Int):=
 some ((⟨v,w,x,y⟩:Core),z,u)
def DL (u:Int) (v:Int) (w:Int) (x:List Int) (y:List Core) (z:Int) (b:Bool):Option (Core × Int × Int):=
 if b then DK u v w x y 4 else DK u v w x y z
def AT (z:Int) (u:Int) (v:Int) (w:List Int) (x:List Core) (y:Int):Option (Core × Int × Int):=
 if decide (y=0) then (Km (⟨u,v,w,x⟩:Core)).bind fun b=>DL z u v w x y (!b) else DL z u v w x y false
mutual
def Bj:Nat→Book→Core→Int→(List Int)→Option (Core × Int × Int)
 |0,_,_,_,_=>none
 |n+1,x,u,v,w=>(Kk w v).bind fun y=>if y then (I0 u).bind fun z=>DM n x u v w z else DM n x u v w 0
def DM:Nat→Book→Core→Int→(List Int)→Int→Option (Core × Int × Int)
 |0,_,_,_,_,_=>none
 |n+1,u,v,w,x,y=>B0 n u v x y (IntKind.i64.wrap (w+1)) [] 0
def B0:Nat→Book→Core→(List Int)→Int→Int→(List Core)→Int→Option (Core × Int × Int)
 |0,_,_,_,_,_,_,_=>none
 |n+1,d,u,f,x,v,w,e=>if decide (e<(u.kids.length:Int)) then (at? u.kids e).bind fun i=>(Bj n d i v f).bind fun y=>if !decide (y.2.1 =0) then some ((⟨0,0,[],[]⟩:Core),y.2.1,y.2.2) else (app? w [y.1]).bind fun j=>B0 n d u f x y.2.2 j (IntKind.i64.wrap (e+1)) else if decide (x=1) then (at? w 0).bind fun k=>(at? k.kids 0).bind fun l=>(at? w 1).bind fun m=>(FW l m).bind fun z=>AT v z.1.kind z.1.value z.1.data z.1.kids z.2 else if decide (x=2) then (at? u.kids 0).bind fun o=>(at? u.kids 1).bind fun p=>(I1 u.value o.value p.value).bind fun q=>(Od q).bind fun g=>AT v g.kind g.value [] [] 0 else if decide (x=3) then (at? w 0).bind fun r=>(Gr u r.kids).bind fun b=>AT v b.kind b.value b.data b.kids 0 else if decide (x=4) then (Gs d u w).bind fun c=>AT v c.kind c.value c.data c.kids 0 else AT v u.kind u.value u.data w 0
end
def Kn (u:Core):Option Core:=
 (EG fuel u 0 0).bind fun v=>some v
mutual
def BU:Nat→Book→Core→(List Int)→((List Int) × Int)→Int→Option (Core × Int)
 |0,_,_,_,_,_=>none
 |n+1,x,y,u,w,v=>if decide (v<(u.length:Int)) then if decide (0<v) then (at? u (IntKind.i64.wrap (v - 1))).bind fun d=>(at? u v).bind fun e=>if decide (e≤d) then BV n x y u v w true else (at? u v).bind fun z=>(Kk w.1 z).bind fun b=>BV n x y u v w (!b) else (at? u v).bind fun z=>(Kk w.1 z).bind fun b=>BV n x y u v w (!b) else (Bj fuel x y 0 u).bind fun c=>if !decide (c.2.1 =0) then some ((⟨0,0,[],[]⟩:Core),c.2.1) else (Kn c.1).bind fun f=>some (f,0)
def BV:Nat→Book→Core→(List Int)→Int→((List Int) × Int)→Bool→Option (Core × Int)
 |0,_,_,_,_,_,_=>none
 |n+1,u,v,w,x,y,z=>if z then some ((⟨0,0,[],[]⟩:Core),2) else BU n u v w y (IntKind.i64.wrap (x+1))
end
def IL (v:Book) (u:Core) (w:List Int):Option (Core × Int):=
 (JV v u).bind fun x=>if !x then some ((⟨0,0,[],[]⟩:Core),1) else (C3 fuel u 0 []).bind fun y=>BU fuel v u w y 0
end Go.Proofs.YtjnifengdhcojaaGreatDoor.Ab
