/-
  Data of the program as Lean types; how they lie in memory. Printed by wip/ab/gen.py.
-/
import Derived.Test.YtnfgeocnolheoaaGreatAbY
import Derived.Test.YtnfgeocnolheoaaGreatMod
namespace Go.Proofs.YtnfgeocnolheoaaGreat.Ab
set_option linter.unusedVariables false
set_option linter.unusedSimpArgs false
set_option maxRecDepth 20000
set_option maxHeartbeats 4000000
open Go.RowKit
structure L05Env where
 names:List ByteArray
 types:List TType
 levels:List Int
def L05Env.ds (c:L05Env):List D:=[.sl (c.names.map strD),.sl (c.types.map TType.ds),.sl (c.levels.map G0)]
theorem L05Env.ds_eq (c:L05Env):c.ds=[.sl (c.names.map strD),.sl (c.types.map TType.ds),.sl (c.levels.map G0)] :=rfl
@[go_sem] def L05Env.avs (c:L05Env):List AV:=[.ro (c.names.map strD),.ro (c.types.map TType.ds),.ro (c.levels.map G0)]
@[go_sem] def L05Env.rv (c:L05Env):List RV:=[.ow (some 1) (c.names.map strD),.ow (some 3) (c.types.map TType.ds),.ow (some 1) (c.levels.map G0)]
@[go_sem] def L05Env.rvn (c:L05Env):List RV:=[.ow none (c.names.map strD),.ow none (c.types.map TType.ds),.ow none (c.levels.map G0)]
attribute [go_sem] L05Env.ds_eq
theorem L05Env.ds_len (c:L05Env):c.ds.length=3:=by rw [L05Env.ds_eq]; rfl
def L05Env.dz (c:L05Env):List D:=[.fz (c.names.map strD),.fz (c.types.map TType.ds),.fz (c.levels.map G0)]
@[go_sem] theorem L05Env.dz_eq (c:L05Env):c.dz=[.fz (c.names.map strD),.fz (c.types.map TType.ds),.fz (c.levels.map G0)] :=rfl
theorem L05Env.dz_len (c:L05Env):c.dz.length=3:=rfl
theorem L05Env.dz_fz (c:L05Env):fzC c.ds=c.dz:=by rw [L05Env.ds_eq]; rfl
theorem L05Env.dz_ng (c:L05Env):∀d ∈ c.ds,d≠ .gone :=by rw [L05Env.ds_eq]; exact KJ rfl
@[go_sem] theorem L05Env.dz_er (l:List L05Env):erR (l.map L05Env.dz)=List.map L05Env.ds l:=Gt (fun c=>by rw [L05Env.ds_eq]; simp only [L05Env.dz,erC,er]) l
structure Typer where
 p:TProgram
def Typer.ds (c:Typer):List D:=[.sl (c.p.datas.map Data.ds),.sl (c.p.defs.map Def.ds)]
theorem Typer.ds_eq (c:Typer):c.ds=[.sl (c.p.datas.map Data.ds),.sl (c.p.defs.map Def.ds)] :=rfl
@[go_sem] def Typer.avs (c:Typer):List AV:=[.ro (c.p.datas.map Data.ds),.ro (c.p.defs.map Def.ds)]
@[go_sem] def Typer.rv (c:Typer):List RV:=[.ow (some 2) (c.p.datas.map Data.ds),.ow (some 12) (c.p.defs.map Def.ds)]
@[go_sem] def Typer.rvn (c:Typer):List RV:=[.ow none (c.p.datas.map Data.ds),.ow none (c.p.defs.map Def.ds)]
attribute [go_sem] Typer.ds_eq
theorem Typer.ds_len (c:Typer):c.ds.length=2:=by rw [Typer.ds_eq]; rfl
def Typer.dz (c:Typer):List D:=[.fz (c.p.datas.map Data.ds),.fz (c.p.defs.map Def.ds)]
@[go_sem] theorem Typer.dz_eq (c:Typer):c.dz=[.fz (c.p.datas.map Data.ds),.fz (c.p.defs.map Def.ds)] :=rfl
theorem Typer.dz_len (c:Typer):c.dz.length=2:=rfl
theorem Typer.dz_fz (c:Typer):fzC c.ds=c.dz:=by rw [Typer.ds_eq]; rfl
theorem Typer.dz_ng (c:Typer):∀d ∈ c.ds,d≠ .gone :=by rw [Typer.ds_eq]; exact KJ rfl
@[go_sem] theorem Typer.dz_er (l:List Typer):erR (l.map Typer.dz)=List.map Typer.ds l:=Gt (fun c=>by rw [Typer.ds_eq]; simp only [Typer.dz,erC,er]) l
structure Binder where
 name:ByteArray
 typ:TType
 level:Int
def Binder.ds (c:Binder):List D:=[.str c.name,.int .i64 c.typ.kind,.str c.typ.name,.sl (c.typ.kids.map TType.ds),.int .i64 c.level]
theorem Binder.ds_eq (c:Binder):c.ds=[.str c.name,.int .i64 c.typ.kind,.str c.typ.name,.sl (c.typ.kids.map TType.ds),.int .i64 c.level] :=rfl
@[go_sem] def Binder.avs (c:Binder):List AV:=[.str c.name,.int .i64 c.typ.kind,.str c.typ.name,.ro (c.typ.kids.map TType.ds),.int .i64 c.level]
@[go_sem] def Binder.rv (c:Binder):List RV:=[.str c.name,.int .i64 c.typ.kind,.str c.typ.name,.ow (some 3) (c.typ.kids.map TType.ds),.int .i64 c.level]
@[go_sem] def Binder.rvn (c:Binder):List RV:=[.str c.name,.int .i64 c.typ.kind,.str c.typ.name,.ow none (c.typ.kids.map TType.ds),.int .i64 c.level]
attribute [go_sem] Binder.ds_eq
theorem Binder.ds_len (c:Binder):c.ds.length=5:=by rw [Binder.ds_eq]; rfl
def Binder.dz (c:Binder):List D:=[.str c.name,.int .i64 c.typ.kind,.str c.typ.name,.fz (c.typ.kids.map TType.ds),.int .i64 c.level]
@[go_sem] theorem Binder.dz_eq (c:Binder):c.dz=[.str c.name,.int .i64 c.typ.kind,.str c.typ.name,.fz (c.typ.kids.map TType.ds),.int .i64 c.level] :=rfl
theorem Binder.dz_len (c:Binder):c.dz.length=5:=rfl
theorem Binder.dz_fz (c:Binder):fzC c.ds=c.dz:=by rw [Binder.ds_eq]; rfl
theorem Binder.dz_ng (c:Binder):∀d ∈ c.ds,d≠ .gone :=by rw [Binder.ds_eq]; exact KJ rfl
@[go_sem] theorem Binder.dz_er (l:List Binder):erR (l.map Binder.dz)=List.map Binder.ds l:=Gt (fun c=>by rw [Binder.ds_eq]; simp only [Binder.dz,erC,er]) l
theorem Binder.nopx:NopOf Binder.ds Binder.avs:=⟨fun x=>by rw [Binder.ds_eq]; simp only [Rf,ofD,Binder.avs],fun x=>by simp only [Binder.avs,unDs,unD]; rw [Binder.ds_eq],fun x=>by simp only [Binder.avs,Cl,Dl,Bool.and_self]⟩
@[go_sem] theorem Binder.nop_of (o:Option Binder):ofD (Ly Binder.ds o)=nop Binder.avs o:=Binder.nopx.of o
@[go_sem] theorem Binder.nop_un (o:Option Binder):unD (nop Binder.avs o)=some (Ly Binder.ds o):=Binder.nopx.un o
@[go_sem] theorem Binder.nop_pu (o:Option Binder):Dl (nop Binder.avs o)=true:=Binder.nopx.pu o
@[go_sem] theorem Binder.nop_cl (o:Option Binder) {T B}:cl T B (nop Binder.avs o)=some (nop Binder.avs o):=Binder.nopx.cl o
@[go_sem] theorem Binder.nop_toD (o:Option Binder) {T}:toD T (nop Binder.avs o)=some (Ly Binder.ds o):=Binder.nopx.toD o
@[go_sem] theorem Binder.nop_kn (o:Option Binder) {rt rb}:Fn rt rb (nop Binder.avs o)=true:=Binder.nopx.kn o
@[go_sem] theorem Binder.nop_re (o:Option Binder) {rt rb}:ren rt rb (nop Binder.avs o)=nop Binder.avs o:=Binder.nopx.re o
@[go_sem] theorem Binder.nop_mp (o:Option Binder):AV.mp? (nop Binder.avs o)=false:=Binder.nopx.mp o
@[go_sem] theorem Binder.nop_on (o:Option Binder):AV.one (nop Binder.avs o)=true:=Binder.nopx.on o
@[go_sem] theorem Binder.nop_ce (o:Option Binder):cellsOf (nop Binder.avs o)=some [nop Binder.avs o] :=Binder.nopx.ce o
@[go_sem] theorem Binder.nop_bak (o:Option Binder) {cv rt rb nt nb}:bak ⟨cv,rt,rb,nt,nb,true⟩ (nop Binder.avs o)=nop Binder.avs o:=by cases o <;> simp [nop,bak,baks,Binder.avs]
@[go_sem] theorem Binder.nop_pas (o:Option Binder) {y σ0}:D5 y σ0 (nop Binder.avs o) (nop Binder.avs o)=True:=propext ⟨fun _=>trivial,fun _=>by cases o <;> simp [nop,D5,narR,cl,cls,Binder.avs]⟩
structure Node where
 term:Term
 typ:TType
 level:Int
 kids:List Node
 binds:List Binder
 binder:Option Binder
mutual
def Node.ds:Node→List D
 |⟨x0,x1,x2,x3,x4,x5⟩=>[.int .i64 x0.kind,.int .i64 x0.num,.str x0.name,.int .i64 x0.typ.kind,.str x0.typ.name,.sl (x0.typ.kids.map TType.ds),.sl (x0.names.map strD),.sl (x0.kids.map Term.ds),.int .i64 x1.kind,.str x1.name,.sl (x1.kids.map TType.ds),.int .i64 x2,.sl (Node.rows x3),.sl (x4.map (pD Binder.ds)),Ly Binder.ds x5]
def Node.rows:List Node→List (List D)
 | [] =>[]
 |c::cs=>[.ptr (Node.ds c)] ::Node.rows cs
end
theorem Node.rows_map:∀l:List Node,Node.rows l=List.map (pD Node.ds) l
 | [] =>by rw [Node.rows]; rfl
 |c::cs=>by rw [Node.rows,Node.rows_map cs]; rfl
theorem Node.ds_eq (c:Node):c.ds=[.int .i64 c.term.kind,.int .i64 c.term.num,.str c.term.name,.int .i64 c.term.typ.kind,.str c.term.typ.name,.sl (c.term.typ.kids.map TType.ds),.sl (c.term.names.map strD),.sl (c.term.kids.map Term.ds),.int .i64 c.typ.kind,.str c.typ.name,.sl (c.typ.kids.map TType.ds),.int .i64 c.level,.sl (c.kids.map (pD Node.ds)),.sl (c.binds.map (pD Binder.ds)),Ly Binder.ds c.binder] :=by
 cases c; rw [Node.ds]; simp only [Node.rows_map]
@[go_sem] def Node.avs (c:Node):List AV:=[.int .i64 c.term.kind,.int .i64 c.term.num,.str c.term.name,.int .i64 c.term.typ.kind,.str c.term.typ.name,.ro (c.term.typ.kids.map TType.ds),.ro (c.term.names.map strD),.ro (c.term.kids.map Term.ds),.int .i64 c.typ.kind,.str c.typ.name,.ro (c.typ.kids.map TType.ds),.int .i64 c.level,.ro (c.kids.map (pD Node.ds)),.ro (c.binds.map (pD Binder.ds)),(nop Binder.avs c.binder)]
attribute [go_sem] Node.ds_eq
theorem Node.ds_len (c:Node):c.ds.length=15:=by rw [Node.ds_eq]; rfl
def Node.dz (c:Node):List D:=[.int .i64 c.term.kind,.int .i64 c.term.num,.str c.term.name,.int .i64 c.term.typ.kind,.str c.term.typ.name,.fz (c.term.typ.kids.map TType.ds),.fz (c.term.names.map strD),.fz (c.term.kids.map Term.ds),.int .i64 c.typ.kind,.str c.typ.name,.fz (c.typ.kids.map TType.ds),.int .i64 c.level,.fz (c.kids.map (pD Node.ds)),.fz (c.binds.map (pD Binder.ds)),Ly Binder.ds c.binder]
@[go_sem] theorem Node.dz_eq (c:Node):c.dz=[.int .i64 c.term.kind,.int .i64 c.term.num,.str c.term.name,.int .i64 c.term.typ.kind,.str c.term.typ.name,.fz (c.term.typ.kids.map TType.ds),.fz (c.term.names.map strD),.fz (c.term.kids.map Term.ds),.int .i64 c.typ.kind,.str c.typ.name,.fz (c.typ.kids.map TType.ds),.int .i64 c.level,.fz (c.kids.map (pD Node.ds)),.fz (c.binds.map (pD Binder.ds)),Ly Binder.ds c.binder] :=rfl
theorem Node.dz_len (c:Node):c.dz.length=15:=rfl
theorem Node.dz_fz (c:Node):fzC c.ds=c.dz:=by rw [Node.ds_eq,Node.dz_eq]; cases c.binder <;> rfl
theorem Node.dz_ng (c:Node):∀d ∈ c.ds,d≠ .gone :=by rw [Node.ds_eq]; cases c.binder <;> exact KJ rfl
@[go_sem] theorem Node.dz_er (l:List Node):erR (l.map Node.dz)=List.map Node.ds l:=Gt (fun c=>by rw [Node.ds_eq]; simp only [Node.dz,erC,er,gG]) l
def findB:List Binder→ByteArray→Option Binder
 | [],_=>none
 |b::s,x=>match findB s x with
  |some c=>some c
  |none=>if sameStr b.name x=true then some b else none
def Ha (s:List Binder) (x:ByteArray):Option (Option Binder):=if s.length≤1000000 then some (findB s x) else none
def DH (s b:List Binder):Option (List Binder):=if s.length+b.length≤1000000 then some (s++b) else none
mutual
def FW:Nat→TType→Int→Option (Int)
 |0,_,_=>none
 |n+1,a0,a1=>(if (decide ((IntKind.i64.wrap (a1 - (a0.name.size:Int)))<0))=true then (some (-1)) else ((GS n a0.kids (IntKind.i64.wrap (a1 - (a0.name.size:Int)))).bind fun v5003=>(if (decide (v5003<0))=true then (some (-1)) else (some v5003))))
def GS:Nat→(List TType)→Int→Option (Int)
 |0,_,_=>none
 |n+1,a0,a1=>(if (decide ((IntKind.i64.wrap (a1 - (a0.length:Int)))<0))=true then (some (-1)) else (FK n a0 (IntKind.i64.wrap (a1 - (a0.length:Int))) 0))
def FK:Nat→(List TType)→Int→Int→Option (Int)
 |0,_,_,_=>none
 |n+1,a0,p0_0,p0_1=>(if (decide (p0_1<(a0.length:Int)))=true then ((at? a0 p0_1).bind fun v8002=>((FW n v8002 p0_0).bind fun v8005=>(if (decide (v8005<0))=true then (some (-1)) else (FK n a0 v8005 (IntKind.i64.wrap (p0_1+1)))))) else (some p0_0))
end
def EF (a0:Constructor) (a1:Int):Option (Int):=
 (if (decide ((IntKind.i64.wrap (a1 - (a0.name.size:Int)))<0))=true then (some (-1)) else ((GS fuel a0.fields (IntKind.i64.wrap (a1 - (a0.name.size:Int)))).bind fun v5003=>(if (decide (v5003<0))=true then (some (-1)) else (some v5003))))
def CE:Nat→(List Constructor)→Int→Int→Option (Int)
 |0,_,_,_=>none
 |n+1,a0,p0_0,p0_1=>(if (decide (p0_1<(a0.length:Int)))=true then ((at? a0 p0_1).bind fun v8002=>((EF v8002 p0_0).bind fun v8005=>(if (decide (v8005<0))=true then (some (-1)) else (CE n a0 v8005 (IntKind.i64.wrap (p0_1+1)))))) else (some p0_0))
def Eu (a0:List Constructor) (a1:Int):Option (Int):=
 (if (decide ((IntKind.i64.wrap (a1 - (a0.length:Int)))<0))=true then (some (-1)) else (CE fuel a0 (IntKind.i64.wrap (a1 - (a0.length:Int))) 0))
def Kp (a0:Data) (a1:Int):Option (Int):=
 (if (decide ((IntKind.i64.wrap (a1 - (a0.name.size:Int)))<0))=true then (some (-1)) else ((Eu a0.cons (IntKind.i64.wrap (a1 - (a0.name.size:Int)))).bind fun v5003=>(if (decide (v5003<0))=true then (some (-1)) else (some v5003))))
def FL:Nat→(List Data)→Int→Int→Option (Int)
 |0,_,_,_=>none
 |n+1,a0,p0_0,p0_1=>(if (decide (p0_1<(a0.length:Int)))=true then ((at? a0 p0_1).bind fun v8002=>((Kp v8002 p0_0).bind fun v8005=>(if (decide (v8005<0))=true then (some (-1)) else (FL n a0 v8005 (IntKind.i64.wrap (p0_1+1)))))) else (some p0_0))
def Kq (a0:List Data) (a1:Int):Option (Int):=
 (if (decide ((IntKind.i64.wrap (a1 - (a0.length:Int)))<0))=true then (some (-1)) else (FL fuel a0 (IntKind.i64.wrap (a1 - (a0.length:Int))) 0))
def DT:Nat→(List ByteArray)→Int→Int→Option (Int)
 |0,_,_,_=>none
 |n+1,a0,p0_0,p0_1=>(if (decide (p0_1<(a0.length:Int)))=true then ((at? a0 p0_1).bind fun v8003=>(if (decide ((IntKind.i64.wrap (p0_0 - (v8003.size:Int)))<0))=true then (some (-1)) else (DT n a0 (IntKind.i64.wrap (p0_0 - (v8003.size:Int))) (IntKind.i64.wrap (p0_1+1))))) else (some p0_0))
def Ia (a0:List ByteArray) (a1:Int):Option (Int):=
 (if (decide ((IntKind.i64.wrap (a1 - (a0.length:Int)))<0))=true then (some (-1)) else (DT fuel a0 (IntKind.i64.wrap (a1 - (a0.length:Int))) 0))
mutual
def JG:Nat→(List Term)→Int→Option (Int)
 |0,_,_=>none
 |n+1,a0,a1=>(if (decide ((IntKind.i64.wrap (a1 - (a0.length:Int)))<0))=true then (some (-1)) else (FM n a0 (IntKind.i64.wrap (a1 - (a0.length:Int))) 0))
def FM:Nat→(List Term)→Int→Int→Option (Int)
 |0,_,_,_=>none
 |n+1,a0,p0_0,p0_1=>(if (decide (p0_1<(a0.length:Int)))=true then ((at? a0 p0_1).bind fun v8002=>((F4 n v8002 p0_0).bind fun v8005=>(if (decide (v8005<0))=true then (some (-1)) else (FM n a0 v8005 (IntKind.i64.wrap (p0_1+1)))))) else (some p0_0))
def F4:Nat→Term→Int→Option (Int)
 |0,_,_=>none
 |n+1,a0,a1=>(if (decide ((IntKind.i64.wrap (a1 - (a0.name.size:Int)))<0))=true then (some (-1)) else ((FW fuel a0.typ (IntKind.i64.wrap (a1 - (a0.name.size:Int)))).bind fun v5003=>(if (decide (v5003<0))=true then (some (-1)) else ((Ia a0.names v5003).bind fun v8003=>(if (decide (v8003<0))=true then (some (-1)) else ((JG n a0.kids v8003).bind fun v11003=>(if (decide (v11003<0))=true then (some (-1)) else (some v11003))))))))
end
def NC (a0:Def) (a1:Int):Option (Int):=
 (if (decide ((IntKind.i64.wrap (a1 - (a0.name.size:Int)))<0))=true then (some (-1)) else ((FW fuel a0.typ (IntKind.i64.wrap (a1 - (a0.name.size:Int)))).bind fun v5003=>(if (decide (v5003<0))=true then (some (-1)) else ((F4 fuel a0.body v5003).bind fun v8003=>(if (decide (v8003<0))=true then (some (-1)) else (some v8003))))))
def F5:Nat→(List Def)→Int→Int→Option (Int)
 |0,_,_,_=>none
 |n+1,a0,p0_0,p0_1=>(if (decide (p0_1<(a0.length:Int)))=true then ((at? a0 p0_1).bind fun v8002=>((NC v8002 p0_0).bind fun v8005=>(if (decide (v8005<0))=true then (some (-1)) else (F5 n a0 v8005 (IntKind.i64.wrap (p0_1+1)))))) else (some p0_0))
def MY (a0:List Def) (a1:Int):Option (Int):=
 (if (decide ((IntKind.i64.wrap (a1 - (a0.length:Int)))<0))=true then (some (-1)) else (F5 fuel a0 (IntKind.i64.wrap (a1 - (a0.length:Int))) 0))
def HJ (a0:TProgram) (a1:Int):Option (Int):=
 ((Kq a0.datas a1).bind fun v2003=>(if (decide (v2003<0))=true then (some (-1)) else ((MY a0.defs v2003).bind fun v5003=>(if (decide (v5003<0))=true then (some (-1)) else (some v5003)))))
mutual
def Cw:Nat→TType→TType→Option (Bool)
 |0,_,_=>none
 |n+1,a0,a1=>(if (!decide (a0.kind=a1.kind))=true then (EZ n a0 a1 true) else (if (!sameStr a0.name a1.name)=true then (EZ n a0 a1 true) else (EZ n a0 a1 (!decide ((a0.kids.length:Int)=(a1.kids.length:Int))))))
def EZ:Nat→TType→TType→Bool→Option (Bool)
 |0,_,_,_=>none
 |n+1,a0,a1,p0_0=>(if p0_0=true then (some false) else (Ds n a0 a1 0))
def Ds:Nat→TType→TType→Int→Option (Bool)
 |0,_,_,_=>none
 |n+1,a0,a1,p2_0=>(if (decide (p2_0<(a0.kids.length:Int)))=true then ((at? a0.kids p2_0).bind fun v7003=>((at? a1.kids p2_0).bind fun v7008=>((Cw n v7003 v7008).bind fun v7010=>(if (!v7010)=true then (some false) else (Ds n a0 a1 (IntKind.i64.wrap (p2_0+1))))))) else (some true))
end
def Kr:Option (TType):=
 (some (⟨1,ByteArray.empty,[]⟩:TType))
def F3 (a0:L05Env) (a1:ByteArray) (a2:TType) (a3:Int):Option (L05Env):=
 ((IN [] a0.names).bind fun v2003=>((IN v2003 [a1]).bind fun v2006=>((IN [] a0.types).bind fun v2010=>((IN v2010 [a2]).bind fun v2013=>((IN [] a0.levels).bind fun v2017=>((IN v2017 [a3]).bind fun v2020=>(some (⟨v2006,v2013,v2020⟩:L05Env))))))))
def O9 (a0:TType) (a1:TType):Option (TType):=
 (some (⟨3,ByteArray.empty,[a0,a1]⟩:TType))
def ND (a0:TType):Option (TType):=
 (some (⟨4,ByteArray.empty,[a0]⟩:TType))
def Ct (a0:TType):Option (TType × Bool):=
 (if (decide (a0.kind=4))=true then ((at? a0.kids 0).bind fun v4002=>(some (v4002,true))) else (if (decide (a0.kind=1))=true then (some (a0,true)) else (some ((⟨0,ByteArray.empty,[]⟩:TType),false))))
def Cy:Nat→TProgram→Term→Int→(Int × Int)→(List ByteArray)→(List TType)→(List Int)→Int→Option (L05Env)
 |0,_,_,_,_,_,_,_,_=>none
 |n+1,a0,a1,a3,v2008,p1_0,p1_1,p1_2,p1_3=>(if (decide (p1_3<(a1.names.length:Int)))=true then ((at? a1.names p1_3).bind fun v6006=>((at? a0.datas v2008.1).bind fun v6013=>((at? v6013.cons v2008.2).bind fun v6017=>((at? v6017.fields p1_3).bind fun v6021=>((F3 (⟨p1_0,p1_1,p1_2⟩:L05Env) v6006 v6021 a3).bind fun v6024=>(Cy n a0 a1 a3 v2008 v6024.names v6024.types v6024.levels (IntKind.i64.wrap (p1_3+1)))))))) else (some (⟨p1_0,p1_1,p1_2⟩:L05Env)))
def HK (a0:TProgram) (a1:Term) (a2:L05Env) (a3:Int):Option (L05Env):=
 ((Bn a0.datas a1.name).bind fun v2008=>(Cy fuel a0 a1 a3 v2008 a2.names a2.types a2.levels 0))
def U3 (a0:ByteArray):Option (TType):=
 (some (⟨2,a0,[]⟩:TType))
def CJ:Nat→(List TType)→(List TType)→Int→Option (Bool)
 |0,_,_,_=>none
 |n+1,a0,a1,p0_0=>(if (decide (p0_0<(a0.length:Int)))=true then ((at? a0 p0_0).bind fun v7002=>((at? a1 p0_0).bind fun v7006=>((Cw fuel v7002 v7006).bind fun v7008=>(if (!v7008)=true then (some false) else (CJ n a0 a1 (IntKind.i64.wrap (p0_0+1))))))) else (some true))
def F6 (a0:List TType) (a1:List TType):Option (Bool):=
 (if (!decide ((a0.length:Int)=(a1.length:Int)))=true then (some false) else (CJ fuel a0 a1 0))
def GT (p2_0:List TType) (p3_0:Bool):Option (TType × Bool):=
 (if p3_0=true then (some ((⟨0,ByteArray.empty,[]⟩:TType),false)) else ((at? p2_0 0).bind fun v38001=>((at? v38001.kids 1).bind fun v38004=>(some (v38004,true)))))
mutual
def H6:Nat→TProgram→Term→L05Env→Int→Option (TType × Bool)
 |0,_,_,_,_=>none
 |n+1,a0,a1,a2,a3=>((at? a1.kids 0).bind fun v2005=>((BQ n a0 v2005 a2 a3).bind fun v2008=>((at? a1.kids 1).bind fun v3008=>((Bn a0.datas v3008.name).bind fun v3011=>(if (!v2008.2)=true then (CO n a0 a1 a2 a3 true) else (if (!decide (v2008.1.kind =2))=true then (CO n a0 a1 a2 a3 true) else ((at? a0.datas v3011.1).bind fun v4015=>(CO n a0 a1 a2 a3 (!sameStr v2008.1.name v4015.name)))))))))
def BQ:Nat→TProgram→Term→L05Env→Int→Option (TType × Bool)
 |0,_,_,_,_=>none
 |n+1,a0,a1,a2,a3=>(if (decide (a1.kind=1))=true then ((IG a2.names a1.name).bind fun v4006=>(if (decide (0≤v4006))=true then ((at? a2.types v4006).bind fun v6003=>(some (v6003,true))) else ((G1 a0.defs a1.name).bind fun v7012=>((at? a0.defs v7012).bind fun v7013=>(some (v7013.typ,true)))))) else (if (decide (a1.kind=2))=true then (Option.bind Kr fun v9000=>(some (v9000,true))) else (if (decide (a1.kind=4))=true then ((at? a1.kids 0).bind fun v11005=>((F3 a2 a1.name a1.typ a3).bind fun v11016=>((BQ n a0 v11005 v11016 a3).bind fun v11018=>((O9 a1.typ v11018.1).bind fun v12005=>(some (v12005,v11018.2)))))) else (if (decide (a1.kind=6))=true then ((at? a1.kids 0).bind fun v14005=>((BQ n a0 v14005 a2 (IntKind.i64.wrap (a3+1))).bind fun v14009=>((ND v14009.1).bind fun v15001=>(some (v15001,v14009.2))))) else (if (decide (a1.kind=7))=true then ((at? a1.kids 0).bind fun v17005=>((BQ n a0 v17005 a2 a3).bind fun v17008=>((Ct v17008.1).bind fun v18001=>(if (!v17008.2)=true then (Dk n a0 a1 a2 a3 v18001 true) else (Dk n a0 a1 a2 a3 v18001 (!v18001.2)))))) else (if (decide (a1.kind=9))=true then ((H6 n a0 a1 a2 a3).bind fun v23004=>(some (v23004.1,v23004.2))) else (Bu n a0 a1 a2 a3 [] 0)))))))
def Dk:Nat→TProgram→Term→L05Env→Int→(TType × Bool)→Bool→Option (TType × Bool)
 |0,_,_,_,_,_,_=>none
 |n+1,a0,a1,a2,a3,v18001,p0_0=>(if p0_0=true then (some ((⟨0,ByteArray.empty,[]⟩:TType),false)) else ((at? a1.kids 1).bind fun v21005=>((F3 a2 a1.name v18001.1 a3).bind fun v21013=>((BQ n a0 v21005 v21013 a3).bind fun v21015=>(some (v21015.1,v21015.2))))))
def Bu:Nat→TProgram→Term→L05Env→Int→(List TType)→Int→Option (TType × Bool)
 |0,_,_,_,_,_,_=>none
 |n+1,a0,a1,a2,a3,p2_0,p2_1=>(if (decide (p2_1<(a1.kids.length:Int)))=true then ((at? a1.kids p2_1).bind fun v28006=>((BQ n a0 v28006 a2 a3).bind fun v28009=>(if (!v28009.2)=true then (some ((⟨0,ByteArray.empty,[]⟩:TType),false)) else ((IN p2_0 [v28009.1]).bind fun v31003=>(Bu n a0 a1 a2 a3 v31003 (IntKind.i64.wrap (p2_1+1))))))) else (if (decide (a1.kind=3))=true then (Option.bind Kr fun v34000=>((at? p2_0 0).bind fun v34002=>(if (decide (v34002.kind=1))=true then ((at? p2_0 1).bind fun v34008=>(some (v34000,(decide (v34008.kind=1))))) else (some (v34000,false))))) else (if (decide (a1.kind=5))=true then ((at? p2_0 0).bind fun v36001=>(if (!decide (v36001.kind=3))=true then (GT p2_0 true) else ((at? p2_0 0).bind fun v36007=>((at? v36007.kids 0).bind fun v36010=>((at? p2_0 1).bind fun v36013=>((Cw fuel v36010 v36013).bind fun v36015=>(GT p2_0 (!v36015)))))))) else (if (decide (a1.kind=11))=true then ((at? p2_0 1).bind fun v40001=>((at? p2_0 0).bind fun v40004=>(if (decide (v40004.kind=1))=true then ((at? p2_0 1).bind fun v40010=>((at? p2_0 2).bind fun v40013=>((Cw fuel v40010 v40013).bind fun v40015=>(some (v40001,v40015))))) else (some (v40001,false))))) else ((Bn a0.datas a1.name).bind fun v41008=>((at? a0.datas v41008.1).bind fun v42005=>((U3 v42005.name).bind fun v42008=>((at? a0.datas v41008.1).bind fun v42015=>((at? v42015.cons v41008.2).bind fun v42019=>((F6 p2_0 v42019.fields).bind fun v42022=>(some (v42008,v42022))))))))))))
def CO:Nat→TProgram→Term→L05Env→Int→Bool→Option (TType × Bool)
 |0,_,_,_,_,_=>none
 |n+1,a0,a1,a2,a3,p0_0=>(if p0_0=true then (some ((⟨0,ByteArray.empty,[]⟩:TType),false)) else (Ck n a0 a1 a2 a3 0 ByteArray.empty [] 1))
def Ck:Nat→TProgram→Term→L05Env→Int→Int→ByteArray→(List TType)→Int→Option (TType × Bool)
 |0,_,_,_,_,_,_,_,_=>none
 |n+1,a0,a1,a2,a3,p3_0,p3_1,p3_2,p3_3=>(if (decide (p3_3<(a1.kids.length:Int)))=true then ((at? a1.kids p3_3).bind fun v10005=>((at? v10005.kids 0).bind fun v11005=>((HK a0 v10005 a2 a3).bind fun v11010=>((BQ n a0 v11005 v11010 a3).bind fun v11012=>(if (!v11012.2)=true then (Ea n a0 a1 a2 a3 p3_0 p3_1 p3_2 p3_3 v11012 true) else (if (decide (1<p3_3))=true then ((Cw fuel v11012.1 (⟨p3_0,p3_1,p3_2⟩:TType)).bind fun v12008=>(Ea n a0 a1 a2 a3 p3_0 p3_1 p3_2 p3_3 v11012 (!v12008))) else (Ea n a0 a1 a2 a3 p3_0 p3_1 p3_2 p3_3 v11012 false))))))) else (some ((⟨p3_0,p3_1,p3_2⟩:TType),true)))
def Ea:Nat→TProgram→Term→L05Env→Int→Int→ByteArray→(List TType)→Int→(TType × Bool)→Bool→Option (TType × Bool)
 |0,_,_,_,_,_,_,_,_,_,_=>none
 |n+1,a0,a1,a2,a3,p3_0,p3_1,p3_2,p3_3,v11012,p4_0=>(if p4_0=true then (some ((⟨0,ByteArray.empty,[]⟩:TType),false)) else (Ck n a0 a1 a2 a3 v11012.1.kind v11012.1.name v11012.1.kids (IntKind.i64.wrap (p3_3+1))))
end
mutual
def DI:Nat→TProgram→Int→Option (Int)
 |0,_,_=>none
 |n+1,a0,p0_0=>(if (decide (p0_0<(a0.defs.length:Int)))=true then ((at? a0.defs p0_0).bind fun v8006=>((BQ fuel a0 v8006.body (⟨[],[],[]⟩:L05Env) 0).bind fun v8009=>(if (!v8009.2)=true then (Ff n a0 p0_0 true) else ((at? a0.defs p0_0).bind fun v9009=>((Cw fuel v8009.1 v9009.typ).bind fun v9012=>(Ff n a0 p0_0 (!v9012))))))) else (some 0))
def Ff:Nat→TProgram→Int→Bool→Option (Int)
 |0,_,_,_=>none
 |n+1,a0,p0_0,p1_0=>(if p1_0=true then (some 8) else (DI n a0 (IntKind.i64.wrap (p0_0+1))))
end
def Ja (a0:TProgram):Option (Int):=
 ((H2 a0).bind fun v2001=>(if (!decide (v2001=0))=true then (some v2001) else (DI fuel a0 0)))
mutual
def F7:Nat→TType→Option (TType)
 |0,_=>none
 |n+1,a0=>((GU n a0.kids).bind fun v5002=>(some (⟨a0.kind,a0.name,v5002⟩:TType)))
def GU:Nat→(List TType)→Option ((List TType))
 |0,_=>none
 |n+1,a0=>((Q6 (a0.length:Int) (⟨0,ByteArray.empty,[]⟩:TType)).bind fun v2002=>(FN n a0 v2002 0))
def FN:Nat→(List TType)→(List TType)→Int→Option ((List TType))
 |0,_,_,_=>none
 |n+1,a0,p1_0,p1_1=>(if (decide (p1_1<(a0.length:Int)))=true then ((at? a0 p1_1).bind fun v6004=>((F7 n v6004).bind fun v6006=>((at? p1_0 p1_1).bind fun v6007=>((CZ p1_0 p1_1 v6006).bind fun v6008_12=>(FN n a0 v6008_12 (IntKind.i64.wrap (p1_1+1))))))) else (some p1_0))
end
def EG (a0:Constructor):Option (Constructor):=
 ((GU fuel a0.fields).bind fun v4002=>(some (⟨a0.name,v4002⟩:Constructor)))
def CF:Nat→(List Constructor)→(List Constructor)→Int→Option ((List Constructor))
 |0,_,_,_=>none
 |n+1,a0,p1_0,p1_1=>(if (decide (p1_1<(a0.length:Int)))=true then ((at? a0 p1_1).bind fun v6004=>((EG v6004).bind fun v6006=>((at? p1_0 p1_1).bind fun v6007=>((CZ p1_0 p1_1 v6006).bind fun v6008_12=>(CF n a0 v6008_12 (IntKind.i64.wrap (p1_1+1))))))) else (some p1_0))
def Ew (a0:List Constructor):Option ((List Constructor)):=
 ((Q6 (a0.length:Int) (⟨ByteArray.empty,[]⟩:Constructor)).bind fun v2002=>(CF fuel a0 v2002 0))
def Ks (a0:Data):Option (Data):=
 ((Ew a0.cons).bind fun v4002=>(some (⟨a0.name,v4002⟩:Data)))
def FO:Nat→(List Data)→(List Data)→Int→Option ((List Data))
 |0,_,_,_=>none
 |n+1,a0,p1_0,p1_1=>(if (decide (p1_1<(a0.length:Int)))=true then ((at? a0 p1_1).bind fun v6004=>((Ks v6004).bind fun v6006=>((at? p1_0 p1_1).bind fun v6007=>((CZ p1_0 p1_1 v6006).bind fun v6008_12=>(FO n a0 v6008_12 (IntKind.i64.wrap (p1_1+1))))))) else (some p1_0))
def Kt (a0:List Data):Option ((List Data)):=
 ((Q6 (a0.length:Int) (⟨ByteArray.empty,[]⟩:Data)).bind fun v2002=>(FO fuel a0 v2002 0))
def DU:Nat→(List ByteArray)→(List ByteArray)→Int→Option ((List ByteArray))
 |0,_,_,_=>none
 |n+1,a0,p1_0,p1_1=>(if (decide (p1_1<(a0.length:Int)))=true then ((at? a0 p1_1).bind fun v6004=>((at? p1_0 p1_1).bind fun v6006=>((CZ p1_0 p1_1 v6004).bind fun v6007_12=>(DU n a0 v6007_12 (IntKind.i64.wrap (p1_1+1)))))) else (some p1_0))
def Ib (a0:List ByteArray):Option ((List ByteArray)):=
 ((Q6 (a0.length:Int) ByteArray.empty).bind fun v2002=>(DU fuel a0 v2002 0))
mutual
def JH:Nat→(List Term)→Option ((List Term))
 |0,_=>none
 |n+1,a0=>((Q6 (a0.length:Int) (⟨0,0,ByteArray.empty,(⟨0,ByteArray.empty,[]⟩:TType),[],[]⟩:Term)).bind fun v2002=>(FP n a0 v2002 0))
def FP:Nat→(List Term)→(List Term)→Int→Option ((List Term))
 |0,_,_,_=>none
 |n+1,a0,p1_0,p1_1=>(if (decide (p1_1<(a0.length:Int)))=true then ((at? a0 p1_1).bind fun v6004=>((Gj n v6004).bind fun v6006=>((at? p1_0 p1_1).bind fun v6007=>((CZ p1_0 p1_1 v6006).bind fun v6008_12=>(FP n a0 v6008_12 (IntKind.i64.wrap (p1_1+1))))))) else (some p1_0))
def Gj:Nat→Term→Option (Term)
 |0,_=>none
 |n+1,a0=>((F7 fuel a0.typ).bind fun v6002=>((Ib a0.names).bind fun v7002=>((JH n a0.kids).bind fun v8002=>(some (⟨a0.kind,a0.num,a0.name,v6002,v7002,v8002⟩:Term)))))
end
def NE (a0:Def):Option (Def):=
 ((F7 fuel a0.typ).bind fun v4002=>((Gj fuel a0.body).bind fun v5002=>(some (⟨a0.name,v4002,v5002⟩:Def))))
def F8:Nat→(List Def)→(List Def)→Int→Option ((List Def))
 |0,_,_,_=>none
 |n+1,a0,p1_0,p1_1=>(if (decide (p1_1<(a0.length:Int)))=true then ((at? a0 p1_1).bind fun v6004=>((NE v6004).bind fun v6006=>((at? p1_0 p1_1).bind fun v6007=>((CZ p1_0 p1_1 v6006).bind fun v6008_12=>(F8 n a0 v6008_12 (IntKind.i64.wrap (p1_1+1))))))) else (some p1_0))
def MZ (a0:List Def):Option ((List Def)):=
 ((Q6 (a0.length:Int) (⟨ByteArray.empty,(⟨0,ByteArray.empty,[]⟩:TType),(⟨0,0,ByteArray.empty,(⟨0,ByteArray.empty,[]⟩:TType),[],[]⟩:Term)⟩:Def)).bind fun v2002=>(F8 fuel a0 v2002 0))
def Cd (a0:TProgram):Option (TProgram):=
 ((Kt a0.datas).bind fun v3002=>((MZ a0.defs).bind fun v4002=>(some (⟨v3002,v4002⟩:TProgram))))
def Ex (a0:Typer) (a1:Node) (a2:List Binder):Option (Bool × Node):=
 ((Ha a2 a1.term.name).bind fun v2007=>(TV v2007 ((Cq a0.p a1.term.name).bind fun v5011=>((at? a0.p.defs v5011).bind fun v5012=>(some (true,(⟨a1.term,v5012.typ,a1.level,a1.kids,a1.binds,none⟩:Node))))) (fun v2007_9=>(some (true,(⟨a1.term,v2007_9.typ,a1.level,a1.kids,a1.binds,(some v2007_9)⟩:Node))))))
def JI:Option (TType):=
 (some (⟨1,ByteArray.empty,[]⟩:TType))
def Ku (a0:TType) (a1:TType):Option (TType):=
 (some (⟨3,ByteArray.empty,[a0,a1]⟩:TType))
def Jb (a0:TType):Option (TType):=
 (some (⟨4,ByteArray.empty,[a0]⟩:TType))
def H7 (a0:ByteArray):Option (TType):=
 (some (⟨2,a0,[]⟩:TType))
def AN (a1:Term) (p1_0:Int) (p1_1:Int) (p1_2:ByteArray) (p1_3:Int) (p1_4:ByteArray) (p1_5:Int) (p1_6:ByteArray) (p1_7:List TType) (p1_8:Int) (p1_9:List Node) (p1_10:List Binder) (p1_11:Option Binder) (p1_12:Bool):Option (Node × Bool):=
 (some ((⟨(⟨p1_0,p1_1,p1_2,(⟨p1_3,p1_4,a1.typ.kids⟩:TType),a1.names,a1.kids⟩:Term),(⟨p1_5,p1_6,p1_7⟩:TType),p1_8,p1_9,p1_10,p1_11⟩:Node),p1_12))
def FX (a1:Term) (a3:Int) (v12009:TType × Bool × Node):Option (Node × Bool):=
 ((Ku a1.typ v12009.1).bind fun v13004=>(AN a1 v12009.2.2.term.kind v12009.2.2.term.num v12009.2.2.term.name v12009.2.2.term.typ.kind v12009.2.2.term.typ.name v13004.kind v13004.name v13004.kids v12009.2.2.level v12009.2.2.kids [(⟨a1.name,a1.typ,a3⟩:Binder)] none v12009.2.1))
def Cf (a1:Node) (p2_0:Int) (p2_1:Int) (p2_2:ByteArray) (p2_3:Int) (p2_4:ByteArray) (p2_5:Int) (p2_6:ByteArray) (p2_7:Int) (p2_8:List Node) (p2_9:List TType) (p4_0:Bool):Option (Bool × Node):=
 (if p4_0=true then (some (false,(⟨(⟨p2_0,p2_1,p2_2,(⟨p2_3,p2_4,a1.term.typ.kids⟩:TType),a1.term.names,a1.term.kids⟩:Term),(⟨p2_5,p2_6,a1.typ.kids⟩:TType),p2_7,p2_8,a1.binds,none⟩:Node))) else ((at? p2_9 0).bind fun v17002=>((at? v17002.kids 1).bind fun v17005=>(some (true,(⟨(⟨p2_0,p2_1,p2_2,(⟨p2_3,p2_4,a1.term.typ.kids⟩:TType),a1.term.names,a1.term.kids⟩:Term),v17005,p2_7,p2_8,a1.binds,none⟩:Node))))))
mutual
def Eb:Nat→Typer→Node→(List Binder)→Option (Bool × Node)
 |0,_,_,_=>none
 |n+1,a0,a1,a2=>(Aa n a0 a1 a2 a1.term.kind a1.term.num a1.term.name a1.term.typ.kind a1.term.typ.name a1.typ.kind a1.typ.name a1.level a1.kids [] 0)
def Aa:Nat→Typer→Node→(List Binder)→Int→Int→ByteArray→Int→ByteArray→Int→ByteArray→Int→(List Node)→(List TType)→Int→Option (Bool × Node)
 |0,_,_,_,_,_,_,_,_,_,_,_,_,_,_=>none
 |n+1,a0,a1,a2,p2_0,p2_1,p2_2,p2_3,p2_4,p2_5,p2_6,p2_7,p2_8,p2_9,p2_10=>(if (decide (p2_10<(a1.term.kids.length:Int)))=true then ((B6 n a0 (⟨(⟨p2_0,p2_1,p2_2,(⟨p2_3,p2_4,a1.term.typ.kids⟩:TType),a1.term.names,a1.term.kids⟩:Term),(⟨p2_5,p2_6,a1.typ.kids⟩:TType),p2_7,p2_8,a1.binds,none⟩:Node) a2 p2_7).bind fun v5007=>(D1 n a0 a1 a2 p2_9 p2_10 v5007)) else (if (decide (p2_0=3))=true then (Option.bind JI fun v12001=>((at? p2_9 0).bind fun v13001=>(if (decide (v13001.kind=1))=true then ((at? p2_9 1).bind fun v13007=>(some ((decide (v13007.kind=1)),(⟨(⟨p2_0,p2_1,p2_2,(⟨p2_3,p2_4,a1.term.typ.kids⟩:TType),a1.term.names,a1.term.kids⟩:Term),v12001,p2_7,p2_8,a1.binds,none⟩:Node)))) else (some (false,(⟨(⟨p2_0,p2_1,p2_2,(⟨p2_3,p2_4,a1.term.typ.kids⟩:TType),a1.term.names,a1.term.kids⟩:Term),v12001,p2_7,p2_8,a1.binds,none⟩:Node)))))) else (if (decide (p2_0=5))=true then ((at? p2_9 0).bind fun v15001=>(if (!decide (v15001.kind=3))=true then (Cf a1 p2_0 p2_1 p2_2 p2_3 p2_4 p2_5 p2_6 p2_7 p2_8 p2_9 true) else ((at? p2_9 0).bind fun v15007=>((at? v15007.kids 0).bind fun v15010=>((at? p2_9 1).bind fun v15013=>((DA fuel v15010 v15013).bind fun v15015=>(Cf a1 p2_0 p2_1 p2_2 p2_3 p2_4 p2_5 p2_6 p2_7 p2_8 p2_9 (!v15015)))))))) else (if (decide (p2_0=8))=true then ((BZ a0.p.datas p2_2).bind fun v20008=>((at? a0.p.datas v20008.1).bind fun v21005=>((H7 v21005.name).bind fun v21008=>((at? a0.p.datas v20008.1).bind fun v22005=>((at? v22005.cons v20008.2).bind fun v22009=>((CA p2_9 v22009.fields (fun y0 y1=>DA fuel y0 y1)).bind fun v22012=>(some (v22012,(⟨(⟨p2_0,p2_1,p2_2,(⟨p2_3,p2_4,a1.term.typ.kids⟩:TType),a1.term.names,a1.term.kids⟩:Term),v21008,p2_7,p2_8,a1.binds,none⟩:Node))))))))) else ((at? p2_9 1).bind fun v23002=>((at? p2_9 0).bind fun v24001=>(if (decide (v24001.kind=1))=true then ((at? p2_9 1).bind fun v24007=>((at? p2_9 2).bind fun v24010=>((DA fuel v24007 v24010).bind fun v24012=>(some (v24012,(⟨(⟨p2_0,p2_1,p2_2,(⟨p2_3,p2_4,a1.term.typ.kids⟩:TType),a1.term.names,a1.term.kids⟩:Term),v23002,p2_7,p2_8,a1.binds,none⟩:Node)))))) else (some (false,(⟨(⟨p2_0,p2_1,p2_2,(⟨p2_3,p2_4,a1.term.typ.kids⟩:TType),a1.term.names,a1.term.kids⟩:Term),v23002,p2_7,p2_8,a1.binds,none⟩:Node))))))))))
def B6:Nat→Typer→Node→(List Binder)→Int→Option (TType × Bool × Node)
 |0,_,_,_,_=>none
 |n+1,a0,a1,a2,a3=>((at? a1.term.kids (a1.kids.length:Int)).bind fun v2011=>((AM n a0 v2011 a2 a3).bind fun v2015=>((IN a1.kids [v2015.1]).bind fun v3007=>(some (v2015.1.typ,v2015.2,(⟨a1.term,a1.typ,a1.level,v3007,a1.binds,none⟩:Node))))))
def AM:Nat→Typer→Term→(List Binder)→Int→Option (Node × Bool)
 |0,_,_,_,_=>none
 |n+1,a0,a1,a2,a3=>(if (decide (a1.kind=1))=true then ((Ex a0 (⟨a1,(⟨0,ByteArray.empty,[]⟩:TType),a3,[],[],none⟩:Node) a2).bind fun v7003=>(AN a1 v7003.2.term.kind v7003.2.term.num v7003.2.term.name v7003.2.term.typ.kind v7003.2.term.typ.name v7003.2.typ.kind v7003.2.typ.name v7003.2.typ.kids v7003.2.level v7003.2.kids [] v7003.2.binder v7003.1)) else (if (decide (a1.kind=2))=true then (Option.bind JI fun v9001=>(AN a1 a1.kind a1.num a1.name a1.typ.kind a1.typ.name v9001.kind v9001.name v9001.kids a3 [] [] none true)) else (if (decide (a1.kind=4))=true then ((DH a2 [(⟨a1.name,a1.typ,a3⟩:Binder)]).bind fun v12007=>((B6 n a0 (⟨a1,(⟨0,ByteArray.empty,[]⟩:TType),a3,[],[(⟨a1.name,a1.typ,a3⟩:Binder)],none⟩:Node) v12007 a3).bind fun v12009=>(FX a1 a3 v12009))) else (if (decide (a1.kind=6))=true then ((B6 n a0 (⟨a1,(⟨0,ByteArray.empty,[]⟩:TType),a3,[],[],none⟩:Node) a2 (IntKind.i64.wrap (a3+1))).bind fun v15005=>((Jb v15005.1).bind fun v16002=>(AN a1 v15005.2.2.term.kind v15005.2.2.term.num v15005.2.2.term.name v15005.2.2.term.typ.kind v15005.2.2.term.typ.name v16002.kind v16002.name v16002.kids v15005.2.2.level v15005.2.2.kids [] none v15005.2.1))) else (if (decide (a1.kind=7))=true then ((F9 n a0 (⟨a1,(⟨0,ByteArray.empty,[]⟩:TType),a3,[],[],none⟩:Node) a2).bind fun v18003=>(AN a1 v18003.2.term.kind v18003.2.term.num v18003.2.term.name v18003.2.term.typ.kind v18003.2.term.typ.name v18003.2.typ.kind v18003.2.typ.name v18003.2.typ.kids v18003.2.level v18003.2.kids v18003.2.binds none v18003.1)) else (if (decide (a1.kind=9))=true then ((Ec n a0 (⟨a1,(⟨0,ByteArray.empty,[]⟩:TType),a3,[],[],none⟩:Node) a2).bind fun v20003=>(AN a1 v20003.2.term.kind v20003.2.term.num v20003.2.term.name v20003.2.term.typ.kind v20003.2.term.typ.name v20003.2.typ.kind v20003.2.typ.name v20003.2.typ.kids v20003.2.level v20003.2.kids [] none v20003.1)) else ((Eb n a0 (⟨a1,(⟨0,ByteArray.empty,[]⟩:TType),a3,[],[],none⟩:Node) a2).bind fun v5003=>(AN a1 v5003.2.term.kind v5003.2.term.num v5003.2.term.name v5003.2.term.typ.kind v5003.2.term.typ.name v5003.2.typ.kind v5003.2.typ.name v5003.2.typ.kids v5003.2.level v5003.2.kids [] none v5003.1))))))))
def F9:Nat→Typer→Node→(List Binder)→Option (Bool × Node)
 |0,_,_,_=>none
 |n+1,a0,a1,a2=>((B6 n a0 (⟨a1.term,a1.typ,a1.level,a1.kids,a1.binds,none⟩:Node) a2 a1.level).bind fun v2007=>(Ey n a0 a1 a2 v2007))
def Ey:Nat→Typer→Node→(List Binder)→(TType × Bool × Node)→Option (Bool × Node)
 |0,_,_,_,_=>none
 |n+1,a0,a1,a2,v2007=>(if (!v2007.2.1)=true then (BB n a0 a1 a2 v2007 true) else (if (!decide (v2007.1.kind =1))=true then (BB n a0 a1 a2 v2007 (!decide (v2007.1.kind =4))) else (BB n a0 a1 a2 v2007 false)))
def BB:Nat→Typer→Node→(List Binder)→(TType × Bool × Node)→Bool→Option (Bool × Node)
 |0,_,_,_,_,_=>none
 |n+1,a0,a1,a2,v2007,p1_0=>(if p1_0=true then (some (false,(⟨(⟨v2007.2.2.term.kind,v2007.2.2.term.num,v2007.2.2.term.name,(⟨v2007.2.2.term.typ.kind,v2007.2.2.term.typ.name,a1.term.typ.kids⟩:TType),a1.term.names,a1.term.kids⟩:Term),(⟨v2007.2.2.typ.kind,v2007.2.2.typ.name,a1.typ.kids⟩:TType),v2007.2.2.level,v2007.2.2.kids,a1.binds,none⟩:Node))) else (if (decide (v2007.1.kind =4))=true then ((at? v2007.1.kids 0).bind fun v7004=>(CP n a0 a1 a2 v2007 v7004.kind v7004.name v7004.kids (IntKind.i64.wrap (v2007.2.2.level +1)))) else (CP n a0 a1 a2 v2007 v2007.1.kind v2007.1.name v2007.1.kids v2007.2.2.level)))
def CP:Nat→Typer→Node→(List Binder)→(TType × Bool × Node)→Int→ByteArray→(List TType)→Int→Option (Bool × Node)
 |0,_,_,_,_,_,_,_,_=>none
 |n+1,a0,a1,a2,v2007,p2_0,p2_1,p2_2,p2_3=>((DH a2 [(⟨v2007.2.2.term.name,(⟨p2_0,p2_1,p2_2⟩:TType),p2_3⟩:Binder)]).bind fun v9008=>((B6 n a0 (⟨(⟨v2007.2.2.term.kind,v2007.2.2.term.num,v2007.2.2.term.name,(⟨v2007.2.2.term.typ.kind,v2007.2.2.term.typ.name,a1.term.typ.kids⟩:TType),a1.term.names,a1.term.kids⟩:Term),(⟨v2007.2.2.typ.kind,v2007.2.2.typ.name,a1.typ.kids⟩:TType),v2007.2.2.level,v2007.2.2.kids,[(⟨v2007.2.2.term.name,(⟨p2_0,p2_1,p2_2⟩:TType),p2_3⟩:Binder)],none⟩:Node) v9008 v2007.2.2.level).bind fun v9013=>(some (v9013.2.1,(⟨(⟨v9013.2.2.term.kind,v9013.2.2.term.num,v9013.2.2.term.name,(⟨v9013.2.2.term.typ.kind,v9013.2.2.term.typ.name,a1.term.typ.kids⟩:TType),a1.term.names,a1.term.kids⟩:Term),v9013.1,v9013.2.2.level,v9013.2.2.kids,[(⟨v2007.2.2.term.name,(⟨p2_0,p2_1,p2_2⟩:TType),p2_3⟩:Binder)],none⟩:Node)))))
def Ec:Nat→Typer→Node→(List Binder)→Option (Bool × Node)
 |0,_,_,_=>none
 |n+1,a0,a1,a2=>((B6 n a0 (⟨a1.term,a1.typ,a1.level,a1.kids,a1.binds,none⟩:Node) a2 a1.level).bind fun v2007=>(D2 n a0 a1 a2 v2007))
def D2:Nat→Typer→Node→(List Binder)→(TType × Bool × Node)→Option (Bool × Node)
 |0,_,_,_,_=>none
 |n+1,a0,a1,a2,v2007=>((at? a1.term.kids 1).bind fun v3008=>((BZ a0.p.datas v3008.name).bind fun v3011=>(if (!v2007.2.1)=true then (BL n a0 a1 a2 v2007 v3011 true) else ((at? a0.p.datas v3011.1).bind fun v4008=>((H7 v4008.name).bind fun v4011=>((DA fuel v2007.1 v4011).bind fun v4012=>(BL n a0 a1 a2 v2007 v3011 (!v4012))))))))
def BL:Nat→Typer→Node→(List Binder)→(TType × Bool × Node)→(Int × Int)→Bool→Option (Bool × Node)
 |0,_,_,_,_,_,_=>none
 |n+1,a0,a1,a2,v2007,v3011,p1_0=>(if p1_0=true then (some (false,(⟨(⟨v2007.2.2.term.kind,v2007.2.2.term.num,v2007.2.2.term.name,(⟨v2007.2.2.term.typ.kind,v2007.2.2.term.typ.name,a1.term.typ.kids⟩:TType),a1.term.names,a1.term.kids⟩:Term),(⟨v2007.2.2.typ.kind,v2007.2.2.typ.name,a1.typ.kids⟩:TType),v2007.2.2.level,v2007.2.2.kids,a1.binds,none⟩:Node))) else ((cutL a1.term.kids 1 (a1.term.kids.length:Int)).bind fun v6005=>(Az n a0 a1 a2 v2007 v3011 v6005 v2007.2.2.typ.kind v2007.2.2.typ.name a1.typ.kids v2007.2.2.kids 0)))
def Az:Nat→Typer→Node→(List Binder)→(TType × Bool × Node)→(Int × Int)→(List Term)→Int→ByteArray→(List TType)→(List Node)→Int→Option (Bool × Node)
 |0,_,_,_,_,_,_,_,_,_,_,_=>none
 |n+1,a0,a1,a2,v2007,v3011,v6005,p9_0,p9_1,p9_2,p9_3,p9_4=>(if (decide (p9_4<(v6005.length:Int)))=true then ((at? v6005 p9_4).bind fun v8001=>(BD n a0 a1 a2 p9_0 p9_1 p9_2 p9_3 p9_4 v2007 v3011 v6005 v8001 [] 0)) else (some (true,(⟨(⟨v2007.2.2.term.kind,v2007.2.2.term.num,v2007.2.2.term.name,(⟨v2007.2.2.term.typ.kind,v2007.2.2.term.typ.name,a1.term.typ.kids⟩:TType),a1.term.names,a1.term.kids⟩:Term),(⟨p9_0,p9_1,p9_2⟩:TType),v2007.2.2.level,p9_3,a1.binds,none⟩:Node))))
def BD:Nat→Typer→Node→(List Binder)→Int→ByteArray→(List TType)→(List Node)→Int→(TType × Bool × Node)→(Int × Int)→(List Term)→Term→(List Binder)→Int→Option (Bool × Node)
 |0,_,_,_,_,_,_,_,_,_,_,_,_,_,_=>none
 |n+1,a0,a1,a2,p9_0,p9_1,p9_2,p9_3,p9_4,v2007,v3011,v6005,v8001,p14_0,p14_1=>(if (decide (p14_1<(v8001.names.length:Int)))=true then ((at? v8001.names p14_1).bind fun v12001=>((at? a0.p.datas v3011.1).bind fun v13010=>((at? v13010.cons p9_4).bind fun v13014=>((at? v13014.fields p14_1).bind fun v13018=>((IN p14_0 [(⟨v12001,v13018,v2007.2.2.level⟩:Binder)]).bind fun v13027=>(BD n a0 a1 a2 p9_0 p9_1 p9_2 p9_3 p9_4 v2007 v3011 v6005 v8001 v13027 (IntKind.i64.wrap (p14_1+1)))))))) else ((DH a2 p14_0).bind fun v15008=>((B6 n a0 (⟨v8001,(⟨0,ByteArray.empty,[]⟩:TType),v2007.2.2.level,[],p14_0,none⟩:Node) v15008 v2007.2.2.level).bind fun v15013=>((IN p9_3 [(⟨(⟨v15013.2.2.term.kind,v15013.2.2.term.num,v15013.2.2.term.name,(⟨v15013.2.2.term.typ.kind,v15013.2.2.term.typ.name,v8001.typ.kids⟩:TType),v8001.names,v8001.kids⟩:Term),v15013.1,v15013.2.2.level,v15013.2.2.kids,p14_0,none⟩:Node)]).bind fun v16007=>(if (!v15013.2.1)=true then (BP n a0 a1 a2 p9_0 p9_1 p9_2 p9_4 p14_0 v2007 v3011 v6005 v8001 v15013 v16007 true) else (if (decide (0<p9_4))=true then ((DA fuel v15013.1 (⟨p9_0,p9_1,p9_2⟩:TType)).bind fun v17014=>(BP n a0 a1 a2 p9_0 p9_1 p9_2 p9_4 p14_0 v2007 v3011 v6005 v8001 v15013 v16007 (!v17014))) else (BP n a0 a1 a2 p9_0 p9_1 p9_2 p9_4 p14_0 v2007 v3011 v6005 v8001 v15013 v16007 false)))))))
def BP:Nat→Typer→Node→(List Binder)→Int→ByteArray→(List TType)→Int→(List Binder)→(TType × Bool × Node)→(Int × Int)→(List Term)→Term→(TType × Bool × Node)→(List Node)→Bool→Option (Bool × Node)
 |0,_,_,_,_,_,_,_,_,_,_,_,_,_,_,_=>none
 |n+1,a0,a1,a2,p9_0,p9_1,p9_2,p9_4,p14_0,v2007,v3011,v6005,v8001,v15013,v16007,p15_0=>(if p15_0=true then (some (false,(⟨(⟨v2007.2.2.term.kind,v2007.2.2.term.num,v2007.2.2.term.name,(⟨v2007.2.2.term.typ.kind,v2007.2.2.term.typ.name,a1.term.typ.kids⟩:TType),a1.term.names,a1.term.kids⟩:Term),(⟨p9_0,p9_1,p9_2⟩:TType),v2007.2.2.level,v16007,a1.binds,none⟩:Node))) else (Az n a0 a1 a2 v2007 v3011 v6005 v15013.1.kind v15013.1.name v15013.1.kids v16007 (IntKind.i64.wrap (p9_4+1))))
def D1:Nat→Typer→Node→(List Binder)→(List TType)→Int→(TType × Bool × Node)→Option (Bool × Node)
 |0,_,_,_,_,_,_=>none
 |n+1,a0,a1,a2,p2_9,p2_10,v5007=>(if (!v5007.2.1)=true then (some (false,(⟨(⟨v5007.2.2.term.kind,v5007.2.2.term.num,v5007.2.2.term.name,(⟨v5007.2.2.term.typ.kind,v5007.2.2.term.typ.name,a1.term.typ.kids⟩:TType),a1.term.names,a1.term.kids⟩:Term),(⟨v5007.2.2.typ.kind,v5007.2.2.typ.name,a1.typ.kids⟩:TType),v5007.2.2.level,v5007.2.2.kids,a1.binds,none⟩:Node))) else ((IN p2_9 [v5007.1]).bind fun v8003=>(Aa n a0 a1 a2 v5007.2.2.term.kind v5007.2.2.term.num v5007.2.2.term.name v5007.2.2.term.typ.kind v5007.2.2.term.typ.name v5007.2.2.typ.kind v5007.2.2.typ.name v5007.2.2.level v5007.2.2.kids v8003 (IntKind.i64.wrap (p2_10+1)))))
end
mutual
def CC:Nat→TProgram→(List Node)→Int→Option ((List Node) × Int)
 |0,_,_,_=>none
 |n+1,a0,p2_0,p2_1=>(if (decide (p2_1<(a0.defs.length:Int)))=true then ((at? a0.defs p2_1).bind fun v8000=>((AM fuel (⟨a0⟩:Typer) v8000.body [] 0).bind fun v9004=>(if (!v9004.2)=true then (D3 n a0 p2_0 p2_1 v9004 true) else ((DA fuel v9004.1.typ v8000.typ).bind fun v10009=>(D3 n a0 p2_0 p2_1 v9004 (!v10009)))))) else (some (p2_0,0)))
def D3:Nat→TProgram→(List Node)→Int→(Node × Bool)→Bool→Option ((List Node) × Int)
 |0,_,_,_,_,_=>none
 |n+1,a0,p2_0,p2_1,v9004,p3_0=>(if p3_0=true then (some ([],8)) else ((IN p2_0 [v9004.1]).bind fun v12003=>(CC n a0 v12003 (IntKind.i64.wrap (p2_1+1)))))
end
def Gg (a0:TProgram):Option ((List Node) × Int):=
 ((GQ a0).bind fun v2001=>(if (!decide (v2001=0))=true then (some ([],v2001)) else (CC fuel a0 [] 0)))
mutual
def D7:Nat→TType→TType→Option (Bool)
 |0,_,_=>none
 |n+1,a0,a1=>(if (!decide (a0.kind=a1.kind))=true then (some false) else (if (!sameStr a0.name a1.name)=true then (some false) else ((GV n a0.kids a1.kids).bind fun v6004=>(if (!v6004)=true then (some false) else (some true)))))
def GV:Nat→(List TType)→(List TType)→Option (Bool)
 |0,_,_=>none
 |n+1,a0,a1=>(if (!decide ((a0.length:Int)=(a1.length:Int)))=true then (some false) else (FQ n a0 a1 0))
def FQ:Nat→(List TType)→(List TType)→Int→Option (Bool)
 |0,_,_,_=>none
 |n+1,a0,a1,p0_0=>(if (decide (p0_0<(a0.length:Int)))=true then ((at? a0 p0_0).bind fun v7002=>((at? a1 p0_0).bind fun v7006=>((D7 n v7002 v7006).bind fun v7008=>(if (!v7008)=true then (some false) else (FQ n a0 a1 (IntKind.i64.wrap (p0_0+1))))))) else (some true))
end
def EH (a0:Constructor) (a1:Constructor):Option (Bool):=
 (if (!sameStr a0.name a1.name)=true then (some false) else ((GV fuel a0.fields a1.fields).bind fun v4004=>(if (!v4004)=true then (some false) else (some true))))
def CG:Nat→(List Constructor)→(List Constructor)→Int→Option (Bool)
 |0,_,_,_=>none
 |n+1,a0,a1,p0_0=>(if (decide (p0_0<(a0.length:Int)))=true then ((at? a0 p0_0).bind fun v7002=>((at? a1 p0_0).bind fun v7006=>((EH v7002 v7006).bind fun v7008=>(if (!v7008)=true then (some false) else (CG n a0 a1 (IntKind.i64.wrap (p0_0+1))))))) else (some true))
def Ez (a0:List Constructor) (a1:List Constructor):Option (Bool):=
 (if (!decide ((a0.length:Int)=(a1.length:Int)))=true then (some false) else (CG fuel a0 a1 0))
def Kv (a0:Data) (a1:Data):Option (Bool):=
 (if (!sameStr a0.name a1.name)=true then (some false) else ((Ez a0.cons a1.cons).bind fun v4004=>(if (!v4004)=true then (some false) else (some true))))
def FR:Nat→(List Data)→(List Data)→Int→Option (Bool)
 |0,_,_,_=>none
 |n+1,a0,a1,p0_0=>(if (decide (p0_0<(a0.length:Int)))=true then ((at? a0 p0_0).bind fun v7002=>((at? a1 p0_0).bind fun v7006=>((Kv v7002 v7006).bind fun v7008=>(if (!v7008)=true then (some false) else (FR n a0 a1 (IntKind.i64.wrap (p0_0+1))))))) else (some true))
def Kw (a0:List Data) (a1:List Data):Option (Bool):=
 (if (!decide ((a0.length:Int)=(a1.length:Int)))=true then (some false) else (FR fuel a0 a1 0))
def DV:Nat→(List ByteArray)→(List ByteArray)→Int→Option (Bool)
 |0,_,_,_=>none
 |n+1,a0,a1,p0_0=>(if (decide (p0_0<(a0.length:Int)))=true then ((at? a0 p0_0).bind fun v7002=>((at? a1 p0_0).bind fun v7006=>(if (!sameStr v7002 v7006)=true then (some false) else (DV n a0 a1 (IntKind.i64.wrap (p0_0+1)))))) else (some true))
def Ic (a0:List ByteArray) (a1:List ByteArray):Option (Bool):=
 (if (!decide ((a0.length:Int)=(a1.length:Int)))=true then (some false) else (DV fuel a0 a1 0))
mutual
def JJ:Nat→(List Term)→(List Term)→Option (Bool)
 |0,_,_=>none
 |n+1,a0,a1=>(if (!decide ((a0.length:Int)=(a1.length:Int)))=true then (some false) else (FS n a0 a1 0))
def FS:Nat→(List Term)→(List Term)→Int→Option (Bool)
 |0,_,_,_=>none
 |n+1,a0,a1,p0_0=>(if (decide (p0_0<(a0.length:Int)))=true then ((at? a0 p0_0).bind fun v7002=>((at? a1 p0_0).bind fun v7006=>((Gk n v7002 v7006).bind fun v7008=>(if (!v7008)=true then (some false) else (FS n a0 a1 (IntKind.i64.wrap (p0_0+1))))))) else (some true))
def Gk:Nat→Term→Term→Option (Bool)
 |0,_,_=>none
 |n+1,a0,a1=>(if (!decide (a0.kind=a1.kind))=true then (some false) else (if (!decide (a0.num=a1.num))=true then (some false) else (if (!sameStr a0.name a1.name)=true then (some false) else ((D7 fuel a0.typ a1.typ).bind fun v8004=>(if (!v8004)=true then (some false) else ((Ic a0.names a1.names).bind fun v10004=>(if (!v10004)=true then (some false) else ((JJ n a0.kids a1.kids).bind fun v12004=>(if (!v12004)=true then (some false) else (some true))))))))))
end
def NF (a0:Def) (a1:Def):Option (Bool):=
 (if (!sameStr a0.name a1.name)=true then (some false) else ((D7 fuel a0.typ a1.typ).bind fun v4004=>(if (!v4004)=true then (some false) else ((Gk fuel a0.body a1.body).bind fun v6004=>(if (!v6004)=true then (some false) else (some true))))))
def GA:Nat→(List Def)→(List Def)→Int→Option (Bool)
 |0,_,_,_=>none
 |n+1,a0,a1,p0_0=>(if (decide (p0_0<(a0.length:Int)))=true then ((at? a0 p0_0).bind fun v7002=>((at? a1 p0_0).bind fun v7006=>((NF v7002 v7006).bind fun v7008=>(if (!v7008)=true then (some false) else (GA n a0 a1 (IntKind.i64.wrap (p0_0+1))))))) else (some true))
def Ma (a0:List Def) (a1:List Def):Option (Bool):=
 (if (!decide ((a0.length:Int)=(a1.length:Int)))=true then (some false) else (GA fuel a0 a1 0))
def FA (a0:TProgram) (a1:TProgram):Option (Bool):=
 ((Kw a0.datas a1.datas).bind fun v2004=>(if (!v2004)=true then (some false) else ((Ma a0.defs a1.defs).bind fun v4004=>(if (!v4004)=true then (some false) else (some true)))))
end Go.Proofs.YtnfgeocnolheoaaGreat.Ab
