/-
  Data of the program as Lean types; how they lie in memory. Printed by wip/ab/gen.py.
-/
import Derived.Test.YtnfgeocnolheoaaGreatAbY
namespace Go.Proofs.YtnfgeocnolheoaaGreat.Ab
set_option linter.unusedVariables false
set_option linter.unusedSimpArgs false
set_option maxRecDepth 20000
set_option maxHeartbeats 4000000
open Go.RowKit
structure TType where
 kind:Int
 name:ByteArray
 kids:List TType
mutual
def TType.ds:TType→List D
 |⟨x0,x1,x2⟩=>[.int .i64 x0,.str x1,.sl (TType.rows x2)]
def TType.rows:List TType→List (List D)
 | [] =>[]
 |c::cs=>TType.ds c::TType.rows cs
end
theorem TType.rows_map:∀l:List TType,TType.rows l=List.map TType.ds l
 | [] =>by rw [TType.rows]; rfl
 |c::cs=>by rw [TType.rows,TType.rows_map cs]; rfl
theorem TType.ds_eq (c:TType):c.ds=[.int .i64 c.kind,.str c.name,.sl (c.kids.map TType.ds)] :=by
 cases c; rw [TType.ds]; simp only [TType.rows_map]
@[go_sem] def TType.avs (c:TType):List AV:=[.int .i64 c.kind,.str c.name,.ro (c.kids.map TType.ds)]
@[go_sem] def TType.rv (c:TType):List RV:=[.int .i64 c.kind,.str c.name,.ow (some 3) (c.kids.map TType.ds)]
@[go_sem] def TType.rvn (c:TType):List RV:=[.int .i64 c.kind,.str c.name,.ow none (c.kids.map TType.ds)]
attribute [go_sem] TType.ds_eq
theorem TType.ds_len (c:TType):c.ds.length=3:=by rw [TType.ds_eq]; rfl
def TType.dz (c:TType):List D:=[.int .i64 c.kind,.str c.name,.fz (c.kids.map TType.ds)]
@[go_sem] theorem TType.dz_eq (c:TType):c.dz=[.int .i64 c.kind,.str c.name,.fz (c.kids.map TType.ds)] :=rfl
theorem TType.dz_len (c:TType):c.dz.length=3:=rfl
theorem TType.dz_fz (c:TType):fzC c.ds=c.dz:=by rw [TType.ds_eq]; rfl
theorem TType.dz_ng (c:TType):∀d ∈ c.ds,d≠ .gone :=by rw [TType.ds_eq]; exact KJ rfl
@[go_sem] theorem TType.dz_er (l:List TType):erR (l.map TType.dz)=List.map TType.ds l:=Gt (fun c=>by rw [TType.ds_eq]; simp only [TType.dz,erC,er]) l
structure Term where
 kind:Int
 num:Int
 name:ByteArray
 typ:TType
 names:List ByteArray
 kids:List Term
mutual
def Term.ds:Term→List D
 |⟨x0,x1,x2,x3,x4,x5⟩=>[.int .i64 x0,.int .i64 x1,.str x2,.int .i64 x3.kind,.str x3.name,.sl (x3.kids.map TType.ds),.sl (x4.map strD),.sl (Term.rows x5)]
def Term.rows:List Term→List (List D)
 | [] =>[]
 |c::cs=>Term.ds c::Term.rows cs
end
theorem Term.rows_map:∀l:List Term,Term.rows l=List.map Term.ds l
 | [] =>by rw [Term.rows]; rfl
 |c::cs=>by rw [Term.rows,Term.rows_map cs]; rfl
theorem Term.ds_eq (c:Term):c.ds=[.int .i64 c.kind,.int .i64 c.num,.str c.name,.int .i64 c.typ.kind,.str c.typ.name,.sl (c.typ.kids.map TType.ds),.sl (c.names.map strD),.sl (c.kids.map Term.ds)] :=by
 cases c; rw [Term.ds]; simp only [Term.rows_map]
@[go_sem] def Term.avs (c:Term):List AV:=[.int .i64 c.kind,.int .i64 c.num,.str c.name,.int .i64 c.typ.kind,.str c.typ.name,.ro (c.typ.kids.map TType.ds),.ro (c.names.map strD),.ro (c.kids.map Term.ds)]
@[go_sem] def Term.rv (c:Term):List RV:=[.int .i64 c.kind,.int .i64 c.num,.str c.name,.int .i64 c.typ.kind,.str c.typ.name,.ow (some 3) (c.typ.kids.map TType.ds),.ow (some 1) (c.names.map strD),.ow (some 8) (c.kids.map Term.ds)]
@[go_sem] def Term.rvn (c:Term):List RV:=[.int .i64 c.kind,.int .i64 c.num,.str c.name,.int .i64 c.typ.kind,.str c.typ.name,.ow none (c.typ.kids.map TType.ds),.ow none (c.names.map strD),.ow none (c.kids.map Term.ds)]
attribute [go_sem] Term.ds_eq
theorem Term.ds_len (c:Term):c.ds.length=8:=by rw [Term.ds_eq]; rfl
def Term.dz (c:Term):List D:=[.int .i64 c.kind,.int .i64 c.num,.str c.name,.int .i64 c.typ.kind,.str c.typ.name,.fz (c.typ.kids.map TType.ds),.fz (c.names.map strD),.fz (c.kids.map Term.ds)]
@[go_sem] theorem Term.dz_eq (c:Term):c.dz=[.int .i64 c.kind,.int .i64 c.num,.str c.name,.int .i64 c.typ.kind,.str c.typ.name,.fz (c.typ.kids.map TType.ds),.fz (c.names.map strD),.fz (c.kids.map Term.ds)] :=rfl
theorem Term.dz_len (c:Term):c.dz.length=8:=rfl
theorem Term.dz_fz (c:Term):fzC c.ds=c.dz:=by rw [Term.ds_eq]; rfl
theorem Term.dz_ng (c:Term):∀d ∈ c.ds,d≠ .gone :=by rw [Term.ds_eq]; exact KJ rfl
@[go_sem] theorem Term.dz_er (l:List Term):erR (l.map Term.dz)=List.map Term.ds l:=Gt (fun c=>by rw [Term.ds_eq]; simp only [Term.dz,erC,er]) l
structure Def where
 name:ByteArray
 typ:TType
 body:Term
def Def.ds (c:Def):List D:=[.str c.name,.int .i64 c.typ.kind,.str c.typ.name,.sl (c.typ.kids.map TType.ds),.int .i64 c.body.kind,.int .i64 c.body.num,.str c.body.name,.int .i64 c.body.typ.kind,.str c.body.typ.name,.sl (c.body.typ.kids.map TType.ds),.sl (c.body.names.map strD),.sl (c.body.kids.map Term.ds)]
theorem Def.ds_eq (c:Def):c.ds=[.str c.name,.int .i64 c.typ.kind,.str c.typ.name,.sl (c.typ.kids.map TType.ds),.int .i64 c.body.kind,.int .i64 c.body.num,.str c.body.name,.int .i64 c.body.typ.kind,.str c.body.typ.name,.sl (c.body.typ.kids.map TType.ds),.sl (c.body.names.map strD),.sl (c.body.kids.map Term.ds)] :=rfl
@[go_sem] def Def.avs (c:Def):List AV:=[.str c.name,.int .i64 c.typ.kind,.str c.typ.name,.ro (c.typ.kids.map TType.ds),.int .i64 c.body.kind,.int .i64 c.body.num,.str c.body.name,.int .i64 c.body.typ.kind,.str c.body.typ.name,.ro (c.body.typ.kids.map TType.ds),.ro (c.body.names.map strD),.ro (c.body.kids.map Term.ds)]
@[go_sem] def Def.rv (c:Def):List RV:=[.str c.name,.int .i64 c.typ.kind,.str c.typ.name,.ow (some 3) (c.typ.kids.map TType.ds),.int .i64 c.body.kind,.int .i64 c.body.num,.str c.body.name,.int .i64 c.body.typ.kind,.str c.body.typ.name,.ow (some 3) (c.body.typ.kids.map TType.ds),.ow (some 1) (c.body.names.map strD),.ow (some 8) (c.body.kids.map Term.ds)]
@[go_sem] def Def.rvn (c:Def):List RV:=[.str c.name,.int .i64 c.typ.kind,.str c.typ.name,.ow none (c.typ.kids.map TType.ds),.int .i64 c.body.kind,.int .i64 c.body.num,.str c.body.name,.int .i64 c.body.typ.kind,.str c.body.typ.name,.ow none (c.body.typ.kids.map TType.ds),.ow none (c.body.names.map strD),.ow none (c.body.kids.map Term.ds)]
attribute [go_sem] Def.ds_eq
theorem Def.ds_len (c:Def):c.ds.length=12:=by rw [Def.ds_eq]; rfl
def Def.dz (c:Def):List D:=[.str c.name,.int .i64 c.typ.kind,.str c.typ.name,.fz (c.typ.kids.map TType.ds),.int .i64 c.body.kind,.int .i64 c.body.num,.str c.body.name,.int .i64 c.body.typ.kind,.str c.body.typ.name,.fz (c.body.typ.kids.map TType.ds),.fz (c.body.names.map strD),.fz (c.body.kids.map Term.ds)]
@[go_sem] theorem Def.dz_eq (c:Def):c.dz=[.str c.name,.int .i64 c.typ.kind,.str c.typ.name,.fz (c.typ.kids.map TType.ds),.int .i64 c.body.kind,.int .i64 c.body.num,.str c.body.name,.int .i64 c.body.typ.kind,.str c.body.typ.name,.fz (c.body.typ.kids.map TType.ds),.fz (c.body.names.map strD),.fz (c.body.kids.map Term.ds)] :=rfl
theorem Def.dz_len (c:Def):c.dz.length=12:=rfl
theorem Def.dz_fz (c:Def):fzC c.ds=c.dz:=by rw [Def.ds_eq]; rfl
theorem Def.dz_ng (c:Def):∀d ∈ c.ds,d≠ .gone :=by rw [Def.ds_eq]; exact KJ rfl
@[go_sem] theorem Def.dz_er (l:List Def):erR (l.map Def.dz)=List.map Def.ds l:=Gt (fun c=>by rw [Def.ds_eq]; simp only [Def.dz,erC,er]) l
structure Constructor where
 name:ByteArray
 fields:List TType
def Constructor.ds (c:Constructor):List D:=[.str c.name,.sl (c.fields.map TType.ds)]
theorem Constructor.ds_eq (c:Constructor):c.ds=[.str c.name,.sl (c.fields.map TType.ds)] :=rfl
@[go_sem] def Constructor.avs (c:Constructor):List AV:=[.str c.name,.ro (c.fields.map TType.ds)]
@[go_sem] def Constructor.rv (c:Constructor):List RV:=[.str c.name,.ow (some 3) (c.fields.map TType.ds)]
@[go_sem] def Constructor.rvn (c:Constructor):List RV:=[.str c.name,.ow none (c.fields.map TType.ds)]
attribute [go_sem] Constructor.ds_eq
theorem Constructor.ds_len (c:Constructor):c.ds.length=2:=by rw [Constructor.ds_eq]; rfl
def Constructor.dz (c:Constructor):List D:=[.str c.name,.fz (c.fields.map TType.ds)]
@[go_sem] theorem Constructor.dz_eq (c:Constructor):c.dz=[.str c.name,.fz (c.fields.map TType.ds)] :=rfl
theorem Constructor.dz_len (c:Constructor):c.dz.length=2:=rfl
theorem Constructor.dz_fz (c:Constructor):fzC c.ds=c.dz:=by rw [Constructor.ds_eq]; rfl
theorem Constructor.dz_ng (c:Constructor):∀d ∈ c.ds,d≠ .gone :=by rw [Constructor.ds_eq]; exact KJ rfl
@[go_sem] theorem Constructor.dz_er (l:List Constructor):erR (l.map Constructor.dz)=List.map Constructor.ds l:=Gt (fun c=>by rw [Constructor.ds_eq]; simp only [Constructor.dz,erC,er]) l
structure Data where
 name:ByteArray
 cons:List Constructor
def Data.ds (c:Data):List D:=[.str c.name,.sl (c.cons.map Constructor.ds)]
theorem Data.ds_eq (c:Data):c.ds=[.str c.name,.sl (c.cons.map Constructor.ds)] :=rfl
@[go_sem] def Data.avs (c:Data):List AV:=[.str c.name,.ro (c.cons.map Constructor.ds)]
@[go_sem] def Data.rv (c:Data):List RV:=[.str c.name,.ow (some 2) (c.cons.map Constructor.ds)]
@[go_sem] def Data.rvn (c:Data):List RV:=[.str c.name,.ow none (c.cons.map Constructor.ds)]
attribute [go_sem] Data.ds_eq
theorem Data.ds_len (c:Data):c.ds.length=2:=by rw [Data.ds_eq]; rfl
def Data.dz (c:Data):List D:=[.str c.name,.fz (c.cons.map Constructor.ds)]
@[go_sem] theorem Data.dz_eq (c:Data):c.dz=[.str c.name,.fz (c.cons.map Constructor.ds)] :=rfl
theorem Data.dz_len (c:Data):c.dz.length=2:=rfl
theorem Data.dz_fz (c:Data):fzC c.ds=c.dz:=by rw [Data.ds_eq]; rfl
theorem Data.dz_ng (c:Data):∀d ∈ c.ds,d≠ .gone :=by rw [Data.ds_eq]; exact KJ rfl
@[go_sem] theorem Data.dz_er (l:List Data):erR (l.map Data.dz)=List.map Data.ds l:=Gt (fun c=>by rw [Data.ds_eq]; simp only [Data.dz,erC,er]) l
structure TProgram where
 datas:List Data
 defs:List Def
def TProgram.ds (c:TProgram):List D:=[.sl (c.datas.map Data.ds),.sl (c.defs.map Def.ds)]
theorem TProgram.ds_eq (c:TProgram):c.ds=[.sl (c.datas.map Data.ds),.sl (c.defs.map Def.ds)] :=rfl
@[go_sem] def TProgram.avs (c:TProgram):List AV:=[.ro (c.datas.map Data.ds),.ro (c.defs.map Def.ds)]
@[go_sem] def TProgram.rv (c:TProgram):List RV:=[.ow (some 2) (c.datas.map Data.ds),.ow (some 12) (c.defs.map Def.ds)]
@[go_sem] def TProgram.rvn (c:TProgram):List RV:=[.ow none (c.datas.map Data.ds),.ow none (c.defs.map Def.ds)]
attribute [go_sem] TProgram.ds_eq
theorem TProgram.ds_len (c:TProgram):c.ds.length=2:=by rw [TProgram.ds_eq]; rfl
def TProgram.dz (c:TProgram):List D:=[.fz (c.datas.map Data.ds),.fz (c.defs.map Def.ds)]
@[go_sem] theorem TProgram.dz_eq (c:TProgram):c.dz=[.fz (c.datas.map Data.ds),.fz (c.defs.map Def.ds)] :=rfl
theorem TProgram.dz_len (c:TProgram):c.dz.length=2:=rfl
theorem TProgram.dz_fz (c:TProgram):fzC c.ds=c.dz:=by rw [TProgram.ds_eq]; rfl
theorem TProgram.dz_ng (c:TProgram):∀d ∈ c.ds,d≠ .gone :=by rw [TProgram.ds_eq]; exact KJ rfl
@[go_sem] theorem TProgram.dz_er (l:List TProgram):erR (l.map TProgram.dz)=List.map TProgram.ds l:=Gt (fun c=>by rw [TProgram.ds_eq]; simp only [TProgram.dz,erC,er]) l
def Fr (a0:List ByteArray) (n:Int):Option (List ByteArray):=if a0.length=0∧0≤n∧n≤68719476736 then some [] else none
def IF (a0:Int) (a1:Int) (a2:Int):Option (Bool):=
 (if (decide (a1≤a0))=true then (some (decide (a0≤a2))) else (some false))
def Dm:Nat→(List Def)→ByteArray→Int→Option (Int)
 |0,_,_,_=>none
 |n+1,a0,a1,p0_0=>(if (decide (p0_0<(a0.length:Int)))=true then ((at? a0 p0_0).bind fun v5002=>(if (sameStr v5002.name a1)=true then (some p0_0) else (Dm n a0 a1 (IntKind.i64.wrap (p0_0+1))))) else (some (-1)))
def G1 (a0:List Def) (a1:ByteArray):Option (Int):=
 (Dm fuel a0 a1 0)
def Dn:Nat→(List Data)→ByteArray→Int→Option (Int)
 |0,_,_,_=>none
 |n+1,a0,a1,p0_0=>(if (decide (p0_0<(a0.length:Int)))=true then ((at? a0 p0_0).bind fun v5002=>(if (sameStr v5002.name a1)=true then (some p0_0) else (Dn n a0 a1 (IntKind.i64.wrap (p0_0+1))))) else (some (-1)))
def Hw (a0:List Data) (a1:ByteArray):Option (Int):=
 (Dn fuel a0 a1 0)
def HB (a0:Int):Option (Bool):=
 (if (decide (97≤a0))=true then (if (decide (a0≤122))=true then (some true) else (if (decide (65≤a0))=true then (some (decide (a0≤90))) else (some false))) else (if (decide (65≤a0))=true then (some (decide (a0≤90))) else (some false)))
def Ga:Option ((List ByteArray)):=
 (some [(ByteArray.mk #[100,97,116,97]),(ByteArray.mk #[100,101,102]),(ByteArray.mk #[108,101,116]),(ByteArray.mk #[105,110]),(ByteArray.mk #[109,97,116,99,104]),(ByteArray.mk #[105,102]),(ByteArray.mk #[116,104,101,110]),(ByteArray.mk #[101,108,115,101])])
def DK:Nat→ByteArray→Int→Option (Bool)
 |0,_,_=>none
 |n+1,a0,p0_0=>(Option.bind Ga fun v3001=>(if (decide (p0_0<(v3001.length:Int)))=true then (Option.bind Ga fun v5000=>((at? v5000 p0_0).bind fun v5002=>(if (sameStr v5002 a0)=true then (some true) else (DK n a0 (IntKind.i64.wrap (p0_0+1)))))) else (some false)))
def IS (a0:ByteArray):Option (Bool):=
 (DK fuel a0 0)
def JX (a0:Int):Option (Bool):=
 (if (decide (48≤a0))=true then (some (decide (a0≤57))) else (some false))
mutual
def EO:Nat→ByteArray→Int→Option (Bool)
 |0,_,_=>none
 |n+1,a0,p1_0=>(if (decide (p1_0<(a0.size:Int)))=true then ((atB a0 p1_0).bind fun v7002=>((HB v7002).bind fun v7003=>(if (!v7003)=true then ((atB a0 p1_0).bind fun v7008=>((JX v7008).bind fun v7009=>(HC n a0 p1_0 (!v7009)))) else (HC n a0 p1_0 false)))) else (some true))
def HC:Nat→ByteArray→Int→Bool→Option (Bool)
 |0,_,_,_=>none
 |n+1,a0,p1_0,p2_0=>(if p2_0=true then (some false) else (EO n a0 (IntKind.i64.wrap (p1_0+1))))
end
def Ft (a0:ByteArray) (p0_0:Bool):Option (Bool):=
 (if p0_0=true then (some false) else (EO fuel a0 0))
def Kk (a0:ByteArray):Option (Bool):=
 (if (decide ((a0.size:Int)<1))=true then (Ft a0 true) else (if (decide (12<(a0.size:Int)))=true then (Ft a0 true) else ((atB a0 0).bind fun v2010=>((HB v2010).bind fun v2011=>(if (!v2011)=true then (Ft a0 true) else ((IS a0).bind fun v2016=>(Ft a0 v2016)))))))
def GJ (a0:ByteArray):Option (Bool):=
 ((Kk a0).bind fun v2001=>(if v2001=true then ((atB a0 0).bind fun v2004=>(some (decide (v2004≤90)))) else (some false)))
mutual
def EW:Nat→(List Data)→TType→Option (Bool)
 |0,_,_=>none
 |n+1,a0,a1=>(if (decide (a1.kind=2))=true then ((Hw a0 a1.name).bind fun v3003=>(some (decide (0≤v3003)))) else (DD n a0 a1 0))
def DD:Nat→(List Data)→TType→Int→Option (Bool)
 |0,_,_,_=>none
 |n+1,a0,a1,p1_0=>(if (decide (p1_0<(a1.kids.length:Int)))=true then ((at? a1.kids p1_0).bind fun v7004=>((EW n a0 v7004).bind fun v7006=>(if (!v7006)=true then (some false) else (DD n a0 a1 (IntKind.i64.wrap (p1_0+1)))))) else (some true))
end
mutual
def FE:Nat→TType→Int→Option (Int)
 |0,_,_=>none
 |n+1,a0,a1=>(if (decide (a1<1))=true then (some (-1)) else (if (decide (a0.kind=1))=true then (Do n a0 a1 0) else (if (decide (a0.kind=2))=true then ((GJ a0.name).bind fun v9002=>(if (!v9002)=true then (Fb n a0 a1 true) else (Fb n a0 a1 (sameStr a0.name (ByteArray.mk #[73,110,116]))))) else (if (decide (a0.kind=3))=true then (Do n a0 a1 2) else (if (decide (a0.kind=4))=true then (Do n a0 a1 1) else (some (-1)))))))
def Do:Nat→TType→Int→Int→Option (Int)
 |0,_,_,_=>none
 |n+1,a0,a1,p1_0=>(if (!decide ((a0.kids.length:Int)=p1_0))=true then (EX n a0 a1 true) else (if (!decide (a0.kind=2))=true then (EX n a0 a1 (!sameStr a0.name (ByteArray.mk #[]))) else (EX n a0 a1 false)))
def EX:Nat→TType→Int→Bool→Option (Int)
 |0,_,_,_=>none
 |n+1,a0,a1,p2_0=>(if p2_0=true then (some (-1)) else (Ci n a0 a1 1 0))
def Ci:Nat→TType→Int→Int→Int→Option (Int)
 |0,_,_,_,_=>none
 |n+1,a0,a1,p4_0,p4_1=>(if (decide (p4_1<(a0.kids.length:Int)))=true then ((at? a0.kids p4_1).bind fun v21003=>((FE n v21003 (IntKind.i64.wrap (a1 - 1))).bind fun v21007=>(if (decide (v21007<0))=true then (some (-1)) else (Ci n a0 a1 (IntKind.i64.wrap (p4_0+v21007)) (IntKind.i64.wrap (p4_1+1)))))) else (some p4_0))
def Fb:Nat→TType→Int→Bool→Option (Int)
 |0,_,_,_=>none
 |n+1,a0,a1,p0_0=>(if p0_0=true then (some (-1)) else (Do n a0 a1 0))
end
def Fu (a0:TType):Option (Bool):=
 ((FE fuel a0 6).bind fun v2001=>((IF v2001 1 16).bind fun v2002=>(some v2002)))
mutual
def DE:Nat→(List Data)→Constructor→Int→Option (Bool)
 |0,_,_,_=>none
 |n+1,a0,a1,p3_0=>(if (decide (p3_0<(a1.fields.length:Int)))=true then ((at? a1.fields p3_0).bind fun v7003=>((Fu v7003).bind fun v7005=>(if (!v7005)=true then (GK n a0 a1 p3_0 true) else ((at? a1.fields p3_0).bind fun v7012=>((EW fuel a0 v7012).bind fun v7014=>(GK n a0 a1 p3_0 (!v7014))))))) else (some true))
def GK:Nat→(List Data)→Constructor→Int→Bool→Option (Bool)
 |0,_,_,_,_=>none
 |n+1,a0,a1,p3_0,p4_0=>(if p4_0=true then (some false) else (DE n a0 a1 (IntKind.i64.wrap (p3_0+1))))
end
def HR (a0:List Data) (a1:Constructor) (p0_0:Bool):Option (Bool):=
 (if p0_0=true then (some false) else (DE fuel a0 a1 0))
def Kl (a0:List Data) (a1:Constructor):Option (Bool):=
 ((GJ a1.name).bind fun v2002=>(if (!v2002)=true then (HR a0 a1 true) else (HR a0 a1 (decide (3<(a1.fields.length:Int))))))
mutual
def CS:Nat→(List Data)→(List ByteArray)→Int→Option (Bool)
 |0,_,_,_=>none
 |n+1,a0,p12_0,p12_1=>(if (decide (p12_1<(a0.length:Int)))=true then ((at? a0 p12_1).bind fun v8002=>((GJ v8002.name).bind fun v9002=>(if (!v9002)=true then (Di n a0 p12_0 p12_1 v8002 true) else (if (sameStr v8002.name (ByteArray.mk #[73,110,116]))=true then (Di n a0 p12_0 p12_1 v8002 true) else ((Hw a0 v8002.name).bind fun v9013=>(if (!decide (v9013=p12_1))=true then (Di n a0 p12_0 p12_1 v8002 true) else (if (decide ((v8002.cons.length:Int)<1))=true then (Di n a0 p12_0 p12_1 v8002 true) else (Di n a0 p12_0 p12_1 v8002 (decide (4<(v8002.cons.length:Int))))))))))) else (some true))
def Di:Nat→(List Data)→(List ByteArray)→Int→Data→Bool→Option (Bool)
 |0,_,_,_,_,_=>none
 |n+1,a0,p12_0,p12_1,v8002,p13_0=>(if p13_0=true then (some false) else (B8 n a0 p12_1 v8002 p12_0 0))
def B8:Nat→(List Data)→Int→Data→(List ByteArray)→Int→Option (Bool)
 |0,_,_,_,_,_=>none
 |n+1,a0,p12_1,v8002,p19_0,p19_1=>(if (decide (p19_1<(v8002.cons.length:Int)))=true then ((at? v8002.cons p19_1).bind fun v14004=>((Kl a0 v14004).bind fun v14006=>(if (!v14006)=true then (some false) else (Cm n a0 p12_1 p19_0 p19_1 v8002 0)))) else (CS n a0 p19_0 (IntKind.i64.wrap (p12_1+1))))
def Cm:Nat→(List Data)→Int→(List ByteArray)→Int→Data→Int→Option (Bool)
 |0,_,_,_,_,_,_=>none
 |n+1,a0,p12_1,p19_0,p19_1,v8002,p23_0=>(if (decide (p23_0<(p19_0.length:Int)))=true then ((at? p19_0 p23_0).bind fun v19002=>((at? v8002.cons p19_1).bind fun v19007=>(if (sameStr v19002 v19007.name)=true then (some false) else (Cm n a0 p12_1 p19_0 p19_1 v8002 (IntKind.i64.wrap (p23_0+1)))))) else ((at? v8002.cons p19_1).bind fun v21004=>((IN p19_0 [v21004.name]).bind fun v21008=>(B8 n a0 p12_1 v8002 v21008 (IntKind.i64.wrap (p19_1+1))))))
end
def O7 (a0:List Data):Option (Bool):=
 (if (decide (4<(a0.length:Int)))=true then (some false) else (CS fuel a0 [] 0))
def Hx (a0:ByteArray):Option (Bool):=
 ((Kk a0).bind fun v2001=>(if v2001=true then ((atB a0 0).bind fun v2004=>(some (decide (97≤v2004)))) else (some false)))
def GL (a0:Int) (p2_0:Bool):Option (Int × Int):=
 (if p2_0=true then (some (2,2)) else (if (decide (a0=8))=true then (some (0,3)) else (if (decide (a0=9))=true then (some (2,5)) else (if (decide (a0=11))=true then (some (3,3)) else (some (0,(-1)))))))
def GM (a0:Int) (p1_0:Bool):Option (Int × Int):=
 (if p1_0=true then (some (1,1)) else (if (decide (a0=3))=true then (GL a0 (decide (a0=3))) else (if (decide (a0=5))=true then (GL a0 (decide (a0=5))) else (GL a0 (decide (a0=7))))))
def HT (a0:Int) (p0_0:Bool):Option (Int × Int):=
 (if p0_0=true then (some (0,0)) else (if (decide (a0=4))=true then (GM a0 (decide (a0=4))) else (if (decide (a0=6))=true then (GM a0 (decide (a0=6))) else (GM a0 (decide (a0=10))))))
def Km (a0:Int):Option (Int × Int):=
 (if (decide (a0=1))=true then (HT a0 (decide (a0=1))) else (HT a0 (decide (a0=2))))
def HD (a0:TType):Option (Bool):=
 (if (decide (a0.kind=0))=true then (if (sameStr a0.name (ByteArray.mk #[]))=true then (some (decide ((a0.kids.length:Int)=0))) else (some false)) else (some false))
def Fv:Nat→(List ByteArray)→ByteArray→Int→Option (Int)
 |0,_,_,_=>none
 |n+1,a0,a1,p0_0=>(if (decide (0≤p0_0))=true then ((at? a0 p0_0).bind fun v5002=>(if (sameStr v5002 a1)=true then (some p0_0) else (Fv n a0 a1 (IntKind.i64.wrap (p0_0 - 1))))) else (some (-1)))
def IG (a0:List ByteArray) (a1:ByteArray):Option (Int):=
 (Fv fuel a0 a1 (IntKind.i64.wrap ((a0.length:Int) - 1)))
mutual
def BV:Nat→(List ByteArray)→Int→Option (Bool)
 |0,_,_=>none
 |n+1,a0,p0_0=>(if (decide (p0_0<(a0.length:Int)))=true then ((at? a0 p0_0).bind fun v5002=>((Hx v5002).bind fun v5004=>(if (!v5004)=true then (Dv n a0 p0_0 true) else ((cutL a0 0 p0_0).bind fun v5009=>((at? a0 p0_0).bind fun v5012=>((IG v5009 v5012).bind fun v5014=>(Dv n a0 p0_0 (decide (0≤v5014))))))))) else (some true))
def Dv:Nat→(List ByteArray)→Int→Bool→Option (Bool)
 |0,_,_,_=>none
 |n+1,a0,p0_0,p1_0=>(if p1_0=true then (some false) else (BV n a0 (IntKind.i64.wrap (p0_0+1))))
end
def Gb (a0:List ByteArray):Option (Bool):=
 (BV fuel a0 0)
def Fw (a0:Term):Option (Bool):=
 (if (decide (a0.kind=2))=true then ((IF a0.num (-2147483648) 2147483647).bind fun v15004=>(some v15004)) else (if (decide (a0.kind=3))=true then ((IF a0.num 1 6).bind fun v17004=>(some v17004)) else (some (decide (a0.num=0)))))
def Fx (a0:Term) (p4_0:Bool):Option (Bool):=
 (if p4_0=true then (some false) else (Fw a0))
def DL (a0:Term) (p3_0:Bool):Option (Bool):=
 (if p3_0=true then (some false) else (if (decide (a0.kind=10))=true then (if (decide (3<(a0.names.length:Int)))=true then (Fx a0 true) else ((Gb a0.names).bind fun v9011=>(Fx a0 (!v9011)))) else (if (decide (0<(a0.names.length:Int)))=true then (some false) else (Fw a0))))
def Ar (a0:Term) (p2_0:Bool):Option (Bool):=
 (if p2_0=true then (some false) else (if (decide (a0.kind=4))=true then ((Fu a0.typ).bind fun v6010=>(if (!v6010)=true then (DL a0 true) else (if (!decide (a0.kind=4))=true then ((HD a0.typ).bind fun v6024=>(DL a0 (!v6024))) else (DL a0 false)))) else (if (!decide (a0.kind=4))=true then ((HD a0.typ).bind fun v6024=>(DL a0 (!v6024))) else (DL a0 false))))
def Fy (a0:Term) (p0_0:Bool) (p1_0:Bool):Option (Bool):=
 (if p0_0=true then ((Hx a0.name).bind fun v4006=>(if (!v4006)=true then (Ar a0 true) else (if p1_0=true then ((GJ a0.name).bind fun v4016=>(if (!v4016)=true then (Ar a0 true) else (if (!p0_0)=true then (if (!p1_0)=true then (Ar a0 (!sameStr a0.name (ByteArray.mk #[]))) else (Ar a0 false)) else (Ar a0 false)))) else (if (!p0_0)=true then (if (!p1_0)=true then (Ar a0 (!sameStr a0.name (ByteArray.mk #[]))) else (Ar a0 false)) else (Ar a0 false))))) else (if p1_0=true then ((GJ a0.name).bind fun v4016=>(if (!v4016)=true then (Ar a0 true) else (if (!p0_0)=true then (if (!p1_0)=true then (Ar a0 (!sameStr a0.name (ByteArray.mk #[]))) else (Ar a0 false)) else (Ar a0 false)))) else (if (!p0_0)=true then (if (!p1_0)=true then (Ar a0 (!sameStr a0.name (ByteArray.mk #[]))) else (Ar a0 false)) else (Ar a0 false))))
def Ep (a0:Term) (p0_0:Bool):Option (Bool):=
 (if (decide (a0.kind=8))=true then (Fy a0 p0_0 true) else (Fy a0 p0_0 (decide (a0.kind=10))))
def IT (a0:Term):Option (Bool):=
 (if (decide (a0.kind=1))=true then (Ep a0 true) else (if (decide (a0.kind=4))=true then (Ep a0 true) else (Ep a0 (decide (a0.kind=7)))))
mutual
def FF:Nat→Term→Int→Bool→Int→Option (Int)
 |0,_,_,_,_=>none
 |n+1,a0,a1,a2,a3=>((Km a0.kind).bind fun v2004=>(if (decide (a1<1))=true then (DF n a0 a1 a3 true) else (if (decide (a3<1))=true then (DF n a0 a1 a3 true) else (if (!((decide (a0.kind=10)) == a2))=true then (DF n a0 a1 a3 true) else ((IF (a0.kids.length:Int) v2004.1 v2004.2).bind fun v3023=>(if (!v3023)=true then (DF n a0 a1 a3 true) else ((IT a0).bind fun v3028=>(DF n a0 a1 a3 (!v3028)))))))))
def DF:Nat→Term→Int→Int→Bool→Option (Int)
 |0,_,_,_,_=>none
 |n+1,a0,a1,a3,p0_0=>(if p0_0=true then (some (-1)) else (B7 n a0 a1 a3 1 0))
def B7:Nat→Term→Int→Int→Int→Int→Option (Int)
 |0,_,_,_,_,_=>none
 |n+1,a0,a1,a3,p1_0,p1_1=>(if (decide (p1_1<(a0.kids.length:Int)))=true then ((at? a0.kids p1_1).bind fun v9005=>(if (decide (a0.kind=9))=true then ((FF n v9005 (IntKind.i64.wrap (a1 - 1)) (decide (0<p1_1)) (IntKind.i64.wrap (a3 - p1_0))).bind fun v9020=>(Fc n a0 a1 a3 p1_0 p1_1 v9020)) else ((FF n v9005 (IntKind.i64.wrap (a1 - 1)) false (IntKind.i64.wrap (a3 - p1_0))).bind fun v9020=>(Fc n a0 a1 a3 p1_0 p1_1 v9020)))) else (some p1_0))
def Fc:Nat→Term→Int→Int→Int→Int→Int→Option (Int)
 |0,_,_,_,_,_,_=>none
 |n+1,a0,a1,a3,p1_0,p1_1,v9020=>(if (decide (v9020<0))=true then (some (-1)) else (B7 n a0 a1 a3 (IntKind.i64.wrap (p1_0+v9020)) (IntKind.i64.wrap (p1_1+1))))
end
def O8 (a0:Term):Option (Bool):=
 ((FF fuel a0 24 false 160).bind fun v2001=>(some (decide (0<v2001))))
mutual
def Bm:Nat→TProgram→Int→Option (Bool)
 |0,_,_=>none
 |n+1,a0,p1_0=>(if (decide (p1_0<(a0.defs.length:Int)))=true then ((at? a0.defs p1_0).bind fun v7005=>((Hx v7005.name).bind fun v8004=>(if (!v8004)=true then (C0 n a0 p1_0 true) else ((G1 a0.defs v7005.name).bind fun v8015=>(if (!decide (v8015=p1_0))=true then (C0 n a0 p1_0 true) else ((Fu v7005.typ).bind fun v8024=>(if (!v8024)=true then (C0 n a0 p1_0 true) else ((O8 v7005.body).bind fun v8031=>(C0 n a0 p1_0 (!v8031)))))))))) else (some true))
def C0:Nat→TProgram→Int→Bool→Option (Bool)
 |0,_,_,_=>none
 |n+1,a0,p1_0,p2_0=>(if p2_0=true then (some false) else (Bm n a0 (IntKind.i64.wrap (p1_0+1))))
end
def FU (a0:TProgram) (p0_0:Bool):Option (Bool):=
 (if p0_0=true then (some false) else (Bm fuel a0 0))
def HU (a0:TProgram):Option (Bool):=
 ((O7 a0.datas).bind fun v2004=>(if (!v2004)=true then (FU a0 true) else ((IF (a0.defs.length:Int) 1 8).bind fun v2012=>(FU a0 (!v2012)))))
def NB (a0:List ByteArray) (a1:List ByteArray):Option ((List ByteArray)):=
 ((IN [] a0).bind fun v2002=>((IN v2002 a1).bind fun v2004=>(some v2004)))
def Fd (a0:Term) (p0_0:Bool):Option ((List ByteArray)):=
 (if p0_0=true then (some [a0.name]) else (if (decide (a0.kind=10))=true then (some a0.names) else (some [])))
def JY (a0:Term) (a1:Int):Option ((List ByteArray)):=
 (if (decide (a0.kind=4))=true then (Fd a0 true) else (if (decide (a0.kind=7))=true then (Fd a0 (decide (a1=1))) else (Fd a0 false)))
mutual
def HE:Nat→Term→(List ByteArray)→(List ByteArray)→Option ((List ByteArray))
 |0,_,_,_=>none
 |n+1,a0,a1,a2=>(if (decide (a0.kind=1))=true then ((IG a1 a0.name).bind fun v2011=>(if (decide (v2011<0))=true then ((IG a2 a0.name).bind fun v2020=>(FG n a0 a1 a2 (decide (v2020<0)))) else (FG n a0 a1 a2 false))) else (FG n a0 a1 a2 false))
def FG:Nat→Term→(List ByteArray)→(List ByteArray)→Bool→Option ((List ByteArray))
 |0,_,_,_,_=>none
 |n+1,a0,a1,a2,p0_0=>(if p0_0=true then ((IN a2 [a0.name]).bind fun v3006=>(GN n a0 a1 v3006)) else (GN n a0 a1 a2))
def GN:Nat→Term→(List ByteArray)→(List ByteArray)→Option ((List ByteArray))
 |0,_,_,_=>none
 |n+1,a0,a1,p1_0=>(CT n a0 a1 p1_0 0)
def CT:Nat→Term→(List ByteArray)→(List ByteArray)→Int→Option ((List ByteArray))
 |0,_,_,_,_=>none
 |n+1,a0,a1,p3_0,p3_1=>(if (decide (p3_1<(a0.kids.length:Int)))=true then ((at? a0.kids p3_1).bind fun v7005=>((JY a0 p3_1).bind fun v7009=>((NB a1 v7009).bind fun v7010=>((HE n v7005 v7010 p3_0).bind fun v7012=>(CT n a0 a1 v7012 (IntKind.i64.wrap (p3_1+1))))))) else (some p3_0))
end
mutual
def BA:Nat→(List Data)→ByteArray→Int→Option (Int × Int)
 |0,_,_,_=>none
 |n+1,a0,a1,p0_0=>(if (decide (p0_0<(a0.length:Int)))=true then (BH n a0 a1 p0_0 0) else (some ((-1),(-1))))
def BH:Nat→(List Data)→ByteArray→Int→Int→Option (Int × Int)
 |0,_,_,_,_=>none
 |n+1,a0,a1,p0_0,p1_0=>((at? a0 p0_0).bind fun v6003=>(if (decide (p1_0<(v6003.cons.length:Int)))=true then ((at? a0 p0_0).bind fun v8002=>((at? v8002.cons p1_0).bind fun v8006=>(if (sameStr v8006.name a1)=true then (some (p0_0,p1_0)) else (BH n a0 a1 p0_0 (IntKind.i64.wrap (p1_0+1)))))) else (BA n a0 a1 (IntKind.i64.wrap (p0_0+1)))))
end
def Bn (a0:List Data) (a1:ByteArray):Option (Int × Int):=
 (BA fuel a0 a1 0)
mutual
def Dp:Nat→(List Data)→Term→Option (Bool)
 |0,_,_=>none
 |n+1,a0,a1=>(if (decide (a1.kind=4))=true then ((EW fuel a0 a1.typ).bind fun v2011=>(Dw n a0 a1 (!v2011))) else (Dw n a0 a1 false))
def Dw:Nat→(List Data)→Term→Bool→Option (Bool)
 |0,_,_,_=>none
 |n+1,a0,a1,p0_0=>(if p0_0=true then (some false) else (if (decide (a1.kind=8))=true then (Dx n a0 a1 true) else (Dx n a0 a1 (decide (a1.kind=10)))))
def Dx:Nat→(List Data)→Term→Bool→Option (Bool)
 |0,_,_,_=>none
 |n+1,a0,a1,p1_0=>(if p1_0=true then ((Bn a0 a1.name).bind fun v5005=>(if (decide (v5005.1 <0))=true then (some false) else (Dy n a0 a1))) else (Dy n a0 a1))
def Dy:Nat→(List Data)→Term→Option (Bool)
 |0,_,_=>none
 |n+1,a0,a1=>(Bo n a0 a1 0)
def Bo:Nat→(List Data)→Term→Int→Option (Bool)
 |0,_,_,_=>none
 |n+1,a0,a1,p3_0=>(if (decide (p3_0<(a1.kids.length:Int)))=true then ((at? a1.kids p3_0).bind fun v11006=>((Dp n a0 v11006).bind fun v11007=>(if (!v11007)=true then (some false) else (Bo n a0 a1 (IntKind.i64.wrap (p3_0+1)))))) else (some true))
end
mutual
def Bp:Nat→Term→Data→Int→Option (Bool)
 |0,_,_,_=>none
 |n+1,a1,v3002,p0_0=>(if (decide (p0_0<(v3002.cons.length:Int)))=true then ((at? a1.kids (IntKind.i64.wrap (p0_0+1))).bind fun v9006=>((at? v3002.cons p0_0).bind fun v9011=>(if (!sameStr v9006.name v9011.name)=true then (Dz n a1 p0_0 v3002 true) else ((at? a1.kids (IntKind.i64.wrap (p0_0+1))).bind fun v9022=>((at? v3002.cons p0_0).bind fun v9028=>(Dz n a1 p0_0 v3002 (!decide ((v9022.names.length:Int)=(v9028.fields.length:Int))))))))) else (some true))
def Dz:Nat→Term→Int→Data→Bool→Option (Bool)
 |0,_,_,_,_=>none
 |n+1,a1,p0_0,v3002,p1_0=>(if p1_0=true then (some false) else (Bp n a1 v3002 (IntKind.i64.wrap (p0_0+1))))
end
def Gc (a0:List Data) (a1:Term):Option (Bool):=
 ((at? a1.kids 1).bind fun v2005=>((Bn a0 v2005.name).bind fun v2008=>((at? a0 v2008.1).bind fun v3002=>(if (!decide ((a1.kids.length:Int)=(IntKind.i64.wrap ((v3002.cons.length:Int)+1))))=true then (some false) else (Bp fuel a1 v3002 0)))))
mutual
def DM:Nat→(List Data)→Term→Option (Bool)
 |0,_,_=>none
 |n+1,a0,a1=>(if (decide (a1.kind=8))=true then ((Bn a0 a1.name).bind fun v4005=>((at? a0 v4005.1).bind fun v5002=>((at? v5002.cons v4005.2).bind fun v5006=>(if (!decide ((v5006.fields.length:Int)=(a1.kids.length:Int)))=true then (some false) else (Cn n a0 a1))))) else (if (decide (a1.kind=9))=true then ((Gc a0 a1).bind fun v8002=>(if (!v8002)=true then (some false) else (Cn n a0 a1))) else (Cn n a0 a1)))
def Cn:Nat→(List Data)→Term→Option (Bool)
 |0,_,_=>none
 |n+1,a0,a1=>(BY n a0 a1 0)
def BY:Nat→(List Data)→Term→Int→Option (Bool)
 |0,_,_,_=>none
 |n+1,a0,a1,p1_0=>(if (decide (p1_0<(a1.kids.length:Int)))=true then ((at? a1.kids p1_0).bind fun v13006=>((DM n a0 v13006).bind fun v13007=>(if (!v13007)=true then (some false) else (BY n a0 a1 (IntKind.i64.wrap (p1_0+1)))))) else (some true))
end
def By:Nat→TProgram→Int→Option (Int)
 |0,_,_=>none
 |n+1,a0,p10_0=>(if (decide (p10_0<(a0.defs.length:Int)))=true then ((at? a0.defs p10_0).bind fun v19009=>((DM fuel a0.datas v19009.body).bind fun v19011=>(if (!v19011)=true then (some 2) else (By n a0 (IntKind.i64.wrap (p10_0+1)))))) else (some 0))
mutual
def Bz:Nat→TProgram→Int→Option (Int)
 |0,_,_=>none
 |n+1,a0,p0_0=>(if (decide (p0_0<(a0.defs.length:Int)))=true then ((at? a0.defs p0_0).bind fun v7005=>((HE fuel v7005.body [] []).bind fun v8003=>(B0 n a0 p0_0 v7005 v8003 0))) else (By fuel a0 0))
def B0:Nat→TProgram→Int→Def→(List ByteArray)→Int→Option (Int)
 |0,_,_,_,_,_=>none
 |n+1,a0,p0_0,v7005,v8003,p9_0=>(if (decide (p9_0<(v8003.length:Int)))=true then ((at? v8003 p9_0).bind fun v12006=>((G1 a0.defs v12006).bind fun v12008=>(if (decide (v12008<0))=true then (some 7) else (B0 n a0 p0_0 v7005 v8003 (IntKind.i64.wrap (p9_0+1)))))) else ((EW fuel a0.datas v7005.typ).bind fun v14008=>(if (!v14008)=true then (Er n a0 p0_0 true) else ((Dp fuel a0.datas v7005.body).bind fun v14018=>(Er n a0 p0_0 (!v14018))))))
def Er:Nat→TProgram→Int→Bool→Option (Int)
 |0,_,_,_=>none
 |n+1,a0,p0_0,p3_0=>(if p3_0=true then (some 7) else (Bz n a0 (IntKind.i64.wrap (p0_0+1))))
end
def H2 (a0:TProgram):Option (Int):=
 ((HU a0).bind fun v2001=>(if (!v2001)=true then (some 1) else (Bz fuel a0 0)))
def Kn (a0:Int):Option (Bool):=
 (if (decide (48≤a0))=true then (some (decide (a0≤57))) else (some false))
def B1:Nat→(List ByteArray)→ByteArray→Int→Option (Int)
 |0,_,_,_=>none
 |n+1,a0,a1,p0_0=>(if (decide (p0_0<(a0.length:Int)))=true then ((at? a0 p0_0).bind fun v5003=>(if (sameStr a1 v5003)=true then (some p0_0) else (B1 n a0 a1 (IntKind.i64.wrap (p0_0+1))))) else (some (-1)))
def FV (a0:List ByteArray) (a1:ByteArray):Option (Int):=
 (B1 fuel a0 a1 0)
def Bh (a0:List ByteArray) (a1:ByteArray):Option (Bool):=
 ((FV a0 a1).bind fun v2002=>(some (decide (0≤v2002))))
def IU (a0:ByteArray):Option (Bool):=
 ((Bh [(ByteArray.mk #[100,97,116,97]),(ByteArray.mk #[100,101,102]),(ByteArray.mk #[108,101,116]),(ByteArray.mk #[105,110]),(ByteArray.mk #[109,97,116,99,104]),(ByteArray.mk #[105,102]),(ByteArray.mk #[116,104,101,110]),(ByteArray.mk #[101,108,115,101])] a0).bind fun v2002=>(some v2002))
def JF (a0:Int):Option (Bool):=
 (if (decide (97≤a0))=true then (some (decide (a0≤122))) else (some false))
def HF (a0:Int):Option (Bool):=
 (if (decide (65≤a0))=true then (some (decide (a0≤90))) else (some false))
def HV (a0:Int):Option (Bool):=
 ((JF a0).bind fun v2001=>(if v2001=true then (some true) else ((HF a0).bind fun v2004=>(if v2004=true then (some true) else ((Kn a0).bind fun v2008=>(some v2008))))))
def E5:Nat→ByteArray→Int→Option (Bool)
 |0,_,_=>none
 |n+1,a0,p1_0=>(if (decide (p1_0<(a0.size:Int)))=true then ((atB a0 p1_0).bind fun v7002=>((HV v7002).bind fun v7003=>(if (!v7003)=true then (some false) else (E5 n a0 (IntKind.i64.wrap (p1_0+1)))))) else (some true))
def Fz (a0:ByteArray) (p0_0:Bool):Option (Bool):=
 (if p0_0=true then (some false) else (E5 fuel a0 0))
def Ko (a0:ByteArray):Option (Bool):=
 (if (decide ((a0.size:Int)<1))=true then (Fz a0 true) else (if (decide (12<(a0.size:Int)))=true then (Fz a0 true) else ((atB a0 0).bind fun v2010=>((Kn v2010).bind fun v2011=>(if v2011=true then (Fz a0 true) else ((IU a0).bind fun v2015=>(Fz a0 v2015)))))))
def HG (a0:ByteArray):Option (Bool):=
 ((Ko a0).bind fun v2001=>(if v2001=true then ((atB a0 0).bind fun v2004=>((HF v2004).bind fun v2005=>(some v2005))) else (some false)))
def A5:Nat→(List Data)→Int→(Data→Option Bool)→Option (Int)
 |0,_,_,_=>none
 |n+1,a0,p0_0,f1=>(if (decide (p0_0<(a0.length:Int)))=true then ((at? a0 p0_0).bind fun v5003=>((f1 v5003).bind fun v5005=>(if v5005=true then (some p0_0) else (A5 n a0 (IntKind.i64.wrap (p0_0+1)) f1)))) else (some (-1)))
def Co (a0:List Data) (f1:(Data→Option Bool)):Option (Int):=
 (A5 fuel a0 0 f1)
def I0 (a0:Data) (a1:ByteArray):Option (Bool):=
 (some (sameStr a0.name a1))
def H3 (a0:List Data) (a1:ByteArray):Option (Int):=
 ((Co a0 (fun y0=>I0 y0 a1)).bind fun v2002=>(some v2002))
def A6:Nat→(List TType)→Int→(TType→Option Bool)→Option (Int)
 |0,_,_,_=>none
 |n+1,a0,p0_0,f1=>(if (decide (p0_0<(a0.length:Int)))=true then ((at? a0 p0_0).bind fun v5003=>((f1 v5003).bind fun v5005=>(if v5005=true then (some p0_0) else (A6 n a0 (IntKind.i64.wrap (p0_0+1)) f1)))) else (some (-1)))
def Cp (a0:List TType) (f1:(TType→Option Bool)):Option (Int):=
 (A6 fuel a0 0 f1)
def A7 (a0:List TType) (f1:(TType→Option Bool)):Option (Bool):=
 ((Cp a0 f1).bind fun v2002=>(some (decide (0≤v2002))))
def BW (p1_0:Int) (p1_1:Int) (p2_0:Bool):Option (Int × Int × Bool):=
 (some (p1_0,p1_1,p2_0))
mutual
def E6:Nat→TType→Option (Int × Int × Bool)
 |0,_=>none
 |n+1,a0=>(B2 n a0 1 1 0)
def B2:Nat→TType→Int→Int→Int→Option (Int × Int × Bool)
 |0,_,_,_,_=>none
 |n+1,a0,p1_0,p1_1,p1_2=>(if (decide (p1_2<(a0.kids.length:Int)))=true then ((at? a0.kids p1_2).bind fun v5000=>((E6 n v5000).bind fun v6001=>(if (!v6001.2.2)=true then (some (0,0,false)) else (B2 n a0 (if p1_0<(IntKind.i64.wrap (v6001.1 +1)) then (IntKind.i64.wrap (v6001.1 +1)) else p1_0) (IntKind.i64.wrap (p1_1+v6001.2.1)) (IntKind.i64.wrap (p1_2+1)))))) else (if (decide (a0.kind=1))=true then (if (sameStr a0.name (ByteArray.mk #[]))=true then (BW p1_0 p1_1 (decide ((a0.kids.length:Int)=0))) else (BW p1_0 p1_1 false)) else (if (decide (a0.kind=2))=true then ((HG a0.name).bind fun v15002=>(if v15002=true then (if (!sameStr a0.name (ByteArray.mk #[73,110,116]))=true then (BW p1_0 p1_1 (decide ((a0.kids.length:Int)=0))) else (BW p1_0 p1_1 false)) else (BW p1_0 p1_1 false))) else (if (decide (a0.kind=3))=true then (if (sameStr a0.name (ByteArray.mk #[]))=true then (BW p1_0 p1_1 (decide ((a0.kids.length:Int)=2))) else (BW p1_0 p1_1 false)) else (if (decide (a0.kind=4))=true then (if (sameStr a0.name (ByteArray.mk #[]))=true then (BW p1_0 p1_1 (decide ((a0.kids.length:Int)=1))) else (BW p1_0 p1_1 false)) else (BW p1_0 p1_1 false))))))
end
def F0 (a0:TType):Option (Bool):=
 ((E6 fuel a0).bind fun v2001=>(if v2001.2.2 =true then (if (decide (v2001.1 ≤6))=true then (some (decide (v2001.2.1 ≤16))) else (some false)) else (some false)))
mutual
def GO:Nat→TType→(List Data)→Option (Bool)
 |0,_,_=>none
 |n+1,a0,a1=>((EY n a1 a0).bind fun v2002=>(some (!v2002)))
def EY:Nat→(List Data)→TType→Option (Bool)
 |0,_,_=>none
 |n+1,a0,a1=>(if (decide (a1.kind=2))=true then ((H3 a0 a1.name).bind fun v2007=>(Fe n a0 a1 (decide (v2007<0)))) else (Fe n a0 a1 false))
def Fe:Nat→(List Data)→TType→Bool→Option (Bool)
 |0,_,_,_=>none
 |n+1,a0,a1,p0_0=>(if p0_0=true then (some false) else ((A7 a1.kids (fun y0=>GO n y0 a0)).bind fun v4003=>(some (!v4003))))
end
def DN (a0:TType) (a1:List Data):Option (Bool):=
 ((F0 a0).bind fun v2001=>(if (!v2001)=true then (some true) else ((EY fuel a1 a0).bind fun v2006=>(some (!v2006)))))
def C5 (a0:List Data) (a1:Constructor) (p0_0:Bool):Option (Bool):=
 (if p0_0=true then (some false) else ((A7 a1.fields (fun y0=>DN y0 a0)).bind fun v4003=>(some (!v4003))))
def D6 (a0:List Data) (a1:Constructor):Option (Bool):=
 ((HG a1.name).bind fun v2002=>(if (!v2002)=true then (C5 a0 a1 true) else (C5 a0 a1 (decide (3<(a1.fields.length:Int))))))
mutual
def BJ:Nat→(List Data)→(List (ByteArray × Bool))→Int→Option (Bool)
 |0,_,_,_=>none
 |n+1,a0,p6_0,p6_1=>(if (decide (p6_1<(a0.length:Int)))=true then ((at? a0 p6_1).bind fun v7001=>((HG v7001.name).bind fun v8002=>(if (!v8002)=true then (B9 n a0 p6_0 p6_1 v7001 true) else (if (sameStr v7001.name (ByteArray.mk #[73,110,116]))=true then (B9 n a0 p6_0 p6_1 v7001 true) else ((cutL a0 0 p6_1).bind fun v8012=>((H3 v8012 v7001.name).bind fun v8015=>(if (decide (0≤v8015))=true then (B9 n a0 p6_0 p6_1 v7001 true) else (if (decide ((v7001.cons.length:Int)<1))=true then (B9 n a0 p6_0 p6_1 v7001 true) else (B9 n a0 p6_0 p6_1 v7001 (decide (4<(v7001.cons.length:Int)))))))))))) else (some true))
def B9:Nat→(List Data)→(List (ByteArray × Bool))→Int→Data→Bool→Option (Bool)
 |0,_,_,_,_,_=>none
 |n+1,a0,p6_0,p6_1,v7001,p7_0=>(if p7_0=true then (some false) else (BK n a0 p6_1 v7001 p6_0 0))
def BK:Nat→(List Data)→Int→Data→(List (ByteArray × Bool))→Int→Option (Bool)
 |0,_,_,_,_,_=>none
 |n+1,a0,p6_1,v7001,p10_0,p10_1=>(if (decide (p10_1<(v7001.cons.length:Int)))=true then ((at? v7001.cons p10_1).bind fun v12000=>((D6 a0 v12000).bind fun v13002=>(if (!v13002)=true then (D0 n a0 p6_1 p10_0 p10_1 v7001 v12000 true) else (D0 n a0 p6_1 p10_0 p10_1 v7001 v12000 ((Gy p10_0 v12000.name).getD false))))) else (BJ n a0 p10_0 (IntKind.i64.wrap (p6_1+1))))
def D0:Nat→(List Data)→Int→(List (ByteArray × Bool))→Int→Data→Constructor→Bool→Option (Bool)
 |0,_,_,_,_,_,_,_=>none
 |n+1,a0,p6_1,p10_0,p10_1,v7001,v12000,p11_0=>(if p11_0=true then (some false) else ((U1 p10_0 v12000.name true).bind fun v15003_72=>(BK n a0 p6_1 v7001 v15003_72 (IntKind.i64.wrap (p10_1+1)))))
end
def HW (a0:List Data):Option (Bool):=
 (if (decide (4<(a0.length:Int)))=true then (some false) else (BJ fuel a0 [] 0))
def H4 (a0:ByteArray):Option (Bool):=
 ((Ko a0).bind fun v2001=>(if v2001=true then ((atB a0 0).bind fun v2004=>((JF v2004).bind fun v2005=>(some v2005))) else (some false)))
def BC:Nat→(List Def)→Int→(Def→Option Bool)→Option (Int)
 |0,_,_,_=>none
 |n+1,a0,p0_0,f1=>(if (decide (p0_0<(a0.length:Int)))=true then ((at? a0 p0_0).bind fun v5003=>((f1 v5003).bind fun v5005=>(if v5005=true then (some p0_0) else (BC n a0 (IntKind.i64.wrap (p0_0+1)) f1)))) else (some (-1)))
def CK (a0:List Def) (f1:(Def→Option Bool)):Option (Int):=
 (BC fuel a0 0 f1)
def Eh (a0:Def) (a1:ByteArray):Option (Bool):=
 (some (sameStr a0.name a1))
def Cq (a0:TProgram) (a1:ByteArray):Option (Int):=
 ((CK a0.defs (fun y0=>Eh y0 a1)).bind fun v2003=>(some v2003))
def Be:Nat→(List TType)→(List TType)→Int→(TType→TType→Option Bool)→Option (Bool)
 |0,_,_,_,_=>none
 |n+1,a0,a1,p0_0,f2=>(if (decide (p0_0<(a0.length:Int)))=true then ((at? a0 p0_0).bind fun v6001=>((at? a1 p0_0).bind fun v7002=>((f2 v6001 v7002).bind fun v8003=>(if (!v8003)=true then (some false) else (Be n a0 a1 (IntKind.i64.wrap (p0_0+1)) f2))))) else (some true))
def CA (a0:List TType) (a1:List TType) (f2:(TType→TType→Option Bool)):Option (Bool):=
 (if (!decide ((a0.length:Int)=(a1.length:Int)))=true then (some false) else (Be fuel a0 a1 0 f2))
def DA:Nat→TType→TType→Option (Bool)
 |0,_,_=>none
 |n+1,a0,a1=>(if (decide (a0.kind=a1.kind))=true then (if (sameStr a0.name a1.name)=true then ((CA a0.kids a1.kids (fun y0 y1=>DA n y0 y1)).bind fun v2017=>(some v2017)) else (some false)) else (some false))
def HX (a0:TType):Option (Bool):=
 ((DA fuel a0 (⟨0,ByteArray.empty,[]⟩:TType)).bind fun v2002=>(some v2002))
def RX (a0:Int):Option (Bool):=
 (if (decide ((-2147483648)≤a0))=true then (some (decide (a0≤2147483647))) else (some false))
def I1 (a0:Int):Option (Bool):=
 (if (decide (1≤a0))=true then (some (decide (a0≤6))) else (some false))
mutual
def Ap:Nat→(List ByteArray)→Int→Option (Bool)
 |0,_,_=>none
 |n+1,a0,p0_0=>(if (decide (p0_0<(a0.length:Int)))=true then ((at? a0 p0_0).bind fun v4001=>((H4 v4001).bind fun v5001=>(if (!v5001)=true then (Cb n a0 p0_0 true) else ((cutL a0 0 p0_0).bind fun v5006=>((Bh v5006 v4001).bind fun v5008=>(Cb n a0 p0_0 v5008)))))) else (some (decide ((a0.length:Int)≤3))))
def Cb:Nat→(List ByteArray)→Int→Bool→Option (Bool)
 |0,_,_,_=>none
 |n+1,a0,p0_0,p1_0=>(if p1_0=true then (some false) else (Ap n a0 (IntKind.i64.wrap (p0_0+1))))
end
def EP (a0:List ByteArray):Option (Bool):=
 (Ap fuel a0 0)
def As (a0:Term) (p0_0:Bool):Option (Bool):=
 (if p0_0=true then (some false) else ((H4 a0.name).bind fun v5005=>((HG a0.name).bind fun v5008=>(if (decide (a0.kind=1))=true then (if v5005=true then (some (decide ((a0.kids.length:Int)=0))) else (some false)) else (if (decide (a0.kind=2))=true then (if (sameStr a0.name (ByteArray.mk #[]))=true then (if (decide ((a0.kids.length:Int)=0))=true then ((RX a0.num).bind fun v11008=>(some v11008)) else (some false)) else (some false)) else (if (decide (a0.kind=3))=true then (if (sameStr a0.name (ByteArray.mk #[]))=true then (if (decide ((a0.kids.length:Int)=2))=true then ((I1 a0.num).bind fun v13008=>(some v13008)) else (some false)) else (some false)) else (if (decide (a0.kind=4))=true then (if v5005=true then (if (decide ((a0.kids.length:Int)=1))=true then ((F0 a0.typ).bind fun v15008=>(some v15008)) else (some false)) else (some false)) else (if (decide (a0.kind=5))=true then (if (sameStr a0.name (ByteArray.mk #[]))=true then (some (decide ((a0.kids.length:Int)=2))) else (some false)) else (if (decide (a0.kind=6))=true then (if (sameStr a0.name (ByteArray.mk #[]))=true then (some (decide ((a0.kids.length:Int)=1))) else (some false)) else (if (decide (a0.kind=7))=true then (if v5005=true then (some (decide ((a0.kids.length:Int)=2))) else (some false)) else (if (decide (a0.kind=8))=true then (if v5008=true then (some (decide ((a0.kids.length:Int)≤3))) else (some false)) else (if (decide (a0.kind=9))=true then (if (sameStr a0.name (ByteArray.mk #[]))=true then (if (decide (2≤(a0.kids.length:Int)))=true then (some (decide ((a0.kids.length:Int)≤5))) else (some false)) else (some false)) else (if (decide (a0.kind=10))=true then (if v5008=true then (if (decide ((a0.kids.length:Int)=1))=true then ((EP a0.names).bind fun v27008=>(some v27008)) else (some false)) else (some false)) else (if (decide (a0.kind=11))=true then (if (sameStr a0.name (ByteArray.mk #[]))=true then (some (decide ((a0.kids.length:Int)=3))) else (some false)) else (some false)))))))))))))))
def IV (a0:Term):Option (Bool):=
 ((HX a0.typ).bind fun v2002=>(if (!decide (a0.kind=10))=true then (if (decide (0<(a0.names.length:Int)))=true then (As a0 true) else (if (!decide (a0.kind=4))=true then (if (!v2002)=true then (As a0 true) else (if (!decide (a0.kind=2))=true then (if (!decide (a0.kind=3))=true then (As a0 (!decide (a0.num=0))) else (As a0 false)) else (As a0 false))) else (if (!decide (a0.kind=2))=true then (if (!decide (a0.kind=3))=true then (As a0 (!decide (a0.num=0))) else (As a0 false)) else (As a0 false)))) else (if (!decide (a0.kind=4))=true then (if (!v2002)=true then (As a0 true) else (if (!decide (a0.kind=2))=true then (if (!decide (a0.kind=3))=true then (As a0 (!decide (a0.num=0))) else (As a0 false)) else (As a0 false))) else (if (!decide (a0.kind=2))=true then (if (!decide (a0.kind=3))=true then (As a0 (!decide (a0.num=0))) else (As a0 false)) else (As a0 false)))))
mutual
def E7:Nat→Term→Option (Int × Int × Bool)
 |0,_=>none
 |n+1,a0=>((IV a0).bind fun v2001=>(if (!v2001)=true then (some (0,0,false)) else (B3 n a0 1 1 0)))
def B3:Nat→Term→Int→Int→Int→Option (Int × Int × Bool)
 |0,_,_,_,_=>none
 |n+1,a0,p2_0,p2_1,p2_2=>(if (decide (p2_2<(a0.kids.length:Int)))=true then ((at? a0.kids p2_2).bind fun v7001=>(if (decide (a0.kind=9))=true then (Es n a0 p2_0 p2_1 p2_2 v7001 (!((decide (v7001.kind=10)) == (decide (0<p2_2))))) else (Es n a0 p2_0 p2_1 p2_2 v7001 (!((decide (v7001.kind=10)) == false))))) else (some (p2_0,p2_1,true)))
def Es:Nat→Term→Int→Int→Int→Term→Bool→Option (Int × Int × Bool)
 |0,_,_,_,_,_,_=>none
 |n+1,a0,p2_0,p2_1,p2_2,v7001,p3_0=>(if p3_0=true then (some (0,0,false)) else ((E7 n v7001).bind fun v10001=>(if (!v10001.2.2)=true then (some (0,0,false)) else (B3 n a0 (if p2_0<(IntKind.i64.wrap (v10001.1 +1)) then (IntKind.i64.wrap (v10001.1 +1)) else p2_0) (IntKind.i64.wrap (p2_1+v10001.2.1)) (IntKind.i64.wrap (p2_2+1))))))
end
def IW (a0:Term):Option (Bool):=
 ((E7 fuel a0).bind fun v2001=>(if v2001.2.2 =true then (if (!decide (a0.kind=10))=true then (if (decide (v2001.1 ≤24))=true then (some (decide (v2001.2.1 ≤160))) else (some false)) else (some false)) else (some false)))
mutual
def BM:Nat→TProgram→Int→Option (Bool)
 |0,_,_=>none
 |n+1,a0,p3_0=>(if (decide (p3_0<(a0.defs.length:Int)))=true then ((at? a0.defs p3_0).bind fun v6001=>((H4 v6001.name).bind fun v7002=>(if (!v7002)=true then (CI n a0 p3_0 true) else ((Cq a0 v6001.name).bind fun v7008=>(if (decide (v7008<p3_0))=true then (CI n a0 p3_0 true) else ((F0 v6001.typ).bind fun v7015=>(if (!v7015)=true then (CI n a0 p3_0 true) else ((IW v6001.body).bind fun v7021=>(CI n a0 p3_0 (!v7021)))))))))) else (some true))
def CI:Nat→TProgram→Int→Bool→Option (Bool)
 |0,_,_,_=>none
 |n+1,a0,p3_0,p4_0=>(if p4_0=true then (some false) else (BM n a0 (IntKind.i64.wrap (p3_0+1))))
end
def DY (a0:TProgram) (p0_0:Bool):Option (Bool):=
 (if p0_0=true then (some false) else (BM fuel a0 0))
def F1 (a0:TProgram):Option (Bool):=
 ((HW a0.datas).bind fun v2002=>(if (!v2002)=true then (DY a0 true) else (if (decide ((a0.defs.length:Int)<1))=true then (DY a0 true) else (DY a0 (decide (8<(a0.defs.length:Int)))))))
def Bq (a0:List Def) (f1:(Def→Option Bool)):Option (Bool):=
 ((CK a0 f1).bind fun v2002=>(some (decide (0≤v2002))))
def A8:Nat→(List Term)→Int→(Term→Option Bool)→Option (Int)
 |0,_,_,_=>none
 |n+1,a0,p0_0,f1=>(if (decide (p0_0<(a0.length:Int)))=true then ((at? a0 p0_0).bind fun v5003=>((f1 v5003).bind fun v5005=>(if v5005=true then (some p0_0) else (A8 n a0 (IntKind.i64.wrap (p0_0+1)) f1)))) else (some (-1)))
def Cr (a0:List Term) (f1:(Term→Option Bool)):Option (Int):=
 (A8 fuel a0 0 f1)
def CD (a0:List Term) (f1:(Term→Option Bool)):Option (Bool):=
 ((Cr a0 f1).bind fun v2002=>(some (decide (0≤v2002))))
mutual
def IX:Nat→Term→(Term→Option Bool)→Option (Bool)
 |0,_,_=>none
 |n+1,a0,f1=>((GP n a0 f1).bind fun v2002=>(some v2002))
def GP:Nat→Term→(Term→Option Bool)→Option (Bool)
 |0,_,_=>none
 |n+1,a0,f1=>((f1 a0).bind fun v2002=>(if v2002=true then (some true) else ((CD a0.kids (fun y0=>IX n y0 f1)).bind fun v2007=>(some v2007))))
end
def BN:Nat→(List ByteArray)→Int→(ByteArray→Option Bool)→Option (Int)
 |0,_,_,_=>none
 |n+1,a0,p0_0,f1=>(if (decide (p0_0<(a0.length:Int)))=true then ((at? a0 p0_0).bind fun v5003=>((f1 v5003).bind fun v5005=>(if v5005=true then (some p0_0) else (BN n a0 (IntKind.i64.wrap (p0_0+1)) f1)))) else (some (-1)))
def Dh (a0:List ByteArray) (f1:(ByteArray→Option Bool)):Option (Int):=
 (BN fuel a0 0 f1)
def Cs (a0:List ByteArray) (f1:(ByteArray→Option Bool)):Option (Bool):=
 ((Dh a0 f1).bind fun v2002=>(some (decide (0≤v2002))))
def BT:Nat→(List (List ByteArray))→(List ByteArray)→Int→Option ((List ByteArray))
 |0,_,_,_=>none
 |n+1,a0,p2_0,p2_1=>(if (decide (p2_1<(a0.length:Int)))=true then ((at? a0 p2_1).bind fun v13000=>((IN p2_0 v13000).bind fun v14002=>(BT n a0 v14002 (IntKind.i64.wrap (p2_1+1))))) else (some p2_0))
def Bt:Nat→(List (List ByteArray))→Int→Int→Option ((List ByteArray))
 |0,_,_,_=>none
 |n+1,a0,p0_0,p0_1=>(if (decide (p0_1<(a0.length:Int)))=true then ((at? a0 p0_1).bind fun v5000=>(if (decide ((IntKind.i64.wrap (p0_0+(v5000.length:Int)))<0))=true then (none) else (Bt n a0 (IntKind.i64.wrap (p0_0+(v5000.length:Int))) (IntKind.i64.wrap (p0_1+1))))) else ((Fr [] p0_0).bind fun v10001=>(BT fuel a0 v10001 0)))
def Et (a0:List (List ByteArray)):Option ((List ByteArray)):=
 (Bt fuel a0 0 0)
def EQ (a0:Term) (p0_0:Bool):Option ((List ByteArray)):=
 (if p0_0=true then (some [a0.name]) else (if (decide (a0.kind=10))=true then (some a0.names) else (some [])))
def HY (a0:Term) (a1:Int):Option ((List ByteArray)):=
 (if (decide (a0.kind=4))=true then (EQ a0 true) else (if (decide (a0.kind=7))=true then (EQ a0 (decide (a1=1))) else (EQ a0 false)))
mutual
def HH:Nat→Term→(List ByteArray)→(List ByteArray)→Option ((List ByteArray))
 |0,_,_,_=>none
 |n+1,a0,a1,a2=>(if (decide (a0.kind=1))=true then ((Bh a1 a0.name).bind fun v2007=>(if (!v2007)=true then ((Bh a2 a0.name).bind fun v2014=>(FH n a0 a1 a2 (!v2014))) else (FH n a0 a1 a2 false))) else (FH n a0 a1 a2 false))
def FH:Nat→Term→(List ByteArray)→(List ByteArray)→Bool→Option ((List ByteArray))
 |0,_,_,_,_=>none
 |n+1,a0,a1,a2,p0_0=>(if p0_0=true then ((IN a2 [a0.name]).bind fun v3004=>(some v3004)) else (CU n a0 a1 a2 0))
def CU:Nat→Term→(List ByteArray)→(List ByteArray)→Int→Option ((List ByteArray))
 |0,_,_,_,_=>none
 |n+1,a0,a1,p2_0,p2_1=>(if (decide (p2_1<(a0.kids.length:Int)))=true then ((at? a0.kids p2_1).bind fun v6001=>((HY a0 p2_1).bind fun v7004=>((Et [a1,v7004]).bind fun v7006=>((HH n v6001 v7006 p2_0).bind fun v7008=>(CU n a0 a1 v7008 (IntKind.i64.wrap (p2_1+1))))))) else (some p2_0))
end
def J3 (a0:Term):Option ((List ByteArray)):=
 ((HH fuel a0 [] []).bind fun v2001=>(some v2001))
def DZ (a0:ByteArray) (a1:TProgram):Option (Bool):=
 ((Cq a1 a0).bind fun v2002=>(some (decide (v2002<0))))
mutual
def Aw:Nat→(List Data)→ByteArray→Int→Option (Int × Int)
 |0,_,_,_=>none
 |n+1,a0,a1,p0_0=>(if (decide (p0_0<(a0.length:Int)))=true then ((at? a0 p0_0).bind fun v4001=>(BO n a0 a1 p0_0 v4001 0)) else (some ((-1),0)))
def BO:Nat→(List Data)→ByteArray→Int→Data→Int→Option (Int × Int)
 |0,_,_,_,_,_=>none
 |n+1,a0,a1,p0_0,v4001,p1_0=>(if (decide (p1_0<(v4001.cons.length:Int)))=true then ((at? v4001.cons p1_0).bind fun v7001=>(if (sameStr v7001.name a1)=true then (some (p0_0,p1_0)) else (BO n a0 a1 p0_0 v4001 (IntKind.i64.wrap (p1_0+1))))) else (Aw n a0 a1 (IntKind.i64.wrap (p0_0+1))))
end
def BZ (a0:List Data) (a1:ByteArray):Option (Int × Int):=
 (Aw fuel a0 a1 0)
def B4 (a0:Term) (a1:TProgram) (p0_0:Bool):Option (Bool):=
 (if p0_0=true then ((BZ a1.datas a0.name).bind fun v7004=>(some (decide (v7004.1 <0)))) else (some false))
def Da (a0:Term) (a1:TProgram):Option (Bool):=
 (if (decide (a0.kind=4))=true then ((EY fuel a1.datas a0.typ).bind fun v4004=>(some (!v4004))) else (if (decide (a0.kind=8))=true then (B4 a0 a1 (decide (a0.kind=8))) else (B4 a0 a1 (decide (a0.kind=10)))))
def CN (a0:TProgram) (a1:Def) (p0_0:Bool):Option (Bool):=
 (if p0_0=true then (some true) else ((GP fuel a1.body (fun y0=>Da y0 a0)).bind fun v4003=>(some v4003)))
def C6 (a0:TProgram) (a1:Def):Option (Bool):=
 ((EY fuel a0.datas a1.typ).bind fun v2004=>(if (!v2004)=true then (CN a0 a1 true) else ((J3 a1.body).bind fun v2009=>((Cs v2009 (fun y0=>DZ y0 a0)).bind fun v2011=>(CN a0 a1 v2011)))))
def Ag:Nat→(List Term)→(List Constructor)→Int→(Term→Constructor→Option Bool)→Option (Bool)
 |0,_,_,_,_=>none
 |n+1,a0,a1,p0_0,f2=>(if (decide (p0_0<(a0.length:Int)))=true then ((at? a0 p0_0).bind fun v6001=>((at? a1 p0_0).bind fun v7002=>((f2 v6001 v7002).bind fun v8003=>(if (!v8003)=true then (some false) else (Ag n a0 a1 (IntKind.i64.wrap (p0_0+1)) f2))))) else (some true))
def Dj (a0:List Term) (a1:List Constructor) (f2:(Term→Constructor→Option Bool)):Option (Bool):=
 (if (!decide ((a0.length:Int)=(a1.length:Int)))=true then (some false) else (Ag fuel a0 a1 0 f2))
def CB (a0:Term) (a1:Constructor):Option (Bool):=
 (if (sameStr a0.name a1.name)=true then (some (decide ((a0.names.length:Int)=(a1.fields.length:Int)))) else (some false))
def ER (a0:TProgram) (a1:List Term):Option (Bool):=
 ((at? a1 0).bind fun v2003=>((BZ a0.datas v2003.name).bind fun v2006=>((at? a0.datas v2006.1).bind fun v3003=>((Dj a1 v3003.cons (fun y0 y1=>CB y0 y1)).bind fun v4002=>(some (!v4002))))))
def DO (a0:TProgram) (a1:Term):Option (Bool):=
 (if (decide (a1.kind=8))=true then ((BZ a0.datas a1.name).bind fun v4004=>((at? a0.datas v4004.1).bind fun v5006=>((at? v5006.cons v4004.2).bind fun v5010=>(some (!decide ((a1.kids.length:Int)=(v5010.fields.length:Int))))))) else (if (decide (a1.kind=9))=true then ((cutL a1.kids 1 (a1.kids.length:Int)).bind fun v7003=>((ER a0 v7003).bind fun v7004=>(some v7004))) else (some false)))
def HZ (a0:Def) (a1:TProgram):Option (Bool):=
 ((GP fuel a0.body (fun y0=>DO a1 y0)).bind fun v2004=>(some v2004))
def GQ (a0:TProgram):Option (Int):=
 ((F1 a0).bind fun v2001=>(if (!v2001)=true then (some 1) else ((Bq a0.defs (fun y0=>C6 a0 y0)).bind fun v4004=>(if v4004=true then (some 7) else ((Bq a0.defs (fun y0=>HZ y0 a0)).bind fun v6003=>(if v6003=true then (some 2) else (some 0)))))))
end Go.Proofs.YtnfgeocnolheoaaGreat.Ab
