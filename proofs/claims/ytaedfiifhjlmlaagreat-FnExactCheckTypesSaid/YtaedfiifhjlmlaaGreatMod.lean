/-
  Data of the program as Lean types; how they lie in memory. Printed by wip/ab/gen.py.
-/
import Derived.Test.YtaedfiifhjlmlaaGreatAbY
namespace Go.Proofs.YtaedfiifhjlmlaaGreat.Ab
set_option linter.unusedVariables false
set_option linter.unusedSimpArgs false
set_option maxRecDepth 20000
set_option maxHeartbeats 4000000
open Go.RowKit
structure TType where
 kind:Int
 name:ByteArray
 kids:List TType
mutual
def TType.ds:TType→List D
 |⟨x0,x1,x2⟩=>[.int .i64 x0,.str x1,.sl (TType.rows x2)]
def TType.rows:List TType→List (List D)
 | [] =>[]
 |c::cs=>TType.ds c::TType.rows cs
end
theorem TType.rows_map:∀l:List TType,TType.rows l=List.map TType.ds l
 | [] =>by rw [TType.rows]; rfl
 |c::cs=>by rw [TType.rows,TType.rows_map cs]; rfl
theorem TType.ds_eq (c:TType):c.ds=[.int .i64 c.kind,.str c.name,.sl (c.kids.map TType.ds)] :=by
 cases c; rw [TType.ds]; simp only [TType.rows_map]
@[go_sem] def TType.avs (c:TType):List AV:=[.int .i64 c.kind,.str c.name,.ro (c.kids.map TType.ds)]
@[go_sem] def TType.rv (c:TType):List RV:=[.int .i64 c.kind,.str c.name,.ow (some 3) (c.kids.map TType.ds)]
@[go_sem] def TType.rvn (c:TType):List RV:=[.int .i64 c.kind,.str c.name,.ow none (c.kids.map TType.ds)]
attribute [go_sem] TType.ds_eq
theorem TType.ds_len (c:TType):c.ds.length=3:=by rw [TType.ds_eq]; rfl
def TType.dz (c:TType):List D:=[.int .i64 c.kind,.str c.name,.fz (c.kids.map TType.ds)]
@[go_sem] theorem TType.dz_eq (c:TType):c.dz=[.int .i64 c.kind,.str c.name,.fz (c.kids.map TType.ds)] :=rfl
theorem TType.dz_len (c:TType):c.dz.length=3:=rfl
theorem TType.dz_fz (c:TType):fzC c.ds=c.dz:=by rw [TType.ds_eq]; rfl
theorem TType.dz_ng (c:TType):∀d ∈ c.ds,d≠ .gone :=by rw [TType.ds_eq]; exact Iu rfl
@[go_sem] theorem TType.dz_er (l:List TType):erR (l.map TType.dz)=List.map TType.ds l:=Fp (fun c=>by rw [TType.ds_eq]; simp only [TType.dz,erC,er]) l
structure Term where
 kind:Int
 num:Int
 name:ByteArray
 typ:TType
 names:List ByteArray
 kids:List Term
mutual
def Term.ds:Term→List D
 |⟨x0,x1,x2,x3,x4,x5⟩=>[.int .i64 x0,.int .i64 x1,.str x2,.int .i64 x3.kind,.str x3.name,.sl (x3.kids.map TType.ds),.sl (x4.map strD),.sl (Term.rows x5)]
def Term.rows:List Term→List (List D)
 | [] =>[]
 |c::cs=>Term.ds c::Term.rows cs
end
theorem Term.rows_map:∀l:List Term,Term.rows l=List.map Term.ds l
 | [] =>by rw [Term.rows]; rfl
 |c::cs=>by rw [Term.rows,Term.rows_map cs]; rfl
theorem Term.ds_eq (c:Term):c.ds=[.int .i64 c.kind,.int .i64 c.num,.str c.name,.int .i64 c.typ.kind,.str c.typ.name,.sl (c.typ.kids.map TType.ds),.sl (c.names.map strD),.sl (c.kids.map Term.ds)] :=by
 cases c; rw [Term.ds]; simp only [Term.rows_map]
@[go_sem] def Term.avs (c:Term):List AV:=[.int .i64 c.kind,.int .i64 c.num,.str c.name,.int .i64 c.typ.kind,.str c.typ.name,.ro (c.typ.kids.map TType.ds),.ro (c.names.map strD),.ro (c.kids.map Term.ds)]
@[go_sem] def Term.rv (c:Term):List RV:=[.int .i64 c.kind,.int .i64 c.num,.str c.name,.int .i64 c.typ.kind,.str c.typ.name,.ow (some 3) (c.typ.kids.map TType.ds),.ow (some 1) (c.names.map strD),.ow (some 8) (c.kids.map Term.ds)]
@[go_sem] def Term.rvn (c:Term):List RV:=[.int .i64 c.kind,.int .i64 c.num,.str c.name,.int .i64 c.typ.kind,.str c.typ.name,.ow none (c.typ.kids.map TType.ds),.ow none (c.names.map strD),.ow none (c.kids.map Term.ds)]
attribute [go_sem] Term.ds_eq
theorem Term.ds_len (c:Term):c.ds.length=8:=by rw [Term.ds_eq]; rfl
def Term.dz (c:Term):List D:=[.int .i64 c.kind,.int .i64 c.num,.str c.name,.int .i64 c.typ.kind,.str c.typ.name,.fz (c.typ.kids.map TType.ds),.fz (c.names.map strD),.fz (c.kids.map Term.ds)]
@[go_sem] theorem Term.dz_eq (c:Term):c.dz=[.int .i64 c.kind,.int .i64 c.num,.str c.name,.int .i64 c.typ.kind,.str c.typ.name,.fz (c.typ.kids.map TType.ds),.fz (c.names.map strD),.fz (c.kids.map Term.ds)] :=rfl
theorem Term.dz_len (c:Term):c.dz.length=8:=rfl
theorem Term.dz_fz (c:Term):fzC c.ds=c.dz:=by rw [Term.ds_eq]; rfl
theorem Term.dz_ng (c:Term):∀d ∈ c.ds,d≠ .gone :=by rw [Term.ds_eq]; exact Iu rfl
@[go_sem] theorem Term.dz_er (l:List Term):erR (l.map Term.dz)=List.map Term.ds l:=Fp (fun c=>by rw [Term.ds_eq]; simp only [Term.dz,erC,er]) l
structure Def where
 name:ByteArray
 typ:TType
 body:Term
def Def.ds (c:Def):List D:=[.str c.name,.int .i64 c.typ.kind,.str c.typ.name,.sl (c.typ.kids.map TType.ds),.int .i64 c.body.kind,.int .i64 c.body.num,.str c.body.name,.int .i64 c.body.typ.kind,.str c.body.typ.name,.sl (c.body.typ.kids.map TType.ds),.sl (c.body.names.map strD),.sl (c.body.kids.map Term.ds)]
theorem Def.ds_eq (c:Def):c.ds=[.str c.name,.int .i64 c.typ.kind,.str c.typ.name,.sl (c.typ.kids.map TType.ds),.int .i64 c.body.kind,.int .i64 c.body.num,.str c.body.name,.int .i64 c.body.typ.kind,.str c.body.typ.name,.sl (c.body.typ.kids.map TType.ds),.sl (c.body.names.map strD),.sl (c.body.kids.map Term.ds)] :=rfl
@[go_sem] def Def.avs (c:Def):List AV:=[.str c.name,.int .i64 c.typ.kind,.str c.typ.name,.ro (c.typ.kids.map TType.ds),.int .i64 c.body.kind,.int .i64 c.body.num,.str c.body.name,.int .i64 c.body.typ.kind,.str c.body.typ.name,.ro (c.body.typ.kids.map TType.ds),.ro (c.body.names.map strD),.ro (c.body.kids.map Term.ds)]
@[go_sem] def Def.rv (c:Def):List RV:=[.str c.name,.int .i64 c.typ.kind,.str c.typ.name,.ow (some 3) (c.typ.kids.map TType.ds),.int .i64 c.body.kind,.int .i64 c.body.num,.str c.body.name,.int .i64 c.body.typ.kind,.str c.body.typ.name,.ow (some 3) (c.body.typ.kids.map TType.ds),.ow (some 1) (c.body.names.map strD),.ow (some 8) (c.body.kids.map Term.ds)]
@[go_sem] def Def.rvn (c:Def):List RV:=[.str c.name,.int .i64 c.typ.kind,.str c.typ.name,.ow none (c.typ.kids.map TType.ds),.int .i64 c.body.kind,.int .i64 c.body.num,.str c.body.name,.int .i64 c.body.typ.kind,.str c.body.typ.name,.ow none (c.body.typ.kids.map TType.ds),.ow none (c.body.names.map strD),.ow none (c.body.kids.map Term.ds)]
attribute [go_sem] Def.ds_eq
theorem Def.ds_len (c:Def):c.ds.length=12:=by rw [Def.ds_eq]; rfl
def Def.dz (c:Def):List D:=[.str c.name,.int .i64 c.typ.kind,.str c.typ.name,.fz (c.typ.kids.map TType.ds),.int .i64 c.body.kind,.int .i64 c.body.num,.str c.body.name,.int .i64 c.body.typ.kind,.str c.body.typ.name,.fz (c.body.typ.kids.map TType.ds),.fz (c.body.names.map strD),.fz (c.body.kids.map Term.ds)]
@[go_sem] theorem Def.dz_eq (c:Def):c.dz=[.str c.name,.int .i64 c.typ.kind,.str c.typ.name,.fz (c.typ.kids.map TType.ds),.int .i64 c.body.kind,.int .i64 c.body.num,.str c.body.name,.int .i64 c.body.typ.kind,.str c.body.typ.name,.fz (c.body.typ.kids.map TType.ds),.fz (c.body.names.map strD),.fz (c.body.kids.map Term.ds)] :=rfl
theorem Def.dz_len (c:Def):c.dz.length=12:=rfl
theorem Def.dz_fz (c:Def):fzC c.ds=c.dz:=by rw [Def.ds_eq]; rfl
theorem Def.dz_ng (c:Def):∀d ∈ c.ds,d≠ .gone :=by rw [Def.ds_eq]; exact Iu rfl
@[go_sem] theorem Def.dz_er (l:List Def):erR (l.map Def.dz)=List.map Def.ds l:=Fp (fun c=>by rw [Def.ds_eq]; simp only [Def.dz,erC,er]) l
structure Constructor where
 name:ByteArray
 fields:List TType
def Constructor.ds (c:Constructor):List D:=[.str c.name,.sl (c.fields.map TType.ds)]
theorem Constructor.ds_eq (c:Constructor):c.ds=[.str c.name,.sl (c.fields.map TType.ds)] :=rfl
@[go_sem] def Constructor.avs (c:Constructor):List AV:=[.str c.name,.ro (c.fields.map TType.ds)]
@[go_sem] def Constructor.rv (c:Constructor):List RV:=[.str c.name,.ow (some 3) (c.fields.map TType.ds)]
@[go_sem] def Constructor.rvn (c:Constructor):List RV:=[.str c.name,.ow none (c.fields.map TType.ds)]
attribute [go_sem] Constructor.ds_eq
theorem Constructor.ds_len (c:Constructor):c.ds.length=2:=by rw [Constructor.ds_eq]; rfl
def Constructor.dz (c:Constructor):List D:=[.str c.name,.fz (c.fields.map TType.ds)]
@[go_sem] theorem Constructor.dz_eq (c:Constructor):c.dz=[.str c.name,.fz (c.fields.map TType.ds)] :=rfl
theorem Constructor.dz_len (c:Constructor):c.dz.length=2:=rfl
theorem Constructor.dz_fz (c:Constructor):fzC c.ds=c.dz:=by rw [Constructor.ds_eq]; rfl
theorem Constructor.dz_ng (c:Constructor):∀d ∈ c.ds,d≠ .gone :=by rw [Constructor.ds_eq]; exact Iu rfl
@[go_sem] theorem Constructor.dz_er (l:List Constructor):erR (l.map Constructor.dz)=List.map Constructor.ds l:=Fp (fun c=>by rw [Constructor.ds_eq]; simp only [Constructor.dz,erC,er]) l
structure Data where
 name:ByteArray
 cons:List Constructor
def Data.ds (c:Data):List D:=[.str c.name,.sl (c.cons.map Constructor.ds)]
theorem Data.ds_eq (c:Data):c.ds=[.str c.name,.sl (c.cons.map Constructor.ds)] :=rfl
@[go_sem] def Data.avs (c:Data):List AV:=[.str c.name,.ro (c.cons.map Constructor.ds)]
@[go_sem] def Data.rv (c:Data):List RV:=[.str c.name,.ow (some 2) (c.cons.map Constructor.ds)]
@[go_sem] def Data.rvn (c:Data):List RV:=[.str c.name,.ow none (c.cons.map Constructor.ds)]
attribute [go_sem] Data.ds_eq
theorem Data.ds_len (c:Data):c.ds.length=2:=by rw [Data.ds_eq]; rfl
def Data.dz (c:Data):List D:=[.str c.name,.fz (c.cons.map Constructor.ds)]
@[go_sem] theorem Data.dz_eq (c:Data):c.dz=[.str c.name,.fz (c.cons.map Constructor.ds)] :=rfl
theorem Data.dz_len (c:Data):c.dz.length=2:=rfl
theorem Data.dz_fz (c:Data):fzC c.ds=c.dz:=by rw [Data.ds_eq]; rfl
theorem Data.dz_ng (c:Data):∀d ∈ c.ds,d≠ .gone :=by rw [Data.ds_eq]; exact Iu rfl
@[go_sem] theorem Data.dz_er (l:List Data):erR (l.map Data.dz)=List.map Data.ds l:=Fp (fun c=>by rw [Data.ds_eq]; simp only [Data.dz,erC,er]) l
structure TProgram where
 datas:List Data
 defs:List Def
def TProgram.ds (c:TProgram):List D:=[.sl (c.datas.map Data.ds),.sl (c.defs.map Def.ds)]
theorem TProgram.ds_eq (c:TProgram):c.ds=[.sl (c.datas.map Data.ds),.sl (c.defs.map Def.ds)] :=rfl
@[go_sem] def TProgram.avs (c:TProgram):List AV:=[.ro (c.datas.map Data.ds),.ro (c.defs.map Def.ds)]
@[go_sem] def TProgram.rv (c:TProgram):List RV:=[.ow (some 2) (c.datas.map Data.ds),.ow (some 12) (c.defs.map Def.ds)]
@[go_sem] def TProgram.rvn (c:TProgram):List RV:=[.ow none (c.datas.map Data.ds),.ow none (c.defs.map Def.ds)]
attribute [go_sem] TProgram.ds_eq
theorem TProgram.ds_len (c:TProgram):c.ds.length=2:=by rw [TProgram.ds_eq]; rfl
def TProgram.dz (c:TProgram):List D:=[.fz (c.datas.map Data.ds),.fz (c.defs.map Def.ds)]
@[go_sem] theorem TProgram.dz_eq (c:TProgram):c.dz=[.fz (c.datas.map Data.ds),.fz (c.defs.map Def.ds)] :=rfl
theorem TProgram.dz_len (c:TProgram):c.dz.length=2:=rfl
theorem TProgram.dz_fz (c:TProgram):fzC c.ds=c.dz:=by rw [TProgram.ds_eq]; rfl
theorem TProgram.dz_ng (c:TProgram):∀d ∈ c.ds,d≠ .gone :=by rw [TProgram.ds_eq]; exact Iu rfl
@[go_sem] theorem TProgram.dz_er (l:List TProgram):erR (l.map TProgram.dz)=List.map TProgram.ds l:=Fp (fun c=>by rw [TProgram.ds_eq]; simp only [TProgram.dz,erC,er]) l
def Ew (a0:List ByteArray) (n:Int):Option (List ByteArray):=if a0.length=0∧0≤n∧n≤68719476736 then some [] else none
def HW (a0:Int) (a1:Int) (a2:Int):Option (Bool):=
 (if (decide (a1≤a0))=true then (some (decide (a0≤a2))) else (some false))
def C6:Nat→(List Def)→ByteArray→Int→Option (Int)
 |0,_,_,_=>none
 |n+1,a0,a1,p0_0=>(if (decide (p0_0<(a0.length:Int)))=true then ((at? a0 p0_0).bind fun v5002=>(if (sameStr v5002.name a1)=true then (some p0_0) else (C6 n a0 a1 (IntKind.i64.wrap (p0_0+1))))) else (some (-1)))
def Fw (a0:List Def) (a1:ByteArray):Option (Int):=
 (C6 fuel a0 a1 0)
def C7:Nat→(List Data)→ByteArray→Int→Option (Int)
 |0,_,_,_=>none
 |n+1,a0,a1,p0_0=>(if (decide (p0_0<(a0.length:Int)))=true then ((at? a0 p0_0).bind fun v5002=>(if (sameStr v5002.name a1)=true then (some p0_0) else (C7 n a0 a1 (IntKind.i64.wrap (p0_0+1))))) else (some (-1)))
def Gg (a0:List Data) (a1:ByteArray):Option (Int):=
 (C7 fuel a0 a1 0)
def F4 (a0:Int):Option (Bool):=
 (if (decide (97≤a0))=true then (if (decide (a0≤122))=true then (some true) else (if (decide (65≤a0))=true then (some (decide (a0≤90))) else (some false))) else (if (decide (65≤a0))=true then (some (decide (a0≤90))) else (some false)))
def Fe:Option ((List ByteArray)):=
 (some [(ByteArray.mk #[100,97,116,97]),(ByteArray.mk #[100,101,102]),(ByteArray.mk #[108,101,116]),(ByteArray.mk #[105,110]),(ByteArray.mk #[109,97,116,99,104]),(ByteArray.mk #[105,102]),(ByteArray.mk #[116,104,101,110]),(ByteArray.mk #[101,108,115,101])])
def CI:Nat→ByteArray→Int→Option (Bool)
 |0,_,_=>none
 |n+1,a0,p0_0=>(Option.bind Fe fun v3001=>(if (decide (p0_0<(v3001.length:Int)))=true then (Option.bind Fe fun v5000=>((at? v5000 p0_0).bind fun v5002=>(if (sameStr v5002 a0)=true then (some true) else (CI n a0 (IntKind.i64.wrap (p0_0+1)))))) else (some false)))
def Gy (a0:ByteArray):Option (Bool):=
 (CI fuel a0 0)
def IA (a0:Int):Option (Bool):=
 (if (decide (48≤a0))=true then (some (decide (a0≤57))) else (some false))
mutual
def Dc:Nat→ByteArray→Int→Option (Bool)
 |0,_,_=>none
 |n+1,a0,p1_0=>(if (decide (p1_0<(a0.size:Int)))=true then ((atB a0 p1_0).bind fun v7002=>((F4 v7002).bind fun v7003=>(if (!v7003)=true then ((atB a0 p1_0).bind fun v7008=>((IA v7008).bind fun v7009=>(Ex n a0 p1_0 (!v7009)))) else (Ex n a0 p1_0 false)))) else (some true))
def Ex:Nat→ByteArray→Int→Bool→Option (Bool)
 |0,_,_,_=>none
 |n+1,a0,p1_0,p2_0=>(if p2_0=true then (some false) else (Dc n a0 (IntKind.i64.wrap (p1_0+1))))
end
def Ey (a0:ByteArray) (p0_0:Bool):Option (Bool):=
 (if p0_0=true then (some false) else (Dc fuel a0 0))
def JH (a0:ByteArray):Option (Bool):=
 (if (decide ((a0.size:Int)<1))=true then (Ey a0 true) else (if (decide (12<(a0.size:Int)))=true then (Ey a0 true) else ((atB a0 0).bind fun v2010=>((F4 v2010).bind fun v2011=>(if (!v2011)=true then (Ey a0 true) else ((Gy a0).bind fun v2016=>(Ey a0 v2016)))))))
def FM (a0:ByteArray):Option (Bool):=
 ((JH a0).bind fun v2001=>(if v2001=true then ((atB a0 0).bind fun v2004=>(some (decide (v2004≤90)))) else (some false)))
mutual
def Dm:Nat→(List Data)→TType→Option (Bool)
 |0,_,_=>none
 |n+1,a0,a1=>(if (decide (a1.kind=2))=true then ((Gg a0 a1.name).bind fun v3003=>(some (decide (0≤v3003)))) else (CF n a0 a1 0))
def CF:Nat→(List Data)→TType→Int→Option (Bool)
 |0,_,_,_=>none
 |n+1,a0,a1,p1_0=>(if (decide (p1_0<(a1.kids.length:Int)))=true then ((at? a1.kids p1_0).bind fun v7004=>((Dm n a0 v7004).bind fun v7006=>(if (!v7006)=true then (some false) else (CF n a0 a1 (IntKind.i64.wrap (p1_0+1)))))) else (some true))
end
mutual
def EI:Nat→TType→Int→Option (Int)
 |0,_,_=>none
 |n+1,a0,a1=>(if (decide (a1<1))=true then (some (-1)) else (if (decide (a0.kind=1))=true then (C8 n a0 a1 0) else (if (decide (a0.kind=2))=true then ((FM a0.name).bind fun v9002=>(if (!v9002)=true then (Ec n a0 a1 true) else (Ec n a0 a1 (sameStr a0.name (ByteArray.mk #[73,110,116]))))) else (if (decide (a0.kind=3))=true then (C8 n a0 a1 2) else (if (decide (a0.kind=4))=true then (C8 n a0 a1 1) else (some (-1)))))))
def C8:Nat→TType→Int→Int→Option (Int)
 |0,_,_,_=>none
 |n+1,a0,a1,p1_0=>(if (!decide ((a0.kids.length:Int)=p1_0))=true then (Dn n a0 a1 true) else (if (!decide (a0.kind=2))=true then (Dn n a0 a1 (!sameStr a0.name (ByteArray.mk #[]))) else (Dn n a0 a1 false)))
def Dn:Nat→TType→Int→Bool→Option (Int)
 |0,_,_,_=>none
 |n+1,a0,a1,p2_0=>(if p2_0=true then (some (-1)) else (B1 n a0 a1 1 0))
def B1:Nat→TType→Int→Int→Int→Option (Int)
 |0,_,_,_,_=>none
 |n+1,a0,a1,p4_0,p4_1=>(if (decide (p4_1<(a0.kids.length:Int)))=true then ((at? a0.kids p4_1).bind fun v21003=>((EI n v21003 (IntKind.i64.wrap (a1 - 1))).bind fun v21007=>(if (decide (v21007<0))=true then (some (-1)) else (B1 n a0 a1 (IntKind.i64.wrap (p4_0+v21007)) (IntKind.i64.wrap (p4_1+1)))))) else (some p4_0))
def Ec:Nat→TType→Int→Bool→Option (Int)
 |0,_,_,_=>none
 |n+1,a0,a1,p0_0=>(if p0_0=true then (some (-1)) else (C8 n a0 a1 0))
end
def Ez (a0:TType):Option (Bool):=
 ((EI fuel a0 6).bind fun v2001=>((HW v2001 1 16).bind fun v2002=>(some v2002)))
mutual
def CJ:Nat→(List Data)→Constructor→Int→Option (Bool)
 |0,_,_,_=>none
 |n+1,a0,a1,p3_0=>(if (decide (p3_0<(a1.fields.length:Int)))=true then ((at? a1.fields p3_0).bind fun v7003=>((Ez v7003).bind fun v7005=>(if (!v7005)=true then (EJ n a0 a1 p3_0 true) else ((at? a1.fields p3_0).bind fun v7012=>((Dm fuel a0 v7012).bind fun v7014=>(EJ n a0 a1 p3_0 (!v7014))))))) else (some true))
def EJ:Nat→(List Data)→Constructor→Int→Bool→Option (Bool)
 |0,_,_,_,_=>none
 |n+1,a0,a1,p3_0,p4_0=>(if p4_0=true then (some false) else (CJ n a0 a1 (IntKind.i64.wrap (p3_0+1))))
end
def GH (a0:List Data) (a1:Constructor) (p0_0:Bool):Option (Bool):=
 (if p0_0=true then (some false) else (CJ fuel a0 a1 0))
def JI (a0:List Data) (a1:Constructor):Option (Bool):=
 ((FM a1.name).bind fun v2002=>(if (!v2002)=true then (GH a0 a1 true) else (GH a0 a1 (decide (3<(a1.fields.length:Int))))))
mutual
def Bm:Nat→(List Data)→(List ByteArray)→Int→Option (Bool)
 |0,_,_,_=>none
 |n+1,a0,p12_0,p12_1=>(if (decide (p12_1<(a0.length:Int)))=true then ((at? a0 p12_1).bind fun v8002=>((FM v8002.name).bind fun v9002=>(if (!v9002)=true then (C2 n a0 p12_0 p12_1 v8002 true) else (if (sameStr v8002.name (ByteArray.mk #[73,110,116]))=true then (C2 n a0 p12_0 p12_1 v8002 true) else ((Gg a0 v8002.name).bind fun v9013=>(if (!decide (v9013=p12_1))=true then (C2 n a0 p12_0 p12_1 v8002 true) else (if (decide ((v8002.cons.length:Int)<1))=true then (C2 n a0 p12_0 p12_1 v8002 true) else (C2 n a0 p12_0 p12_1 v8002 (decide (4<(v8002.cons.length:Int))))))))))) else (some true))
def C2:Nat→(List Data)→(List ByteArray)→Int→Data→Bool→Option (Bool)
 |0,_,_,_,_,_=>none
 |n+1,a0,p12_0,p12_1,v8002,p13_0=>(if p13_0=true then (some false) else (Bn n a0 p12_1 v8002 p12_0 0))
def Bn:Nat→(List Data)→Int→Data→(List ByteArray)→Int→Option (Bool)
 |0,_,_,_,_,_=>none
 |n+1,a0,p12_1,v8002,p19_0,p19_1=>(if (decide (p19_1<(v8002.cons.length:Int)))=true then ((at? v8002.cons p19_1).bind fun v14004=>((JI a0 v14004).bind fun v14006=>(if (!v14006)=true then (some false) else (CK n a0 p12_1 p19_0 p19_1 v8002 0)))) else (Bm n a0 p19_0 (IntKind.i64.wrap (p12_1+1))))
def CK:Nat→(List Data)→Int→(List ByteArray)→Int→Data→Int→Option (Bool)
 |0,_,_,_,_,_,_=>none
 |n+1,a0,p12_1,p19_0,p19_1,v8002,p23_0=>(if (decide (p23_0<(p19_0.length:Int)))=true then ((at? p19_0 p23_0).bind fun v19002=>((at? v8002.cons p19_1).bind fun v19007=>(if (sameStr v19002 v19007.name)=true then (some false) else (CK n a0 p12_1 p19_0 p19_1 v8002 (IntKind.i64.wrap (p23_0+1)))))) else ((at? v8002.cons p19_1).bind fun v21004=>((IV p19_0 [v21004.name]).bind fun v21008=>(Bn n a0 p12_1 v8002 v21008 (IntKind.i64.wrap (p19_1+1))))))
end
def NG (a0:List Data):Option (Bool):=
 (if (decide (4<(a0.length:Int)))=true then (some false) else (Bm fuel a0 [] 0))
def Gi (a0:ByteArray):Option (Bool):=
 ((JH a0).bind fun v2001=>(if v2001=true then ((atB a0 0).bind fun v2004=>(some (decide (97≤v2004)))) else (some false)))
def FN (a0:Int) (p2_0:Bool):Option (Int × Int):=
 (if p2_0=true then (some (2,2)) else (if (decide (a0=8))=true then (some (0,3)) else (if (decide (a0=9))=true then (some (2,5)) else (if (decide (a0=11))=true then (some (3,3)) else (some (0,(-1)))))))
def FO (a0:Int) (p1_0:Bool):Option (Int × Int):=
 (if p1_0=true then (some (1,1)) else (if (decide (a0=3))=true then (FN a0 (decide (a0=3))) else (if (decide (a0=5))=true then (FN a0 (decide (a0=5))) else (FN a0 (decide (a0=7))))))
def GI (a0:Int) (p0_0:Bool):Option (Int × Int):=
 (if p0_0=true then (some (0,0)) else (if (decide (a0=4))=true then (FO a0 (decide (a0=4))) else (if (decide (a0=6))=true then (FO a0 (decide (a0=6))) else (FO a0 (decide (a0=10))))))
def JJ (a0:Int):Option (Int × Int):=
 (if (decide (a0=1))=true then (GI a0 (decide (a0=1))) else (GI a0 (decide (a0=2))))
def F5 (a0:TType):Option (Bool):=
 (if (decide (a0.kind=0))=true then (if (sameStr a0.name (ByteArray.mk #[]))=true then (some (decide ((a0.kids.length:Int)=0))) else (some false)) else (some false))
def E0:Nat→(List ByteArray)→ByteArray→Int→Option (Int)
 |0,_,_,_=>none
 |n+1,a0,a1,p0_0=>(if (decide (0≤p0_0))=true then ((at? a0 p0_0).bind fun v5002=>(if (sameStr v5002 a1)=true then (some p0_0) else (E0 n a0 a1 (IntKind.i64.wrap (p0_0 - 1))))) else (some (-1)))
def HX (a0:List ByteArray) (a1:ByteArray):Option (Int):=
 (E0 fuel a0 a1 (IntKind.i64.wrap ((a0.length:Int) - 1)))
mutual
def A4:Nat→(List ByteArray)→Int→Option (Bool)
 |0,_,_=>none
 |n+1,a0,p0_0=>(if (decide (p0_0<(a0.length:Int)))=true then ((at? a0 p0_0).bind fun v5002=>((Gi v5002).bind fun v5004=>(if (!v5004)=true then (DC n a0 p0_0 true) else ((cutL a0 0 p0_0).bind fun v5009=>((at? a0 p0_0).bind fun v5012=>((HX v5009 v5012).bind fun v5014=>(DC n a0 p0_0 (decide (0≤v5014))))))))) else (some true))
def DC:Nat→(List ByteArray)→Int→Bool→Option (Bool)
 |0,_,_,_=>none
 |n+1,a0,p0_0,p1_0=>(if p1_0=true then (some false) else (A4 n a0 (IntKind.i64.wrap (p0_0+1))))
end
def Ff (a0:List ByteArray):Option (Bool):=
 (A4 fuel a0 0)
def E1 (a0:Term):Option (Bool):=
 (if (decide (a0.kind=2))=true then ((HW a0.num (-2147483648) 2147483647).bind fun v15004=>(some v15004)) else (if (decide (a0.kind=3))=true then ((HW a0.num 1 6).bind fun v17004=>(some v17004)) else (some (decide (a0.num=0)))))
def E2 (a0:Term) (p4_0:Bool):Option (Bool):=
 (if p4_0=true then (some false) else (E1 a0))
def Cf (a0:Term) (p3_0:Bool):Option (Bool):=
 (if p3_0=true then (some false) else (if (decide (a0.kind=10))=true then (if (decide (3<(a0.names.length:Int)))=true then (E2 a0 true) else ((Ff a0.names).bind fun v9011=>(E2 a0 (!v9011)))) else (if (decide (0<(a0.names.length:Int)))=true then (some false) else (E1 a0))))
def Ak (a0:Term) (p2_0:Bool):Option (Bool):=
 (if p2_0=true then (some false) else (if (decide (a0.kind=4))=true then ((Ez a0.typ).bind fun v6010=>(if (!v6010)=true then (Cf a0 true) else (if (!decide (a0.kind=4))=true then ((F5 a0.typ).bind fun v6024=>(Cf a0 (!v6024))) else (Cf a0 false)))) else (if (!decide (a0.kind=4))=true then ((F5 a0.typ).bind fun v6024=>(Cf a0 (!v6024))) else (Cf a0 false))))
def E3 (a0:Term) (p0_0:Bool) (p1_0:Bool):Option (Bool):=
 (if p0_0=true then ((Gi a0.name).bind fun v4006=>(if (!v4006)=true then (Ak a0 true) else (if p1_0=true then ((FM a0.name).bind fun v4016=>(if (!v4016)=true then (Ak a0 true) else (if (!p0_0)=true then (if (!p1_0)=true then (Ak a0 (!sameStr a0.name (ByteArray.mk #[]))) else (Ak a0 false)) else (Ak a0 false)))) else (if (!p0_0)=true then (if (!p1_0)=true then (Ak a0 (!sameStr a0.name (ByteArray.mk #[]))) else (Ak a0 false)) else (Ak a0 false))))) else (if p1_0=true then ((FM a0.name).bind fun v4016=>(if (!v4016)=true then (Ak a0 true) else (if (!p0_0)=true then (if (!p1_0)=true then (Ak a0 (!sameStr a0.name (ByteArray.mk #[]))) else (Ak a0 false)) else (Ak a0 false)))) else (if (!p0_0)=true then (if (!p1_0)=true then (Ak a0 (!sameStr a0.name (ByteArray.mk #[]))) else (Ak a0 false)) else (Ak a0 false))))
def Dz (a0:Term) (p0_0:Bool):Option (Bool):=
 (if (decide (a0.kind=8))=true then (E3 a0 p0_0 true) else (E3 a0 p0_0 (decide (a0.kind=10))))
def Gz (a0:Term):Option (Bool):=
 (if (decide (a0.kind=1))=true then (Dz a0 true) else (if (decide (a0.kind=4))=true then (Dz a0 true) else (Dz a0 (decide (a0.kind=7)))))
mutual
def EK:Nat→Term→Int→Bool→Int→Option (Int)
 |0,_,_,_,_=>none
 |n+1,a0,a1,a2,a3=>((JJ a0.kind).bind fun v2004=>(if (decide (a1<1))=true then (Ce n a0 a1 a3 true) else (if (decide (a3<1))=true then (Ce n a0 a1 a3 true) else (if (!((decide (a0.kind=10)) == a2))=true then (Ce n a0 a1 a3 true) else ((HW (a0.kids.length:Int) v2004.1 v2004.2).bind fun v3023=>(if (!v3023)=true then (Ce n a0 a1 a3 true) else ((Gz a0).bind fun v3028=>(Ce n a0 a1 a3 (!v3028)))))))))
def Ce:Nat→Term→Int→Int→Bool→Option (Int)
 |0,_,_,_,_=>none
 |n+1,a0,a1,a3,p0_0=>(if p0_0=true then (some (-1)) else (Bi n a0 a1 a3 1 0))
def Bi:Nat→Term→Int→Int→Int→Int→Option (Int)
 |0,_,_,_,_,_=>none
 |n+1,a0,a1,a3,p1_0,p1_1=>(if (decide (p1_1<(a0.kids.length:Int)))=true then ((at? a0.kids p1_1).bind fun v9005=>(if (decide (a0.kind=9))=true then ((EK n v9005 (IntKind.i64.wrap (a1 - 1)) (decide (0<p1_1)) (IntKind.i64.wrap (a3 - p1_0))).bind fun v9020=>(Ed n a0 a1 a3 p1_0 p1_1 v9020)) else ((EK n v9005 (IntKind.i64.wrap (a1 - 1)) false (IntKind.i64.wrap (a3 - p1_0))).bind fun v9020=>(Ed n a0 a1 a3 p1_0 p1_1 v9020)))) else (some p1_0))
def Ed:Nat→Term→Int→Int→Int→Int→Int→Option (Int)
 |0,_,_,_,_,_,_=>none
 |n+1,a0,a1,a3,p1_0,p1_1,v9020=>(if (decide (v9020<0))=true then (some (-1)) else (Bi n a0 a1 a3 (IntKind.i64.wrap (p1_0+v9020)) (IntKind.i64.wrap (p1_1+1))))
end
def NH (a0:Term):Option (Bool):=
 ((EK fuel a0 24 false 160).bind fun v2001=>(some (decide (0<v2001))))
mutual
def BE:Nat→TProgram→Int→Option (Bool)
 |0,_,_=>none
 |n+1,a0,p1_0=>(if (decide (p1_0<(a0.defs.length:Int)))=true then ((at? a0.defs p1_0).bind fun v7005=>((Gi v7005.name).bind fun v8004=>(if (!v8004)=true then (CU n a0 p1_0 true) else ((Fw a0.defs v7005.name).bind fun v8015=>(if (!decide (v8015=p1_0))=true then (CU n a0 p1_0 true) else ((Ez v7005.typ).bind fun v8024=>(if (!v8024)=true then (CU n a0 p1_0 true) else ((NH v7005.body).bind fun v8031=>(CU n a0 p1_0 (!v8031)))))))))) else (some true))
def CU:Nat→TProgram→Int→Bool→Option (Bool)
 |0,_,_,_=>none
 |n+1,a0,p1_0,p2_0=>(if p2_0=true then (some false) else (BE n a0 (IntKind.i64.wrap (p1_0+1))))
end
def EX (a0:TProgram) (p0_0:Bool):Option (Bool):=
 (if p0_0=true then (some false) else (BE fuel a0 0))
def GJ (a0:TProgram):Option (Bool):=
 ((NG a0.datas).bind fun v2004=>(if (!v2004)=true then (EX a0 true) else ((HW (a0.defs.length:Int) 1 8).bind fun v2012=>(EX a0 (!v2012)))))
def Lb (a0:List ByteArray) (a1:List ByteArray):Option ((List ByteArray)):=
 ((IV [] a0).bind fun v2002=>((IV v2002 a1).bind fun v2004=>(some v2004)))
def Ee (a0:Term) (p0_0:Bool):Option ((List ByteArray)):=
 (if p0_0=true then (some [a0.name]) else (if (decide (a0.kind=10))=true then (some a0.names) else (some [])))
def IB (a0:Term) (a1:Int):Option ((List ByteArray)):=
 (if (decide (a0.kind=4))=true then (Ee a0 true) else (if (decide (a0.kind=7))=true then (Ee a0 (decide (a1=1))) else (Ee a0 false)))
mutual
def F6:Nat→Term→(List ByteArray)→(List ByteArray)→Option ((List ByteArray))
 |0,_,_,_=>none
 |n+1,a0,a1,a2=>(if (decide (a0.kind=1))=true then ((HX a1 a0.name).bind fun v2011=>(if (decide (v2011<0))=true then ((HX a2 a0.name).bind fun v2020=>(EL n a0 a1 a2 (decide (v2020<0)))) else (EL n a0 a1 a2 false))) else (EL n a0 a1 a2 false))
def EL:Nat→Term→(List ByteArray)→(List ByteArray)→Bool→Option ((List ByteArray))
 |0,_,_,_,_=>none
 |n+1,a0,a1,a2,p0_0=>(if p0_0=true then ((IV a2 [a0.name]).bind fun v3006=>(FP n a0 a1 v3006)) else (FP n a0 a1 a2))
def FP:Nat→Term→(List ByteArray)→(List ByteArray)→Option ((List ByteArray))
 |0,_,_,_=>none
 |n+1,a0,a1,p1_0=>(B6 n a0 a1 p1_0 0)
def B6:Nat→Term→(List ByteArray)→(List ByteArray)→Int→Option ((List ByteArray))
 |0,_,_,_,_=>none
 |n+1,a0,a1,p3_0,p3_1=>(if (decide (p3_1<(a0.kids.length:Int)))=true then ((at? a0.kids p3_1).bind fun v7005=>((IB a0 p3_1).bind fun v7009=>((Lb a1 v7009).bind fun v7010=>((F6 n v7005 v7010 p3_0).bind fun v7012=>(B6 n a0 a1 v7012 (IntKind.i64.wrap (p3_1+1))))))) else (some p3_0))
end
mutual
def Ay:Nat→(List Data)→ByteArray→Int→Option (Int × Int)
 |0,_,_,_=>none
 |n+1,a0,a1,p0_0=>(if (decide (p0_0<(a0.length:Int)))=true then (A3 n a0 a1 p0_0 0) else (some ((-1),(-1))))
def A3:Nat→(List Data)→ByteArray→Int→Int→Option (Int × Int)
 |0,_,_,_,_=>none
 |n+1,a0,a1,p0_0,p1_0=>((at? a0 p0_0).bind fun v6003=>(if (decide (p1_0<(v6003.cons.length:Int)))=true then ((at? a0 p0_0).bind fun v8002=>((at? v8002.cons p1_0).bind fun v8006=>(if (sameStr v8006.name a1)=true then (some (p0_0,p1_0)) else (A3 n a0 a1 p0_0 (IntKind.i64.wrap (p1_0+1)))))) else (Ay n a0 a1 (IntKind.i64.wrap (p0_0+1)))))
end
def BP (a0:List Data) (a1:ByteArray):Option (Int × Int):=
 (Ay fuel a0 a1 0)
mutual
def C9:Nat→(List Data)→Term→Option (Bool)
 |0,_,_=>none
 |n+1,a0,a1=>(if (decide (a1.kind=4))=true then ((Dm fuel a0 a1.typ).bind fun v2011=>(DD n a0 a1 (!v2011))) else (DD n a0 a1 false))
def DD:Nat→(List Data)→Term→Bool→Option (Bool)
 |0,_,_,_=>none
 |n+1,a0,a1,p0_0=>(if p0_0=true then (some false) else (if (decide (a1.kind=8))=true then (DE n a0 a1 true) else (DE n a0 a1 (decide (a1.kind=10)))))
def DE:Nat→(List Data)→Term→Bool→Option (Bool)
 |0,_,_,_=>none
 |n+1,a0,a1,p1_0=>(if p1_0=true then ((BP a0 a1.name).bind fun v5005=>(if (decide (v5005.1 <0))=true then (some false) else (DF n a0 a1))) else (DF n a0 a1))
def DF:Nat→(List Data)→Term→Option (Bool)
 |0,_,_=>none
 |n+1,a0,a1=>(BF n a0 a1 0)
def BF:Nat→(List Data)→Term→Int→Option (Bool)
 |0,_,_,_=>none
 |n+1,a0,a1,p3_0=>(if (decide (p3_0<(a1.kids.length:Int)))=true then ((at? a1.kids p3_0).bind fun v11006=>((C9 n a0 v11006).bind fun v11007=>(if (!v11007)=true then (some false) else (BF n a0 a1 (IntKind.i64.wrap (p3_0+1)))))) else (some true))
end
mutual
def BG:Nat→Term→Data→Int→Option (Bool)
 |0,_,_,_=>none
 |n+1,a1,v3002,p0_0=>(if (decide (p0_0<(v3002.cons.length:Int)))=true then ((at? a1.kids (IntKind.i64.wrap (p0_0+1))).bind fun v9006=>((at? v3002.cons p0_0).bind fun v9011=>(if (!sameStr v9006.name v9011.name)=true then (DG n a1 p0_0 v3002 true) else ((at? a1.kids (IntKind.i64.wrap (p0_0+1))).bind fun v9022=>((at? v3002.cons p0_0).bind fun v9028=>(DG n a1 p0_0 v3002 (!decide ((v9022.names.length:Int)=(v9028.fields.length:Int))))))))) else (some true))
def DG:Nat→Term→Int→Data→Bool→Option (Bool)
 |0,_,_,_,_=>none
 |n+1,a1,p0_0,v3002,p1_0=>(if p1_0=true then (some false) else (BG n a1 v3002 (IntKind.i64.wrap (p0_0+1))))
end
def Fg (a0:List Data) (a1:Term):Option (Bool):=
 ((at? a1.kids 1).bind fun v2005=>((BP a0 v2005.name).bind fun v2008=>((at? a0 v2008.1).bind fun v3002=>(if (!decide ((a1.kids.length:Int)=(IntKind.i64.wrap ((v3002.cons.length:Int)+1))))=true then (some false) else (BG fuel a1 v3002 0)))))
mutual
def Cg:Nat→(List Data)→Term→Option (Bool)
 |0,_,_=>none
 |n+1,a0,a1=>(if (decide (a1.kind=8))=true then ((BP a0 a1.name).bind fun v4005=>((at? a0 v4005.1).bind fun v5002=>((at? v5002.cons v4005.2).bind fun v5006=>(if (!decide ((v5006.fields.length:Int)=(a1.kids.length:Int)))=true then (some false) else (CL n a0 a1))))) else (if (decide (a1.kind=9))=true then ((Fg a0 a1).bind fun v8002=>(if (!v8002)=true then (some false) else (CL n a0 a1))) else (CL n a0 a1)))
def CL:Nat→(List Data)→Term→Option (Bool)
 |0,_,_=>none
 |n+1,a0,a1=>(A6 n a0 a1 0)
def A6:Nat→(List Data)→Term→Int→Option (Bool)
 |0,_,_,_=>none
 |n+1,a0,a1,p1_0=>(if (decide (p1_0<(a1.kids.length:Int)))=true then ((at? a1.kids p1_0).bind fun v13006=>((Cg n a0 v13006).bind fun v13007=>(if (!v13007)=true then (some false) else (A6 n a0 a1 (IntKind.i64.wrap (p1_0+1)))))) else (some true))
end
def BN:Nat→TProgram→Int→Option (Int)
 |0,_,_=>none
 |n+1,a0,p10_0=>(if (decide (p10_0<(a0.defs.length:Int)))=true then ((at? a0.defs p10_0).bind fun v19009=>((Cg fuel a0.datas v19009.body).bind fun v19011=>(if (!v19011)=true then (some 2) else (BN n a0 (IntKind.i64.wrap (p10_0+1)))))) else (some 0))
mutual
def BO:Nat→TProgram→Int→Option (Int)
 |0,_,_=>none
 |n+1,a0,p0_0=>(if (decide (p0_0<(a0.defs.length:Int)))=true then ((at? a0.defs p0_0).bind fun v7005=>((F6 fuel v7005.body [] []).bind fun v8003=>(Bc n a0 p0_0 v7005 v8003 0))) else (BN fuel a0 0))
def Bc:Nat→TProgram→Int→Def→(List ByteArray)→Int→Option (Int)
 |0,_,_,_,_,_=>none
 |n+1,a0,p0_0,v7005,v8003,p9_0=>(if (decide (p9_0<(v8003.length:Int)))=true then ((at? v8003 p9_0).bind fun v12006=>((Fw a0.defs v12006).bind fun v12008=>(if (decide (v12008<0))=true then (some 7) else (Bc n a0 p0_0 v7005 v8003 (IntKind.i64.wrap (p9_0+1)))))) else ((Dm fuel a0.datas v7005.typ).bind fun v14008=>(if (!v14008)=true then (D0 n a0 p0_0 true) else ((C9 fuel a0.datas v7005.body).bind fun v14018=>(D0 n a0 p0_0 (!v14018))))))
def D0:Nat→TProgram→Int→Bool→Option (Int)
 |0,_,_,_=>none
 |n+1,a0,p0_0,p3_0=>(if p3_0=true then (some 7) else (BO n a0 (IntKind.i64.wrap (p0_0+1))))
end
def IC (a0:TProgram):Option (Int):=
 ((GJ a0).bind fun v2001=>(if (!v2001)=true then (some 1) else (BO fuel a0 0)))
def JK (a0:Int):Option (Bool):=
 (if (decide (48≤a0))=true then (some (decide (a0≤57))) else (some false))
def Bd:Nat→(List ByteArray)→ByteArray→Int→Option (Int)
 |0,_,_,_=>none
 |n+1,a0,a1,p0_0=>(if (decide (p0_0<(a0.length:Int)))=true then ((at? a0 p0_0).bind fun v5003=>(if (sameStr a1 v5003)=true then (some p0_0) else (Bd n a0 a1 (IntKind.i64.wrap (p0_0+1))))) else (some (-1)))
def EY (a0:List ByteArray) (a1:ByteArray):Option (Int):=
 (Bd fuel a0 a1 0)
def BM (a0:List ByteArray) (a1:ByteArray):Option (Bool):=
 ((EY a0 a1).bind fun v2002=>(some (decide (0≤v2002))))
def G0 (a0:ByteArray):Option (Bool):=
 ((BM [(ByteArray.mk #[100,97,116,97]),(ByteArray.mk #[100,101,102]),(ByteArray.mk #[108,101,116]),(ByteArray.mk #[105,110]),(ByteArray.mk #[109,97,116,99,104]),(ByteArray.mk #[105,102]),(ByteArray.mk #[116,104,101,110]),(ByteArray.mk #[101,108,115,101])] a0).bind fun v2002=>(some v2002))
def Hq (a0:Int):Option (Bool):=
 (if (decide (97≤a0))=true then (some (decide (a0≤122))) else (some false))
def F7 (a0:Int):Option (Bool):=
 (if (decide (65≤a0))=true then (some (decide (a0≤90))) else (some false))
def GK (a0:Int):Option (Bool):=
 ((Hq a0).bind fun v2001=>(if v2001=true then (some true) else ((F7 a0).bind fun v2004=>(if v2004=true then (some true) else ((JK a0).bind fun v2008=>(some v2008))))))
def EB:Nat→ByteArray→Int→Option (Bool)
 |0,_,_=>none
 |n+1,a0,p1_0=>(if (decide (p1_0<(a0.size:Int)))=true then ((atB a0 p1_0).bind fun v7002=>((GK v7002).bind fun v7003=>(if (!v7003)=true then (some false) else (EB n a0 (IntKind.i64.wrap (p1_0+1)))))) else (some true))
def E4 (a0:ByteArray) (p0_0:Bool):Option (Bool):=
 (if p0_0=true then (some false) else (EB fuel a0 0))
def JL (a0:ByteArray):Option (Bool):=
 (if (decide ((a0.size:Int)<1))=true then (E4 a0 true) else (if (decide (12<(a0.size:Int)))=true then (E4 a0 true) else ((atB a0 0).bind fun v2010=>((JK v2010).bind fun v2011=>(if v2011=true then (E4 a0 true) else ((G0 a0).bind fun v2015=>(E4 a0 v2015)))))))
def F8 (a0:ByteArray):Option (Bool):=
 ((JL a0).bind fun v2001=>(if v2001=true then ((atB a0 0).bind fun v2004=>((F7 v2004).bind fun v2005=>(some v2005))) else (some false)))
def As:Nat→(List Data)→Int→(Data→Option Bool)→Option (Int)
 |0,_,_,_=>none
 |n+1,a0,p0_0,f1=>(if (decide (p0_0<(a0.length:Int)))=true then ((at? a0 p0_0).bind fun v5003=>((f1 v5003).bind fun v5005=>(if v5005=true then (some p0_0) else (As n a0 (IntKind.i64.wrap (p0_0+1)) f1)))) else (some (-1)))
def CM (a0:List Data) (f1:(Data→Option Bool)):Option (Int):=
 (As fuel a0 0 f1)
def HY (a0:Data) (a1:ByteArray):Option (Bool):=
 (some (sameStr a0.name a1))
def Gj (a0:List Data) (a1:ByteArray):Option (Int):=
 ((CM a0 (fun y0=>HY y0 a1)).bind fun v2002=>(some v2002))
def Au:Nat→(List TType)→Int→(TType→Option Bool)→Option (Int)
 |0,_,_,_=>none
 |n+1,a0,p0_0,f1=>(if (decide (p0_0<(a0.length:Int)))=true then ((at? a0 p0_0).bind fun v5003=>((f1 v5003).bind fun v5005=>(if v5005=true then (some p0_0) else (Au n a0 (IntKind.i64.wrap (p0_0+1)) f1)))) else (some (-1)))
def CN (a0:List TType) (f1:(TType→Option Bool)):Option (Int):=
 (Au fuel a0 0 f1)
def Av (a0:List TType) (f1:(TType→Option Bool)):Option (Bool):=
 ((CN a0 f1).bind fun v2002=>(some (decide (0≤v2002))))
def BH (p1_0:Int) (p1_1:Int) (p2_0:Bool):Option (Int × Int × Bool):=
 (some (p1_0,p1_1,p2_0))
mutual
def EC:Nat→TType→Option (Int × Int × Bool)
 |0,_=>none
 |n+1,a0=>(Be n a0 1 1 0)
def Be:Nat→TType→Int→Int→Int→Option (Int × Int × Bool)
 |0,_,_,_,_=>none
 |n+1,a0,p1_0,p1_1,p1_2=>(if (decide (p1_2<(a0.kids.length:Int)))=true then ((at? a0.kids p1_2).bind fun v5000=>((EC n v5000).bind fun v6001=>(if (!v6001.2.2)=true then (some (0,0,false)) else (Be n a0 (if p1_0<(IntKind.i64.wrap (v6001.1 +1)) then (IntKind.i64.wrap (v6001.1 +1)) else p1_0) (IntKind.i64.wrap (p1_1+v6001.2.1)) (IntKind.i64.wrap (p1_2+1)))))) else (if (decide (a0.kind=1))=true then (if (sameStr a0.name (ByteArray.mk #[]))=true then (BH p1_0 p1_1 (decide ((a0.kids.length:Int)=0))) else (BH p1_0 p1_1 false)) else (if (decide (a0.kind=2))=true then ((F8 a0.name).bind fun v15002=>(if v15002=true then (if (!sameStr a0.name (ByteArray.mk #[73,110,116]))=true then (BH p1_0 p1_1 (decide ((a0.kids.length:Int)=0))) else (BH p1_0 p1_1 false)) else (BH p1_0 p1_1 false))) else (if (decide (a0.kind=3))=true then (if (sameStr a0.name (ByteArray.mk #[]))=true then (BH p1_0 p1_1 (decide ((a0.kids.length:Int)=2))) else (BH p1_0 p1_1 false)) else (if (decide (a0.kind=4))=true then (if (sameStr a0.name (ByteArray.mk #[]))=true then (BH p1_0 p1_1 (decide ((a0.kids.length:Int)=1))) else (BH p1_0 p1_1 false)) else (BH p1_0 p1_1 false))))))
end
def E5 (a0:TType):Option (Bool):=
 ((EC fuel a0).bind fun v2001=>(if v2001.2.2 =true then (if (decide (v2001.1 ≤6))=true then (some (decide (v2001.2.1 ≤16))) else (some false)) else (some false)))
mutual
def FQ:Nat→TType→(List Data)→Option (Bool)
 |0,_,_=>none
 |n+1,a0,a1=>((Do n a1 a0).bind fun v2002=>(some (!v2002)))
def Do:Nat→(List Data)→TType→Option (Bool)
 |0,_,_=>none
 |n+1,a0,a1=>(if (decide (a1.kind=2))=true then ((Gj a0 a1.name).bind fun v2007=>(Dp n a0 a1 (decide (v2007<0)))) else (Dp n a0 a1 false))
def Dp:Nat→(List Data)→TType→Bool→Option (Bool)
 |0,_,_,_=>none
 |n+1,a0,a1,p0_0=>(if p0_0=true then (some false) else ((Av a1.kids (fun y0=>FQ n y0 a0)).bind fun v4003=>(some (!v4003))))
end
def Ch (a0:TType) (a1:List Data):Option (Bool):=
 ((E5 a0).bind fun v2001=>(if (!v2001)=true then (some true) else ((Do fuel a1 a0).bind fun v2006=>(some (!v2006)))))
def Ca (a0:List Data) (a1:Constructor) (p0_0:Bool):Option (Bool):=
 (if p0_0=true then (some false) else ((Av a1.fields (fun y0=>Ch y0 a0)).bind fun v4003=>(some (!v4003))))
def DO (a0:List Data) (a1:Constructor):Option (Bool):=
 ((F8 a1.name).bind fun v2002=>(if (!v2002)=true then (Ca a0 a1 true) else (Ca a0 a1 (decide (3<(a1.fields.length:Int))))))
mutual
def A1:Nat→(List Data)→(List (ByteArray × Bool))→Int→Option (Bool)
 |0,_,_,_=>none
 |n+1,a0,p6_0,p6_1=>(if (decide (p6_1<(a0.length:Int)))=true then ((at? a0 p6_1).bind fun v7001=>((F8 v7001.name).bind fun v8002=>(if (!v8002)=true then (Bo n a0 p6_0 p6_1 v7001 true) else (if (sameStr v7001.name (ByteArray.mk #[73,110,116]))=true then (Bo n a0 p6_0 p6_1 v7001 true) else ((cutL a0 0 p6_1).bind fun v8012=>((Gj v8012 v7001.name).bind fun v8015=>(if (decide (0≤v8015))=true then (Bo n a0 p6_0 p6_1 v7001 true) else (if (decide ((v7001.cons.length:Int)<1))=true then (Bo n a0 p6_0 p6_1 v7001 true) else (Bo n a0 p6_0 p6_1 v7001 (decide (4<(v7001.cons.length:Int)))))))))))) else (some true))
def Bo:Nat→(List Data)→(List (ByteArray × Bool))→Int→Data→Bool→Option (Bool)
 |0,_,_,_,_,_=>none
 |n+1,a0,p6_0,p6_1,v7001,p7_0=>(if p7_0=true then (some false) else (A5 n a0 p6_1 v7001 p6_0 0))
def A5:Nat→(List Data)→Int→Data→(List (ByteArray × Bool))→Int→Option (Bool)
 |0,_,_,_,_,_=>none
 |n+1,a0,p6_1,v7001,p10_0,p10_1=>(if (decide (p10_1<(v7001.cons.length:Int)))=true then ((at? v7001.cons p10_1).bind fun v12000=>((DO a0 v12000).bind fun v13002=>(if (!v13002)=true then (DH n a0 p6_1 p10_0 p10_1 v7001 v12000 true) else (DH n a0 p6_1 p10_0 p10_1 v7001 v12000 ((Fa p10_0 v12000.name).getD false))))) else (A1 n a0 p10_0 (IntKind.i64.wrap (p6_1+1))))
def DH:Nat→(List Data)→Int→(List (ByteArray × Bool))→Int→Data→Constructor→Bool→Option (Bool)
 |0,_,_,_,_,_,_,_=>none
 |n+1,a0,p6_1,p10_0,p10_1,v7001,v12000,p11_0=>(if p11_0=true then (some false) else ((QO p10_0 v12000.name true).bind fun v15003_72=>(A5 n a0 p6_1 v7001 v15003_72 (IntKind.i64.wrap (p10_1+1)))))
end
def GL (a0:List Data):Option (Bool):=
 (if (decide (4<(a0.length:Int)))=true then (some false) else (A1 fuel a0 [] 0))
def Gk (a0:ByteArray):Option (Bool):=
 ((JL a0).bind fun v2001=>(if v2001=true then ((atB a0 0).bind fun v2004=>((Hq v2004).bind fun v2005=>(some v2005))) else (some false)))
def Az:Nat→(List Def)→Int→(Def→Option Bool)→Option (Int)
 |0,_,_,_=>none
 |n+1,a0,p0_0,f1=>(if (decide (p0_0<(a0.length:Int)))=true then ((at? a0 p0_0).bind fun v5003=>((f1 v5003).bind fun v5005=>(if v5005=true then (some p0_0) else (Az n a0 (IntKind.i64.wrap (p0_0+1)) f1)))) else (some (-1)))
def Bz (a0:List Def) (f1:(Def→Option Bool)):Option (Int):=
 (Az fuel a0 0 f1)
def Du (a0:Def) (a1:ByteArray):Option (Bool):=
 (some (sameStr a0.name a1))
def CO (a0:TProgram) (a1:ByteArray):Option (Int):=
 ((Bz a0.defs (fun y0=>Du y0 a1)).bind fun v2003=>(some v2003))
def BK:Nat→(List TType)→(List TType)→Int→(TType→TType→Option Bool)→Option (Bool)
 |0,_,_,_,_=>none
 |n+1,a0,a1,p0_0,f2=>(if (decide (p0_0<(a0.length:Int)))=true then ((at? a0 p0_0).bind fun v6001=>((at? a1 p0_0).bind fun v7002=>((f2 v6001 v7002).bind fun v8003=>(if (!v8003)=true then (some false) else (BK n a0 a1 (IntKind.i64.wrap (p0_0+1)) f2))))) else (some true))
def Bp (a0:List TType) (a1:List TType) (f2:(TType→TType→Option Bool)):Option (Bool):=
 (if (!decide ((a0.length:Int)=(a1.length:Int)))=true then (some false) else (BK fuel a0 a1 0 f2))
def Cc:Nat→TType→TType→Option (Bool)
 |0,_,_=>none
 |n+1,a0,a1=>(if (decide (a0.kind=a1.kind))=true then (if (sameStr a0.name a1.name)=true then ((Bp a0.kids a1.kids (fun y0 y1=>Cc n y0 y1)).bind fun v2017=>(some v2017)) else (some false)) else (some false))
def GM (a0:TType):Option (Bool):=
 ((Cc fuel a0 (⟨0,ByteArray.empty,[]⟩:TType)).bind fun v2002=>(some v2002))
def PR (a0:Int):Option (Bool):=
 (if (decide ((-2147483648)≤a0))=true then (some (decide (a0≤2147483647))) else (some false))
def HZ (a0:Int):Option (Bool):=
 (if (decide (1≤a0))=true then (some (decide (a0≤6))) else (some false))
mutual
def Ag:Nat→(List ByteArray)→Int→Option (Bool)
 |0,_,_=>none
 |n+1,a0,p0_0=>(if (decide (p0_0<(a0.length:Int)))=true then ((at? a0 p0_0).bind fun v4001=>((Gk v4001).bind fun v5001=>(if (!v5001)=true then (CB n a0 p0_0 true) else ((cutL a0 0 p0_0).bind fun v5006=>((BM v5006 v4001).bind fun v5008=>(CB n a0 p0_0 v5008)))))) else (some (decide ((a0.length:Int)≤3))))
def CB:Nat→(List ByteArray)→Int→Bool→Option (Bool)
 |0,_,_,_=>none
 |n+1,a0,p0_0,p1_0=>(if p1_0=true then (some false) else (Ag n a0 (IntKind.i64.wrap (p0_0+1))))
end
def Dd (a0:List ByteArray):Option (Bool):=
 (Ag fuel a0 0)
def Al (a0:Term) (p0_0:Bool):Option (Bool):=
 (if p0_0=true then (some false) else ((Gk a0.name).bind fun v5005=>((F8 a0.name).bind fun v5008=>(if (decide (a0.kind=1))=true then (if v5005=true then (some (decide ((a0.kids.length:Int)=0))) else (some false)) else (if (decide (a0.kind=2))=true then (if (sameStr a0.name (ByteArray.mk #[]))=true then (if (decide ((a0.kids.length:Int)=0))=true then ((PR a0.num).bind fun v11008=>(some v11008)) else (some false)) else (some false)) else (if (decide (a0.kind=3))=true then (if (sameStr a0.name (ByteArray.mk #[]))=true then (if (decide ((a0.kids.length:Int)=2))=true then ((HZ a0.num).bind fun v13008=>(some v13008)) else (some false)) else (some false)) else (if (decide (a0.kind=4))=true then (if v5005=true then (if (decide ((a0.kids.length:Int)=1))=true then ((E5 a0.typ).bind fun v15008=>(some v15008)) else (some false)) else (some false)) else (if (decide (a0.kind=5))=true then (if (sameStr a0.name (ByteArray.mk #[]))=true then (some (decide ((a0.kids.length:Int)=2))) else (some false)) else (if (decide (a0.kind=6))=true then (if (sameStr a0.name (ByteArray.mk #[]))=true then (some (decide ((a0.kids.length:Int)=1))) else (some false)) else (if (decide (a0.kind=7))=true then (if v5005=true then (some (decide ((a0.kids.length:Int)=2))) else (some false)) else (if (decide (a0.kind=8))=true then (if v5008=true then (some (decide ((a0.kids.length:Int)≤3))) else (some false)) else (if (decide (a0.kind=9))=true then (if (sameStr a0.name (ByteArray.mk #[]))=true then (if (decide (2≤(a0.kids.length:Int)))=true then (some (decide ((a0.kids.length:Int)≤5))) else (some false)) else (some false)) else (if (decide (a0.kind=10))=true then (if v5008=true then (if (decide ((a0.kids.length:Int)=1))=true then ((Dd a0.names).bind fun v27008=>(some v27008)) else (some false)) else (some false)) else (if (decide (a0.kind=11))=true then (if (sameStr a0.name (ByteArray.mk #[]))=true then (some (decide ((a0.kids.length:Int)=3))) else (some false)) else (some false)))))))))))))))
def G1 (a0:Term):Option (Bool):=
 ((GM a0.typ).bind fun v2002=>(if (!decide (a0.kind=10))=true then (if (decide (0<(a0.names.length:Int)))=true then (Al a0 true) else (if (!decide (a0.kind=4))=true then (if (!v2002)=true then (Al a0 true) else (if (!decide (a0.kind=2))=true then (if (!decide (a0.kind=3))=true then (Al a0 (!decide (a0.num=0))) else (Al a0 false)) else (Al a0 false))) else (if (!decide (a0.kind=2))=true then (if (!decide (a0.kind=3))=true then (Al a0 (!decide (a0.num=0))) else (Al a0 false)) else (Al a0 false)))) else (if (!decide (a0.kind=4))=true then (if (!v2002)=true then (Al a0 true) else (if (!decide (a0.kind=2))=true then (if (!decide (a0.kind=3))=true then (Al a0 (!decide (a0.num=0))) else (Al a0 false)) else (Al a0 false))) else (if (!decide (a0.kind=2))=true then (if (!decide (a0.kind=3))=true then (Al a0 (!decide (a0.num=0))) else (Al a0 false)) else (Al a0 false)))))
mutual
def ED:Nat→Term→Option (Int × Int × Bool)
 |0,_=>none
 |n+1,a0=>((G1 a0).bind fun v2001=>(if (!v2001)=true then (some (0,0,false)) else (Bf n a0 1 1 0)))
def Bf:Nat→Term→Int→Int→Int→Option (Int × Int × Bool)
 |0,_,_,_,_=>none
 |n+1,a0,p2_0,p2_1,p2_2=>(if (decide (p2_2<(a0.kids.length:Int)))=true then ((at? a0.kids p2_2).bind fun v7001=>(if (decide (a0.kind=9))=true then (D1 n a0 p2_0 p2_1 p2_2 v7001 (!((decide (v7001.kind=10)) == (decide (0<p2_2))))) else (D1 n a0 p2_0 p2_1 p2_2 v7001 (!((decide (v7001.kind=10)) == false))))) else (some (p2_0,p2_1,true)))
def D1:Nat→Term→Int→Int→Int→Term→Bool→Option (Int × Int × Bool)
 |0,_,_,_,_,_,_=>none
 |n+1,a0,p2_0,p2_1,p2_2,v7001,p3_0=>(if p3_0=true then (some (0,0,false)) else ((ED n v7001).bind fun v10001=>(if (!v10001.2.2)=true then (some (0,0,false)) else (Bf n a0 (if p2_0<(IntKind.i64.wrap (v10001.1 +1)) then (IntKind.i64.wrap (v10001.1 +1)) else p2_0) (IntKind.i64.wrap (p2_1+v10001.2.1)) (IntKind.i64.wrap (p2_2+1))))))
end
def G2 (a0:Term):Option (Bool):=
 ((ED fuel a0).bind fun v2001=>(if v2001.2.2 =true then (if (!decide (a0.kind=10))=true then (if (decide (v2001.1 ≤24))=true then (some (decide (v2001.2.1 ≤160))) else (some false)) else (some false)) else (some false)))
mutual
def A2:Nat→TProgram→Int→Option (Bool)
 |0,_,_=>none
 |n+1,a0,p3_0=>(if (decide (p3_0<(a0.defs.length:Int)))=true then ((at? a0.defs p3_0).bind fun v6001=>((Gk v6001.name).bind fun v7002=>(if (!v7002)=true then (Bx n a0 p3_0 true) else ((CO a0 v6001.name).bind fun v7008=>(if (decide (v7008<p3_0))=true then (Bx n a0 p3_0 true) else ((E5 v6001.typ).bind fun v7015=>(if (!v7015)=true then (Bx n a0 p3_0 true) else ((G2 v6001.body).bind fun v7021=>(Bx n a0 p3_0 (!v7021)))))))))) else (some true))
def Bx:Nat→TProgram→Int→Bool→Option (Bool)
 |0,_,_,_=>none
 |n+1,a0,p3_0,p4_0=>(if p4_0=true then (some false) else (A2 n a0 (IntKind.i64.wrap (p3_0+1))))
end
def Co (a0:TProgram) (p0_0:Bool):Option (Bool):=
 (if p0_0=true then (some false) else (A2 fuel a0 0))
def E6 (a0:TProgram):Option (Bool):=
 ((GL a0.datas).bind fun v2002=>(if (!v2002)=true then (Co a0 true) else (if (decide ((a0.defs.length:Int)<1))=true then (Co a0 true) else (Co a0 (decide (8<(a0.defs.length:Int)))))))
def BQ (a0:List Def) (f1:(Def→Option Bool)):Option (Bool):=
 ((Bz a0 f1).bind fun v2002=>(some (decide (0≤v2002))))
def Aw:Nat→(List Term)→Int→(Term→Option Bool)→Option (Int)
 |0,_,_,_=>none
 |n+1,a0,p0_0,f1=>(if (decide (p0_0<(a0.length:Int)))=true then ((at? a0 p0_0).bind fun v5003=>((f1 v5003).bind fun v5005=>(if v5005=true then (some p0_0) else (Aw n a0 (IntKind.i64.wrap (p0_0+1)) f1)))) else (some (-1)))
def CP (a0:List Term) (f1:(Term→Option Bool)):Option (Int):=
 (Aw fuel a0 0 f1)
def Br (a0:List Term) (f1:(Term→Option Bool)):Option (Bool):=
 ((CP a0 f1).bind fun v2002=>(some (decide (0≤v2002))))
mutual
def G3:Nat→Term→(Term→Option Bool)→Option (Bool)
 |0,_,_=>none
 |n+1,a0,f1=>((FR n a0 f1).bind fun v2002=>(some v2002))
def FR:Nat→Term→(Term→Option Bool)→Option (Bool)
 |0,_,_=>none
 |n+1,a0,f1=>((f1 a0).bind fun v2002=>(if v2002=true then (some true) else ((Br a0.kids (fun y0=>G3 n y0 f1)).bind fun v2007=>(some v2007))))
end
def A7:Nat→(List ByteArray)→Int→(ByteArray→Option Bool)→Option (Int)
 |0,_,_,_=>none
 |n+1,a0,p0_0,f1=>(if (decide (p0_0<(a0.length:Int)))=true then ((at? a0 p0_0).bind fun v5003=>((f1 v5003).bind fun v5005=>(if v5005=true then (some p0_0) else (A7 n a0 (IntKind.i64.wrap (p0_0+1)) f1)))) else (some (-1)))
def Cz (a0:List ByteArray) (f1:(ByteArray→Option Bool)):Option (Int):=
 (A7 fuel a0 0 f1)
def CQ (a0:List ByteArray) (f1:(ByteArray→Option Bool)):Option (Bool):=
 ((Cz a0 f1).bind fun v2002=>(some (decide (0≤v2002))))
def BC:Nat→(List (List ByteArray))→(List ByteArray)→Int→Option ((List ByteArray))
 |0,_,_,_=>none
 |n+1,a0,p2_0,p2_1=>(if (decide (p2_1<(a0.length:Int)))=true then ((at? a0 p2_1).bind fun v13000=>((IV p2_0 v13000).bind fun v14002=>(BC n a0 v14002 (IntKind.i64.wrap (p2_1+1))))) else (some p2_0))
def BU:Nat→(List (List ByteArray))→Int→Int→Option ((List ByteArray))
 |0,_,_,_=>none
 |n+1,a0,p0_0,p0_1=>(if (decide (p0_1<(a0.length:Int)))=true then ((at? a0 p0_1).bind fun v5000=>(if (decide ((IntKind.i64.wrap (p0_0+(v5000.length:Int)))<0))=true then (none) else (BU n a0 (IntKind.i64.wrap (p0_0+(v5000.length:Int))) (IntKind.i64.wrap (p0_1+1))))) else ((Ew [] p0_0).bind fun v10001=>(BC fuel a0 v10001 0)))
def D2 (a0:List (List ByteArray)):Option ((List ByteArray)):=
 (BU fuel a0 0 0)
def De (a0:Term) (p0_0:Bool):Option ((List ByteArray)):=
 (if p0_0=true then (some [a0.name]) else (if (decide (a0.kind=10))=true then (some a0.names) else (some [])))
def GN (a0:Term) (a1:Int):Option ((List ByteArray)):=
 (if (decide (a0.kind=4))=true then (De a0 true) else (if (decide (a0.kind=7))=true then (De a0 (decide (a1=1))) else (De a0 false)))
mutual
def F9:Nat→Term→(List ByteArray)→(List ByteArray)→Option ((List ByteArray))
 |0,_,_,_=>none
 |n+1,a0,a1,a2=>(if (decide (a0.kind=1))=true then ((BM a1 a0.name).bind fun v2007=>(if (!v2007)=true then ((BM a2 a0.name).bind fun v2014=>(EM n a0 a1 a2 (!v2014))) else (EM n a0 a1 a2 false))) else (EM n a0 a1 a2 false))
def EM:Nat→Term→(List ByteArray)→(List ByteArray)→Bool→Option ((List ByteArray))
 |0,_,_,_,_=>none
 |n+1,a0,a1,a2,p0_0=>(if p0_0=true then ((IV a2 [a0.name]).bind fun v3004=>(some v3004)) else (B7 n a0 a1 a2 0))
def B7:Nat→Term→(List ByteArray)→(List ByteArray)→Int→Option ((List ByteArray))
 |0,_,_,_,_=>none
 |n+1,a0,a1,p2_0,p2_1=>(if (decide (p2_1<(a0.kids.length:Int)))=true then ((at? a0.kids p2_1).bind fun v6001=>((GN a0 p2_1).bind fun v7004=>((D2 [a1,v7004]).bind fun v7006=>((F9 n v6001 v7006 p2_0).bind fun v7008=>(B7 n a0 a1 v7008 (IntKind.i64.wrap (p2_1+1))))))) else (some p2_0))
end
def Ij (a0:Term):Option ((List ByteArray)):=
 ((F9 fuel a0 [] []).bind fun v2001=>(some v2001))
def Cp (a0:ByteArray) (a1:TProgram):Option (Bool):=
 ((CO a1 a0).bind fun v2002=>(some (decide (v2002<0))))
mutual
def Ap:Nat→(List Data)→ByteArray→Int→Option (Int × Int)
 |0,_,_,_=>none
 |n+1,a0,a1,p0_0=>(if (decide (p0_0<(a0.length:Int)))=true then ((at? a0 p0_0).bind fun v4001=>(A0 n a0 a1 p0_0 v4001 0)) else (some ((-1),0)))
def A0:Nat→(List Data)→ByteArray→Int→Data→Int→Option (Int × Int)
 |0,_,_,_,_,_=>none
 |n+1,a0,a1,p0_0,v4001,p1_0=>(if (decide (p1_0<(v4001.cons.length:Int)))=true then ((at? v4001.cons p1_0).bind fun v7001=>(if (sameStr v7001.name a1)=true then (some (p0_0,p1_0)) else (A0 n a0 a1 p0_0 v4001 (IntKind.i64.wrap (p1_0+1))))) else (Ap n a0 a1 (IntKind.i64.wrap (p0_0+1))))
end
def BW (a0:List Data) (a1:ByteArray):Option (Int × Int):=
 (Ap fuel a0 a1 0)
def Bg (a0:Term) (a1:TProgram) (p0_0:Bool):Option (Bool):=
 (if p0_0=true then ((BW a1.datas a0.name).bind fun v7004=>(some (decide (v7004.1 <0)))) else (some false))
def Cq (a0:Term) (a1:TProgram):Option (Bool):=
 (if (decide (a0.kind=4))=true then ((Do fuel a1.datas a0.typ).bind fun v4004=>(some (!v4004))) else (if (decide (a0.kind=8))=true then (Bg a0 a1 (decide (a0.kind=8))) else (Bg a0 a1 (decide (a0.kind=10)))))
def B2 (a0:TProgram) (a1:Def) (p0_0:Bool):Option (Bool):=
 (if p0_0=true then (some true) else ((FR fuel a1.body (fun y0=>Cq y0 a0)).bind fun v4003=>(some v4003)))
def Cb (a0:TProgram) (a1:Def):Option (Bool):=
 ((Do fuel a0.datas a1.typ).bind fun v2004=>(if (!v2004)=true then (B2 a0 a1 true) else ((Ij a1.body).bind fun v2009=>((CQ v2009 (fun y0=>Cp y0 a0)).bind fun v2011=>(B2 a0 a1 v2011)))))
def AU:Nat→(List Term)→(List Constructor)→Int→(Term→Constructor→Option Bool)→Option (Bool)
 |0,_,_,_,_=>none
 |n+1,a0,a1,p0_0,f2=>(if (decide (p0_0<(a0.length:Int)))=true then ((at? a0 p0_0).bind fun v6001=>((at? a1 p0_0).bind fun v7002=>((f2 v6001 v7002).bind fun v8003=>(if (!v8003)=true then (some false) else (AU n a0 a1 (IntKind.i64.wrap (p0_0+1)) f2))))) else (some true))
def C3 (a0:List Term) (a1:List Constructor) (f2:(Term→Constructor→Option Bool)):Option (Bool):=
 (if (!decide ((a0.length:Int)=(a1.length:Int)))=true then (some false) else (AU fuel a0 a1 0 f2))
def Bq (a0:Term) (a1:Constructor):Option (Bool):=
 (if (sameStr a0.name a1.name)=true then (some (decide ((a0.names.length:Int)=(a1.fields.length:Int)))) else (some false))
def Df (a0:TProgram) (a1:List Term):Option (Bool):=
 ((at? a1 0).bind fun v2003=>((BW a0.datas v2003.name).bind fun v2006=>((at? a0.datas v2006.1).bind fun v3003=>((C3 a1 v3003.cons (fun y0 y1=>Bq y0 y1)).bind fun v4002=>(some (!v4002))))))
def Ci (a0:TProgram) (a1:Term):Option (Bool):=
 (if (decide (a1.kind=8))=true then ((BW a0.datas a1.name).bind fun v4004=>((at? a0.datas v4004.1).bind fun v5006=>((at? v5006.cons v4004.2).bind fun v5010=>(some (!decide ((a1.kids.length:Int)=(v5010.fields.length:Int))))))) else (if (decide (a1.kind=9))=true then ((cutL a1.kids 1 (a1.kids.length:Int)).bind fun v7003=>((Df a0 v7003).bind fun v7004=>(some v7004))) else (some false)))
def GO (a0:Def) (a1:TProgram):Option (Bool):=
 ((FR fuel a0.body (fun y0=>Ci a1 y0)).bind fun v2004=>(some v2004))
def GP (a0:TProgram):Option (Int):=
 ((E6 a0).bind fun v2001=>(if (!v2001)=true then (some 1) else ((BQ a0.defs (fun y0=>Cb a0 y0)).bind fun v4004=>(if v4004=true then (some 7) else ((BQ a0.defs (fun y0=>GO y0 a0)).bind fun v6003=>(if v6003=true then (some 2) else (some 0)))))))
end Go.Proofs.YtaedfiifhjlmlaaGreat.Ab
