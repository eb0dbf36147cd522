/-
  Data of the program as Lean types; how they lie in memory. Printed by wip/ab/gen.py.
-/
import Derived.Test.YtffokcfdkkikmaaAbY
import Derived.Test.YtffokcfdkkikmaaMTyZ
namespace Go.Proofs.Ytffokcfdkkikmaa.Ab
set_option linter.unusedVariables false
set_option linter.unusedSimpArgs false
set_option maxRecDepth 20000
set_option maxHeartbeats 4000000
open Go.RowKit

structure TType where
  kind : Int
  name : ByteArray
  kids : List TType
mutual
def TType.ds : TType → List D
  | ⟨x0, x1, x2⟩ => [.int .i64 x0, .str x1, .sl (TType.rows x2)]
def TType.rows : List TType → List (List D)
  | [] => []
  | c :: cs => TType.ds c :: TType.rows cs
end
theorem TType.rows_map : ∀ l : List TType, TType.rows l = List.map TType.ds l
  | [] => by rw [TType.rows]; rfl
  | c :: cs => by rw [TType.rows, TType.rows_map cs]; rfl
theorem TType.ds_eq (c : TType) : c.ds = [.int .i64 c.kind, .str c.name, .sl (List.map TType.ds c.kids)] := by
  cases c; rw [TType.ds]; simp only [TType.rows_map]
@[go_sem] def TType.avs (c : TType) : List AV := [.int .i64 c.kind, .str c.name, .ro (List.map TType.ds c.kids)]
@[go_sem] def TType.rv (c : TType) : List RV := [.int .i64 c.kind, .str c.name, .ow (some 3) (List.map TType.ds c.kids)]
@[go_sem] def TType.rvn (c : TType) : List RV := [.int .i64 c.kind, .str c.name, .ow none (List.map TType.ds c.kids)]
attribute [go_sem] TType.ds_eq
theorem TType.ds_len (c : TType) : c.ds.length = 3 := by rw [TType.ds_eq]; rfl
structure Constructor where
  name : ByteArray
  fields : List TType
def Constructor.ds (c : Constructor) : List D := [.str c.name, .sl (List.map TType.ds c.fields)]
theorem Constructor.ds_eq (c : Constructor) : c.ds = [.str c.name, .sl (List.map TType.ds c.fields)] := rfl
@[go_sem] def Constructor.avs (c : Constructor) : List AV := [.str c.name, .ro (List.map TType.ds c.fields)]
@[go_sem] def Constructor.rv (c : Constructor) : List RV := [.str c.name, .ow (some 3) (List.map TType.ds c.fields)]
@[go_sem] def Constructor.rvn (c : Constructor) : List RV := [.str c.name, .ow none (List.map TType.ds c.fields)]
attribute [go_sem] Constructor.ds_eq
theorem Constructor.ds_len (c : Constructor) : c.ds.length = 2 := by rw [Constructor.ds_eq]; rfl
structure Data where
  name : ByteArray
  cons : List Constructor
def Data.ds (c : Data) : List D := [.str c.name, .sl (List.map Constructor.ds c.cons)]
theorem Data.ds_eq (c : Data) : c.ds = [.str c.name, .sl (List.map Constructor.ds c.cons)] := rfl
@[go_sem] def Data.avs (c : Data) : List AV := [.str c.name, .ro (List.map Constructor.ds c.cons)]
@[go_sem] def Data.rv (c : Data) : List RV := [.str c.name, .ow (some 2) (List.map Constructor.ds c.cons)]
@[go_sem] def Data.rvn (c : Data) : List RV := [.str c.name, .ow none (List.map Constructor.ds c.cons)]
attribute [go_sem] Data.ds_eq
theorem Data.ds_len (c : Data) : c.ds.length = 2 := by rw [Data.ds_eq]; rfl
structure Term where
  kind : Int
  num : Int
  name : ByteArray
  typ : TType
  names : List ByteArray
  kids : List Term
mutual
def Term.ds : Term → List D
  | ⟨x0, x1, x2, x3, x4, x5⟩ => [.int .i64 x0, .int .i64 x1, .str x2, .int .i64 x3.kind, .str x3.name, .sl (List.map TType.ds x3.kids), .sl (List.map strD x4), .sl (Term.rows x5)]
def Term.rows : List Term → List (List D)
  | [] => []
  | c :: cs => Term.ds c :: Term.rows cs
end
theorem Term.rows_map : ∀ l : List Term, Term.rows l = List.map Term.ds l
  | [] => by rw [Term.rows]; rfl
  | c :: cs => by rw [Term.rows, Term.rows_map cs]; rfl
theorem Term.ds_eq (c : Term) : c.ds = [.int .i64 c.kind, .int .i64 c.num, .str c.name, .int .i64 c.typ.kind, .str c.typ.name, .sl (List.map TType.ds c.typ.kids), .sl (List.map strD c.names), .sl (List.map Term.ds c.kids)] := by
  cases c; rw [Term.ds]; simp only [Term.rows_map]
@[go_sem] def Term.avs (c : Term) : List AV := [.int .i64 c.kind, .int .i64 c.num, .str c.name, .int .i64 c.typ.kind, .str c.typ.name, .ro (List.map TType.ds c.typ.kids), .ro (List.map strD c.names), .ro (List.map Term.ds c.kids)]
@[go_sem] def Term.rv (c : Term) : List RV := [.int .i64 c.kind, .int .i64 c.num, .str c.name, .int .i64 c.typ.kind, .str c.typ.name, .ow (some 3) (List.map TType.ds c.typ.kids), .ow (some 1) (List.map strD c.names), .ow (some 8) (List.map Term.ds c.kids)]
@[go_sem] def Term.rvn (c : Term) : List RV := [.int .i64 c.kind, .int .i64 c.num, .str c.name, .int .i64 c.typ.kind, .str c.typ.name, .ow none (List.map TType.ds c.typ.kids), .ow none (List.map strD c.names), .ow none (List.map Term.ds c.kids)]
attribute [go_sem] Term.ds_eq
theorem Term.ds_len (c : Term) : c.ds.length = 8 := by rw [Term.ds_eq]; rfl
structure Def where
  name : ByteArray
  typ : TType
  body : Term
def Def.ds (c : Def) : List D := [.str c.name, .int .i64 c.typ.kind, .str c.typ.name, .sl (List.map TType.ds c.typ.kids), .int .i64 c.body.kind, .int .i64 c.body.num, .str c.body.name, .int .i64 c.body.typ.kind, .str c.body.typ.name, .sl (List.map TType.ds c.body.typ.kids), .sl (List.map strD c.body.names), .sl (List.map Term.ds c.body.kids)]
theorem Def.ds_eq (c : Def) : c.ds = [.str c.name, .int .i64 c.typ.kind, .str c.typ.name, .sl (List.map TType.ds c.typ.kids), .int .i64 c.body.kind, .int .i64 c.body.num, .str c.body.name, .int .i64 c.body.typ.kind, .str c.body.typ.name, .sl (List.map TType.ds c.body.typ.kids), .sl (List.map strD c.body.names), .sl (List.map Term.ds c.body.kids)] := rfl
@[go_sem] def Def.avs (c : Def) : List AV := [.str c.name, .int .i64 c.typ.kind, .str c.typ.name, .ro (List.map TType.ds c.typ.kids), .int .i64 c.body.kind, .int .i64 c.body.num, .str c.body.name, .int .i64 c.body.typ.kind, .str c.body.typ.name, .ro (List.map TType.ds c.body.typ.kids), .ro (List.map strD c.body.names), .ro (List.map Term.ds c.body.kids)]
@[go_sem] def Def.rv (c : Def) : List RV := [.str c.name, .int .i64 c.typ.kind, .str c.typ.name, .ow (some 3) (List.map TType.ds c.typ.kids), .int .i64 c.body.kind, .int .i64 c.body.num, .str c.body.name, .int .i64 c.body.typ.kind, .str c.body.typ.name, .ow (some 3) (List.map TType.ds c.body.typ.kids), .ow (some 1) (List.map strD c.body.names), .ow (some 8) (List.map Term.ds c.body.kids)]
@[go_sem] def Def.rvn (c : Def) : List RV := [.str c.name, .int .i64 c.typ.kind, .str c.typ.name, .ow none (List.map TType.ds c.typ.kids), .int .i64 c.body.kind, .int .i64 c.body.num, .str c.body.name, .int .i64 c.body.typ.kind, .str c.body.typ.name, .ow none (List.map TType.ds c.body.typ.kids), .ow none (List.map strD c.body.names), .ow none (List.map Term.ds c.body.kids)]
attribute [go_sem] Def.ds_eq
theorem Def.ds_len (c : Def) : c.ds.length = 12 := by rw [Def.ds_eq]; rfl
structure TProgram where
  datas : List Data
  defs : List Def
def TProgram.ds (c : TProgram) : List D := [.sl (List.map Data.ds c.datas), .sl (List.map Def.ds c.defs)]
theorem TProgram.ds_eq (c : TProgram) : c.ds = [.sl (List.map Data.ds c.datas), .sl (List.map Def.ds c.defs)] := rfl
@[go_sem] def TProgram.avs (c : TProgram) : List AV := [.ro (List.map Data.ds c.datas), .ro (List.map Def.ds c.defs)]
@[go_sem] def TProgram.rv (c : TProgram) : List RV := [.ow (some 2) (List.map Data.ds c.datas), .ow (some 12) (List.map Def.ds c.defs)]
@[go_sem] def TProgram.rvn (c : TProgram) : List RV := [.ow none (List.map Data.ds c.datas), .ow none (List.map Def.ds c.defs)]
attribute [go_sem] TProgram.ds_eq
theorem TProgram.ds_len (c : TProgram) : c.ds.length = 2 := by rw [TProgram.ds_eq]; rfl
structure Desk where
  loaded : Bool
  program : TProgram
  schedule : List Int
  machines : Int
def Desk.ds (c : Desk) : List D := [.bool c.loaded, .sl (List.map Data.ds c.program.datas), .sl (List.map Def.ds c.program.defs), .sl (List.map i64D c.schedule), .int .i64 c.machines]
theorem Desk.ds_eq (c : Desk) : c.ds = [.bool c.loaded, .sl (List.map Data.ds c.program.datas), .sl (List.map Def.ds c.program.defs), .sl (List.map i64D c.schedule), .int .i64 c.machines] := rfl
@[go_sem] def Desk.avs (c : Desk) : List AV := [.bool c.loaded, .ro (List.map Data.ds c.program.datas), .ro (List.map Def.ds c.program.defs), .ro (List.map i64D c.schedule), .int .i64 c.machines]
@[go_sem] def Desk.rv (c : Desk) : List RV := [.bool c.loaded, .ow (some 2) (List.map Data.ds c.program.datas), .ow (some 12) (List.map Def.ds c.program.defs), .ow (some 1) (List.map i64D c.schedule), .int .i64 c.machines]
@[go_sem] def Desk.rvn (c : Desk) : List RV := [.bool c.loaded, .ow none (List.map Data.ds c.program.datas), .ow none (List.map Def.ds c.program.defs), .ow none (List.map i64D c.schedule), .int .i64 c.machines]
attribute [go_sem] Desk.ds_eq
theorem Desk.ds_len (c : Desk) : c.ds.length = 5 := by rw [Desk.ds_eq]; rfl
end Go.Proofs.Ytffokcfdkkikmaa.Ab
