/-
  Data of the program as Lean types; how they lie in memory. Printed by wip/ab/gen.py.
-/
import Derived.Test.YtjdinbgcgbigoaaGreatAbY
namespace Go.Proofs.YtjdinbgcgbigoaaGreat.Ab
set_option linter.unusedVariables false
set_option linter.unusedSimpArgs false
set_option maxRecDepth 20000
set_option maxHeartbeats 4000000
open Go.RowKit
structure Core where
 kind : Int
 value : Int
 data : List Int
 kids : List Core
mutual
def Core.ds : Core → List D
 | ⟨x0,x1,x2,x3⟩ => [.int .i64 x0,.int .i64 x1,.sl (List.map i64D x2),.sl (Core.rows x3)]
def Core.rows : List Core → List (List D)
 | [] => []
 | c :: cs => Core.ds c :: Core.rows cs
end
theorem Core.rows_map : ∀ l : List Core,Core.rows l = List.map Core.ds l
 | [] => by rw [Core.rows]; rfl
 | c :: cs => by rw [Core.rows,Core.rows_map cs]; rfl
theorem Core.ds_eq (c : Core) : c.ds = [.int .i64 c.kind,.int .i64 c.value,.sl (List.map i64D c.data),.sl (List.map Core.ds c.kids)] := by
 cases c; rw [Core.ds]; simp only [Core.rows_map]
@[go_sem] def Core.avs (c : Core) : List AV := [.int .i64 c.kind,.int .i64 c.value,.ro (List.map i64D c.data),.ro (List.map Core.ds c.kids)]
@[go_sem] def Core.rv (c : Core) : List RV := [.int .i64 c.kind,.int .i64 c.value,.ow (some 1) (List.map i64D c.data),.ow (some 4) (List.map Core.ds c.kids)]
@[go_sem] def Core.rvn (c : Core) : List RV := [.int .i64 c.kind,.int .i64 c.value,.ow none (List.map i64D c.data),.ow none (List.map Core.ds c.kids)]
attribute [go_sem] Core.ds_eq
theorem Core.ds_len (c : Core) : c.ds.length = 4 := by rw [Core.ds_eq]; rfl
def Core.dz (c : Core) : List D := [.int .i64 c.kind,.int .i64 c.value,.fz (List.map i64D c.data),.fz (List.map Core.ds c.kids)]
@[go_sem] theorem Core.dz_eq (c : Core) : c.dz = [.int .i64 c.kind,.int .i64 c.value,.fz (List.map i64D c.data),.fz (List.map Core.ds c.kids)] := rfl
theorem Core.dz_len (c : Core) : c.dz.length = 4 := rfl
theorem Core.dz_fz (c : Core) : fzC c.ds = c.dz := by rw [Core.ds_eq]; rfl
theorem Core.dz_ng (c : Core) : ∀ d ∈ c.ds,d ≠ .gone := by rw [Core.ds_eq]; exact noGone rfl
@[go_sem] theorem Core.dz_er (l : List Core) : erR (List.map Core.dz l) = List.map Core.ds l := erR_map (fun c => by rw [Core.ds_eq]; simp only [Core.dz,erC,er]) l
structure Book where
 defs : List Core
def Book.ds (c : Book) : List D := [.sl (List.map Core.ds c.defs)]
theorem Book.ds_eq (c : Book) : c.ds = [.sl (List.map Core.ds c.defs)] := rfl
@[go_sem] def Book.avs (c : Book) : List AV := [.ro (List.map Core.ds c.defs)]
@[go_sem] def Book.rv (c : Book) : List RV := [.ow (some 4) (List.map Core.ds c.defs)]
@[go_sem] def Book.rvn (c : Book) : List RV := [.ow none (List.map Core.ds c.defs)]
attribute [go_sem] Book.ds_eq
theorem Book.ds_len (c : Book) : c.ds.length = 1 := by rw [Book.ds_eq]; rfl
def Book.dz (c : Book) : List D := [.fz (List.map Core.ds c.defs)]
@[go_sem] theorem Book.dz_eq (c : Book) : c.dz = [.fz (List.map Core.ds c.defs)] := rfl
theorem Book.dz_len (c : Book) : c.dz.length = 1 := rfl
theorem Book.dz_fz (c : Book) : fzC c.ds = c.dz := by rw [Book.ds_eq]; rfl
theorem Book.dz_ng (c : Book) : ∀ d ∈ c.ds,d ≠ .gone := by rw [Book.ds_eq]; exact noGone rfl
@[go_sem] theorem Book.dz_er (l : List Book) : erR (List.map Book.dz l) = List.map Book.ds l := erR_map (fun c => by rw [Book.ds_eq]; simp only [Book.dz,erC,er]) l
end Go.Proofs.YtjdinbgcgbigoaaGreat.Ab
