/-
  Data of the program as Lean types; how they lie in memory. Printed by wip/ab/gen.py.
-/
import Derived.Test.YtgigfdghecdlgaaAbY
import Derived.Test.YtgigfdghecdlgaaMod
namespace Go.Proofs.Ytgigfdghecdlgaa.Ab
set_option linter.unusedVariables false
set_option linter.unusedSimpArgs false
set_option maxRecDepth 20000
set_option maxHeartbeats 4000000
open Go.RowKit

structure LabelNode where
  core : Core
  label : ByteArray
  att : Int
  kids : List LabelNode
mutual
def LabelNode.ds : LabelNode → List D
  | ⟨x0, x1, x2, x3⟩ => [.int .i64 x0.kind, .int .i64 x0.value, .sl (List.map i64D x0.data), .sl (List.map Core.ds x0.kids), .str x1, .int .i64 x2, .sl (LabelNode.rows x3)]
def LabelNode.rows : List LabelNode → List (List D)
  | [] => []
  | c :: cs => [.ptr (LabelNode.ds c)] :: LabelNode.rows cs
end
theorem LabelNode.rows_map : ∀ l : List LabelNode, LabelNode.rows l = List.map (pD LabelNode.ds) l
  | [] => by rw [LabelNode.rows]; rfl
  | c :: cs => by rw [LabelNode.rows, LabelNode.rows_map cs]; rfl
theorem LabelNode.ds_eq (c : LabelNode) : c.ds = [.int .i64 c.core.kind, .int .i64 c.core.value, .sl (List.map i64D c.core.data), .sl (List.map Core.ds c.core.kids), .str c.label, .int .i64 c.att, .sl (List.map (pD LabelNode.ds) c.kids)] := by
  cases c; rw [LabelNode.ds]; simp only [LabelNode.rows_map]
@[go_sem] def LabelNode.avs (c : LabelNode) : List AV := [.int .i64 c.core.kind, .int .i64 c.core.value, .ro (List.map i64D c.core.data), .ro (List.map Core.ds c.core.kids), .str c.label, .int .i64 c.att, .ro (List.map (pD LabelNode.ds) c.kids)]
@[go_sem] def LabelNode.rv (c : LabelNode) : List RV := [.int .i64 c.core.kind, .int .i64 c.core.value, .ow (some 1) (List.map i64D c.core.data), .ow (some 4) (List.map Core.ds c.core.kids), .str c.label, .int .i64 c.att, .ow (some 1) (List.map (pD LabelNode.ds) c.kids)]
@[go_sem] def LabelNode.rvn (c : LabelNode) : List RV := [.int .i64 c.core.kind, .int .i64 c.core.value, .ow none (List.map i64D c.core.data), .ow none (List.map Core.ds c.core.kids), .str c.label, .int .i64 c.att, .ow none (List.map (pD LabelNode.ds) c.kids)]
attribute [go_sem] LabelNode.ds_eq
theorem LabelNode.ds_len (c : LabelNode) : c.ds.length = 7 := by rw [LabelNode.ds_eq]; rfl
def LabelNode.dz (c : LabelNode) : List D := [.int .i64 c.core.kind, .int .i64 c.core.value, .fz (List.map i64D c.core.data), .fz (List.map Core.ds c.core.kids), .str c.label, .int .i64 c.att, .fz (List.map (pD LabelNode.ds) c.kids)]
@[go_sem] theorem LabelNode.dz_eq (c : LabelNode) : c.dz = [.int .i64 c.core.kind, .int .i64 c.core.value, .fz (List.map i64D c.core.data), .fz (List.map Core.ds c.core.kids), .str c.label, .int .i64 c.att, .fz (List.map (pD LabelNode.ds) c.kids)] := rfl
theorem LabelNode.dz_len (c : LabelNode) : c.dz.length = 7 := rfl
theorem LabelNode.dz_fz (c : LabelNode) : fzC c.ds = c.dz := by rw [LabelNode.ds_eq]; rfl
theorem LabelNode.dz_ng (c : LabelNode) : ∀ d ∈ c.ds, d ≠ .gone := by rw [LabelNode.ds_eq]; exact noGone rfl
@[go_sem] theorem LabelNode.dz_er (l : List LabelNode) : erR (List.map LabelNode.dz l) = List.map LabelNode.ds l := erR_map (fun c => by rw [LabelNode.ds_eq]; simp only [LabelNode.dz, erC, er]) l
end Go.Proofs.Ytgigfdghecdlgaa.Ab
