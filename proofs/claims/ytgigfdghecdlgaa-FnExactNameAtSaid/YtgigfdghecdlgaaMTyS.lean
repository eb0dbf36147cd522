/-
  Data of the program as Lean types; how they lie in memory. Printed by wip/ab/gen.py.
-/
import Derived.Test.YtgigfdghecdlgaaAbY
import Derived.Test.YtgigfdghecdlgaaModR
namespace Go.Proofs.Ytgigfdghecdlgaa.Ab
set_option linter.unusedVariables false
set_option linter.unusedSimpArgs false
set_option maxRecDepth 20000
set_option maxHeartbeats 4000000
open Go.RowKit

structure L38T where
  kind : Int
  value : Int
  data : List Int
  label : ByteArray
  kids : List L38T
mutual
def L38T.ds : L38T → List D
  | ⟨x0, x1, x2, x3, x4⟩ => [.int .i64 x0, .int .i64 x1, .sl (List.map i64D x2), .str x3, .sl (L38T.rows x4)]
def L38T.rows : List L38T → List (List D)
  | [] => []
  | c :: cs => L38T.ds c :: L38T.rows cs
end
theorem L38T.rows_map : ∀ l : List L38T, L38T.rows l = List.map L38T.ds l
  | [] => by rw [L38T.rows]; rfl
  | c :: cs => by rw [L38T.rows, L38T.rows_map cs]; rfl
theorem L38T.ds_eq (c : L38T) : c.ds = [.int .i64 c.kind, .int .i64 c.value, .sl (List.map i64D c.data), .str c.label, .sl (List.map L38T.ds c.kids)] := by
  cases c; rw [L38T.ds]; simp only [L38T.rows_map]
@[go_sem] def L38T.avs (c : L38T) : List AV := [.int .i64 c.kind, .int .i64 c.value, .ro (List.map i64D c.data), .str c.label, .ro (List.map L38T.ds c.kids)]
@[go_sem] def L38T.rv (c : L38T) : List RV := [.int .i64 c.kind, .int .i64 c.value, .ow (some 1) (List.map i64D c.data), .str c.label, .ow (some 5) (List.map L38T.ds c.kids)]
@[go_sem] def L38T.rvn (c : L38T) : List RV := [.int .i64 c.kind, .int .i64 c.value, .ow none (List.map i64D c.data), .str c.label, .ow none (List.map L38T.ds c.kids)]
attribute [go_sem] L38T.ds_eq
theorem L38T.ds_len (c : L38T) : c.ds.length = 5 := by rw [L38T.ds_eq]; rfl
def L38T.dz (c : L38T) : List D := [.int .i64 c.kind, .int .i64 c.value, .fz (List.map i64D c.data), .str c.label, .fz (List.map L38T.ds c.kids)]
@[go_sem] theorem L38T.dz_eq (c : L38T) : c.dz = [.int .i64 c.kind, .int .i64 c.value, .fz (List.map i64D c.data), .str c.label, .fz (List.map L38T.ds c.kids)] := rfl
theorem L38T.dz_len (c : L38T) : c.dz.length = 5 := rfl
theorem L38T.dz_fz (c : L38T) : fzC c.ds = c.dz := by rw [L38T.ds_eq]; rfl
theorem L38T.dz_ng (c : L38T) : ∀ d ∈ c.ds, d ≠ .gone := by rw [L38T.ds_eq]; exact noGone rfl
@[go_sem] theorem L38T.dz_er (l : List L38T) : erR (List.map L38T.dz l) = List.map L38T.ds l := erR_map (fun c => by rw [L38T.ds_eq]; simp only [L38T.dz, erC, er]) l
end Go.Proofs.Ytgigfdghecdlgaa.Ab
