/-
  Data of the program as Lean types; how they lie in memory. Printed by wip/ab/gen.py.
-/
import Derived.Test.YtlmanchbpommaaaDoorAbY
import Derived.Test.YtlmanchbpommaaaDoorModF
namespace Go.Proofs.YtlmanchbpommaaaDoor.Ab
set_option linter.unusedVariables false
set_option linter.unusedSimpArgs false
set_option maxRecDepth 20000
set_option maxHeartbeats 4000000
open Go.RowKit

structure Core where
  kind : Int
  value : Int
  data : List Int
  kids : List Core
mutual
def Core.ds : Core → List D
  | ⟨x0, x1, x2, x3⟩ => [.int .i64 x0, .int .i64 x1, .sl (List.map i64D x2), .sl (Core.rows x3)]
def Core.rows : List Core → List (List D)
  | [] => []
  | c :: cs => Core.ds c :: Core.rows cs
end
theorem Core.rows_map : ∀ l : List Core, Core.rows l = List.map Core.ds l
  | [] => by rw [Core.rows]; rfl
  | c :: cs => by rw [Core.rows, Core.rows_map cs]; rfl
theorem Core.ds_eq (c : Core) : c.ds = [.int .i64 c.kind, .int .i64 c.value, .sl (List.map i64D c.data), .sl (List.map Core.ds c.kids)] := by
  cases c; rw [Core.ds]; simp only [Core.rows_map]
@[go_sem] def Core.avs (c : Core) : List AV := [.int .i64 c.kind, .int .i64 c.value, .ro (List.map i64D c.data), .ro (List.map Core.ds c.kids)]
@[go_sem] def Core.rv (c : Core) : List RV := [.int .i64 c.kind, .int .i64 c.value, .ow (some 1) (List.map i64D c.data), .ow (some 4) (List.map Core.ds c.kids)]
@[go_sem] def Core.rvn (c : Core) : List RV := [.int .i64 c.kind, .int .i64 c.value, .ow none (List.map i64D c.data), .ow none (List.map Core.ds c.kids)]
attribute [go_sem] Core.ds_eq
theorem Core.ds_len (c : Core) : c.ds.length = 4 := by rw [Core.ds_eq]; rfl
end Go.Proofs.YtlmanchbpommaaaDoor.Ab
