/-
  Data of the program as Lean types; how they lie in memory. Printed by wip/ab/gen.py.
-/
import Derived.Test.YtlmanchbpommaaaDoorAbY
import Derived.Test.YtlmanchbpommaaaDoorModC
namespace Go.Proofs.YtlmanchbpommaaaDoor.Ab
set_option linter.unusedVariables false
set_option linter.unusedSimpArgs false
set_option maxRecDepth 20000
set_option maxHeartbeats 4000000
open Go.RowKit

structure Report where
  result : Core
  interactions : List Int
  steps : List Int
  peak : Int
  rounds : Int
  entered : Int
def Report.ds (c : Report) : List D := [.int .i64 c.result.kind, .int .i64 c.result.value, .sl (List.map i64D c.result.data), .sl (List.map Core.ds c.result.kids), .sl (List.map i64D c.interactions), .sl (List.map i64D c.steps), .int .i64 c.peak, .int .i64 c.rounds, .int .i64 c.entered]
theorem Report.ds_eq (c : Report) : c.ds = [.int .i64 c.result.kind, .int .i64 c.result.value, .sl (List.map i64D c.result.data), .sl (List.map Core.ds c.result.kids), .sl (List.map i64D c.interactions), .sl (List.map i64D c.steps), .int .i64 c.peak, .int .i64 c.rounds, .int .i64 c.entered] := rfl
@[go_sem] def Report.avs (c : Report) : List AV := [.int .i64 c.result.kind, .int .i64 c.result.value, .ro (List.map i64D c.result.data), .ro (List.map Core.ds c.result.kids), .ro (List.map i64D c.interactions), .ro (List.map i64D c.steps), .int .i64 c.peak, .int .i64 c.rounds, .int .i64 c.entered]
@[go_sem] def Report.rv (c : Report) : List RV := [.int .i64 c.result.kind, .int .i64 c.result.value, .ow (some 1) (List.map i64D c.result.data), .ow (some 4) (List.map Core.ds c.result.kids), .ow (some 1) (List.map i64D c.interactions), .ow (some 1) (List.map i64D c.steps), .int .i64 c.peak, .int .i64 c.rounds, .int .i64 c.entered]
@[go_sem] def Report.rvn (c : Report) : List RV := [.int .i64 c.result.kind, .int .i64 c.result.value, .ow none (List.map i64D c.result.data), .ow none (List.map Core.ds c.result.kids), .ow none (List.map i64D c.interactions), .ow none (List.map i64D c.steps), .int .i64 c.peak, .int .i64 c.rounds, .int .i64 c.entered]
attribute [go_sem] Report.ds_eq
theorem Report.ds_len (c : Report) : c.ds.length = 9 := by rw [Report.ds_eq]; rfl
end Go.Proofs.YtlmanchbpommaaaDoor.Ab
