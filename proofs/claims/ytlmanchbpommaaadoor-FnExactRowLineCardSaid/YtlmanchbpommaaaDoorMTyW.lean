/-
  Data of the program as Lean types; how they lie in memory. Printed by wip/ab/gen.py.
-/
import Derived.Test.YtlmanchbpommaaaDoorAbY
import Derived.Test.YtlmanchbpommaaaDoorModF
namespace Go.Proofs.YtlmanchbpommaaaDoor.Ab
set_option linter.unusedVariables false
set_option linter.unusedSimpArgs false
set_option maxRecDepth 20000
set_option maxHeartbeats 4000000
open Go.RowKit

structure Row where
  name : ByteArray
  typ : ByteArray
  size : Int
  agents : Int
  uses : List Int
def Row.ds (c : Row) : List D := [.str c.name, .str c.typ, .int .i64 c.size, .int .i64 c.agents, .sl (List.map i64D c.uses)]
theorem Row.ds_eq (c : Row) : c.ds = [.str c.name, .str c.typ, .int .i64 c.size, .int .i64 c.agents, .sl (List.map i64D c.uses)] := rfl
@[go_sem] def Row.avs (c : Row) : List AV := [.str c.name, .str c.typ, .int .i64 c.size, .int .i64 c.agents, .ro (List.map i64D c.uses)]
@[go_sem] def Row.rv (c : Row) : List RV := [.str c.name, .str c.typ, .int .i64 c.size, .int .i64 c.agents, .ow (some 1) (List.map i64D c.uses)]
@[go_sem] def Row.rvn (c : Row) : List RV := [.str c.name, .str c.typ, .int .i64 c.size, .int .i64 c.agents, .ow none (List.map i64D c.uses)]
attribute [go_sem] Row.ds_eq
theorem Row.ds_len (c : Row) : c.ds.length = 5 := by rw [Row.ds_eq]; rfl
end Go.Proofs.YtlmanchbpommaaaDoor.Ab
