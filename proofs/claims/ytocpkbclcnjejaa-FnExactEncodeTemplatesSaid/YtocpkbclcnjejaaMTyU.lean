/-
  Data of the program as Lean types; how they lie in memory. Printed by wip/ab/gen.py.
-/
import Derived.Test.YtocpkbclcnjejaaAbY
import Derived.Test.YtocpkbclcnjejaaMTy
namespace Go.Proofs.Ytocpkbclcnjejaa.Ab
set_option linter.unusedVariables false
set_option linter.unusedSimpArgs false
set_option maxRecDepth 20000
set_option maxHeartbeats 4000000
open Go.RowKit

structure Port where
  agent : Int
  slot : Int
def Port.ds (c : Port) : List D := [.int .i64 c.agent, .int .i64 c.slot]
theorem Port.ds_eq (c : Port) : c.ds = [.int .i64 c.agent, .int .i64 c.slot] := rfl
@[go_sem] def Port.avs (c : Port) : List AV := [.int .i64 c.agent, .int .i64 c.slot]
@[go_sem] def Port.rv (c : Port) : List RV := [.int .i64 c.agent, .int .i64 c.slot]
@[go_sem] def Port.rvn (c : Port) : List RV := [.int .i64 c.agent, .int .i64 c.slot]
attribute [go_sem] Port.ds_eq
theorem Port.ds_len (c : Port) : c.ds.length = 2 := by rw [Port.ds_eq]; rfl
structure Agent where
  kind : Int
  level : Int
  value : Int
  data : List Int
  ports : List Port
def Agent.ds (c : Agent) : List D := [.int .i64 c.kind, .int .i64 c.level, .int .i64 c.value, .sl (List.map i64D c.data), .sl (List.map Port.ds c.ports)]
theorem Agent.ds_eq (c : Agent) : c.ds = [.int .i64 c.kind, .int .i64 c.level, .int .i64 c.value, .sl (List.map i64D c.data), .sl (List.map Port.ds c.ports)] := rfl
@[go_sem] def Agent.avs (c : Agent) : List AV := [.int .i64 c.kind, .int .i64 c.level, .int .i64 c.value, .ro (List.map i64D c.data), .ro (List.map Port.ds c.ports)]
@[go_sem] def Agent.rv (c : Agent) : List RV := [.int .i64 c.kind, .int .i64 c.level, .int .i64 c.value, .ow (some 1) (List.map i64D c.data), .ow (some 2) (List.map Port.ds c.ports)]
@[go_sem] def Agent.rvn (c : Agent) : List RV := [.int .i64 c.kind, .int .i64 c.level, .int .i64 c.value, .ow none (List.map i64D c.data), .ow none (List.map Port.ds c.ports)]
attribute [go_sem] Agent.ds_eq
theorem Agent.ds_len (c : Agent) : c.ds.length = 5 := by rw [Agent.ds_eq]; rfl
structure Net where
  agents : List Agent
def Net.ds (c : Net) : List D := [.sl (List.map Agent.ds c.agents)]
theorem Net.ds_eq (c : Net) : c.ds = [.sl (List.map Agent.ds c.agents)] := rfl
@[go_sem] def Net.avs (c : Net) : List AV := [.ro (List.map Agent.ds c.agents)]
@[go_sem] def Net.rv (c : Net) : List RV := [.ow (some 5) (List.map Agent.ds c.agents)]
@[go_sem] def Net.rvn (c : Net) : List RV := [.ow none (List.map Agent.ds c.agents)]
attribute [go_sem] Net.ds_eq
theorem Net.ds_len (c : Net) : c.ds.length = 1 := by rw [Net.ds_eq]; rfl
end Go.Proofs.Ytocpkbclcnjejaa.Ab
