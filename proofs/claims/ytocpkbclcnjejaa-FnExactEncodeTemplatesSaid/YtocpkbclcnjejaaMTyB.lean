/-
  Data of the program as Lean types; how they lie in memory. Printed by wip/ab/gen.py.
-/
import Derived.Test.YtocpkbclcnjejaaAbY
import Derived.Test.YtocpkbclcnjejaaModC
namespace Go.Proofs.Ytocpkbclcnjejaa.Ab
set_option linter.unusedVariables false
set_option linter.unusedSimpArgs false
set_option maxRecDepth 20000
set_option maxHeartbeats 4000000
open Go.RowKit

structure Wire where
  a : Port
  b : Port
def Wire.ds (c : Wire) : List D := [.int .i64 c.a.agent, .int .i64 c.a.slot, .int .i64 c.b.agent, .int .i64 c.b.slot]
theorem Wire.ds_eq (c : Wire) : c.ds = [.int .i64 c.a.agent, .int .i64 c.a.slot, .int .i64 c.b.agent, .int .i64 c.b.slot] := rfl
@[go_sem] def Wire.avs (c : Wire) : List AV := [.int .i64 c.a.agent, .int .i64 c.a.slot, .int .i64 c.b.agent, .int .i64 c.b.slot]
@[go_sem] def Wire.rv (c : Wire) : List RV := [.int .i64 c.a.agent, .int .i64 c.a.slot, .int .i64 c.b.agent, .int .i64 c.b.slot]
@[go_sem] def Wire.rvn (c : Wire) : List RV := [.int .i64 c.a.agent, .int .i64 c.a.slot, .int .i64 c.b.agent, .int .i64 c.b.slot]
attribute [go_sem] Wire.ds_eq
theorem Wire.ds_len (c : Wire) : c.ds.length = 4 := by rw [Wire.ds_eq]; rfl
end Go.Proofs.Ytocpkbclcnjejaa.Ab
