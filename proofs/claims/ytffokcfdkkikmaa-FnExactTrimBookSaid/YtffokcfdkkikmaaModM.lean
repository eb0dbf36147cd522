/-
  Models of the functions. Printed by wip/ab/gen.py.
-/
import Derived.Test.YtffokcfdkkikmaaMod
namespace Go.Proofs.Ytffokcfdkkikmaa.Ab
set_option linter.unusedVariables false
set_option linter.unusedSimpArgs false
set_option maxRecDepth 20000
set_option maxHeartbeats 4000000
open Go.RowKit

def l_markBook (a0 : Book) (a1 : Int) : Option (Int × (List Core)) :=
  (Option.bind (l_markCoreS fuel a0.defs a1) fun v2003 => (some (v2003.1, v2003.2)))
def l_heldBook (a0 : Book) (a1 : Int) : Option (Int) :=
  (Option.bind (l_heldCoreS fuel a0.defs a1) fun v2003 => (if (decide (v2003 < 0)) = true then (some (-1)) else (some v2003)))
end Go.Proofs.Ytffokcfdkkikmaa.Ab
