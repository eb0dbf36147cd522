/-
  Models of slices.Grow of nothing, of slices.Values and of slices.Sorted of what it gives, over []int64. No program is in sight.
-/
import Derived.Test.YtckcfdggbbabfaaManS
namespace Go.Proofs.Ytckcfdggbbabfaa.Ab
set_option linter.unusedVariables false
open Go.RowKit

def g_Grow_sint64 (a0 : List Int) (n : Int) : Option (List Int) := if a0.length = 0 ∧ 0 ≤ n ∧ n ≤ 68719476736 then some [] else none
def g_Sorted_int64 (a0 : List Int) : Option (List Int) := if a0.length ≤ 17179869184 then some (sortI a0) else none
end Go.Proofs.Ytckcfdggbbabfaa.Ab
