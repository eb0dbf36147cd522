/-
  A model of slices.Delete of one element, over []Job. No program is in sight.
-/
import Derived.Test.YtckcfdggbbabfaaGreatMTyU
namespace Go.Proofs.YtckcfdggbbabfaaGreat.Ab
set_option linter.unusedVariables false
open Go.RowKit
def g_Delete_simpl_Job (a0 : List Job) (i j : Int) : Option (List Job) := if 0 ≤ i ∧ j = i + 1 ∧ i < a0.length then some (a0.take i.toNat ++ a0.drop (i.toNat + 1)) else none
end Go.Proofs.YtckcfdggbbabfaaGreat.Ab
