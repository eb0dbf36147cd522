/-
  Models of slices.Sort and slices.Compact over []int64. No program is in sight.
-/
import Derived.Test.YtckcfdggbbabfaaAbY
import Derived.Lib.SlicesCompact
namespace Go.Proofs.Ytckcfdggbbabfaa.Ab
set_option linter.unusedVariables false
open Go.RowKit

def sortI (l : List Int) : List Int := l.mergeSort fun x y => decide (x ≤ y)
theorem sortI_length (l : List Int) : (sortI l).length = l.length := List.length_mergeSort ..
theorem sortI_mem {l : List Int} {x : Int} : x ∈ sortI l ↔ x ∈ l := List.mem_mergeSort
def g_Sort_sint64 (a0 : List Int) : Option (List Int) := if a0.length ≤ 68719476736 then some (sortI a0) else none
def g_Compact_sint64 (a0 : List Int) : Option (List Int) := some (Lib.compact a0)
end Go.Proofs.Ytckcfdggbbabfaa.Ab
