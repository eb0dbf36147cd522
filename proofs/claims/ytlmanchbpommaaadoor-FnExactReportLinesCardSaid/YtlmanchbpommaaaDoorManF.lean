/-
  Models of strconv.FormatInt (base 10) and strings.Join. No program is in sight.
-/
import Derived.Test.YtlmanchbpommaaaDoorAbY
import Derived.Lib.ItoaLen
import Derived.Lib.Join
namespace Go.Proofs.YtlmanchbpommaaaDoor.Ab
set_option linter.unusedVariables false
open Go.RowKit

def itoaB (n : Int) : ByteArray := ⟨(Lib.itoa n).toArray⟩
def joinB (l : List ByteArray) (sep : ByteArray) : ByteArray := ⟨(Lib.join (l.map (·.data.toList)) sep.data.toList).toArray⟩
def g_FormatInt (n base : Int) : Option ByteArray := if base = 10 then some (itoaB n) else none
def g_Join (l : List ByteArray) (sep : ByteArray) : Option ByteArray := if l.length ≤ 1073741824 ∧ (Lib.join (l.map (·.data.toList)) sep.data.toList).length ≤ 1073741824 then some (joinB l sep) else none
end Go.Proofs.YtlmanchbpommaaaDoor.Ab
