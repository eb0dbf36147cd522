/-
  The law on RowLine, from what both sides give. Printed by wip/ab/genplain.py. No program is in sight.
-/
import Derived.Test.YtlmanchbpommaaaDoorPlG
import Derived.Test.YtlmanchbpommaaaDoorPlM
import Derived.Test.YtlmanchbpommaaaDoorAbZ
import Derived.Test.YtlmanchbpommaaaDoorModW
import Derived.Test.YtlmanchbpommaaaDoorPlTW
import Derived.Test.YtlmanchbpommaaaDoorPlRowLine
namespace Go.Proofs.YtlmanchbpommaaaDoor.Ab
set_option linter.unusedVariables false
set_option linter.unusedSimpArgs false
open Go.RowKit

theorem RowLine_plain (a0 : Row) (h0 : oksC (Row.ds a0)) : l_FnExactRowLine a0 = some true := by
  unfold l_FnExactRowLine
  refine law_sz (szRow_eq a0 (Row.ok_of a0 h0) (1048576) (by omega)) fun z0 => ?_
  have b0 : a0.sz ≤ Big := by unfold Big; omega
  obtain ⟨r, hs, hi, hr⟩ := RowLine_same a0 (by omega) (Row.ok_of a0 h0)
  have ft0 : l_toRow a0 = some a0 := toRow_eq a0 b0
  have fe0 : l_eqRow a0 a0 = some true := (eqRow_tells a0 a0 b0).true rfl
  simp only [bind_some', hs, hi, ft0, fe0, sameStr_self, beq_self_eq_true, nneg, eq_self, decide_true, decide_false, Bool.not_true, Bool.not_false, Bool.false_eq_true, reduceIte]
end Go.Proofs.YtlmanchbpommaaaDoor.Ab
