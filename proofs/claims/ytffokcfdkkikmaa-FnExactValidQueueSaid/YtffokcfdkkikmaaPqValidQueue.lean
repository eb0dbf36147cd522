/-
  The law on ValidQueue, from what both sides give. Printed by wip/ab/genplain.py. No program is in sight.
-/
import Derived.Test.YtffokcfdkkikmaaPlG
import Derived.Test.YtffokcfdkkikmaaPlMC
import Derived.Test.YtffokcfdkkikmaaAbZ
import Derived.Test.YtffokcfdkkikmaaModU
import Derived.Test.YtffokcfdkkikmaaPlTU
import Derived.Test.YtffokcfdkkikmaaModU
import Derived.Test.YtffokcfdkkikmaaPlVQ
namespace Go.Proofs.Ytffokcfdkkikmaa.Ab
set_option linter.unusedVariables false
set_option linter.unusedSimpArgs false
open Go.RowKit

theorem ValidQueue_plain (a0 : Queue) (h0 : oksC (Queue.ds a0)) : l_FnExactValidQueue a0 = some true := by
  unfold l_FnExactValidQueue
  refine law_sz (szQueue_eq a0 (Queue.ok_of a0 h0) (1048576) (by omega)) fun z0 => ?_
  have b0 : a0.sz ≤ Big := by unfold Big; omega
  obtain ⟨r, hs, hi, hr⟩ := ValidQueue_same a0 (by omega)
  have ft0 : l_toQueue a0 = some a0 := toQueue_eq a0 b0
  have fe0 : l_eqQueue a0 a0 = some true := (eqQueue_tells a0 a0 b0).true rfl
  simp only [bind_some', hs, hi, ft0, fe0, sameStr_self, beq_self_eq_true, nneg, eq_self, decide_true, decide_false, Bool.not_true, Bool.not_false, Bool.false_eq_true, reduceIte]
end Go.Proofs.Ytffokcfdkkikmaa.Ab
