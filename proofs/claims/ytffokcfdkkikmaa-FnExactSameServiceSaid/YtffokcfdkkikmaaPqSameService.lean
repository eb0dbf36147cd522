/-
  The law on SameService, from what both sides give. Printed by wip/ab/genplain.py. No program is in sight.
-/
import Derived.Test.YtffokcfdkkikmaaPlG
import Derived.Test.YtffokcfdkkikmaaPlM
import Derived.Test.YtffokcfdkkikmaaAbZ
import Derived.Test.YtffokcfdkkikmaaModV
import Derived.Test.YtffokcfdkkikmaaPlSameService
namespace Go.Proofs.Ytffokcfdkkikmaa.Ab
set_option linter.unusedVariables false
set_option linter.unusedSimpArgs false
open Go.RowKit

theorem SameService_plain (a0 : Service) (h0 : oksC (Service.ds a0)) (a1 : Service) (h1 : oksC (Service.ds a1)) : l_FnExactSameService a0 a1 = some true := by
  unfold l_FnExactSameService
  refine law_sz (szService_eq a0 (Service.ok_of a0 h0) (1048576) (by omega)) fun z0 => ?_
  refine law_sz (szService_eq a1 (Service.ok_of a1 h1) (1048576 - a0.sz) (by omega)) fun z1 => ?_
  have b0 : a0.sz ≤ Big := by unfold Big; omega
  have b1 : a1.sz ≤ Big := by unfold Big; omega
  obtain ⟨r, hs, hi, hr⟩ := SameService_same a0 a1 (by omega) (by omega)
  have ft0 : l_toService a0 = some a0 := toService_eq a0 b0
  have fe0 : l_eqService a0 a0 = some true := (eqService_tells a0 a0 b0).true rfl
  have ft1 : l_toService a1 = some a1 := toService_eq a1 b1
  have fe1 : l_eqService a1 a1 = some true := (eqService_tells a1 a1 b1).true rfl
  simp only [bind_some', hs, hi, ft0, fe0, ft1, fe1, sameStr_self, beq_self_eq_true, nneg, eq_self, decide_true, decide_false, Bool.not_true, Bool.not_false, Bool.false_eq_true, reduceIte]
end Go.Proofs.Ytffokcfdkkikmaa.Ab
