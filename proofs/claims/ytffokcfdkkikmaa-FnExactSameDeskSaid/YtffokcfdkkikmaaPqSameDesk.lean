/-
  The law on SameDesk, from what both sides give. Printed by wip/ab/genplain.py. No program is in sight.
-/
import Derived.Test.YtffokcfdkkikmaaPlG
import Derived.Test.YtffokcfdkkikmaaPlMC
import Derived.Test.YtffokcfdkkikmaaAbZ
import Derived.Test.YtffokcfdkkikmaaModD
import Derived.Test.YtffokcfdkkikmaaPlSameDesk
namespace Go.Proofs.Ytffokcfdkkikmaa.Ab
set_option linter.unusedVariables false
set_option linter.unusedSimpArgs false
open Go.RowKit

theorem SameDesk_plain (a0 : Desk) (h0 : oksC (Desk.ds a0)) (a1 : Desk) (h1 : oksC (Desk.ds a1)) : l_FnExactSameDesk a0 a1 = some true := by
  unfold l_FnExactSameDesk
  refine law_sz (szDesk_eq a0 (Desk.ok_of a0 h0) (1048576) (by omega)) fun z0 => ?_
  refine law_sz (szDesk_eq a1 (Desk.ok_of a1 h1) (1048576 - a0.sz) (by omega)) fun z1 => ?_
  have b0 : a0.sz ≤ Big := by unfold Big; omega
  have b1 : a1.sz ≤ Big := by unfold Big; omega
  obtain ⟨r, hs, hi, hr⟩ := SameDesk_same a0 a1 (by omega) (by omega)
  have ft0 : l_toDesk a0 = some a0 := toDesk_eq a0 b0
  have fe0 : l_eqDesk a0 a0 = some true := eqDesk_refl a0 b0
  have ft1 : l_toDesk a1 = some a1 := toDesk_eq a1 b1
  have fe1 : l_eqDesk a1 a1 = some true := eqDesk_refl a1 b1
  simp only [bind_some', hs, hi, ft0, fe0, ft1, fe1, sameStr_self, beq_self_eq_true, nneg, eq_self, decide_true, decide_false, Bool.not_true, Bool.not_false, Bool.false_eq_true, reduceIte]
end Go.Proofs.Ytffokcfdkkikmaa.Ab
