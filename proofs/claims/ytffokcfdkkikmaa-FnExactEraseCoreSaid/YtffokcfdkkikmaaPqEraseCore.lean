/-
  The law on EraseCore, from what both sides give. Printed by wip/ab/genplain.py. No program is in sight.
-/
import Derived.Test.YtffokcfdkkikmaaPlG
import Derived.Test.YtffokcfdkkikmaaPlMC
import Derived.Test.YtffokcfdkkikmaaAbZ
import Derived.Test.YtffokcfdkkikmaaModE
import Derived.Test.YtffokcfdkkikmaaPlErase
namespace Go.Proofs.Ytffokcfdkkikmaa.Ab
set_option linter.unusedVariables false
set_option linter.unusedSimpArgs false
open Go.RowKit

theorem EraseCore_plain (a0 : Core) (h0 : oksC (Core.ds a0)) : l_FnExactEraseCore a0 = some true := by
  unfold l_FnExactEraseCore
  refine law_sz (szCore_eq a0 (Core.fits_ok a0 h0) (1048576) fuel (by omega) (by rw [fuel_eq]; omega)) fun z0 => ?_
  have b0 : a0.sz ≤ Big := by unfold Big; omega
  obtain ⟨r, hs, hi, hr⟩ := EraseCore_same a0 (by omega)
  have ft0 : l_toCore fuel a0 = some a0 := toCore_e a0 b0
  have fe0 : l_eqCore fuel a0 a0 = some true := eqCore_e a0 b0
  have br0 := hr
  have ge0 : l_eqCore fuel r.1 r.1 = some true := eqCore_e r.1 br0
  have fm0 : l_markCore a0 1 = some (((1 + a0.cntV : Nat) : Int), (Core.mkV (1) a0).data, (Core.mkV (1) a0).kids) := markCore_eq a0 (1) b0 (by have := Core.cntV_le a0; have := b0; unfold Big KB at *; omega)
  have gm0 : l_markCore r.1 1 = some (((1 + r.1.cntV : Nat) : Int), (Core.mkV (1) r.1).data, (Core.mkV (1) r.1).kids) := markCore_eq r.1 (1) br0 (by have := Core.cntV_le r.1; have := br0; unfold Big KB at *; omega)
  have gh0 : l_heldCore ⟨r.1.kind, r.1.value, (Core.mkV (1) r.1).data, (Core.mkV (1) r.1).kids⟩ 1 = some (((1 + r.1.cntV : Nat) : Int)) := heldCore_eq r.1 (1) br0 (by have := Core.cntV_le r.1; have := br0; unfold Big KB at *; omega)
  simp only [bind_some', hs, hi, ft0, fe0, ge0, fm0, gm0, gh0, l_FnExactEraseCore_j3, l_FnExactEraseCore_j2, l_FnExactEraseCore_j1, sameStr_self, beq_self_eq_true, nneg, eq_self, decide_true, decide_false, Bool.not_true, Bool.not_false, Bool.false_eq_true, reduceIte]
end Go.Proofs.Ytffokcfdkkikmaa.Ab
