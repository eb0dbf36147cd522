/-
  The law on TrimBook, from what both sides give. Printed by wip/ab/genplain.py. No program is in sight.
-/
import Derived.Test.YtffokcfdkkikmaaPlG
import Derived.Test.YtffokcfdkkikmaaPlMC
import Derived.Test.YtffokcfdkkikmaaAbZ
import Derived.Test.YtffokcfdkkikmaaModT
import Derived.Test.YtffokcfdkkikmaaPlBook
import Derived.Test.YtffokcfdkkikmaaPlTrim
namespace Go.Proofs.Ytffokcfdkkikmaa.Ab
set_option linter.unusedVariables false
set_option linter.unusedSimpArgs false
open Go.RowKit

theorem TrimBook_plain (a0 : Book) (h0 : oksC (Book.ds a0)) (a1 : Int) (w1 : (Lit.int IntKind.i64 a1).wf = true) : l_FnExactTrimBook a0 a1 = some true := by
  unfold l_FnExactTrimBook
  refine law_sz (szBook_e a0 h0 (1048576) (by omega)) fun z0 => ?_
  have b0 : a0.sz ≤ Big := by unfold Big; omega
  obtain ⟨r, hs, hi, hr⟩ := TrimBook_same a0 a1 (by omega)
  have ft0 : l_toBook a0 = some a0 := toBook_eq a0 b0
  have fe0 : l_eqBook a0 a0 = some true := eqBook_refl a0 b0
  have br0 := hr
  have ge0 : l_eqBook r.1 r.1 = some true := eqBook_refl r.1 br0
  have fm0 : l_markBook a0 1 = some (((1 + a0.cntV : Nat) : Int), (Book.mkV (1) a0).defs) := markBook_eq a0 (1) b0 (by have := Book.cntV_le a0; have := b0; unfold Big KB at *; omega)
  have gm0 : l_markBook r.1 1 = some (((1 + r.1.cntV : Nat) : Int), (Book.mkV (1) r.1).defs) := markBook_eq r.1 (1) br0 (by have := Book.cntV_le r.1; have := br0; unfold Big KB at *; omega)
  have gh0 : l_heldBook ⟨(Book.mkV (1) r.1).defs⟩ 1 = some (((1 + r.1.cntV : Nat) : Int)) := heldBook_eq r.1 (1) br0 (by have := Book.cntV_le r.1; have := br0; unfold Big KB at *; omega)
  simp only [bind_some', hs, hi, ft0, fe0, ge0, fm0, gm0, gh0, l_FnExactTrimBook_j3, l_FnExactTrimBook_j2, l_FnExactTrimBook_j1, sameStr_self, beq_self_eq_true, nneg, eq_self, decide_true, decide_false, Bool.not_true, Bool.not_false, Bool.false_eq_true, reduceIte]
end Go.Proofs.Ytffokcfdkkikmaa.Ab
