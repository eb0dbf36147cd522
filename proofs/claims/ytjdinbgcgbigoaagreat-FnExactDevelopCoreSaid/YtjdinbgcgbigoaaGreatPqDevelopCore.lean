/-
  The law on DevelopCore, from what both sides give. Printed by wip/ab/genplain.py. No program is in sight.
-/
import Derived.Test.YtjdinbgcgbigoaaGreatPlG
import Derived.Test.YtjdinbgcgbigoaaGreatPlMC
import Derived.Test.YtjdinbgcgbigoaaGreatAbZ
import Derived.Test.YtjdinbgcgbigoaaGreatModD
import Derived.Test.YtjdinbgcgbigoaaGreatPlMC
import Derived.Test.YtjdinbgcgbigoaaGreatPlBook
import Derived.Test.YtjdinbgcgbigoaaGreatPlDevelopCore
namespace Go.Proofs.YtjdinbgcgbigoaaGreat.Ab
set_option linter.unusedVariables false
set_option linter.unusedSimpArgs false
open Go.RowKit
theorem DevelopCore_plain (a0 : Book) (h0 : oksC (Book.ds a0)) (a1 : Core) (h1 : oksC (Core.ds a1)) : l_FnExactDevelopCore a0 a1 = some true := by
 unfold l_FnExactDevelopCore
 refine law_sz (szBook_e a0 h0 (1048576) (by omega)) fun z0 => ?_
 refine law_sz (szCore_eq a1 (Core.fits_ok a1 h1) (1048576 - a0.sz) fuel (by omega) (by rw [fuel_eq]; omega)) fun z1 => ?_
 have b0 : a0.sz ≤ Big := by unfold Big; omega
 have b1 : a1.sz ≤ Big := by unfold Big; omega
 obtain ⟨r, hs, hi, hr⟩ := DevelopCore_same a0 a1 (by omega) (by omega)
 have ft0 : l_toBook a0 = some a0 := toBook_eq a0 b0
 have fe0 : l_eqBook a0 a0 = some true := eqBook_refl a0 b0
 have ft1 : l_toCore fuel a1 = some a1 := toCore_e a1 b1
 have fe1 : l_eqCore fuel a1 a1 = some true := eqCore_e a1 b1
 have br0 := hr
 have ge0 : l_eqCore fuel r.1 r.1 = some true := eqCore_e r.1 br0
 have fm0 : l_markBook a0 1 = some (((1 + a0.cntV : Nat) : Int), (Book.mkV (1) a0).defs) := markBook_eq a0 (1) b0 (by have := Book.cntV_le a0; have := b0; unfold Big KB at *; omega)
 have fm1 : l_markCore a1 ((1 + a0.cntV : Nat) : Int) = some (((1 + a0.cntV + a1.cntV : Nat) : Int), (Core.mkV (1 + a0.cntV) a1).data, (Core.mkV (1 + a0.cntV) a1).kids) := markCore_eq a1 (1 + a0.cntV) b1 (by have := Book.cntV_le a0; have := b0; have := Core.cntV_le a1; have := b1; unfold Big KB at *; omega)
 have gm0 : l_markCore r.1 1 = some (((1 + r.1.cntV : Nat) : Int), (Core.mkV (1) r.1).data, (Core.mkV (1) r.1).kids) := markCore_eq r.1 (1) br0 (by have := Core.cntV_le r.1; have := br0; unfold Big KB at *; omega)
 have gh0 : l_heldCore ⟨r.1.kind, r.1.value, (Core.mkV (1) r.1).data, (Core.mkV (1) r.1).kids⟩ 1 = some (((1 + r.1.cntV : Nat) : Int)) := heldCore_eq r.1 (1) br0 (by have := Core.cntV_le r.1; have := br0; unfold Big KB at *; omega)
 simp only [bind_some', hs, hi, ft0, fe0, ft1, fe1, ge0, fm0, fm1, gm0, gh0, l_FnExactDevelopCore_j3, l_FnExactDevelopCore_j2, l_FnExactDevelopCore_j1, sameStr_self, beq_self_eq_true, nneg, eq_self, decide_true, decide_false, Bool.not_true, Bool.not_false, Bool.false_eq_true, reduceIte]
end Go.Proofs.YtjdinbgcgbigoaaGreat.Ab
