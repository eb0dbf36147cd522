/-
  The law on ValidService, from what both sides give. Printed by wip/ab/genplain.py. No program is in sight.
-/
import Derived.Test.YtclmbjbbojdojaaGreatPlNet
import Derived.Test.YtclmbjbbojdojaaGreatPlTV
import Derived.Test.YtclmbjbbojdojaaGreatAbZ
import Derived.Test.YtclmbjbbojdojaaGreatModV
import Derived.Test.YtclmbjbbojdojaaGreatPlValidService
namespace Go.Proofs.YtclmbjbbojdojaaGreat.Ab
set_option linter.unusedVariables false
set_option linter.unusedSimpArgs false
open Go.RowKit
theorem Nj (a0:Service) (h0:Ct (Service.ds a0)):D1 a0=some true:=by
 unfold D1
 refine io (VE a0 (Service.ok_of a0 h0) (1048576) (by omega)) fun z0=>?_
 have b0:a0.sz≤Big:=by unfold Big; omega
 obtain⟨r,hs,hi,hr⟩:=Oz a0 (by omega)
 have ft0:E1 a0=some a0:=VF a0 b0
 have fe0:G2 a0 a0=some true:=(Qx a0 a0 b0).true rfl
 simp only [AA,hs,hi,ft0,fe0,U7,beq_self_eq_true,pX,eq_self,decide_true,decide_false,Bool.not_true,Bool.not_false,Bool.false_eq_true,reduceIte]
end Go.Proofs.YtclmbjbbojdojaaGreat.Ab
