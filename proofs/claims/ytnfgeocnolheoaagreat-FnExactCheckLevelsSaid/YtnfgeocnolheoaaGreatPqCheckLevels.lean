/-
  The law on CheckLevels, from what both sides give. Printed by wip/ab/genplain.py. No program is in sight.
-/
import Derived.Test.YtnfgeocnolheoaaGreatPlG
import Derived.Test.YtnfgeocnolheoaaGreatAbZ
import Derived.Test.YtnfgeocnolheoaaGreatModL
import Derived.Test.YtnfgeocnolheoaaGreatPlLe
namespace Go.Proofs.YtnfgeocnolheoaaGreat.Ab
set_option linter.unusedVariables false
set_option linter.unusedSimpArgs false
open Go.RowKit
theorem O5 (a0:TProgram) (h0:Hn (TProgram.ds a0)):ET a0=some true:=by
 unfold ET
 refine dO (PM a0 (TProgram.ok_of a0 h0) (1048576) (by omega)) fun z0=>?_
 have b0:a0.sz≤Big:=by unfold Big; omega
 obtain⟨r,hs,hi⟩:=QG a0 (by omega)
 have ft0:Cd a0=some a0:=PN a0 b0
 have fe0:FA a0 a0=some true:=Mi a0 b0
 simp only [AA,hs,hi,ft0,fe0,Bj,beq_self_eq_true,eq_self,decide_true,decide_false,Bool.not_true,Bool.not_false,Bool.false_eq_true,reduceIte]
end Go.Proofs.YtnfgeocnolheoaaGreat.Ab
