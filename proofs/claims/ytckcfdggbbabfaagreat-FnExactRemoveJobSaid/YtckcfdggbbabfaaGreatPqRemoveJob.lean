/-
  The law on RemoveJob, from what both sides give. Printed by wip/ab/genplain.py. No program is in sight.
-/
import Derived.Test.YtckcfdggbbabfaaGreatPlG
import Derived.Test.YtckcfdggbbabfaaGreatPlM
import Derived.Test.YtckcfdggbbabfaaGreatAbZ
import Derived.Test.YtckcfdggbbabfaaGreatModR
import Derived.Test.YtckcfdggbbabfaaGreatPlMU
import Derived.Test.YtckcfdggbbabfaaGreatPlRemoveJob
namespace Go.Proofs.YtckcfdggbbabfaaGreat.Ab
set_option linter.unusedVariables false
set_option linter.unusedSimpArgs false
open Go.RowKit
theorem RemoveJob_plain (a0 : Queue) (h0 : oksC (Queue.ds a0)) (a1 : Int) (w1 : (Lit.int IntKind.i64 a1).wf = true) : l_FnExactRemoveJob a0 a1 = some true := by
 unfold l_FnExactRemoveJob
 refine law_sz (szQueue_eq a0 (Queue.ok_of a0 h0) (1048576) (by omega)) fun z0 => ?_
 have b0 : a0.sz ≤ Big := by unfold Big; omega
 obtain ⟨r, hs, hi, hr⟩ := RemoveJob_same a0 a1 (by omega)
 have ft0 : l_toQueue a0 = some a0 := toQueue_eq a0 b0
 have fe0 : l_eqQueue a0 a0 = some true := (eqQueue_tells a0 a0 b0).true rfl
 have br0 := hr
 have ge0 : l_eqQueue r.1 r.1 = some true := (eqQueue_tells r.1 r.1 br0).true rfl
 have fm0 : l_markQueue a0 1 = some (((1 + a0.cntV : Nat) : Int), (Queue.mkV (1) a0).jobs) := markQueue_eq a0 (1) b0 (by have := Queue.cntV_le a0; have := b0; unfold Big KB at *; omega)
 have gm0 : l_markQueue r.1 1 = some (((1 + r.1.cntV : Nat) : Int), (Queue.mkV (1) r.1).jobs) := markQueue_eq r.1 (1) br0 (by have := Queue.cntV_le r.1; have := br0; unfold Big KB at *; omega)
 have gh0 : l_heldQueue ⟨r.1.quantum, r.1.nextId, r.1.turn, (Queue.mkV (1) r.1).jobs⟩ 1 = some (((1 + r.1.cntV : Nat) : Int)) := heldQueue_eq r.1 (1) br0 (by have := Queue.cntV_le r.1; have := br0; unfold Big KB at *; omega)
 simp only [bind_some', hs, hi, ft0, fe0, ge0, fm0, gm0, gh0, l_FnExactRemoveJob_j3, l_FnExactRemoveJob_j2, l_FnExactRemoveJob_j1, sameStr_self, beq_self_eq_true, nneg, eq_self, decide_true, decide_false, Bool.not_true, Bool.not_false, Bool.false_eq_true, reduceIte]
end Go.Proofs.YtckcfdggbbabfaaGreat.Ab
