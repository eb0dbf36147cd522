/-
  The law on TasksLeft, from what both sides give. Printed by wip/ab/genplain.py. No program is in sight.
-/
import Derived.Test.YtlmanchbpommaaaPlG
import Derived.Test.YtlmanchbpommaaaPlM
import Derived.Test.YtlmanchbpommaaaAbZ
import Derived.Test.YtlmanchbpommaaaModT
import Derived.Test.YtlmanchbpommaaaPlMT
import Derived.Test.YtlmanchbpommaaaPlTasksLeft
namespace Go.Proofs.Ytlmanchbpommaaa.Ab
set_option linter.unusedVariables false
set_option linter.unusedSimpArgs false
open Go.RowKit

theorem TasksLeft_plain (a0 : Deque) (h0 : oksC (Deque.ds a0)) : l_FnExactTasksLeft a0 = some true := by
  unfold l_FnExactTasksLeft
  refine law_sz (szDeque_eq a0 (Deque.ok_of a0 h0) (1048576) (by omega)) fun z0 => ?_
  have b0 : a0.sz ≤ Big := by unfold Big; omega
  obtain ⟨r, hs, hi, hr⟩ := TasksLeft_same a0 (by omega)
  have ft0 : l_toDeque a0 = some a0 := toDeque_eq a0 b0
  have fe0 : l_eqDeque a0 a0 = some true := (eqDeque_tells a0 a0 b0).true rfl
  have br0 := hr
  have ge0 : l_eqInt64S r.1 r.1 = some true := (eqInt64S_tells r.1 r.1 br0).true rfl
  have fm0 : l_markDeque a0 1 = some (((1 + a0.cntV : Nat) : Int), (Deque.mkV (1) a0).buffer, (Deque.mkV (1) a0).actors, (Deque.mkV (1) a0).taken, (Deque.mkV (1) a0).refused) := markDeque_eq a0 (1) b0 (by have := Deque.cntV_le a0; have := b0; unfold Big KB at *; omega)
  have gm0 : l_markInt64S r.1 1 = some (((1 + cnts one r.1 : Nat) : Int), mks mkI one (1) r.1) := markInt64S_eq r.1 (1) br0 (by have := cnts_flat (c := one) (b := 1) (l := r.1) (fun x => one_le); have := br0; unfold Big KB at *; omega)
  have gh0 : l_heldInt64S (mks mkI one (1) r.1) 1 = some (((1 + cnts one r.1 : Nat) : Int)) := heldInt64S_eq r.1 (1) br0 (by have := cnts_flat (c := one) (b := 1) (l := r.1) (fun x => one_le); have := br0; unfold Big KB at *; omega)
  simp only [bind_some', hs, hi, ft0, fe0, ge0, fm0, gm0, gh0, l_FnExactTasksLeft_j3, l_FnExactTasksLeft_j2, l_FnExactTasksLeft_j1, sameStr_self, beq_self_eq_true, nneg, eq_self, decide_true, decide_false, Bool.not_true, Bool.not_false, Bool.false_eq_true, reduceIte]
end Go.Proofs.Ytlmanchbpommaaa.Ab
