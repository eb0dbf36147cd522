/-
  The law on HandedOnce, from what both sides give. Printed by wip/ab/genplain.py. No program is in sight.
-/
import Derived.Test.YtckcfdggbbabfaaPlG
import Derived.Test.YtckcfdggbbabfaaPlM
import Derived.Test.YtckcfdggbbabfaaAbZ
import Derived.Test.YtckcfdggbbabfaaModH
import Derived.Test.YtckcfdggbbabfaaPlTU
import Derived.Test.YtckcfdggbbabfaaPlHandedOnce
namespace Go.Proofs.Ytckcfdggbbabfaa.Ab
set_option linter.unusedVariables false
set_option linter.unusedSimpArgs false
open Go.RowKit

theorem law_len {n : Nat} {K : Option Bool} (h : n ≤ 1048576 → K = some true) : (if (decide ((1048576 : Int) < ((n : Nat) : Int))) = true then some true else K) = some true := by
  by_cases h1 : n ≤ 1048576
  · rw [decide_eq_false (by omega), if_neg (by simp)]; exact h h1
  · rw [decide_eq_true (by omega), if_pos rfl]
theorem HandedOnce_plain (a0 : Deque) (h0 : oksC (Deque.ds a0)) (a1 : List Int) (h1 : oksC ((slD i64D a1))) : l_FnExactHandedOnce a0 a1 = some true := by
  unfold l_FnExactHandedOnce
  refine law_len (n := a1.length) fun z1 => ?_
  refine law_sz (szDeque_eq a0 (Deque.ok_of a0 h0) (1048576) (by omega)) fun z0 => ?_
  have b0 : a0.sz ≤ Big := by unfold Big; omega
  have b1 : a1.length ≤ Big := by unfold Big; omega
  obtain ⟨r, hs, hi, hr⟩ := HandedOnce_same a0 a1 (by omega) (by omega)
  have ft0 : l_toDeque a0 = some a0 := toDeque_eq a0 b0
  have fe0 : l_eqDeque a0 a0 = some true := (eqDeque_tells a0 a0 b0).true rfl
  have ft1 : l_toInt64S a1 = some a1 := toInt64S_eq a1 b1
  have fe1 : l_eqInt64S a1 a1 = some true := (eqInt64S_tells a1 a1 b1).true rfl
  simp only [bind_some', hs, hi, ft0, fe0, ft1, fe1, sameStr_self, beq_self_eq_true, nneg, eq_self, decide_true, decide_false, Bool.not_true, Bool.not_false, Bool.false_eq_true, reduceIte]
end Go.Proofs.Ytckcfdggbbabfaa.Ab
