/-
  The law on NewQueue: a new queue holds no jobs. No program is in sight.
-/
import Derived.Test.YtfbnlkaggggmiaaPlNil
import Derived.Test.YtfbnlkaggggmiaaModN
namespace Go.Proofs.Ytfbnlkaggggmiaa.Ab
set_option linter.unusedVariables false
set_option linter.unusedSimpArgs false
open Go.RowKit
theorem eqJobS_nil : l_eqJobS [] [] = some true := by unfold l_eqJobS; rw [fuel_s, l_eqJobS_l1]; simp
theorem markJobS_nil (k : Int) : l_markJobS [] k = some (k, []) := by unfold l_markJobS; rw [fuel_s, l_markJobS_l1]; simp
theorem heldJobS_nil (k : Int) : l_heldJobS [] k = some k := by unfold l_heldJobS; rw [fuel_s, l_heldJobS_l1]; simp
theorem newQueue_law (x a b c d : Int) (hs : s_NewQueue x = some (⟨a, b, c, []⟩, d)) (hi : i_NewQueue x = some (⟨a, b, c, []⟩, d)) : l_FnExactNewQueue x = some true := by
  have heq : l_eqQueue ⟨a, b, c, []⟩ ⟨a, b, c, []⟩ = some true := by unfold l_eqQueue; simp [eqJobS_nil]
  have hm : l_markQueue ⟨a, b, c, []⟩ 1 = some (1, []) := by unfold l_markQueue; simp [markJobS_nil]
  have hh : l_heldQueue ⟨a, b, c, []⟩ 1 = some 1 := by unfold l_heldQueue; simp [heldJobS_nil]
  unfold l_FnExactNewQueue l_FnExactNewQueue_j1 l_FnExactNewQueue_j2
  simp [hs, hi, heq, hm, hh]
theorem NewQueue_plain (x : Int) (h : (Lit.int .i64 x).wf = true) : l_FnExactNewQueue x = some true := by
  by_cases h1 : x < 1
  · exact newQueue_law x 0 0 0 2 (by unfold s_NewQueue s_l00In; simp [show ¬ 1 ≤ x by omega]) (by unfold i_NewQueue i_NewQueue_j1; simp [h1])
  · by_cases h2 : 50 < x
    · exact newQueue_law x 0 0 0 2 (by unfold s_NewQueue s_l00In; simp [show 1 ≤ x by omega, show ¬ x ≤ 50 by omega]) (by unfold i_NewQueue i_NewQueue_j1; simp [h1, h2])
    · exact newQueue_law x x 1 0 0 (by unfold s_NewQueue s_l00In; simp [show 1 ≤ x by omega, show x ≤ 50 by omega]) (by unfold i_NewQueue i_NewQueue_j1; simp [h1, h2])
end Go.Proofs.Ytfbnlkaggggmiaa.Ab
