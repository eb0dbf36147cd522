/-
  Small lemmas for laws whose results hold no memory. No program is in sight.
-/
import Derived.Test.YtfbnlkaggggmiaaPlH
namespace Go.Proofs.Ytfbnlkaggggmiaa.Ab
set_option linter.unusedVariables false
set_option linter.unusedSimpArgs false
open Go.RowKit
theorem fuel_s : fuel = 4611686018427387903 + 1 := by rw [fuel_eq]
theorem lt00 {α : Type} : decide ((0 : Int) < ((List.length ([] : List α) : Nat) : Int)) = false := by simp
theorem len00 {α β : Type} : decide (((List.length ([] : List α) : Nat) : Int) = ((List.length ([] : List β) : Nat) : Int)) = true := by simp
theorem eqInt64S_nil : l_eqInt64S [] [] = some true := by
  unfold l_eqInt64S; rw [fuel_s, l_eqInt64S_l1]; simp
end Go.Proofs.Ytfbnlkaggggmiaa.Ab
