/-
  The sum of sizes of a book. No program is in sight.
-/
import Derived.Test.YtgigfdghecdlgaaPlC
namespace Go.Proofs.Ytgigfdghecdlgaa.Ab
set_option linter.unusedVariables false
set_option linter.unusedSimpArgs false
open Go.RowKit

theorem CoreSize_eq (c : Core) (hs : c.Small) (hN : c.nodes ≤ Big) : i_CoreSize c = some (if c.valid = true then (c.nodes : Int) else 0) := by
  unfold i_CoreSize
  rw [ValidCore_eq c hs hN, bind_some']
  cases c.valid with
  | false => simp
  | true => rw [if_neg (by simp), coreExtent_eq c hs hN fuel (by have := fuel_nodes hN; omega), bind_some']; simp
/-! ### The law -/
end Go.Proofs.Ytgigfdghecdlgaa.Ab
