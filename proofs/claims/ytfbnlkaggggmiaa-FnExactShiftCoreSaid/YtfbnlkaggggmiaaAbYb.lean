/-
  The abstract walk: rows of data that are appended.
-/
import Derived.Test.YtfbnlkaggggmiaaAbY
namespace Go.Proofs.Ytfbnlkaggggmiaa.Ab
set_option linter.unusedVariables false
theorem flat_rows_of {α : Type} {f : α → List D} {sz : Nat} (h : ∀ x, (f x).length = sz ∧ ∀ d ∈ f x, d.flat = true) (l : List α) : ∀ row ∈ List.map f l, row.length = sz ∧ ∀ d ∈ row, d.flat = true := by
  intro row hr
  obtain ⟨x, -, rfl⟩ := List.mem_map.1 hr
  exact h x
theorem len_rows_of {α : Type} {f : α → List D} {sz : Nat} (h : ∀ x, (f x).length = sz) (l : List α) : ∀ row ∈ List.map f l, row.length = sz := by
  intro row hr
  obtain ⟨x, -, rfl⟩ := List.mem_map.1 hr
  exact h x
end Go.Proofs.Ytfbnlkaggggmiaa.Ab
