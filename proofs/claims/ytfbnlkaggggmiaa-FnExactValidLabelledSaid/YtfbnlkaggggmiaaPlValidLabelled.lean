/-
  The plain law of ValidLabelled, from what memory can hold.
-/
import Derived.Test.YtfbnlkaggggmiaaPlL
import Derived.Test.YtfbnlkaggggmiaaPlBookSize
namespace Go.Proofs.Ytfbnlkaggggmiaa.Ab
set_option linter.unusedVariables false
open Go.RowKit

theorem strs_of_ok {l : List ByteArray} (h : oksR (List.map strD l)) : ∀ s ∈ l, s.size ≤ 9223372036854775807 := by
  intro s hs
  have := oksR_mem h hs
  simp only [strD, oksC, D.ok] at this
  exact this.1
theorem ValidLabelled_plain (x : Labelled) (h : oksC (Labelled.ds x)) : l_FnExactValidLabelled x = some true := by
  rw [Labelled.ds_eq] at h
  simp only [oksC, D.ok, List.length_map] at h
  obtain ⟨h1, h2, h3, h4, ⟨h5, h6⟩, -⟩ := h
  refine ValidLabelled_law x (x.term.fits_of_ok ?_) h5 (strs_of_ok h6)
  rw [Core.ds_eq]
  simp only [oksC, D.ok, List.length_map]
  exact ⟨h1, h2, h3, h4, trivial⟩
end Go.Proofs.Ytfbnlkaggggmiaa.Ab
