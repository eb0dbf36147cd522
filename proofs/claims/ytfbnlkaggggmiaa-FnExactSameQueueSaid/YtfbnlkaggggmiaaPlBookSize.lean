/-
  The plain law of BookSize, from what memory can hold.
-/
import Derived.Test.YtfbnlkaggggmiaaPlE
import Derived.Test.YtfbnlkaggggmiaaAbZ
namespace Go.Proofs.Ytfbnlkaggggmiaa.Ab
set_option linter.unusedVariables false
open Go.RowKit

theorem Core.fits_of_ok : ∀ (c : Core), oksC (Core.ds c) → c.Fits := by
  refine Core.ind fun c ih h => ?_
  rw [Core.ds_eq] at h
  simp only [oksC, D.ok, List.length_map] at h
  obtain ⟨-, -, ⟨hd, -⟩, ⟨hk, hr⟩, -⟩ := h
  exact ⟨c, hd, hk, fun k hkk => ih k hkk (oksR_mem hr hkk)⟩
theorem BookSize_plain (b : Book) (h : oksC (Book.ds b)) : l_FnExactBookSize b = some true := by
  rw [Book.ds_eq] at h
  simp only [oksC, D.ok, List.length_map] at h
  obtain ⟨⟨hk, hr⟩, -⟩ := h
  exact BookSize_law b hk fun x hx => x.fits_of_ok (oksR_mem hr hx)
end Go.Proofs.Ytfbnlkaggggmiaa.Ab
