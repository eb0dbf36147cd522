/-
  What memory can hold fits. No program is in sight.
-/
import Derived.Test.YtgigfdghecdlgaaPlG
import Derived.Test.YtgigfdghecdlgaaAbZ
namespace Go.Proofs.Ytgigfdghecdlgaa.Ab
set_option linter.unusedVariables false
set_option linter.unusedSimpArgs false
open Go.RowKit

theorem Core.fits_ok : ∀ (c : Core), oksC (Core.ds c) → c.Fits := by
  refine Core.ind fun c ih h => ?_
  rw [Core.ds_eq] at h
  simp only [oksC, D.ok, List.length_map] at h
  obtain ⟨-, -, ⟨hd, -⟩, ⟨hk, hr⟩, -⟩ := h
  exact ⟨c, hd, hk, fun k hkk => ih k hkk (oksR_mem hr hkk)⟩
end Go.Proofs.Ytgigfdghecdlgaa.Ab
