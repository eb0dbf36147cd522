/-
  The law on NameAt, from what both sides give. No program is in sight.
-/
import Derived.Test.YtgigfdghecdlgaaAbZ
import Derived.Test.YtgigfdghecdlgaaPlFo
import Derived.Test.YtgigfdghecdlgaaPlNameAt
namespace Go.Proofs.Ytgigfdghecdlgaa.Ab
set_option linter.unusedVariables false
set_option linter.unusedSimpArgs false
open Go.RowKit

theorem sameStr_refl (s : ByteArray) : sameStr s s = true := by unfold sameStr; simp
theorem strs_of_ok {l : List ByteArray} (h : oksR (List.map strD l)) : ∀ s ∈ l, s.size ≤ 9223372036854775807 := by
  intro s hs
  have := oksR_mem h hs
  simp only [strD, oksC, D.ok] at this
  exact this.1
theorem Labelled.parts (x : Labelled) (h : oksC (Labelled.ds x)) : x.term.Fits ∧ x.labels.length ≤ 9223372036854775807 ∧ ∀ s ∈ x.labels, s.size ≤ 9223372036854775807 := by
  rw [Labelled.ds_eq] at h
  simp only [oksC, D.ok, List.length_map] at h
  obtain ⟨h1, h2, h3, h4, ⟨h5, h6⟩, -⟩ := h
  refine ⟨x.term.fits_ok ?_, h5, strs_of_ok h6⟩
  rw [Core.ds_eq]
  simp only [oksC, D.ok, List.length_map]
  exact ⟨h1, h2, h3, h4, trivial⟩
theorem toLabelled_e (x : Labelled) (h1 : x.term.sz ≤ Big) (h3 : x.labels.length ≤ Big) : l_toLabelled x = some x := by
  unfold l_toLabelled
  rw [toCore_e _ h1, bind_some', toStringS_eq _ h3, bind_some']
theorem eqLabelled_e (x : Labelled) (h1 : x.term.sz ≤ Big) (h3 : x.labels.length ≤ Big) : l_eqLabelled x x = some true := by
  unfold l_eqLabelled
  rw [eqCore_e _ h1, bind_some', if_neg (by simp), eqStringS_eq _ h3, bind_some']
  rfl
theorem NameAt_plain (a0 : Labelled) (h0 : oksC (Labelled.ds a0)) (a1 : Int) (w1 : (Lit.int IntKind.i64 a1).wf = true) : l_FnExactNameAt a0 a1 = some true := by
  obtain ⟨hf, hl, hs⟩ := a0.parts h0
  unfold l_FnExactNameAt
  rw [szLabelled_eq a0 hf hl hs, bind_some', szr_neg]
  by_cases h : 1048576 < a0.term.sz + (a0.labels.length + strSz a0.labels)
  · rw [if_pos (by simpa using h)]
  rw [if_neg (by simpa using h)]
  obtain ⟨r, hr1, hr2⟩ := NameAt_same a0 a1 (by omega) (by omega)
  have ft0 := toLabelled_e a0 (by unfold Big; omega) (by unfold Big; omega)
  have fe0 := eqLabelled_e a0 (by unfold Big; omega) (by unfold Big; omega)
  rw [ft0, bind_some', hr1, bind_some', bind_some', hr2, bind_some', sameStr_refl]
  simp only [l_FnExactNameAt_j1, bind_some', ft0, fe0, decide_true, Bool.not_true, Bool.false_eq_true, reduceIte]
end Go.Proofs.Ytgigfdghecdlgaa.Ab
