/-
  Books: sizes, copies, comparisons, marks. No program is in sight.
-/
import Derived.Test.YtjdinbgcgbigoaaGreatPlG
import Derived.Test.YtjdinbgcgbigoaaGreatPlMC
import Derived.Test.YtjdinbgcgbigoaaGreatModD
namespace Go.Proofs.YtjdinbgcgbigoaaGreat.Ab
set_option linter.unusedVariables false
set_option linter.unusedSimpArgs false
open Go.RowKit
def Book.sz (b : Book) : Nat := Core.szs b.defs
theorem Book.parts (b : Book) (h : oksC (Book.ds b)) : b.defs.length ≤ 9223372036854775807 ∧ ∀ x ∈ b.defs, x.Fits := by
 rw [Book.ds_eq] at h
 simp only [oksC, D.ok, List.length_map] at h
 obtain ⟨⟨hk, hr⟩, -⟩ := h
 exact ⟨hk, fun x hx => x.fits_ok (oksR_mem hr hx)⟩
theorem szBook_e (b : Book) (h : oksC (Book.ds b)) (left : Nat) (h1 : left ≤ 1048576) : l_szBook b left = some (szr b.sz left) := by
 obtain ⟨hk, hf⟩ := b.parts h
 unfold l_szBook Book.sz
 rw [szCoreS_eq b.defs hk hf left fuel h1 (by rw [fuel_eq]; omega), bind_some', szr_neg]
 by_cases h2 : left < Core.szs b.defs
 ·rw [if_pos (by simpa using h2), szr_gt h2]
 ·rw [if_neg (by simpa using h2)]
theorem toBook_eq (b : Book) (h : b.sz ≤ Big) : l_toBook b = some b := by
 unfold l_toBook
 rw [toCoreS_e b.defs h, bind_some']
theorem eqBook_refl (b : Book) (h : b.sz ≤ Big) : l_eqBook b b = some true := by
 unfold l_eqBook
 rw [eqCoreS_e b.defs h, bind_some', if_neg (by simp)]
def Book.cntV (b : Book) : Nat := Core.cnts b.defs
def Book.mkV (k : Nat) (b : Book) : Book := ⟨Core.mks k b.defs⟩
theorem Book.cntV_le (b : Book) : b.cntV ≤ 2 * b.sz := Core.cnts_le b.defs
theorem markBook_eq (b : Book) (k : Nat) (h : b.sz ≤ Big) (hk : k + b.cntV ≤ KB) : l_markBook b (k : Int) = some (((k + b.cntV : Nat) : Int), (Book.mkV k b).defs) := by
 unfold l_markBook
 rw [markCoreS_eq _ _ h hk, bind_some']
 rfl
end Go.Proofs.YtjdinbgcgbigoaaGreat.Ab
