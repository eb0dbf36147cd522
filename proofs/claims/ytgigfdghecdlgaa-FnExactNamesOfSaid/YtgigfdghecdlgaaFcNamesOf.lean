/-
  The closed facts of the row of NamesOf.
-/
import Derived.Test.YtgigfdghecdlgaaRows
import Derived.Test.YtgigfdghecdlgaaFacts
namespace Go.Proofs.Ytgigfdghecdlgaa.lawNamesOf
open Go.Proofs.Ytgigfdghecdlgaa
set_option maxHeartbeats 40000000
theorem closed:joinedFacts Try.checked.prog 4 Try.f4 Rows.fnExactNamesOfSpec Rows.fnExactNamesOfRow=true:=by
 unfold joinedFacts
 exact(Bt (Bt (Bt (Bt (Bt (Bt (Bt (Bt (Bt (Bt (Bt (Bt (Bt (Bt (Bt (Bt (Bt (Bt (Bt (Bt (Bt (Bt (Bt (Bt (Bt (Bt (Bt (Bt (Bt (Bt (Bt (by as_aux_lemma=>kernel_rfl) (by as_aux_lemma=>kernel_rfl)) (by as_aux_lemma=>kernel_rfl)) (by as_aux_lemma=>kernel_rfl)) (by as_aux_lemma=>kernel_rfl)) (by as_aux_lemma=>kernel_rfl)) (by as_aux_lemma=>kernel_rfl)) (by as_aux_lemma=>kernel_rfl)) (by as_aux_lemma=>kernel_rfl)) (by as_aux_lemma=>kernel_rfl)) (by as_aux_lemma=>kernel_rfl)) (by as_aux_lemma=>kernel_rfl)) (by as_aux_lemma=>kernel_rfl)) (by as_aux_lemma=>kernel_rfl)) (by as_aux_lemma=>kernel_rfl)) (by as_aux_lemma=>kernel_rfl)) (by as_aux_lemma=>kernel_rfl)) (by as_aux_lemma=>kernel_rfl)) (by as_aux_lemma=>kernel_rfl)) (by as_aux_lemma=>kernel_rfl)) (by as_aux_lemma=>kernel_rfl)) (by as_aux_lemma=>kernel_rfl)) (by as_aux_lemma=>kernel_rfl)) (by as_aux_lemma=>kernel_rfl)) (by as_aux_lemma=>kernel_rfl)) PJ) Ui) WF) (by as_aux_lemma=>kernel_rfl)) (by as_aux_lemma=>kernel_rfl)) (by as_aux_lemma=>kernel_rfl)) (by as_aux_lemma=>kernel_rfl))
end Go.Proofs.Ytgigfdghecdlgaa.lawNamesOf
