/-
  The closed facts of the row of DecodeBook.
-/
import Derived.Test.YtijdanbelnmmlaaRows
import Derived.Test.YtijdanbelnmmlaaFacts
namespace Go.Proofs.Ytijdanbelnmmlaa.lawDecodeBook
open Go.Proofs.Ytijdanbelnmmlaa
set_option maxHeartbeats 40000000
theorem closed:joinedFacts Try.checked.prog 3 Try.f3 Rows.fnExactDecodeBookSpec Rows.fnExactDecodeBookRow=true:=by
 unfold joinedFacts
 exact(CM (CM (CM (CM (CM (CM (CM (CM (CM (CM (CM (CM (CM (CM (CM (CM (CM (CM (CM (CM (CM (CM (CM (CM (CM (CM (CM (CM (CM (CM (CM (by as_aux_lemma=>kernel_rfl) (by as_aux_lemma=>kernel_rfl)) (by as_aux_lemma=>kernel_rfl)) (by as_aux_lemma=>kernel_rfl)) (by as_aux_lemma=>kernel_rfl)) (by as_aux_lemma=>kernel_rfl)) (by as_aux_lemma=>kernel_rfl)) (by as_aux_lemma=>kernel_rfl)) (by as_aux_lemma=>kernel_rfl)) (by as_aux_lemma=>kernel_rfl)) (by as_aux_lemma=>kernel_rfl)) (by as_aux_lemma=>kernel_rfl)) (by as_aux_lemma=>kernel_rfl)) (by as_aux_lemma=>kernel_rfl)) (by as_aux_lemma=>kernel_rfl)) (by as_aux_lemma=>kernel_rfl)) (by as_aux_lemma=>kernel_rfl)) (by as_aux_lemma=>kernel_rfl)) (by as_aux_lemma=>kernel_rfl)) (by as_aux_lemma=>kernel_rfl)) (by as_aux_lemma=>kernel_rfl)) (by as_aux_lemma=>kernel_rfl)) (by as_aux_lemma=>kernel_rfl)) (by as_aux_lemma=>kernel_rfl)) (by as_aux_lemma=>kernel_rfl)) Pl) VE) Wx) (by as_aux_lemma=>kernel_rfl)) (by as_aux_lemma=>kernel_rfl)) (by as_aux_lemma=>kernel_rfl)) (by as_aux_lemma=>kernel_rfl))
end Go.Proofs.Ytijdanbelnmmlaa.lawDecodeBook
