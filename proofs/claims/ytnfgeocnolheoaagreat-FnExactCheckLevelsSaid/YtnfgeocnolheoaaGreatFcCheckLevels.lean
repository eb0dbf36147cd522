/-
  The closed facts of the row of CheckLevels.
-/
import Derived.Test.YtnfgeocnolheoaaGreatRows
import Derived.Test.YtnfgeocnolheoaaGreatFacts
namespace Go.Proofs.YtnfgeocnolheoaaGreat.lawCheckLevels
open Go.Proofs.YtnfgeocnolheoaaGreat
set_option maxHeartbeats 40000000
theorem closed:joinedFacts Tryz.checked.prog 4 Tryz.f4 Rows.fnExactCheckLevelsSpec Rows.fnExactCheckLevelsRow=true:=by
 unfold joinedFacts
 exact(BG (BG (BG (BG (BG (BG (BG (BG (BG (BG (BG (BG (BG (BG (BG (BG (BG (BG (BG (BG (BG (BG (BG (BG (BG (BG (BG (BG (BG (BG (BG (by as_aux_lemma=>kernel_rfl) (by as_aux_lemma=>kernel_rfl)) (by as_aux_lemma=>kernel_rfl)) (by as_aux_lemma=>kernel_rfl)) (by as_aux_lemma=>kernel_rfl)) (by as_aux_lemma=>kernel_rfl)) (by as_aux_lemma=>kernel_rfl)) (by as_aux_lemma=>kernel_rfl)) (by as_aux_lemma=>kernel_rfl)) (by as_aux_lemma=>kernel_rfl)) (by as_aux_lemma=>kernel_rfl)) (by as_aux_lemma=>kernel_rfl)) (by as_aux_lemma=>kernel_rfl)) (by as_aux_lemma=>kernel_rfl)) (by as_aux_lemma=>kernel_rfl)) (by as_aux_lemma=>kernel_rfl)) (by as_aux_lemma=>kernel_rfl)) (by as_aux_lemma=>kernel_rfl)) (by as_aux_lemma=>kernel_rfl)) (by as_aux_lemma=>kernel_rfl)) (by as_aux_lemma=>kernel_rfl)) (by as_aux_lemma=>kernel_rfl)) (by as_aux_lemma=>kernel_rfl)) (by as_aux_lemma=>kernel_rfl)) (by as_aux_lemma=>kernel_rfl)) Sb) ZE) dK) (by as_aux_lemma=>kernel_rfl)) (by as_aux_lemma=>kernel_rfl)) (by as_aux_lemma=>kernel_rfl)) (by as_aux_lemma=>kernel_rfl))
end Go.Proofs.YtnfgeocnolheoaaGreat.lawCheckLevels
