/-
  The closed facts of the row of Interact.
-/
import Derived.Test.YtckcfdggbbabfaaGreatRows
import Derived.Test.YtckcfdggbbabfaaGreatFacts
namespace Go.Proofs.YtckcfdggbbabfaaGreat.lawInteract
open Go.Proofs.YtckcfdggbbabfaaGreat
set_option maxHeartbeats 40000000
theorem closed:joinedFacts Tryz.checked.prog 4 Tryz.f4 Rows.fnExactInteractSpec Rows.fnExactInteractRow=true:=by
 unfold joinedFacts
 exact(DI (DI (DI (DI (DI (DI (DI (DI (DI (DI (DI (DI (DI (DI (DI (DI (DI (DI (DI (DI (DI (DI (DI (DI (DI (DI (DI (DI (DI (DI (DI (by as_aux_lemma=>kernel_rfl) (by as_aux_lemma=>kernel_rfl)) (by as_aux_lemma=>kernel_rfl)) (by as_aux_lemma=>kernel_rfl)) (by as_aux_lemma=>kernel_rfl)) (by as_aux_lemma=>kernel_rfl)) (by as_aux_lemma=>kernel_rfl)) (by as_aux_lemma=>kernel_rfl)) (by as_aux_lemma=>kernel_rfl)) (by as_aux_lemma=>kernel_rfl)) (by as_aux_lemma=>kernel_rfl)) (by as_aux_lemma=>kernel_rfl)) (by as_aux_lemma=>kernel_rfl)) (by as_aux_lemma=>kernel_rfl)) (by as_aux_lemma=>kernel_rfl)) (by as_aux_lemma=>kernel_rfl)) (by as_aux_lemma=>kernel_rfl)) (by as_aux_lemma=>kernel_rfl)) (by as_aux_lemma=>kernel_rfl)) (by as_aux_lemma=>kernel_rfl)) (by as_aux_lemma=>kernel_rfl)) (by as_aux_lemma=>kernel_rfl)) (by as_aux_lemma=>kernel_rfl)) (by as_aux_lemma=>kernel_rfl)) (by as_aux_lemma=>kernel_rfl)) U8) cC) eP) (by as_aux_lemma=>kernel_rfl)) (by as_aux_lemma=>kernel_rfl)) (by as_aux_lemma=>kernel_rfl)) (by as_aux_lemma=>kernel_rfl))
end Go.Proofs.YtckcfdggbbabfaaGreat.lawInteract
