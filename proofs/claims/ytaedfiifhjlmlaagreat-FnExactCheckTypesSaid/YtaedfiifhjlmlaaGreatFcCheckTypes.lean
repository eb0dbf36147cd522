/-
  Facts on the program as a whole that each row of this seat asks for: the three that the kernel takes long over.
-/
import Derived.Test.YtaedfiifhjlmlaaGreatRows
import Derived.JoinedOf
namespace Go.Proofs.YtaedfiifhjlmlaaGreat
theorem DN {a b:Bool} (h:a=true) (k:b=true):(a&&b)=true:=by rw [h,k]; rfl
theorem VU:Tryz.checked.prog.mayEnter=true:=by kernel_rfl
theorem bA:(Rows.fnExactCheckTypesRow.lifted == Tryz.checked.prog.liftsFinal)=true:=by kernel_rfl
theorem dJ:(Tryz.checked.prog.make == some Rows.fnExactCheckTypesRow.make)=true:=by kernel_rfl
end Go.Proofs.YtaedfiifhjlmlaaGreat
namespace Go.Proofs.YtaedfiifhjlmlaaGreat.lawCheckTypes
open Go.Proofs.YtaedfiifhjlmlaaGreat
set_option maxHeartbeats 40000000
theorem closed:joinedFacts Tryz.checked.prog 3 Tryz.f3 Rows.fnExactCheckTypesSpec Rows.fnExactCheckTypesRow=true:=by
 unfold joinedFacts
 exact(DN (DN (DN (DN (DN (DN (DN (DN (DN (DN (DN (DN (DN (DN (DN (DN (DN (DN (DN (DN (DN (DN (DN (DN (DN (DN (DN (DN (DN (DN (DN (by as_aux_lemma=>kernel_rfl) (by as_aux_lemma=>kernel_rfl)) (by as_aux_lemma=>kernel_rfl)) (by as_aux_lemma=>kernel_rfl)) (by as_aux_lemma=>kernel_rfl)) (by as_aux_lemma=>kernel_rfl)) (by as_aux_lemma=>kernel_rfl)) (by as_aux_lemma=>kernel_rfl)) (by as_aux_lemma=>kernel_rfl)) (by as_aux_lemma=>kernel_rfl)) (by as_aux_lemma=>kernel_rfl)) (by as_aux_lemma=>kernel_rfl)) (by as_aux_lemma=>kernel_rfl)) (by as_aux_lemma=>kernel_rfl)) (by as_aux_lemma=>kernel_rfl)) (by as_aux_lemma=>kernel_rfl)) (by as_aux_lemma=>kernel_rfl)) (by as_aux_lemma=>kernel_rfl)) (by as_aux_lemma=>kernel_rfl)) (by as_aux_lemma=>kernel_rfl)) (by as_aux_lemma=>kernel_rfl)) (by as_aux_lemma=>kernel_rfl)) (by as_aux_lemma=>kernel_rfl)) (by as_aux_lemma=>kernel_rfl)) (by as_aux_lemma=>kernel_rfl)) VU) bA) dJ) (by as_aux_lemma=>kernel_rfl)) (by as_aux_lemma=>kernel_rfl)) (by as_aux_lemma=>kernel_rfl)) (by as_aux_lemma=>kernel_rfl))
end Go.Proofs.YtaedfiifhjlmlaaGreat.lawCheckTypes
