/-
  Facts on the program as a whole that each row of this seat asks for: the three that the kernel takes long over.
-/
import Derived.Test.YtclmbjbbojdojaaGreatRows
import Derived.JoinedOf
namespace Go.Proofs.YtclmbjbbojdojaaGreat
theorem EN {a b:Bool} (h:a=true) (k:b=true):(a&&b)=true:=by rw [h,k]; rfl
theorem aN:Tryz.checked.prog.mayEnter=true:=by kernel_rfl
theorem jR:(Rows.fnExactNewServiceRow.lifted == Tryz.checked.prog.liftsFinal)=true:=by kernel_rfl
theorem mD:(Tryz.checked.prog.make == some Rows.fnExactNewServiceRow.make)=true:=by kernel_rfl
end Go.Proofs.YtclmbjbbojdojaaGreat
namespace Go.Proofs.YtclmbjbbojdojaaGreat.lawFinishToken
open Go.Proofs.YtclmbjbbojdojaaGreat
set_option maxHeartbeats 40000000
theorem closed:joinedFacts Tryz.checked.prog 5 Tryz.f5 Rows.fnExactFinishTokenSpec Rows.fnExactFinishTokenRow=true:=by
 unfold joinedFacts
 exact(EN (EN (EN (EN (EN (EN (EN (EN (EN (EN (EN (EN (EN (EN (EN (EN (EN (EN (EN (EN (EN (EN (EN (EN (EN (EN (EN (EN (EN (EN (EN (by as_aux_lemma=>kernel_rfl) (by as_aux_lemma=>kernel_rfl)) (by as_aux_lemma=>kernel_rfl)) (by as_aux_lemma=>kernel_rfl)) (by as_aux_lemma=>kernel_rfl)) (by as_aux_lemma=>kernel_rfl)) (by as_aux_lemma=>kernel_rfl)) (by as_aux_lemma=>kernel_rfl)) (by as_aux_lemma=>kernel_rfl)) (by as_aux_lemma=>kernel_rfl)) (by as_aux_lemma=>kernel_rfl)) (by as_aux_lemma=>kernel_rfl)) (by as_aux_lemma=>kernel_rfl)) (by as_aux_lemma=>kernel_rfl)) (by as_aux_lemma=>kernel_rfl)) (by as_aux_lemma=>kernel_rfl)) (by as_aux_lemma=>kernel_rfl)) (by as_aux_lemma=>kernel_rfl)) (by as_aux_lemma=>kernel_rfl)) (by as_aux_lemma=>kernel_rfl)) (by as_aux_lemma=>kernel_rfl)) (by as_aux_lemma=>kernel_rfl)) (by as_aux_lemma=>kernel_rfl)) (by as_aux_lemma=>kernel_rfl)) (by as_aux_lemma=>kernel_rfl)) aN) jR) mD) (by as_aux_lemma=>kernel_rfl)) (by as_aux_lemma=>kernel_rfl)) (by as_aux_lemma=>kernel_rfl)) (by as_aux_lemma=>kernel_rfl))
end Go.Proofs.YtclmbjbbojdojaaGreat.lawFinishToken
