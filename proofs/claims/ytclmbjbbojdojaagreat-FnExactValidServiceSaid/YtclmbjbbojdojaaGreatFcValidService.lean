/-
  Facts on the program as a whole that each row of this seat asks for: the three that the kernel takes long over.
-/
import Derived.Test.YtclmbjbbojdojaaGreatRows
import Derived.JoinedOf
namespace Go.Proofs.YtclmbjbbojdojaaGreat
theorem Dm {a b:Bool} (h:a=true) (k:b=true):(a&&b)=true:=by rw [h,k]; rfl
theorem X2:Tryz.checked.prog.mayEnter=true:=by kernel_rfl
theorem fG:(Rows.fnExactNewServiceRow.lifted == Tryz.checked.prog.liftsFinal)=true:=by kernel_rfl
theorem iZ:(Tryz.checked.prog.make == some Rows.fnExactNewServiceRow.make)=true:=by kernel_rfl
end Go.Proofs.YtclmbjbbojdojaaGreat
namespace Go.Proofs.YtclmbjbbojdojaaGreat.lawValidService
open Go.Proofs.YtclmbjbbojdojaaGreat
set_option maxHeartbeats 40000000
theorem closed:joinedFacts Tryz.checked.prog 4 Tryz.f4 Rows.fnExactValidServiceSpec Rows.fnExactValidServiceRow=true:=by
 unfold joinedFacts
 exact(Dm (Dm (Dm (Dm (Dm (Dm (Dm (Dm (Dm (Dm (Dm (Dm (Dm (Dm (Dm (Dm (Dm (Dm (Dm (Dm (Dm (Dm (Dm (Dm (Dm (Dm (Dm (Dm (Dm (Dm (Dm (by as_aux_lemma=>kernel_rfl) (by as_aux_lemma=>kernel_rfl)) (by as_aux_lemma=>kernel_rfl)) (by as_aux_lemma=>kernel_rfl)) (by as_aux_lemma=>kernel_rfl)) (by as_aux_lemma=>kernel_rfl)) (by as_aux_lemma=>kernel_rfl)) (by as_aux_lemma=>kernel_rfl)) (by as_aux_lemma=>kernel_rfl)) (by as_aux_lemma=>kernel_rfl)) (by as_aux_lemma=>kernel_rfl)) (by as_aux_lemma=>kernel_rfl)) (by as_aux_lemma=>kernel_rfl)) (by as_aux_lemma=>kernel_rfl)) (by as_aux_lemma=>kernel_rfl)) (by as_aux_lemma=>kernel_rfl)) (by as_aux_lemma=>kernel_rfl)) (by as_aux_lemma=>kernel_rfl)) (by as_aux_lemma=>kernel_rfl)) (by as_aux_lemma=>kernel_rfl)) (by as_aux_lemma=>kernel_rfl)) (by as_aux_lemma=>kernel_rfl)) (by as_aux_lemma=>kernel_rfl)) (by as_aux_lemma=>kernel_rfl)) (by as_aux_lemma=>kernel_rfl)) X2) fG) iZ) (by as_aux_lemma=>kernel_rfl)) (by as_aux_lemma=>kernel_rfl)) (by as_aux_lemma=>kernel_rfl)) (by as_aux_lemma=>kernel_rfl))
end Go.Proofs.YtclmbjbbojdojaaGreat.lawValidService
