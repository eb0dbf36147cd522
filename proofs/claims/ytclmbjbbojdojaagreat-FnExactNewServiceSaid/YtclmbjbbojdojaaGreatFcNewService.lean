/-
  Facts on the program as a whole that each row of this seat asks for: the three that the kernel takes long over.
-/
import Derived.Test.YtclmbjbbojdojaaGreatRows
import Derived.JoinedOf
namespace Go.Proofs.YtclmbjbbojdojaaGreat
theorem DI {a b:Bool} (h:a=true) (k:b=true):(a&&b)=true:=by rw [h,k]; rfl
theorem U6:Tryz.checked.prog.mayEnter=true:=by kernel_rfl
theorem a4:(Rows.fnExactNewServiceRow.lifted == Tryz.checked.prog.liftsFinal)=true:=by kernel_rfl
theorem dS:(Tryz.checked.prog.make == some Rows.fnExactNewServiceRow.make)=true:=by kernel_rfl
end Go.Proofs.YtclmbjbbojdojaaGreat
namespace Go.Proofs.YtclmbjbbojdojaaGreat.lawNewService
open Go.Proofs.YtclmbjbbojdojaaGreat
set_option maxHeartbeats 40000000
theorem closed:joinedFacts Tryz.checked.prog 3 Tryz.f3 Rows.fnExactNewServiceSpec Rows.fnExactNewServiceRow=true:=by
 unfold joinedFacts
 exact(DI (DI (DI (DI (DI (DI (DI (DI (DI (DI (DI (DI (DI (DI (DI (DI (DI (DI (DI (DI (DI (DI (DI (DI (DI (DI (DI (DI (DI (DI (DI (by as_aux_lemma=>kernel_rfl) (by as_aux_lemma=>kernel_rfl)) (by as_aux_lemma=>kernel_rfl)) (by as_aux_lemma=>kernel_rfl)) (by as_aux_lemma=>kernel_rfl)) (by as_aux_lemma=>kernel_rfl)) (by as_aux_lemma=>kernel_rfl)) (by as_aux_lemma=>kernel_rfl)) (by as_aux_lemma=>kernel_rfl)) (by as_aux_lemma=>kernel_rfl)) (by as_aux_lemma=>kernel_rfl)) (by as_aux_lemma=>kernel_rfl)) (by as_aux_lemma=>kernel_rfl)) (by as_aux_lemma=>kernel_rfl)) (by as_aux_lemma=>kernel_rfl)) (by as_aux_lemma=>kernel_rfl)) (by as_aux_lemma=>kernel_rfl)) (by as_aux_lemma=>kernel_rfl)) (by as_aux_lemma=>kernel_rfl)) (by as_aux_lemma=>kernel_rfl)) (by as_aux_lemma=>kernel_rfl)) (by as_aux_lemma=>kernel_rfl)) (by as_aux_lemma=>kernel_rfl)) (by as_aux_lemma=>kernel_rfl)) (by as_aux_lemma=>kernel_rfl)) U6) a4) dS) (by as_aux_lemma=>kernel_rfl)) (by as_aux_lemma=>kernel_rfl)) (by as_aux_lemma=>kernel_rfl)) (by as_aux_lemma=>kernel_rfl))
end Go.Proofs.YtclmbjbbojdojaaGreat.lawNewService
