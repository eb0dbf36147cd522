/-
  Facts on the program as a whole that each row of this seat asks for: the three that the kernel takes long over.
-/
import Derived.Test.YteckcjgpnegkjaaGreatRows
import Derived.JoinedOf
namespace Go.Proofs.YteckcjgpnegkjaaGreat
theorem Ds {a b:Bool} (h:a=true) (k:b=true):(a&&b)=true:=by rw [h,k]; rfl
theorem YS:Tryz.checked.prog.mayEnter=true:=by kernel_rfl
theorem gw:(Rows.fnExactOrientInteractRow.lifted == Tryz.checked.prog.liftsFinal)=true:=by kernel_rfl
theorem j5:(Tryz.checked.prog.make == some Rows.fnExactOrientInteractRow.make)=true:=by kernel_rfl
end Go.Proofs.YteckcjgpnegkjaaGreat
namespace Go.Proofs.YteckcjgpnegkjaaGreat.lawOrientInteract
open Go.Proofs.YteckcjgpnegkjaaGreat
set_option maxHeartbeats 40000000
theorem closed:joinedFacts Tryz.checked.prog 3 Tryz.f3 Rows.fnExactOrientInteractSpec Rows.fnExactOrientInteractRow=true:=by
 unfold joinedFacts
 exact(Ds (Ds (Ds (Ds (Ds (Ds (Ds (Ds (Ds (Ds (Ds (Ds (Ds (Ds (Ds (Ds (Ds (Ds (Ds (Ds (Ds (Ds (Ds (Ds (Ds (Ds (Ds (Ds (Ds (Ds (Ds (by as_aux_lemma=>kernel_rfl) (by as_aux_lemma=>kernel_rfl)) (by as_aux_lemma=>kernel_rfl)) (by as_aux_lemma=>kernel_rfl)) (by as_aux_lemma=>kernel_rfl)) (by as_aux_lemma=>kernel_rfl)) (by as_aux_lemma=>kernel_rfl)) (by as_aux_lemma=>kernel_rfl)) (by as_aux_lemma=>kernel_rfl)) (by as_aux_lemma=>kernel_rfl)) (by as_aux_lemma=>kernel_rfl)) (by as_aux_lemma=>kernel_rfl)) (by as_aux_lemma=>kernel_rfl)) (by as_aux_lemma=>kernel_rfl)) (by as_aux_lemma=>kernel_rfl)) (by as_aux_lemma=>kernel_rfl)) (by as_aux_lemma=>kernel_rfl)) (by as_aux_lemma=>kernel_rfl)) (by as_aux_lemma=>kernel_rfl)) (by as_aux_lemma=>kernel_rfl)) (by as_aux_lemma=>kernel_rfl)) (by as_aux_lemma=>kernel_rfl)) (by as_aux_lemma=>kernel_rfl)) (by as_aux_lemma=>kernel_rfl)) (by as_aux_lemma=>kernel_rfl)) YS) gw) j5) (by as_aux_lemma=>kernel_rfl)) (by as_aux_lemma=>kernel_rfl)) (by as_aux_lemma=>kernel_rfl)) (by as_aux_lemma=>kernel_rfl))
end Go.Proofs.YteckcjgpnegkjaaGreat.lawOrientInteract
