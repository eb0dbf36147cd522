/-
  Facts on the program as a whole that each row of this seat asks for: the three that the kernel takes long over.
-/
import Derived.Test.YteckcjgpnegkjaaGreatDoorRows
import Derived.JoinedOf
namespace Go.Proofs.YteckcjgpnegkjaaGreatDoor
theorem DM {a b:Bool} (h:a=true) (k:b=true):(a&&b)=true:=by rw [h,k]; rfl
theorem W5:Tryz.checked.prog.mayEnter=true:=by kernel_rfl
theorem fE:(Rows.fnExactProfileTextRow.lifted == Tryz.checked.prog.liftsFinal)=true:=by kernel_rfl
theorem it:(Tryz.checked.prog.make == some Rows.fnExactProfileTextRow.make)=true:=by kernel_rfl
end Go.Proofs.YteckcjgpnegkjaaGreatDoor
namespace Go.Proofs.YteckcjgpnegkjaaGreatDoor.lawProfileText
open Go.Proofs.YteckcjgpnegkjaaGreatDoor
set_option maxHeartbeats 40000000
theorem closed:joinedFacts Tryz.checked.prog 4 Tryz.f4 Rows.fnExactProfileTextSpec Rows.fnExactProfileTextRow=true:=by
 unfold joinedFacts
 exact(DM (DM (DM (DM (DM (DM (DM (DM (DM (DM (DM (DM (DM (DM (DM (DM (DM (DM (DM (DM (DM (DM (DM (DM (DM (DM (DM (DM (DM (DM (DM (by as_aux_lemma=>kernel_rfl) (by as_aux_lemma=>kernel_rfl)) (by as_aux_lemma=>kernel_rfl)) (by as_aux_lemma=>kernel_rfl)) (by as_aux_lemma=>kernel_rfl)) (by as_aux_lemma=>kernel_rfl)) (by as_aux_lemma=>kernel_rfl)) (by as_aux_lemma=>kernel_rfl)) (by as_aux_lemma=>kernel_rfl)) (by as_aux_lemma=>kernel_rfl)) (by as_aux_lemma=>kernel_rfl)) (by as_aux_lemma=>kernel_rfl)) (by as_aux_lemma=>kernel_rfl)) (by as_aux_lemma=>kernel_rfl)) (by as_aux_lemma=>kernel_rfl)) (by as_aux_lemma=>kernel_rfl)) (by as_aux_lemma=>kernel_rfl)) (by as_aux_lemma=>kernel_rfl)) (by as_aux_lemma=>kernel_rfl)) (by as_aux_lemma=>kernel_rfl)) (by as_aux_lemma=>kernel_rfl)) (by as_aux_lemma=>kernel_rfl)) (by as_aux_lemma=>kernel_rfl)) (by as_aux_lemma=>kernel_rfl)) (by as_aux_lemma=>kernel_rfl)) W5) fE) it) (by as_aux_lemma=>kernel_rfl)) (by as_aux_lemma=>kernel_rfl)) (by as_aux_lemma=>kernel_rfl)) (by as_aux_lemma=>kernel_rfl))
end Go.Proofs.YteckcjgpnegkjaaGreatDoor.lawProfileText
