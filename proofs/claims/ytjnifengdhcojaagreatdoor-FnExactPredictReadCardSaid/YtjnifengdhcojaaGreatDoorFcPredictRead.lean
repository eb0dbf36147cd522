/- Facts on the program as a whole that each row of this seat asks for. -/
import Derived.Test.YtjnifengdhcojaaGreatDoorRows
import Derived.JoinedOf
namespace Go.Proofs.YtjnifengdhcojaaGreatDoor
theorem DS {a b:Bool} (h:a=true) (k:b=true):(a&&b)=true:=by rw [h,k]; rfl
theorem bu:Tryz.checked.prog.mayEnter=true:=by kernel_rfl
theorem mJ:(Rows.fnExactPredictReadRow.lifted == Tryz.checked.prog.liftsFinal)=true:=by kernel_rfl
theorem o3:(Tryz.checked.prog.make == some Rows.fnExactPredictReadRow.make)=true:=by kernel_rfl
end Go.Proofs.YtjnifengdhcojaaGreatDoor
namespace Go.Proofs.YtjnifengdhcojaaGreatDoor.lawPredictRead
open Go.Proofs.YtjnifengdhcojaaGreatDoor
set_option maxHeartbeats 40000000
theorem closed:joinedFacts Tryz.checked.prog 4 Tryz.f4 Rows.fnExactPredictReadSpec Rows.fnExactPredictReadRow=true:=by
 unfold joinedFacts
 exact(DS (DS (DS (DS (DS (DS (DS (DS (DS (DS (DS (DS (DS (DS (DS (DS (DS (DS (DS (DS (DS (DS (DS (DS (DS (DS (DS (DS (DS (DS (DS (by as_aux_lemma=>kernel_rfl) (by as_aux_lemma=>kernel_rfl)) (by as_aux_lemma=>kernel_rfl)) (by as_aux_lemma=>kernel_rfl)) (by as_aux_lemma=>kernel_rfl)) (by as_aux_lemma=>kernel_rfl)) (by as_aux_lemma=>kernel_rfl)) (by as_aux_lemma=>kernel_rfl)) (by as_aux_lemma=>kernel_rfl)) (by as_aux_lemma=>kernel_rfl)) (by as_aux_lemma=>kernel_rfl)) (by as_aux_lemma=>kernel_rfl)) (by as_aux_lemma=>kernel_rfl)) (by as_aux_lemma=>kernel_rfl)) (by as_aux_lemma=>kernel_rfl)) (by as_aux_lemma=>kernel_rfl)) (by as_aux_lemma=>kernel_rfl)) (by as_aux_lemma=>kernel_rfl)) (by as_aux_lemma=>kernel_rfl)) (by as_aux_lemma=>kernel_rfl)) (by as_aux_lemma=>kernel_rfl)) (by as_aux_lemma=>kernel_rfl)) (by as_aux_lemma=>kernel_rfl)) (by as_aux_lemma=>kernel_rfl)) (by as_aux_lemma=>kernel_rfl)) bu) mJ) o3) (by as_aux_lemma=>kernel_rfl)) (by as_aux_lemma=>kernel_rfl)) (by as_aux_lemma=>kernel_rfl)) (by as_aux_lemma=>kernel_rfl))
end Go.Proofs.YtjnifengdhcojaaGreatDoor.lawPredictRead
