/-
  Facts on the program as a whole that each row of this seat asks for: the three that the kernel takes long over.
-/
import Derived.Test.YtoncbhomocgmcaaGreatDoorRows
import Derived.JoinedOf
namespace Go.Proofs.YtoncbhomocgmcaaGreatDoor
theorem CQ {a b:Bool} (h:a=true) (k:b=true):(a&&b)=true:=by rw [h,k]; rfl
theorem Th:Tryz.checked.prog.mayEnter=true:=by kernel_rfl
theorem Zv:(Rows.fnExactLabelNetRow.lifted == Tryz.checked.prog.liftsFinal)=true:=by kernel_rfl
theorem cX:(Tryz.checked.prog.make == some Rows.fnExactLabelNetRow.make)=true:=by kernel_rfl
end Go.Proofs.YtoncbhomocgmcaaGreatDoor
namespace Go.Proofs.YtoncbhomocgmcaaGreatDoor.lawLabelNet
open Go.Proofs.YtoncbhomocgmcaaGreatDoor
set_option maxHeartbeats 40000000
theorem closed:joinedFacts Tryz.checked.prog 3 Tryz.f3 Rows.fnExactLabelNetSpec Rows.fnExactLabelNetRow=true:=by
 unfold joinedFacts
 exact(CQ (CQ (CQ (CQ (CQ (CQ (CQ (CQ (CQ (CQ (CQ (CQ (CQ (CQ (CQ (CQ (CQ (CQ (CQ (CQ (CQ (CQ (CQ (CQ (CQ (CQ (CQ (CQ (CQ (CQ (CQ (by as_aux_lemma=>kernel_rfl) (by as_aux_lemma=>kernel_rfl)) (by as_aux_lemma=>kernel_rfl)) (by as_aux_lemma=>kernel_rfl)) (by as_aux_lemma=>kernel_rfl)) (by as_aux_lemma=>kernel_rfl)) (by as_aux_lemma=>kernel_rfl)) (by as_aux_lemma=>kernel_rfl)) (by as_aux_lemma=>kernel_rfl)) (by as_aux_lemma=>kernel_rfl)) (by as_aux_lemma=>kernel_rfl)) (by as_aux_lemma=>kernel_rfl)) (by as_aux_lemma=>kernel_rfl)) (by as_aux_lemma=>kernel_rfl)) (by as_aux_lemma=>kernel_rfl)) (by as_aux_lemma=>kernel_rfl)) (by as_aux_lemma=>kernel_rfl)) (by as_aux_lemma=>kernel_rfl)) (by as_aux_lemma=>kernel_rfl)) (by as_aux_lemma=>kernel_rfl)) (by as_aux_lemma=>kernel_rfl)) (by as_aux_lemma=>kernel_rfl)) (by as_aux_lemma=>kernel_rfl)) (by as_aux_lemma=>kernel_rfl)) (by as_aux_lemma=>kernel_rfl)) Th) Zv) cX) (by as_aux_lemma=>kernel_rfl)) (by as_aux_lemma=>kernel_rfl)) (by as_aux_lemma=>kernel_rfl)) (by as_aux_lemma=>kernel_rfl))
end Go.Proofs.YtoncbhomocgmcaaGreatDoor.lawLabelNet
