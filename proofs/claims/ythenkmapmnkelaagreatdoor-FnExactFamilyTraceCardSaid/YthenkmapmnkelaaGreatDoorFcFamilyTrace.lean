/- Facts on the program as a whole that each row of this seat asks for. -/
import Derived.Test.YthenkmapmnkelaaGreatDoorRows
import Derived.JoinedOf
namespace Go.Proofs.YthenkmapmnkelaaGreatDoor
theorem Dx {a b:Bool} (h:a=true) (k:b=true):(a&&b)=true:=by rw [h,k]; rfl
theorem aW:Tryz.checked.prog.mayEnter=true:=by kernel_rfl
theorem lI:(Rows.fnExactFamilyTraceRow.lifted == Tryz.checked.prog.liftsFinal)=true:=by kernel_rfl
theorem nz:(Tryz.checked.prog.make == some Rows.fnExactFamilyTraceRow.make)=true:=by kernel_rfl
end Go.Proofs.YthenkmapmnkelaaGreatDoor
namespace Go.Proofs.YthenkmapmnkelaaGreatDoor.lawFamilyTrace
open Go.Proofs.YthenkmapmnkelaaGreatDoor
set_option maxHeartbeats 40000000
theorem closed:joinedFacts Tryz.checked.prog 3 Tryz.f3 Rows.fnExactFamilyTraceSpec Rows.fnExactFamilyTraceRow=true:=by
 unfold joinedFacts
 exact(Dx (Dx (Dx (Dx (Dx (Dx (Dx (Dx (Dx (Dx (Dx (Dx (Dx (Dx (Dx (Dx (Dx (Dx (Dx (Dx (Dx (Dx (Dx (Dx (Dx (Dx (Dx (Dx (Dx (Dx (Dx (by as_aux_lemma=>kernel_rfl) (by as_aux_lemma=>kernel_rfl)) (by as_aux_lemma=>kernel_rfl)) (by as_aux_lemma=>kernel_rfl)) (by as_aux_lemma=>kernel_rfl)) (by as_aux_lemma=>kernel_rfl)) (by as_aux_lemma=>kernel_rfl)) (by as_aux_lemma=>kernel_rfl)) (by as_aux_lemma=>kernel_rfl)) (by as_aux_lemma=>kernel_rfl)) (by as_aux_lemma=>kernel_rfl)) (by as_aux_lemma=>kernel_rfl)) (by as_aux_lemma=>kernel_rfl)) (by as_aux_lemma=>kernel_rfl)) (by as_aux_lemma=>kernel_rfl)) (by as_aux_lemma=>kernel_rfl)) (by as_aux_lemma=>kernel_rfl)) (by as_aux_lemma=>kernel_rfl)) (by as_aux_lemma=>kernel_rfl)) (by as_aux_lemma=>kernel_rfl)) (by as_aux_lemma=>kernel_rfl)) (by as_aux_lemma=>kernel_rfl)) (by as_aux_lemma=>kernel_rfl)) (by as_aux_lemma=>kernel_rfl)) (by as_aux_lemma=>kernel_rfl)) aW) lI) nz) (by as_aux_lemma=>kernel_rfl)) (by as_aux_lemma=>kernel_rfl)) (by as_aux_lemma=>kernel_rfl)) (by as_aux_lemma=>kernel_rfl))
end Go.Proofs.YthenkmapmnkelaaGreatDoor.lawFamilyTrace
