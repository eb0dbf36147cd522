/-
  Facts on the program as a whole that each row of this seat asks for: the three that the kernel takes long over.
-/
import Derived.Test.YtgigfdghecdlgaaRows
import Derived.JoinedOf
namespace Go.Proofs.Ytgigfdghecdlgaa
theorem Bt {a b:Bool} (h:a=true) (k:b=true):(a&&b)=true:=by rw [h,k]; rfl
theorem PJ:Try.checked.prog.mayEnter=true:=by kernel_rfl
theorem Ui:(Rows.fnExactNamesOfRow.lifted == Try.checked.prog.liftsFinal)=true:=by kernel_rfl
theorem WF:(Try.checked.prog.make == some Rows.fnExactNamesOfRow.make)=true:=by kernel_rfl
end Go.Proofs.Ytgigfdghecdlgaa
