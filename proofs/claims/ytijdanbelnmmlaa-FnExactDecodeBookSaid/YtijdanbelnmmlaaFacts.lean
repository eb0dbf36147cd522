/-
  Facts on the program as a whole that each row of this seat asks for: the three that the kernel takes long over.
-/
import Derived.Test.YtijdanbelnmmlaaRows
import Derived.JoinedOf
namespace Go.Proofs.Ytijdanbelnmmlaa
theorem CM {a b:Bool} (h:a=true) (k:b=true):(a&&b)=true:=by rw [h,k]; rfl
theorem Pl:Try.checked.prog.mayEnter=true:=by kernel_rfl
theorem VE:(Rows.fnExactDecodeBookRow.lifted == Try.checked.prog.liftsFinal)=true:=by kernel_rfl
theorem Wx:(Try.checked.prog.make == some Rows.fnExactDecodeBookRow.make)=true:=by kernel_rfl
end Go.Proofs.Ytijdanbelnmmlaa
