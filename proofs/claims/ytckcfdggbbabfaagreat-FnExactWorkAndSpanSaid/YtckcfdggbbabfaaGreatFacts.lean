/-
  Facts on the program as a whole that each row of this seat asks for: the three that the kernel takes long over.
-/
import Derived.Test.YtckcfdggbbabfaaGreatRows
import Derived.JoinedOf
namespace Go.Proofs.YtckcfdggbbabfaaGreat
theorem Aa {a b:Bool} (h:a=true) (k:b=true):(a&&b)=true:=by rw [h,k]; rfl
theorem Nl:Tryz.checked.prog.mayEnter=true:=by kernel_rfl
theorem T5:(Rows.fnExactInteractRow.lifted == Tryz.checked.prog.liftsFinal)=true:=by kernel_rfl
theorem W4:(Tryz.checked.prog.make == some Rows.fnExactInteractRow.make)=true:=by kernel_rfl
end Go.Proofs.YtckcfdggbbabfaaGreat
