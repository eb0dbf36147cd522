/-
  Facts on the program as a whole that each row of this seat asks for: the three that the kernel takes long over.
-/
import Derived.Test.YtnfgeocnolheoaaGreatRows
import Derived.JoinedOf
namespace Go.Proofs.YtnfgeocnolheoaaGreat
theorem BG {a b:Bool} (h:a=true) (k:b=true):(a&&b)=true:=by rw [h,k]; rfl
theorem Sb:Tryz.checked.prog.mayEnter=true:=by kernel_rfl
theorem ZE:(Rows.fnExactCheckTypesRow.lifted == Tryz.checked.prog.liftsFinal)=true:=by kernel_rfl
theorem dK:(Tryz.checked.prog.make == some Rows.fnExactCheckTypesRow.make)=true:=by kernel_rfl
end Go.Proofs.YtnfgeocnolheoaaGreat
