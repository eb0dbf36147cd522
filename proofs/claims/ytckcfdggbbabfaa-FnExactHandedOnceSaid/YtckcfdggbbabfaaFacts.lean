/-
  Facts on the program as a whole that each row of this seat asks for: the three that the kernel takes long over.
-/
import Derived.Test.YtckcfdggbbabfaaRows
import Derived.JoinedOf
namespace Go.Proofs.Ytckcfdggbbabfaa
theorem and_t {a b : Bool} (h : a = true) (k : b = true) : (a && b) = true := by rw [h, k]; rfl
theorem mayEnter_t : Try.checked.prog.mayEnter = true := by kernel_rfl
theorem lifts_t : (Rows.fnExactHandedOnceRow.lifted == Try.checked.prog.liftsFinal) = true := by kernel_rfl
theorem make_t : (Try.checked.prog.make == some Rows.fnExactHandedOnceRow.make) = true := by kernel_rfl
end Go.Proofs.Ytckcfdggbbabfaa
