/-
  The closed facts of the row of RowLine.
-/
import Derived.Test.YtlmanchbpommaaaDoorRows
import Derived.Test.YtlmanchbpommaaaDoorFacts
namespace Go.Proofs.YtlmanchbpommaaaDoor.lawRowLine
open Go.Proofs.YtlmanchbpommaaaDoor
set_option maxHeartbeats 40000000
theorem closed : joinedFacts Tryd.checked.prog 3 Tryd.f3 Rows.fnExactRowLineSpec Rows.fnExactRowLineRow = true := by
  unfold joinedFacts
  exact (and_t (and_t (and_t (and_t (and_t (and_t (and_t (and_t (and_t (and_t (and_t (and_t (and_t (and_t (and_t (and_t (and_t (and_t (and_t (and_t (and_t (and_t (and_t (and_t (and_t (and_t (and_t (and_t (and_t (and_t (and_t (by kernel_rfl) (by kernel_rfl)) (by kernel_rfl)) (by kernel_rfl)) (by kernel_rfl)) (by kernel_rfl)) (by kernel_rfl)) (by kernel_rfl)) (by kernel_rfl)) (by kernel_rfl)) (by kernel_rfl)) (by kernel_rfl)) (by kernel_rfl)) (by kernel_rfl)) (by kernel_rfl)) (by kernel_rfl)) (by kernel_rfl)) (by kernel_rfl)) (by kernel_rfl)) (by kernel_rfl)) (by kernel_rfl)) (by kernel_rfl)) (by kernel_rfl)) (by kernel_rfl)) (by kernel_rfl)) mayEnter_t) lifts_t) make_t) (by kernel_rfl)) (by kernel_rfl)) (by kernel_rfl)) (by kernel_rfl))
end Go.Proofs.YtlmanchbpommaaaDoor.lawRowLine
