/-
  The closed facts of the row of TasksLeft.
-/
import Derived.Test.YtlmanchbpommaaaRows
import Derived.Test.YtlmanchbpommaaaFacts
namespace Go.Proofs.Ytlmanchbpommaaa.lawTasksLeft
open Go.Proofs.Ytlmanchbpommaaa
set_option maxHeartbeats 40000000
theorem closed : joinedFacts Try.checked.prog 3 Try.f3 Rows.fnExactTasksLeftSpec Rows.fnExactTasksLeftRow = true := by
  unfold joinedFacts
  exact (and_t (and_t (and_t (and_t (and_t (and_t (and_t (and_t (and_t (and_t (and_t (and_t (and_t (and_t (and_t (and_t (and_t (and_t (and_t (and_t (and_t (and_t (and_t (and_t (and_t (and_t (and_t (and_t (and_t (and_t (and_t (by kernel_rfl) (by kernel_rfl)) (by kernel_rfl)) (by kernel_rfl)) (by kernel_rfl)) (by kernel_rfl)) (by kernel_rfl)) (by kernel_rfl)) (by kernel_rfl)) (by kernel_rfl)) (by kernel_rfl)) (by kernel_rfl)) (by kernel_rfl)) (by kernel_rfl)) (by kernel_rfl)) (by kernel_rfl)) (by kernel_rfl)) (by kernel_rfl)) (by kernel_rfl)) (by kernel_rfl)) (by kernel_rfl)) (by kernel_rfl)) (by kernel_rfl)) (by kernel_rfl)) (by kernel_rfl)) mayEnter_t) lifts_t) make_t) (by kernel_rfl)) (by kernel_rfl)) (by kernel_rfl)) (by kernel_rfl))
end Go.Proofs.Ytlmanchbpommaaa.lawTasksLeft
