/-
  The closed facts of the row of CancelJob.
-/
import Derived.Test.YtlmanchbpommaaaGreatRows
import Derived.Test.YtlmanchbpommaaaGreatFacts
namespace Go.Proofs.YtlmanchbpommaaaGreat.lawCancelJob
open Go.Proofs.YtlmanchbpommaaaGreat
set_option maxHeartbeats 40000000
theorem closed : joinedFacts Tryz.checked.prog 4 Tryz.f4 Rows.fnExactCancelJobSpec Rows.fnExactCancelJobRow = true := by
  unfold joinedFacts
  exact (and_t (and_t (and_t (and_t (and_t (and_t (and_t (and_t (and_t (and_t (and_t (and_t (and_t (and_t (and_t (and_t (and_t (and_t (and_t (and_t (and_t (and_t (and_t (and_t (and_t (and_t (and_t (and_t (and_t (and_t (and_t (by kernel_rfl) (by kernel_rfl)) (by kernel_rfl)) (by kernel_rfl)) (by kernel_rfl)) (by kernel_rfl)) (by kernel_rfl)) (by kernel_rfl)) (by kernel_rfl)) (by kernel_rfl)) (by kernel_rfl)) (by kernel_rfl)) (by kernel_rfl)) (by kernel_rfl)) (by kernel_rfl)) (by kernel_rfl)) (by kernel_rfl)) (by kernel_rfl)) (by kernel_rfl)) (by kernel_rfl)) (by kernel_rfl)) (by kernel_rfl)) (by kernel_rfl)) (by kernel_rfl)) (by kernel_rfl)) mayEnter_t) lifts_t) make_t) (by kernel_rfl)) (by kernel_rfl)) (by kernel_rfl)) (by kernel_rfl))
end Go.Proofs.YtlmanchbpommaaaGreat.lawCancelJob
