/-
  The closed facts of the row of ReportLines.
-/
import Derived.Test.YtlmanchbpommaaaDoorRows
import Derived.Test.YtlmanchbpommaaaDoorFacts
namespace Go.Proofs.YtlmanchbpommaaaDoor.lawReportLines
open Go.Proofs.YtlmanchbpommaaaDoor
set_option maxHeartbeats 40000000
theorem closed : joinedFacts Tryd.checked.prog 4 Tryd.f4 Rows.fnExactReportLinesSpec Rows.fnExactReportLinesRow = true := by
  unfold joinedFacts
  exact (and_t (and_t (and_t (and_t (and_t (and_t (and_t (and_t (and_t (and_t (and_t (and_t (and_t (and_t (and_t (and_t (and_t (and_t (and_t (and_t (and_t (and_t (and_t (and_t (and_t (and_t (and_t (and_t (and_t (and_t (and_t (by kernel_rfl) (by kernel_rfl)) (by kernel_rfl)) (by kernel_rfl)) (by kernel_rfl)) (by kernel_rfl)) (by kernel_rfl)) (by kernel_rfl)) (by kernel_rfl)) (by kernel_rfl)) (by kernel_rfl)) (by kernel_rfl)) (by kernel_rfl)) (by kernel_rfl)) (by kernel_rfl)) (by kernel_rfl)) (by kernel_rfl)) (by kernel_rfl)) (by kernel_rfl)) (by kernel_rfl)) (by kernel_rfl)) (by kernel_rfl)) (by kernel_rfl)) (by kernel_rfl)) (by kernel_rfl)) mayEnter_t) lifts_t) make_t) (by kernel_rfl)) (by kernel_rfl)) (by kernel_rfl)) (by kernel_rfl))
end Go.Proofs.YtlmanchbpommaaaDoor.lawReportLines
