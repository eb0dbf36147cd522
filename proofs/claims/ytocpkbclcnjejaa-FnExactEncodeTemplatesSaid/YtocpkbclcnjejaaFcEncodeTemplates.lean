/-
  The closed facts of the row of EncodeTemplates.
-/
import Derived.Test.YtocpkbclcnjejaaRows
import Derived.Test.YtocpkbclcnjejaaFacts
namespace Go.Proofs.Ytocpkbclcnjejaa.lawEncodeTemplates
open Go.Proofs.Ytocpkbclcnjejaa
set_option maxHeartbeats 40000000
theorem closed : joinedFacts Try.checked.prog 4 Try.f4 Rows.fnExactEncodeTemplatesSpec Rows.fnExactEncodeTemplatesRow = true := by
  unfold joinedFacts
  exact (and_t (and_t (and_t (and_t (and_t (and_t (and_t (and_t (and_t (and_t (and_t (and_t (and_t (and_t (and_t (and_t (and_t (and_t (and_t (and_t (and_t (and_t (and_t (and_t (and_t (and_t (and_t (and_t (and_t (and_t (and_t (by kernel_rfl) (by kernel_rfl)) (by kernel_rfl)) (by kernel_rfl)) (by kernel_rfl)) (by kernel_rfl)) (by kernel_rfl)) (by kernel_rfl)) (by kernel_rfl)) (by kernel_rfl)) (by kernel_rfl)) (by kernel_rfl)) (by kernel_rfl)) (by kernel_rfl)) (by kernel_rfl)) (by kernel_rfl)) (by kernel_rfl)) (by kernel_rfl)) (by kernel_rfl)) (by kernel_rfl)) (by kernel_rfl)) (by kernel_rfl)) (by kernel_rfl)) (by kernel_rfl)) (by kernel_rfl)) mayEnter_t) lifts_t) make_t) (by kernel_rfl)) (by kernel_rfl)) (by kernel_rfl)) (by kernel_rfl))
end Go.Proofs.Ytocpkbclcnjejaa.lawEncodeTemplates
