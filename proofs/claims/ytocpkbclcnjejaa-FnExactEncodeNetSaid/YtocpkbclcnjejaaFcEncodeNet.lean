/-
  The closed facts of the row of EncodeNet.
-/
import Derived.Test.YtocpkbclcnjejaaRows
import Derived.Test.YtocpkbclcnjejaaFacts
namespace Go.Proofs.Ytocpkbclcnjejaa.lawEncodeNet
open Go.Proofs.Ytocpkbclcnjejaa
set_option maxHeartbeats 40000000
theorem closed : joinedFacts Try.checked.prog 3 Try.f3 Rows.fnExactEncodeNetSpec Rows.fnExactEncodeNetRow = true := by
  unfold joinedFacts
  exact (and_t (and_t (and_t (and_t (and_t (and_t (and_t (and_t (and_t (and_t (and_t (and_t (and_t (and_t (and_t (and_t (and_t (and_t (and_t (and_t (and_t (and_t (and_t (and_t (and_t (and_t (and_t (and_t (and_t (and_t (and_t (by kernel_rfl) (by kernel_rfl)) (by kernel_rfl)) (by kernel_rfl)) (by kernel_rfl)) (by kernel_rfl)) (by kernel_rfl)) (by kernel_rfl)) (by kernel_rfl)) (by kernel_rfl)) (by kernel_rfl)) (by kernel_rfl)) (by kernel_rfl)) (by kernel_rfl)) (by kernel_rfl)) (by kernel_rfl)) (by kernel_rfl)) (by kernel_rfl)) (by kernel_rfl)) (by kernel_rfl)) (by kernel_rfl)) (by kernel_rfl)) (by kernel_rfl)) (by kernel_rfl)) (by kernel_rfl)) mayEnter_t) lifts_t) make_t) (by kernel_rfl)) (by kernel_rfl)) (by kernel_rfl)) (by kernel_rfl))
end Go.Proofs.Ytocpkbclcnjejaa.lawEncodeNet
