/-
  The closed facts of the row of HandedOnce.
-/
import Derived.Test.YtckcfdggbbabfaaRows
import Derived.Test.YtckcfdggbbabfaaFacts
namespace Go.Proofs.Ytckcfdggbbabfaa.lawHandedOnce
open Go.Proofs.Ytckcfdggbbabfaa
set_option maxHeartbeats 40000000
theorem closed : joinedFacts Try.checked.prog 3 Try.f3 Rows.fnExactHandedOnceSpec Rows.fnExactHandedOnceRow = true := by
  unfold joinedFacts
  exact (and_t (and_t (and_t (and_t (and_t (and_t (and_t (and_t (and_t (and_t (and_t (and_t (and_t (and_t (and_t (and_t (and_t (and_t (and_t (and_t (and_t (and_t (and_t (and_t (and_t (and_t (and_t (and_t (and_t (and_t (and_t (by kernel_rfl) (by kernel_rfl)) (by kernel_rfl)) (by kernel_rfl)) (by kernel_rfl)) (by kernel_rfl)) (by kernel_rfl)) (by kernel_rfl)) (by kernel_rfl)) (by kernel_rfl)) (by kernel_rfl)) (by kernel_rfl)) (by kernel_rfl)) (by kernel_rfl)) (by kernel_rfl)) (by kernel_rfl)) (by kernel_rfl)) (by kernel_rfl)) (by kernel_rfl)) (by kernel_rfl)) (by kernel_rfl)) (by kernel_rfl)) (by kernel_rfl)) (by kernel_rfl)) (by kernel_rfl)) mayEnter_t) lifts_t) make_t) (by kernel_rfl)) (by kernel_rfl)) (by kernel_rfl)) (by kernel_rfl))
end Go.Proofs.Ytckcfdggbbabfaa.lawHandedOnce
