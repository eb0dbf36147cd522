/-
  The closed facts of the row of RemoveJob.
-/
import Derived.Test.YtckcfdggbbabfaaGreatRows
import Derived.Test.YtckcfdggbbabfaaGreatFacts
namespace Go.Proofs.YtckcfdggbbabfaaGreat.lawRemoveJob
open Go.Proofs.YtckcfdggbbabfaaGreat
set_option maxHeartbeats 40000000
theorem closed : joinedFacts Tryz.checked.prog 11 Tryz.f11 Rows.fnExactRemoveJobSpec Rows.fnExactRemoveJobRow = true := by
 unfold joinedFacts
 exact (and_t (and_t (and_t (and_t (and_t (and_t (and_t (and_t (and_t (and_t (and_t (and_t (and_t (and_t (and_t (and_t (and_t (and_t (and_t (and_t (and_t (and_t (and_t (and_t (and_t (and_t (and_t (and_t (and_t (and_t (and_t (by kernel_rfl) (by kernel_rfl)) (by kernel_rfl)) (by kernel_rfl)) (by kernel_rfl)) (by kernel_rfl)) (by kernel_rfl)) (by kernel_rfl)) (by kernel_rfl)) (by kernel_rfl)) (by kernel_rfl)) (by kernel_rfl)) (by kernel_rfl)) (by kernel_rfl)) (by kernel_rfl)) (by kernel_rfl)) (by kernel_rfl)) (by kernel_rfl)) (by kernel_rfl)) (by kernel_rfl)) (by kernel_rfl)) (by kernel_rfl)) (by kernel_rfl)) (by kernel_rfl)) (by kernel_rfl)) mayEnter_t) lifts_t) make_t) (by kernel_rfl)) (by kernel_rfl)) (by kernel_rfl)) (by kernel_rfl))
end Go.Proofs.YtckcfdggbbabfaaGreat.lawRemoveJob
