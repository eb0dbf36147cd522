/-
  The closed facts of the row of DeadDefs.
-/
import Derived.Test.YtffokcfdkkikmaaRows
import Derived.Test.YtffokcfdkkikmaaFacts
namespace Go.Proofs.Ytffokcfdkkikmaa.lawDeadDefs
open Go.Proofs.Ytffokcfdkkikmaa
set_option maxHeartbeats 40000000
theorem closed : joinedFacts Try.checked.prog 13 Try.f13 Rows.fnExactDeadDefsSpec Rows.fnExactDeadDefsRow = true := by
  unfold joinedFacts
  exact (and_t (and_t (and_t (and_t (and_t (and_t (and_t (and_t (and_t (and_t (and_t (and_t (and_t (and_t (and_t (and_t (and_t (and_t (and_t (and_t (and_t (and_t (and_t (and_t (and_t (and_t (and_t (and_t (and_t (and_t (and_t (by kernel_rfl) (by kernel_rfl)) (by kernel_rfl)) (by kernel_rfl)) (by kernel_rfl)) (by kernel_rfl)) (by kernel_rfl)) (by kernel_rfl)) (by kernel_rfl)) (by kernel_rfl)) (by kernel_rfl)) (by kernel_rfl)) (by kernel_rfl)) (by kernel_rfl)) (by kernel_rfl)) (by kernel_rfl)) (by kernel_rfl)) (by kernel_rfl)) (by kernel_rfl)) (by kernel_rfl)) (by kernel_rfl)) (by kernel_rfl)) (by kernel_rfl)) (by kernel_rfl)) (by kernel_rfl)) mayEnter_t) lifts_t) make_t) (by kernel_rfl)) (by kernel_rfl)) (by kernel_rfl)) (by kernel_rfl))
end Go.Proofs.Ytffokcfdkkikmaa.lawDeadDefs
