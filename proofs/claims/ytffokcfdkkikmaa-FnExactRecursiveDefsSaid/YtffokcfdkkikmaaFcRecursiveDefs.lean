/-
  The closed facts of the row of RecursiveDefs.
-/
import Derived.Test.YtffokcfdkkikmaaRows
import Derived.Test.YtffokcfdkkikmaaFacts
namespace Go.Proofs.Ytffokcfdkkikmaa.lawRecursiveDefs
open Go.Proofs.Ytffokcfdkkikmaa
set_option maxHeartbeats 40000000
theorem closed : joinedFacts Try.checked.prog 12 Try.f12 Rows.fnExactRecursiveDefsSpec Rows.fnExactRecursiveDefsRow = true := by
  unfold joinedFacts
  exact (and_t (and_t (and_t (and_t (and_t (and_t (and_t (and_t (and_t (and_t (and_t (and_t (and_t (and_t (and_t (and_t (and_t (and_t (and_t (and_t (and_t (and_t (and_t (and_t (and_t (and_t (and_t (and_t (and_t (and_t (and_t (by kernel_rfl) (by kernel_rfl)) (by kernel_rfl)) (by kernel_rfl)) (by kernel_rfl)) (by kernel_rfl)) (by kernel_rfl)) (by kernel_rfl)) (by kernel_rfl)) (by kernel_rfl)) (by kernel_rfl)) (by kernel_rfl)) (by kernel_rfl)) (by kernel_rfl)) (by kernel_rfl)) (by kernel_rfl)) (by kernel_rfl)) (by kernel_rfl)) (by kernel_rfl)) (by kernel_rfl)) (by kernel_rfl)) (by kernel_rfl)) (by kernel_rfl)) (by kernel_rfl)) (by kernel_rfl)) mayEnter_t) lifts_t) make_t) (by kernel_rfl)) (by kernel_rfl)) (by kernel_rfl)) (by kernel_rfl))
end Go.Proofs.Ytffokcfdkkikmaa.lawRecursiveDefs
