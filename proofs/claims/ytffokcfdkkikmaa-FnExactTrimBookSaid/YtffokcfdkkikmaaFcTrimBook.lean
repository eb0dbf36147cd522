/-
  The closed facts of the row of TrimBook.
-/
import Derived.Test.YtffokcfdkkikmaaRows
import Derived.Test.YtffokcfdkkikmaaFacts
namespace Go.Proofs.Ytffokcfdkkikmaa.lawTrimBook
open Go.Proofs.Ytffokcfdkkikmaa
set_option maxHeartbeats 40000000
theorem closed : joinedFacts Try.checked.prog 14 Try.f14 Rows.fnExactTrimBookSpec Rows.fnExactTrimBookRow = true := by
  unfold joinedFacts
  exact (and_t (and_t (and_t (and_t (and_t (and_t (and_t (and_t (and_t (and_t (and_t (and_t (and_t (and_t (and_t (and_t (and_t (and_t (and_t (and_t (and_t (and_t (and_t (and_t (and_t (and_t (and_t (and_t (and_t (and_t (and_t (by kernel_rfl) (by kernel_rfl)) (by kernel_rfl)) (by kernel_rfl)) (by kernel_rfl)) (by kernel_rfl)) (by kernel_rfl)) (by kernel_rfl)) (by kernel_rfl)) (by kernel_rfl)) (by kernel_rfl)) (by kernel_rfl)) (by kernel_rfl)) (by kernel_rfl)) (by kernel_rfl)) (by kernel_rfl)) (by kernel_rfl)) (by kernel_rfl)) (by kernel_rfl)) (by kernel_rfl)) (by kernel_rfl)) (by kernel_rfl)) (by kernel_rfl)) (by kernel_rfl)) (by kernel_rfl)) mayEnter_t) lifts_t) make_t) (by kernel_rfl)) (by kernel_rfl)) (by kernel_rfl)) (by kernel_rfl))
end Go.Proofs.Ytffokcfdkkikmaa.lawTrimBook
