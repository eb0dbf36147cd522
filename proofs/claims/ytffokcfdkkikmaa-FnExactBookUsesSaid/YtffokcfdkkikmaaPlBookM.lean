/-
  Books, marked and found marked again. No program is in sight.
-/
import Derived.Test.YtffokcfdkkikmaaPlBook
import Derived.Test.YtffokcfdkkikmaaModM
namespace Go.Proofs.Ytffokcfdkkikmaa.Ab
set_option linter.unusedVariables false
set_option linter.unusedSimpArgs false
open Go.RowKit

def Book.cntV (b : Book) : Nat := Core.cnts b.defs
def Book.mkV (k : Nat) (b : Book) : Book := ⟨Core.mks k b.defs⟩
theorem Book.cntV_le (b : Book) : b.cntV ≤ 2 * b.sz := Core.cnts_le b.defs
theorem markBook_eq (b : Book) (k : Nat) (h : b.sz ≤ Big) (hk : k + b.cntV ≤ KB) : l_markBook b (k : Int) = some (((k + b.cntV : Nat) : Int), (Book.mkV k b).defs) := by
  unfold l_markBook
  rw [markCoreS_eq _ _ h hk, bind_some']
  rfl
theorem heldBook_eq (b : Book) (k : Nat) (h : b.sz ≤ Big) (hk : k + b.cntV ≤ KB) : l_heldBook (Book.mkV k b) (k : Int) = some ((k + b.cntV : Nat) : Int) := by
  unfold l_heldBook
  show Option.bind (l_heldCoreS fuel (Core.mks k b.defs) (k : Int)) _ = _
  rw [heldCoreS_eq _ _ h hk, bind_some', if_neg (by rw [nneg]; decide)]
  rfl
end Go.Proofs.Ytffokcfdkkikmaa.Ab
