/-
  What the walks take as given of the tables that start-up code lays: nothing at this seat.
-/
import Derived.WalkKit
namespace Go.Proofs.YtclmbjbbojdojaaGreat.Ab
set_option linter.unusedVariables false
open Go.RowKit
def Amb (P:Program) (w:World):Prop:=True
theorem eO {P} {w w'} (h:Amb P w) (hb:∀k,k<P.low→w'.heap[k]? =w.heap[k]?):Amb P w':=trivial
end Go.Proofs.YtclmbjbbojdojaaGreat.Ab
