/-
  NARROWER THAN 'FOR EVERY INPUT', by the rows' own cells (each row's printed sentence says how): FnExactNameAt: loops · FnExactNamesOf: loops.
  DERIVED. THE GIVEN ROWS OF THIS SEAT. 2 by the template 'for every input the law returns true; each argument reads behind the call as it read before'; 0 by the template 'total and deterministic' (their statements: YtgigfdghecdlgaaTotals.lean).
  GIVEN WITH THE SEED: the statements are not yours to turn. If you find one false, say at which input.
  Laid BY PROGRAM, IN A SANDBOX (cutbox-rows.mjs): the forced cells as the released guide's own fill.sh prints them over the translation 600ac9f7306e6f08… (all of the seat's roots in one cut). By AI agents, Wed Nov 11 2026. No macro, syntax, notation, axiom, sorry.
-/
import Derived.Test.YtgigfdghecdlgaaChecked
import GoSem.Claim
import GoSem.ClaimJoined
import GoSem.ClaimMapViews
import Derived.JoinedTies
import Derived.KernelRfl
namespace Go.Proofs.Ytgigfdghecdlgaa
/- THE CELL 'sum', in the pinned program and in every row, IS THE sha256 OF THE DUMP (.gsa) THAT YtgigfdghecdlgaaProg.lean LOADS. Nothing in Lean hashes anything: it is a label: what it is worth is what the hold of that sum in a sandbox is worth. -/
noncomputable def Try.pinned : Pinned := { name := "ytgigfdghecdlgaa", sum := "600ac9f7306e6f08695a9746f12a567be6c7ac346e4658df54c3bd67cedd24b5", checked := Try.checked }
namespace Rows
def none {H : Type} : Left H := { results := [], args := [] }

/-- 'laws.FnExactNameAt': WHATEVER THE INPUT: true; the input reads as it did. -/
def fnExactNameAtSpec : ChangeSpec := { name := "fnExactNameAt", fn := fun _ => fun
  | [d1, d2] => { results := [.lit (.bool true)], args := [d1, d2] }
  | _ => none }
def fnExactNameAtRow : OpenClaim := { program := "ytgigfdghecdlgaa", sum := "600ac9f7306e6f08695a9746f12a567be6c7ac346e4658df54c3bd67cedd24b5", func := "loop.example/g01074/laws.FnExactNameAt", spec := "fnExactNameAt", unfollowed := true, recurses := true, loops := true, apart := false }
def FnExactNameAtSaid : Prop := fnExactNameAtRow.holds Try.pinned (OpenSpec.ofChange fnExactNameAtSpec)

/-- ITS FALSE NEIGHBOUR: 'it returns false'. Refute it at one input. -/
def fnExactNameAtWrong : ChangeSpec := { name := "fnExactNameAt", fn := fun _ => fun
  | [d1, d2] => { results := [.lit (.bool false)], args := [d1, d2] }
  | _ => none }
def FnExactNameAtWrongFalsely : Prop := fnExactNameAtRow.holds Try.pinned (OpenSpec.ofChange fnExactNameAtWrong)

/-- 'laws.FnExactNamesOf': WHATEVER THE INPUT: true; the input reads as it did. -/
def fnExactNamesOfSpec : ChangeSpec := { name := "fnExactNamesOf", fn := fun _ => fun
  | [d] => { results := [.lit (.bool true)], args := [d] }
  | _ => none }
def fnExactNamesOfRow : OpenClaim := { program := "ytgigfdghecdlgaa", sum := "600ac9f7306e6f08695a9746f12a567be6c7ac346e4658df54c3bd67cedd24b5", func := "loop.example/g01074/laws.FnExactNamesOf", spec := "fnExactNamesOf", unfollowed := true, recurses := true, loops := true, apart := false }
def FnExactNamesOfSaid : Prop := fnExactNamesOfRow.holds Try.pinned (OpenSpec.ofChange fnExactNamesOfSpec)

/-- ITS FALSE NEIGHBOUR: 'it returns false'. Refute it at one input. -/
def fnExactNamesOfWrong : ChangeSpec := { name := "fnExactNamesOf", fn := fun _ => fun
  | [d] => { results := [.lit (.bool false)], args := [d] }
  | _ => none }
def FnExactNamesOfWrongFalsely : Prop := fnExactNamesOfRow.holds Try.pinned (OpenSpec.ofChange fnExactNamesOfWrong)

/- THE SECOND FORM. 'bulk': how many values and letters a reading holds, each counted each time it is reached (what is shared counts as often as it is met; a slice's spare places count too). A statement '..UptoSaid' is the law's where the arguments, and the package variables that the reading takes, are together of bulk at most 1048576: NARROWER than '..Said'. Prove '..Said' where nothing that the law and all that it calls make is longer than what came in: it says more and counts as full. Else prove '..UptoSaid'. A law counts once. -/
mutual
def uptoBulk {H : Type} : DataW H → Nat
  | .lit (.string bytes) => bytes.length + 1
  | .lit _ => 1
  | .nil => 1
  | .ptr d => uptoBulk d + 1
  | .slice elems spare => uptoBulkAll elems + uptoBulkAll spare + 1
  | .agg parts => uptoBulkAll parts + 1
  | .iface _ d => uptoBulk d + 1
  | .map entries => uptoBulkEntries entries + 1
  | .held _ => 1
def uptoBulkAll {H : Type} : List (DataW H) → Nat
  | [] => 0
  | d :: r => uptoBulk d + uptoBulkAll r
def uptoBulkEntries {H : Type} : List (Lit × DataW H) → Nat
  | [] => 0
  | x :: r => uptoBulkEntry x + uptoBulkEntries r
def uptoBulkEntry {H : Type} : Lit × DataW H → Nat
  | (.string bytes, d) => bytes.length + uptoBulk d + 1
  | (_, d) => uptoBulk d + 1
 end
def uptoSmall : (H : Type) → List (DataW H) → Bool := fun _ ds => decide (uptoBulkAll ds ≤ 1048576)
def OpenSpec.upto (s : _root_.Go.ChangeSpec) : _root_.Go.OpenSpec := { _root_.Go.OpenSpec.ofChange s with cond := some uptoSmall }

/-- 'laws.FnExactNameAt', WHERE WHAT IT READS IS OF BULK AT MOST 1048576: true; the input reads as it did. -/
def fnExactNameAtUptoRow : OpenClaim := { program := "ytgigfdghecdlgaa", sum := "600ac9f7306e6f08695a9746f12a567be6c7ac346e4658df54c3bd67cedd24b5", func := "loop.example/g01074/laws.FnExactNameAt", spec := "fnExactNameAt", unfollowed := true, recurses := true, loops := true, apart := false, narrowed := true }
def FnExactNameAtUptoSaid : Prop := fnExactNameAtUptoRow.holds Try.pinned (OpenSpec.upto fnExactNameAtSpec)

/-- 'laws.FnExactNamesOf', WHERE WHAT IT READS IS OF BULK AT MOST 1048576: true; the input reads as it did. -/
def fnExactNamesOfUptoRow : OpenClaim := { program := "ytgigfdghecdlgaa", sum := "600ac9f7306e6f08695a9746f12a567be6c7ac346e4658df54c3bd67cedd24b5", func := "loop.example/g01074/laws.FnExactNamesOf", spec := "fnExactNamesOf", unfollowed := true, recurses := true, loops := true, apart := false, narrowed := true }
def FnExactNamesOfUptoSaid : Prop := fnExactNamesOfUptoRow.holds Try.pinned (OpenSpec.upto fnExactNamesOfSpec)

end Rows
end Go.Proofs.Ytgigfdghecdlgaa
