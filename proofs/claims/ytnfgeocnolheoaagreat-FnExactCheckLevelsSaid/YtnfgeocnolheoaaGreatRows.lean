/-
  NARROWER THAN 'FOR EVERY INPUT', by the rows' own cells (each row's printed sentence says how): FnExactCheckTypes: loops · FnExactCheckLevels: loops · FnExactInferBody: loops.
  DERIVED. THE GIVEN ROWS OF THIS SEAT. 3 by the template 'for every input the law returns true; each argument reads behind the call as it read before'; 0 by the template 'total and deterministic' (their statements: YtnfgeocnolheoaaGreatTotals.lean).
  GIVEN WITH THE SEED: the statements are not yours to turn. If you find one false, say at which input.
  Laid BY PROGRAM, IN A SANDBOX (cutbox-rows.mjs): the forced cells as the released guide's own fill.sh prints them over the translation 54c75c492b015430… (all of the seat's roots in one cut). By AI agents, Wed Nov 11 2026. No macro, syntax, notation, axiom, sorry.
-/
import Derived.Test.YtnfgeocnolheoaaGreatChecked
import GoSem.Claim
import GoSem.ClaimJoined
import GoSem.ClaimMapViews
import Derived.JoinedTies
import Derived.KernelRfl
namespace Go.Proofs.YtnfgeocnolheoaaGreat
/- THE CELL 'sum', in the pinned program and in every row, IS THE sha256 OF THE DUMP (.gsa) THAT YtnfgeocnolheoaaGreatProg.lean LOADS. Nothing in Lean hashes anything: it is a label: what it is worth is what the hold of that sum in a sandbox is worth. -/
noncomputable def Tryz.pinned : Pinned := { name := "ytnfgeocnolheoaagreat", sum := "54c75c492b01543094f70a0362df427abdf5e148aaa02ee78c55e8ae435fa8c4", checked := Tryz.checked }
namespace Rows
def none {H : Type} : Left H := { results := [], args := [] }

/-- 'laws.FnExactCheckTypes': WHATEVER THE INPUT: true; the input reads as it did. -/
def fnExactCheckTypesSpec : ChangeSpec := { name := "fnExactCheckTypes", fn := fun _ => fun
  | [d] => { results := [.lit (.bool true)], args := [d] }
  | _ => none }
def fnExactCheckTypesRow : OpenClaim := { program := "ytnfgeocnolheoaagreat", sum := "54c75c492b01543094f70a0362df427abdf5e148aaa02ee78c55e8ae435fa8c4", func := "loop.example/g01074/laws.FnExactCheckTypes", spec := "fnExactCheckTypes", unfollowed := true, recurses := true, loops := true, apart := false }
def FnExactCheckTypesSaid : Prop := fnExactCheckTypesRow.holds Tryz.pinned (OpenSpec.ofChange fnExactCheckTypesSpec)

/-- ITS FALSE NEIGHBOUR: 'it returns false'. Refute it at one input. -/
def fnExactCheckTypesWrong : ChangeSpec := { name := "fnExactCheckTypes", fn := fun _ => fun
  | [d] => { results := [.lit (.bool false)], args := [d] }
  | _ => none }
def FnExactCheckTypesWrongFalsely : Prop := fnExactCheckTypesRow.holds Tryz.pinned (OpenSpec.ofChange fnExactCheckTypesWrong)

/-- 'laws.FnExactCheckLevels': WHATEVER THE INPUT: true; the input reads as it did. -/
def fnExactCheckLevelsSpec : ChangeSpec := { name := "fnExactCheckLevels", fn := fun _ => fun
  | [d] => { results := [.lit (.bool true)], args := [d] }
  | _ => none }
def fnExactCheckLevelsRow : OpenClaim := { program := "ytnfgeocnolheoaagreat", sum := "54c75c492b01543094f70a0362df427abdf5e148aaa02ee78c55e8ae435fa8c4", func := "loop.example/g01074/laws.FnExactCheckLevels", spec := "fnExactCheckLevels", unfollowed := true, recurses := true, loops := true, apart := false }
def FnExactCheckLevelsSaid : Prop := fnExactCheckLevelsRow.holds Tryz.pinned (OpenSpec.ofChange fnExactCheckLevelsSpec)

/-- ITS FALSE NEIGHBOUR: 'it returns false'. Refute it at one input. -/
def fnExactCheckLevelsWrong : ChangeSpec := { name := "fnExactCheckLevels", fn := fun _ => fun
  | [d] => { results := [.lit (.bool false)], args := [d] }
  | _ => none }
def FnExactCheckLevelsWrongFalsely : Prop := fnExactCheckLevelsRow.holds Tryz.pinned (OpenSpec.ofChange fnExactCheckLevelsWrong)

/-- 'laws.FnExactInferBody': WHATEVER THE INPUT: true; the input reads as it did. -/
def fnExactInferBodySpec : ChangeSpec := { name := "fnExactInferBody", fn := fun _ => fun
  | [d1, d2] => { results := [.lit (.bool true)], args := [d1, d2] }
  | _ => none }
def fnExactInferBodyRow : OpenClaim := { program := "ytnfgeocnolheoaagreat", sum := "54c75c492b01543094f70a0362df427abdf5e148aaa02ee78c55e8ae435fa8c4", func := "loop.example/g01074/laws.FnExactInferBody", spec := "fnExactInferBody", unfollowed := true, recurses := true, loops := true, apart := false }
def FnExactInferBodySaid : Prop := fnExactInferBodyRow.holds Tryz.pinned (OpenSpec.ofChange fnExactInferBodySpec)

/-- ITS FALSE NEIGHBOUR: 'it returns false'. Refute it at one input. -/
def fnExactInferBodyWrong : ChangeSpec := { name := "fnExactInferBody", fn := fun _ => fun
  | [d1, d2] => { results := [.lit (.bool false)], args := [d1, d2] }
  | _ => none }
def FnExactInferBodyWrongFalsely : Prop := fnExactInferBodyRow.holds Tryz.pinned (OpenSpec.ofChange fnExactInferBodyWrong)

/- THE SECOND FORM. 'bulk': how many values and letters a reading holds, each counted each time it is reached (what is shared counts as often as it is met; a slice's spare places count too). A statement '..UptoSaid' is the law's where the arguments, and the package variables that the reading takes, are together of bulk at most 1048576: NARROWER than '..Said'. Prove '..Said' where nothing that the law and all that it calls make is longer than what came in: it says more and counts as full. Else prove '..UptoSaid'. A law counts once. -/
mutual
def uptoBulk {H : Type} : DataW H → Nat
  | .lit (.string bytes) => bytes.length + 1
  | .lit _ => 1
  | .nil => 1
  | .ptr d => uptoBulk d + 1
  | .slice elems spare => uptoBulkAll elems + uptoBulkAll spare + 1
  | .agg parts => uptoBulkAll parts + 1
  | .iface _ d => uptoBulk d + 1
  | .map entries => uptoBulkEntries entries + 1
  | .held _ => 1
def uptoBulkAll {H : Type} : List (DataW H) → Nat
  | [] => 0
  | d :: r => uptoBulk d + uptoBulkAll r
def uptoBulkEntries {H : Type} : List (Lit × DataW H) → Nat
  | [] => 0
  | x :: r => uptoBulkEntry x + uptoBulkEntries r
def uptoBulkEntry {H : Type} : Lit × DataW H → Nat
  | (.string bytes, d) => bytes.length + uptoBulk d + 1
  | (_, d) => uptoBulk d + 1
 end
def uptoSmall : (H : Type) → List (DataW H) → Bool := fun _ ds => decide (uptoBulkAll ds ≤ 1048576)
def OpenSpec.upto (s : _root_.Go.ChangeSpec) : _root_.Go.OpenSpec := { _root_.Go.OpenSpec.ofChange s with cond := some uptoSmall }

/-- 'laws.FnExactCheckTypes', WHERE WHAT IT READS IS OF BULK AT MOST 1048576: true; the input reads as it did. -/
def fnExactCheckTypesUptoRow : OpenClaim := { program := "ytnfgeocnolheoaagreat", sum := "54c75c492b01543094f70a0362df427abdf5e148aaa02ee78c55e8ae435fa8c4", func := "loop.example/g01074/laws.FnExactCheckTypes", spec := "fnExactCheckTypes", unfollowed := true, recurses := true, loops := true, apart := false, narrowed := true }
def FnExactCheckTypesUptoSaid : Prop := fnExactCheckTypesUptoRow.holds Tryz.pinned (OpenSpec.upto fnExactCheckTypesSpec)

/-- 'laws.FnExactCheckLevels', WHERE WHAT IT READS IS OF BULK AT MOST 1048576: true; the input reads as it did. -/
def fnExactCheckLevelsUptoRow : OpenClaim := { program := "ytnfgeocnolheoaagreat", sum := "54c75c492b01543094f70a0362df427abdf5e148aaa02ee78c55e8ae435fa8c4", func := "loop.example/g01074/laws.FnExactCheckLevels", spec := "fnExactCheckLevels", unfollowed := true, recurses := true, loops := true, apart := false, narrowed := true }
def FnExactCheckLevelsUptoSaid : Prop := fnExactCheckLevelsUptoRow.holds Tryz.pinned (OpenSpec.upto fnExactCheckLevelsSpec)

/-- 'laws.FnExactInferBody', WHERE WHAT IT READS IS OF BULK AT MOST 1048576: true; the input reads as it did. -/
def fnExactInferBodyUptoRow : OpenClaim := { program := "ytnfgeocnolheoaagreat", sum := "54c75c492b01543094f70a0362df427abdf5e148aaa02ee78c55e8ae435fa8c4", func := "loop.example/g01074/laws.FnExactInferBody", spec := "fnExactInferBody", unfollowed := true, recurses := true, loops := true, apart := false, narrowed := true }
def FnExactInferBodyUptoSaid : Prop := fnExactInferBodyUptoRow.holds Tryz.pinned (OpenSpec.upto fnExactInferBodySpec)

end Rows
end Go.Proofs.YtnfgeocnolheoaaGreat
