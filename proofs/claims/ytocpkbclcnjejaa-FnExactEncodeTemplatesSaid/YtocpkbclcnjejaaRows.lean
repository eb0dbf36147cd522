/-
  NARROWER THAN 'FOR EVERY INPUT', by the rows' own cells (each row's printed sentence says how): FnExactNamesOf: loops · FnExactNameAt: loops.
  DERIVED. THE GIVEN ROWS OF THIS SEAT. 5 by the template 'for every input the law returns true; each argument reads behind the call as it read before'; 0 by the template 'total and deterministic' (their statements: YtocpkbclcnjejaaTotals.lean).
  GIVEN WITH THE SEED: the statements are not yours to turn. If you find one false, say at which input.
  Laid BY PROGRAM, IN A SANDBOX (cutbox-rows.mjs): the forced cells as the released guide's own fill.sh prints them over the translation b3e8002bcb2e7e04… (all of the seat's roots in one cut). By AI agents, Wed Nov 11 2026. No macro, syntax, notation, axiom, sorry.
-/
import Derived.Test.YtocpkbclcnjejaaChecked
import GoSem.Claim
import GoSem.ClaimJoined
import GoSem.ClaimMapViews
import Derived.JoinedTies
import Derived.KernelRfl
namespace Go.Proofs.Ytocpkbclcnjejaa
/- THE CELL 'sum', in the pinned program and in every row, IS THE sha256 OF THE DUMP (.gsa) THAT YtocpkbclcnjejaaProg.lean LOADS. Nothing in Lean hashes anything: it is a label: what it is worth is what the hold of that sum in a sandbox is worth. -/
noncomputable def Try.pinned : Pinned := { name := "ytocpkbclcnjejaa", sum := "b3e8002bcb2e7e046c7c5a6087ad4b3e949b78a4f877b3bba22a1ee3cc0344ad", checked := Try.checked }
namespace Rows
def none {H : Type} : Left H := { results := [], args := [] }

/-- 'laws.FnExactEncodeNet': WHATEVER THE INPUT: true; the input reads as it did. -/
def fnExactEncodeNetSpec : ChangeSpec := { name := "fnExactEncodeNet", fn := fun _ => fun
  | [d] => { results := [.lit (.bool true)], args := [d] }
  | _ => none }
def fnExactEncodeNetRow : OpenClaim := { program := "ytocpkbclcnjejaa", sum := "b3e8002bcb2e7e046c7c5a6087ad4b3e949b78a4f877b3bba22a1ee3cc0344ad", func := "loop.example/g01074/laws.FnExactEncodeNet", spec := "fnExactEncodeNet", unfollowed := true, recurses := true, apart := false }
def FnExactEncodeNetSaid : Prop := fnExactEncodeNetRow.holds Try.pinned (OpenSpec.ofChange fnExactEncodeNetSpec)

/-- ITS FALSE NEIGHBOUR: 'it returns false'. Refute it at one input. -/
def fnExactEncodeNetWrong : ChangeSpec := { name := "fnExactEncodeNet", fn := fun _ => fun
  | [d] => { results := [.lit (.bool false)], args := [d] }
  | _ => none }
def FnExactEncodeNetWrongFalsely : Prop := fnExactEncodeNetRow.holds Try.pinned (OpenSpec.ofChange fnExactEncodeNetWrong)

/-- 'laws.FnExactEncodeTemplates': WHATEVER THE INPUT: true; the input reads as it did. -/
def fnExactEncodeTemplatesSpec : ChangeSpec := { name := "fnExactEncodeTemplates", fn := fun _ => fun
  | [d] => { results := [.lit (.bool true)], args := [d] }
  | _ => none }
def fnExactEncodeTemplatesRow : OpenClaim := { program := "ytocpkbclcnjejaa", sum := "b3e8002bcb2e7e046c7c5a6087ad4b3e949b78a4f877b3bba22a1ee3cc0344ad", func := "loop.example/g01074/laws.FnExactEncodeTemplates", spec := "fnExactEncodeTemplates", unfollowed := true, recurses := true, apart := false }
def FnExactEncodeTemplatesSaid : Prop := fnExactEncodeTemplatesRow.holds Try.pinned (OpenSpec.ofChange fnExactEncodeTemplatesSpec)

/-- ITS FALSE NEIGHBOUR: 'it returns false'. Refute it at one input. -/
def fnExactEncodeTemplatesWrong : ChangeSpec := { name := "fnExactEncodeTemplates", fn := fun _ => fun
  | [d] => { results := [.lit (.bool false)], args := [d] }
  | _ => none }
def FnExactEncodeTemplatesWrongFalsely : Prop := fnExactEncodeTemplatesRow.holds Try.pinned (OpenSpec.ofChange fnExactEncodeTemplatesWrong)

/-- 'laws.FnExactNamesOf': WHATEVER THE INPUT: true; the input reads as it did. -/
def fnExactNamesOfSpec : ChangeSpec := { name := "fnExactNamesOf", fn := fun _ => fun
  | [d] => { results := [.lit (.bool true)], args := [d] }
  | _ => none }
def fnExactNamesOfRow : OpenClaim := { program := "ytocpkbclcnjejaa", sum := "b3e8002bcb2e7e046c7c5a6087ad4b3e949b78a4f877b3bba22a1ee3cc0344ad", func := "loop.example/g01074/laws.FnExactNamesOf", spec := "fnExactNamesOf", unfollowed := true, recurses := true, loops := true, apart := false }
def FnExactNamesOfSaid : Prop := fnExactNamesOfRow.holds Try.pinned (OpenSpec.ofChange fnExactNamesOfSpec)

/-- ITS FALSE NEIGHBOUR: 'it returns false'. Refute it at one input. -/
def fnExactNamesOfWrong : ChangeSpec := { name := "fnExactNamesOf", fn := fun _ => fun
  | [d] => { results := [.lit (.bool false)], args := [d] }
  | _ => none }
def FnExactNamesOfWrongFalsely : Prop := fnExactNamesOfRow.holds Try.pinned (OpenSpec.ofChange fnExactNamesOfWrong)

/-- 'laws.FnExactNameAt': WHATEVER THE INPUT: true; the input reads as it did. -/
def fnExactNameAtSpec : ChangeSpec := { name := "fnExactNameAt", fn := fun _ => fun
  | [d1, d2] => { results := [.lit (.bool true)], args := [d1, d2] }
  | _ => none }
def fnExactNameAtRow : OpenClaim := { program := "ytocpkbclcnjejaa", sum := "b3e8002bcb2e7e046c7c5a6087ad4b3e949b78a4f877b3bba22a1ee3cc0344ad", func := "loop.example/g01074/laws.FnExactNameAt", spec := "fnExactNameAt", unfollowed := true, recurses := true, loops := true, apart := false }
def FnExactNameAtSaid : Prop := fnExactNameAtRow.holds Try.pinned (OpenSpec.ofChange fnExactNameAtSpec)

/-- ITS FALSE NEIGHBOUR: 'it returns false'. Refute it at one input. -/
def fnExactNameAtWrong : ChangeSpec := { name := "fnExactNameAt", fn := fun _ => fun
  | [d1, d2] => { results := [.lit (.bool false)], args := [d1, d2] }
  | _ => none }
def FnExactNameAtWrongFalsely : Prop := fnExactNameAtRow.holds Try.pinned (OpenSpec.ofChange fnExactNameAtWrong)

/-- 'laws.FnExactTasksLeft': WHATEVER THE INPUT: true; the input reads as it did. -/
def fnExactTasksLeftSpec : ChangeSpec := { name := "fnExactTasksLeft", fn := fun _ => fun
  | [d] => { results := [.lit (.bool true)], args := [d] }
  | _ => none }
def fnExactTasksLeftRow : OpenClaim := { program := "ytocpkbclcnjejaa", sum := "b3e8002bcb2e7e046c7c5a6087ad4b3e949b78a4f877b3bba22a1ee3cc0344ad", func := "loop.example/g01074/laws.FnExactTasksLeft", spec := "fnExactTasksLeft", unfollowed := true, recurses := true, apart := false }
def FnExactTasksLeftSaid : Prop := fnExactTasksLeftRow.holds Try.pinned (OpenSpec.ofChange fnExactTasksLeftSpec)

/-- ITS FALSE NEIGHBOUR: 'it returns false'. Refute it at one input. -/
def fnExactTasksLeftWrong : ChangeSpec := { name := "fnExactTasksLeft", fn := fun _ => fun
  | [d] => { results := [.lit (.bool false)], args := [d] }
  | _ => none }
def FnExactTasksLeftWrongFalsely : Prop := fnExactTasksLeftRow.holds Try.pinned (OpenSpec.ofChange fnExactTasksLeftWrong)

/- THE SECOND FORM. 'bulk': how many values and letters a reading holds, each counted each time it is reached (what is shared counts as often as it is met; a slice's spare places count too). A statement '..UptoSaid' is the law's where the arguments, and the package variables that the reading takes, are together of bulk at most 1048576: NARROWER than '..Said'. Prove '..Said' where nothing that the law and all that it calls make is longer than what came in: it says more and counts as full. Else prove '..UptoSaid'. A law counts once. -/
mutual
def uptoBulk {H : Type} : DataW H → Nat
  | .lit (.string bytes) => bytes.length + 1
  | .lit _ => 1
  | .nil => 1
  | .ptr d => uptoBulk d + 1
  | .slice elems spare => uptoBulkAll elems + uptoBulkAll spare + 1
  | .agg parts => uptoBulkAll parts + 1
  | .iface _ d => uptoBulk d + 1
  | .map entries => uptoBulkEntries entries + 1
  | .held _ => 1
def uptoBulkAll {H : Type} : List (DataW H) → Nat
  | [] => 0
  | d :: r => uptoBulk d + uptoBulkAll r
def uptoBulkEntries {H : Type} : List (Lit × DataW H) → Nat
  | [] => 0
  | x :: r => uptoBulkEntry x + uptoBulkEntries r
def uptoBulkEntry {H : Type} : Lit × DataW H → Nat
  | (.string bytes, d) => bytes.length + uptoBulk d + 1
  | (_, d) => uptoBulk d + 1
 end
def uptoSmall : (H : Type) → List (DataW H) → Bool := fun _ ds => decide (uptoBulkAll ds ≤ 1048576)
def OpenSpec.upto (s : _root_.Go.ChangeSpec) : _root_.Go.OpenSpec := { _root_.Go.OpenSpec.ofChange s with cond := some uptoSmall }

/-- 'laws.FnExactEncodeNet', WHERE WHAT IT READS IS OF BULK AT MOST 1048576: true; the input reads as it did. -/
def fnExactEncodeNetUptoRow : OpenClaim := { program := "ytocpkbclcnjejaa", sum := "b3e8002bcb2e7e046c7c5a6087ad4b3e949b78a4f877b3bba22a1ee3cc0344ad", func := "loop.example/g01074/laws.FnExactEncodeNet", spec := "fnExactEncodeNet", unfollowed := true, recurses := true, apart := false, narrowed := true }
def FnExactEncodeNetUptoSaid : Prop := fnExactEncodeNetUptoRow.holds Try.pinned (OpenSpec.upto fnExactEncodeNetSpec)

/-- 'laws.FnExactEncodeTemplates', WHERE WHAT IT READS IS OF BULK AT MOST 1048576: true; the input reads as it did. -/
def fnExactEncodeTemplatesUptoRow : OpenClaim := { program := "ytocpkbclcnjejaa", sum := "b3e8002bcb2e7e046c7c5a6087ad4b3e949b78a4f877b3bba22a1ee3cc0344ad", func := "loop.example/g01074/laws.FnExactEncodeTemplates", spec := "fnExactEncodeTemplates", unfollowed := true, recurses := true, apart := false, narrowed := true }
def FnExactEncodeTemplatesUptoSaid : Prop := fnExactEncodeTemplatesUptoRow.holds Try.pinned (OpenSpec.upto fnExactEncodeTemplatesSpec)

/-- 'laws.FnExactNamesOf', WHERE WHAT IT READS IS OF BULK AT MOST 1048576: true; the input reads as it did. -/
def fnExactNamesOfUptoRow : OpenClaim := { program := "ytocpkbclcnjejaa", sum := "b3e8002bcb2e7e046c7c5a6087ad4b3e949b78a4f877b3bba22a1ee3cc0344ad", func := "loop.example/g01074/laws.FnExactNamesOf", spec := "fnExactNamesOf", unfollowed := true, recurses := true, loops := true, apart := false, narrowed := true }
def FnExactNamesOfUptoSaid : Prop := fnExactNamesOfUptoRow.holds Try.pinned (OpenSpec.upto fnExactNamesOfSpec)

/-- 'laws.FnExactNameAt', WHERE WHAT IT READS IS OF BULK AT MOST 1048576: true; the input reads as it did. -/
def fnExactNameAtUptoRow : OpenClaim := { program := "ytocpkbclcnjejaa", sum := "b3e8002bcb2e7e046c7c5a6087ad4b3e949b78a4f877b3bba22a1ee3cc0344ad", func := "loop.example/g01074/laws.FnExactNameAt", spec := "fnExactNameAt", unfollowed := true, recurses := true, loops := true, apart := false, narrowed := true }
def FnExactNameAtUptoSaid : Prop := fnExactNameAtUptoRow.holds Try.pinned (OpenSpec.upto fnExactNameAtSpec)

/-- 'laws.FnExactTasksLeft', WHERE WHAT IT READS IS OF BULK AT MOST 1048576: true; the input reads as it did. -/
def fnExactTasksLeftUptoRow : OpenClaim := { program := "ytocpkbclcnjejaa", sum := "b3e8002bcb2e7e046c7c5a6087ad4b3e949b78a4f877b3bba22a1ee3cc0344ad", func := "loop.example/g01074/laws.FnExactTasksLeft", spec := "fnExactTasksLeft", unfollowed := true, recurses := true, apart := false, narrowed := true }
def FnExactTasksLeftUptoSaid : Prop := fnExactTasksLeftUptoRow.holds Try.pinned (OpenSpec.upto fnExactTasksLeftSpec)

end Rows
end Go.Proofs.Ytocpkbclcnjejaa
