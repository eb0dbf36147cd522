/-
  No cell of these rows narrows 'for every input' (looked for: loops, veiled, ifaces, maps, wideKeys, modest, calm, conditions, laid).
  DERIVED. THE GIVEN ROWS OF THIS SEAT. 3 by the template 'for every input the law returns true; each argument reads behind the call as it read before'; 0 by the template 'total and deterministic' (their statements: YtclmbjbbojdojaaGreatTotals.lean).
  GIVEN WITH THE SEED: the statements are not yours to turn. If you find one false, say at which input.
  Laid BY PROGRAM, IN A SANDBOX (cutbox-rows.mjs): the forced cells as the released guide's own fill.sh prints them over the translation 92449998dfd24221… (all of the seat's roots in one cut). By AI agents, Wed Nov 11 2026. No macro, syntax, notation, axiom, sorry.
-/
import Derived.Test.YtclmbjbbojdojaaGreatChecked
import GoSem.Claim
import GoSem.ClaimJoined
import GoSem.ClaimMapViews
import Derived.JoinedTies
import Derived.KernelRfl
namespace Go.Proofs.YtclmbjbbojdojaaGreat
/- THE CELL 'sum', in the pinned program and in every row, IS THE sha256 OF THE DUMP (.gsa) THAT YtclmbjbbojdojaaGreatProg.lean LOADS. Nothing in Lean hashes anything: it is a label: what it is worth is what the hold of that sum in a sandbox is worth. -/
noncomputable def Tryz.pinned : Pinned := { name := "ytclmbjbbojdojaagreat", sum := "92449998dfd24221cb7cadc73ab6d635e7e6ba180bc800bc2f16d7f677481dc6", checked := Tryz.checked }
namespace Rows
def none {H : Type} : Left H := { results := [], args := [] }

/-- 'laws.FnExactNewService': WHATEVER THE INPUT: true; the input reads as it did. -/
def fnExactNewServiceSpec : ChangeSpec := { name := "fnExactNewService", fn := fun _ => fun
  | [d1, d2, d3] => { results := [.lit (.bool true)], args := [d1, d2, d3] }
  | _ => none }
def fnExactNewServiceRow : OpenClaim := { program := "ytclmbjbbojdojaagreat", sum := "92449998dfd24221cb7cadc73ab6d635e7e6ba180bc800bc2f16d7f677481dc6", func := "loop.example/g01074/laws.FnExactNewService", spec := "fnExactNewService", unfollowed := true, recurses := true, plainKeys := false, apart := false }
def FnExactNewServiceSaid : Prop := fnExactNewServiceRow.holds Tryz.pinned (OpenSpec.ofChange fnExactNewServiceSpec)

/-- ITS FALSE NEIGHBOUR: 'it returns false'. Refute it at one input. -/
def fnExactNewServiceWrong : ChangeSpec := { name := "fnExactNewService", fn := fun _ => fun
  | [d1, d2, d3] => { results := [.lit (.bool false)], args := [d1, d2, d3] }
  | _ => none }
def FnExactNewServiceWrongFalsely : Prop := fnExactNewServiceRow.holds Tryz.pinned (OpenSpec.ofChange fnExactNewServiceWrong)

/-- 'laws.FnExactValidService': WHATEVER THE INPUT: true; the input reads as it did. -/
def fnExactValidServiceSpec : ChangeSpec := { name := "fnExactValidService", fn := fun _ => fun
  | [d] => { results := [.lit (.bool true)], args := [d] }
  | _ => none }
def fnExactValidServiceRow : OpenClaim := { program := "ytclmbjbbojdojaagreat", sum := "92449998dfd24221cb7cadc73ab6d635e7e6ba180bc800bc2f16d7f677481dc6", func := "loop.example/g01074/laws.FnExactValidService", spec := "fnExactValidService", unfollowed := true, recurses := true, plainKeys := false, apart := false }
def FnExactValidServiceSaid : Prop := fnExactValidServiceRow.holds Tryz.pinned (OpenSpec.ofChange fnExactValidServiceSpec)

/-- ITS FALSE NEIGHBOUR: 'it returns false'. Refute it at one input. -/
def fnExactValidServiceWrong : ChangeSpec := { name := "fnExactValidService", fn := fun _ => fun
  | [d] => { results := [.lit (.bool false)], args := [d] }
  | _ => none }
def FnExactValidServiceWrongFalsely : Prop := fnExactValidServiceRow.holds Tryz.pinned (OpenSpec.ofChange fnExactValidServiceWrong)

/-- 'laws.FnExactFinishToken': WHATEVER THE INPUT: true; the input reads as it did. -/
def fnExactFinishTokenSpec : ChangeSpec := { name := "fnExactFinishToken", fn := fun _ => fun
  | [d1, d2] => { results := [.lit (.bool true)], args := [d1, d2] }
  | _ => none }
def fnExactFinishTokenRow : OpenClaim := { program := "ytclmbjbbojdojaagreat", sum := "92449998dfd24221cb7cadc73ab6d635e7e6ba180bc800bc2f16d7f677481dc6", func := "loop.example/g01074/laws.FnExactFinishToken", spec := "fnExactFinishToken", unfollowed := true, recurses := true, plainKeys := false, apart := false }
def FnExactFinishTokenSaid : Prop := fnExactFinishTokenRow.holds Tryz.pinned (OpenSpec.ofChange fnExactFinishTokenSpec)

/-- ITS FALSE NEIGHBOUR: 'it returns false'. Refute it at one input. -/
def fnExactFinishTokenWrong : ChangeSpec := { name := "fnExactFinishToken", fn := fun _ => fun
  | [d1, d2] => { results := [.lit (.bool false)], args := [d1, d2] }
  | _ => none }
def FnExactFinishTokenWrongFalsely : Prop := fnExactFinishTokenRow.holds Tryz.pinned (OpenSpec.ofChange fnExactFinishTokenWrong)

/- THE SECOND FORM. 'bulk': how many values and letters a reading holds, each counted each time it is reached (what is shared counts as often as it is met; a slice's spare places count too). A statement '..UptoSaid' is the law's where the arguments, and the package variables that the reading takes, are together of bulk at most 1048576: NARROWER than '..Said'. Prove '..Said' where nothing that the law and all that it calls make is longer than what came in: it says more and counts as full. Else prove '..UptoSaid'. A law counts once. -/
mutual
def uptoBulk {H : Type} : DataW H → Nat
  | .lit (.string bytes) => bytes.length + 1
  | .lit _ => 1
  | .nil => 1
  | .ptr d => uptoBulk d + 1
  | .slice elems spare => uptoBulkAll elems + uptoBulkAll spare + 1
  | .agg parts => uptoBulkAll parts + 1
  | .iface _ d => uptoBulk d + 1
  | .map entries => uptoBulkEntries entries + 1
  | .held _ => 1
def uptoBulkAll {H : Type} : List (DataW H) → Nat
  | [] => 0
  | d :: r => uptoBulk d + uptoBulkAll r
def uptoBulkEntries {H : Type} : List (Lit × DataW H) → Nat
  | [] => 0
  | x :: r => uptoBulkEntry x + uptoBulkEntries r
def uptoBulkEntry {H : Type} : Lit × DataW H → Nat
  | (.string bytes, d) => bytes.length + uptoBulk d + 1
  | (_, d) => uptoBulk d + 1
 end
def uptoSmall : (H : Type) → List (DataW H) → Bool := fun _ ds => decide (uptoBulkAll ds ≤ 1048576)
def OpenSpec.upto (s : _root_.Go.ChangeSpec) : _root_.Go.OpenSpec := { _root_.Go.OpenSpec.ofChange s with cond := some uptoSmall }

/-- 'laws.FnExactNewService', WHERE WHAT IT READS IS OF BULK AT MOST 1048576: true; the input reads as it did. -/
def fnExactNewServiceUptoRow : OpenClaim := { program := "ytclmbjbbojdojaagreat", sum := "92449998dfd24221cb7cadc73ab6d635e7e6ba180bc800bc2f16d7f677481dc6", func := "loop.example/g01074/laws.FnExactNewService", spec := "fnExactNewService", unfollowed := true, recurses := true, plainKeys := false, apart := false, narrowed := true }
def FnExactNewServiceUptoSaid : Prop := fnExactNewServiceUptoRow.holds Tryz.pinned (OpenSpec.upto fnExactNewServiceSpec)

/-- 'laws.FnExactValidService', WHERE WHAT IT READS IS OF BULK AT MOST 1048576: true; the input reads as it did. -/
def fnExactValidServiceUptoRow : OpenClaim := { program := "ytclmbjbbojdojaagreat", sum := "92449998dfd24221cb7cadc73ab6d635e7e6ba180bc800bc2f16d7f677481dc6", func := "loop.example/g01074/laws.FnExactValidService", spec := "fnExactValidService", unfollowed := true, recurses := true, plainKeys := false, apart := false, narrowed := true }
def FnExactValidServiceUptoSaid : Prop := fnExactValidServiceUptoRow.holds Tryz.pinned (OpenSpec.upto fnExactValidServiceSpec)

/-- 'laws.FnExactFinishToken', WHERE WHAT IT READS IS OF BULK AT MOST 1048576: true; the input reads as it did. -/
def fnExactFinishTokenUptoRow : OpenClaim := { program := "ytclmbjbbojdojaagreat", sum := "92449998dfd24221cb7cadc73ab6d635e7e6ba180bc800bc2f16d7f677481dc6", func := "loop.example/g01074/laws.FnExactFinishToken", spec := "fnExactFinishToken", unfollowed := true, recurses := true, plainKeys := false, apart := false, narrowed := true }
def FnExactFinishTokenUptoSaid : Prop := fnExactFinishTokenUptoRow.holds Tryz.pinned (OpenSpec.upto fnExactFinishTokenSpec)

end Rows
end Go.Proofs.YtclmbjbbojdojaaGreat
