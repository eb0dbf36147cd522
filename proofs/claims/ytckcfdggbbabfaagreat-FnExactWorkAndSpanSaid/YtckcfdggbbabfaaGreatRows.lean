/-
  No cell of these rows narrows 'for every input' (looked for: loops, veiled, ifaces, maps, wideKeys, modest, calm, conditions, laid).
  DERIVED. THE GIVEN ROWS OF THIS SEAT. 9 by the template 'for every input the law returns true; each argument reads behind the call as it read before'; 0 by the template 'total and deterministic' (their statements: YtckcfdggbbabfaaGreatTotals.lean).
  GIVEN WITH THE SEED: the statements are not yours to turn. If you find one false, say at which input.
  Laid BY PROGRAM, IN A SANDBOX (cutbox-rows.mjs): the forced cells as the released guide's own fill.sh prints them over the translation 0e320f8e126b9376… (all of the seat's roots in one cut). By AI agents, Wed Nov 11 2026. No macro, syntax, notation, axiom, sorry.
-/
import Derived.Test.YtckcfdggbbabfaaGreatChecked
import GoSem.Claim
import GoSem.ClaimJoined
import GoSem.ClaimMapViews
import Derived.JoinedTies
import Derived.KernelRfl
namespace Go.Proofs.YtckcfdggbbabfaaGreat
/- THE CELL 'sum', in the pinned program and in every row, IS THE sha256 OF THE DUMP (.gsa) THAT YtckcfdggbbabfaaGreatProg.lean LOADS. Nothing in Lean hashes anything: it is a label: what it is worth is what the hold of that sum in a sandbox is worth. -/
noncomputable def Tryz.pinned : Pinned := { name := "ytckcfdggbbabfaagreat", sum := "0e320f8e126b9376f73dd11829fe7b0fdba722f158e97bcca6c6d8fb5bc4d53a", checked := Tryz.checked }
namespace Rows
def none {H : Type} : Left H := { results := [], args := [] }

/-- 'laws.FnExactAddJob': WHATEVER THE INPUT: true; the input reads as it did. -/
def fnExactAddJobSpec : ChangeSpec := { name := "fnExactAddJob", fn := fun _ => fun
  | [d1, d2, d3, d4, d5, d6] => { results := [.lit (.bool true)], args := [d1, d2, d3, d4, d5, d6] }
  | _ => none }
def fnExactAddJobRow : OpenClaim := { program := "ytckcfdggbbabfaagreat", sum := "0e320f8e126b9376f73dd11829fe7b0fdba722f158e97bcca6c6d8fb5bc4d53a", func := "loop.example/g01074/laws.FnExactAddJob", spec := "fnExactAddJob", unfollowed := true, recurses := true, apart := false }
def FnExactAddJobSaid : Prop := fnExactAddJobRow.holds Tryz.pinned (OpenSpec.ofChange fnExactAddJobSpec)

/-- ITS FALSE NEIGHBOUR: 'it returns false'. Refute it at one input. -/
def fnExactAddJobWrong : ChangeSpec := { name := "fnExactAddJob", fn := fun _ => fun
  | [d1, d2, d3, d4, d5, d6] => { results := [.lit (.bool false)], args := [d1, d2, d3, d4, d5, d6] }
  | _ => none }
def FnExactAddJobWrongFalsely : Prop := fnExactAddJobRow.holds Tryz.pinned (OpenSpec.ofChange fnExactAddJobWrong)

/-- 'laws.FnExactInteract': WHATEVER THE INPUT: true; the input reads as it did. -/
def fnExactInteractSpec : ChangeSpec := { name := "fnExactInteract", fn := fun _ => fun
  | [d1, d2, d3] => { results := [.lit (.bool true)], args := [d1, d2, d3] }
  | _ => none }
def fnExactInteractRow : OpenClaim := { program := "ytckcfdggbbabfaagreat", sum := "0e320f8e126b9376f73dd11829fe7b0fdba722f158e97bcca6c6d8fb5bc4d53a", func := "loop.example/g01074/laws.FnExactInteract", spec := "fnExactInteract", unfollowed := true, recurses := true, apart := false }
def FnExactInteractSaid : Prop := fnExactInteractRow.holds Tryz.pinned (OpenSpec.ofChange fnExactInteractSpec)

/-- ITS FALSE NEIGHBOUR: 'it returns false'. Refute it at one input. -/
def fnExactInteractWrong : ChangeSpec := { name := "fnExactInteract", fn := fun _ => fun
  | [d1, d2, d3] => { results := [.lit (.bool false)], args := [d1, d2, d3] }
  | _ => none }
def FnExactInteractWrongFalsely : Prop := fnExactInteractRow.holds Tryz.pinned (OpenSpec.ofChange fnExactInteractWrong)

/-- 'laws.FnExactInteractRound': WHATEVER THE INPUT: true; the input reads as it did. -/
def fnExactInteractRoundSpec : ChangeSpec := { name := "fnExactInteractRound", fn := fun _ => fun
  | [d1, d2] => { results := [.lit (.bool true)], args := [d1, d2] }
  | _ => none }
def fnExactInteractRoundRow : OpenClaim := { program := "ytckcfdggbbabfaagreat", sum := "0e320f8e126b9376f73dd11829fe7b0fdba722f158e97bcca6c6d8fb5bc4d53a", func := "loop.example/g01074/laws.FnExactInteractRound", spec := "fnExactInteractRound", unfollowed := true, recurses := true, apart := false }
def FnExactInteractRoundSaid : Prop := fnExactInteractRoundRow.holds Tryz.pinned (OpenSpec.ofChange fnExactInteractRoundSpec)

/-- ITS FALSE NEIGHBOUR: 'it returns false'. Refute it at one input. -/
def fnExactInteractRoundWrong : ChangeSpec := { name := "fnExactInteractRound", fn := fun _ => fun
  | [d1, d2] => { results := [.lit (.bool false)], args := [d1, d2] }
  | _ => none }
def FnExactInteractRoundWrongFalsely : Prop := fnExactInteractRoundRow.holds Tryz.pinned (OpenSpec.ofChange fnExactInteractRoundWrong)

/-- 'laws.FnExactGreedyRounds': WHATEVER THE INPUT: true; the input reads as it did. -/
def fnExactGreedyRoundsSpec : ChangeSpec := { name := "fnExactGreedyRounds", fn := fun _ => fun
  | [d1, d2, d3, d4] => { results := [.lit (.bool true)], args := [d1, d2, d3, d4] }
  | _ => none }
def fnExactGreedyRoundsRow : OpenClaim := { program := "ytckcfdggbbabfaagreat", sum := "0e320f8e126b9376f73dd11829fe7b0fdba722f158e97bcca6c6d8fb5bc4d53a", func := "loop.example/g01074/laws.FnExactGreedyRounds", spec := "fnExactGreedyRounds", unfollowed := true, recurses := true, apart := false }
def FnExactGreedyRoundsSaid : Prop := fnExactGreedyRoundsRow.holds Tryz.pinned (OpenSpec.ofChange fnExactGreedyRoundsSpec)

/-- ITS FALSE NEIGHBOUR: 'it returns false'. Refute it at one input. -/
def fnExactGreedyRoundsWrong : ChangeSpec := { name := "fnExactGreedyRounds", fn := fun _ => fun
  | [d1, d2, d3, d4] => { results := [.lit (.bool false)], args := [d1, d2, d3, d4] }
  | _ => none }
def FnExactGreedyRoundsWrongFalsely : Prop := fnExactGreedyRoundsRow.holds Tryz.pinned (OpenSpec.ofChange fnExactGreedyRoundsWrong)

/-- 'laws.FnExactWorkAndSpan': WHATEVER THE INPUT: true; the input reads as it did. -/
def fnExactWorkAndSpanSpec : ChangeSpec := { name := "fnExactWorkAndSpan", fn := fun _ => fun
  | [d1, d2, d3] => { results := [.lit (.bool true)], args := [d1, d2, d3] }
  | _ => none }
def fnExactWorkAndSpanRow : OpenClaim := { program := "ytckcfdggbbabfaagreat", sum := "0e320f8e126b9376f73dd11829fe7b0fdba722f158e97bcca6c6d8fb5bc4d53a", func := "loop.example/g01074/laws.FnExactWorkAndSpan", spec := "fnExactWorkAndSpan", unfollowed := true, recurses := true, apart := false }
def FnExactWorkAndSpanSaid : Prop := fnExactWorkAndSpanRow.holds Tryz.pinned (OpenSpec.ofChange fnExactWorkAndSpanSpec)

/-- ITS FALSE NEIGHBOUR: 'it returns false'. Refute it at one input. -/
def fnExactWorkAndSpanWrong : ChangeSpec := { name := "fnExactWorkAndSpan", fn := fun _ => fun
  | [d1, d2, d3] => { results := [.lit (.bool false)], args := [d1, d2, d3] }
  | _ => none }
def FnExactWorkAndSpanWrongFalsely : Prop := fnExactWorkAndSpanRow.holds Tryz.pinned (OpenSpec.ofChange fnExactWorkAndSpanWrong)

/-- 'laws.FnExactRoundSizes': WHATEVER THE INPUT: true; the input reads as it did. -/
def fnExactRoundSizesSpec : ChangeSpec := { name := "fnExactRoundSizes", fn := fun _ => fun
  | [d1, d2, d3] => { results := [.lit (.bool true)], args := [d1, d2, d3] }
  | _ => none }
def fnExactRoundSizesRow : OpenClaim := { program := "ytckcfdggbbabfaagreat", sum := "0e320f8e126b9376f73dd11829fe7b0fdba722f158e97bcca6c6d8fb5bc4d53a", func := "loop.example/g01074/laws.FnExactRoundSizes", spec := "fnExactRoundSizes", unfollowed := true, recurses := true, apart := false }
def FnExactRoundSizesSaid : Prop := fnExactRoundSizesRow.holds Tryz.pinned (OpenSpec.ofChange fnExactRoundSizesSpec)

/-- ITS FALSE NEIGHBOUR: 'it returns false'. Refute it at one input. -/
def fnExactRoundSizesWrong : ChangeSpec := { name := "fnExactRoundSizes", fn := fun _ => fun
  | [d1, d2, d3] => { results := [.lit (.bool false)], args := [d1, d2, d3] }
  | _ => none }
def FnExactRoundSizesWrongFalsely : Prop := fnExactRoundSizesRow.holds Tryz.pinned (OpenSpec.ofChange fnExactRoundSizesWrong)

/-- 'laws.FnExactRoundClasses': WHATEVER THE INPUT: true; the input reads as it did. -/
def fnExactRoundClassesSpec : ChangeSpec := { name := "fnExactRoundClasses", fn := fun _ => fun
  | [d1, d2, d3] => { results := [.lit (.bool true)], args := [d1, d2, d3] }
  | _ => none }
def fnExactRoundClassesRow : OpenClaim := { program := "ytckcfdggbbabfaagreat", sum := "0e320f8e126b9376f73dd11829fe7b0fdba722f158e97bcca6c6d8fb5bc4d53a", func := "loop.example/g01074/laws.FnExactRoundClasses", spec := "fnExactRoundClasses", unfollowed := true, recurses := true, apart := false }
def FnExactRoundClassesSaid : Prop := fnExactRoundClassesRow.holds Tryz.pinned (OpenSpec.ofChange fnExactRoundClassesSpec)

/-- ITS FALSE NEIGHBOUR: 'it returns false'. Refute it at one input. -/
def fnExactRoundClassesWrong : ChangeSpec := { name := "fnExactRoundClasses", fn := fun _ => fun
  | [d1, d2, d3] => { results := [.lit (.bool false)], args := [d1, d2, d3] }
  | _ => none }
def FnExactRoundClassesWrongFalsely : Prop := fnExactRoundClassesRow.holds Tryz.pinned (OpenSpec.ofChange fnExactRoundClassesWrong)

/-- 'laws.FnExactOrientInteract': WHATEVER THE INPUT: true; the input reads as it did. -/
def fnExactOrientInteractSpec : ChangeSpec := { name := "fnExactOrientInteract", fn := fun _ => fun
  | [d1, d2, d3, d4] => { results := [.lit (.bool true)], args := [d1, d2, d3, d4] }
  | _ => none }
def fnExactOrientInteractRow : OpenClaim := { program := "ytckcfdggbbabfaagreat", sum := "0e320f8e126b9376f73dd11829fe7b0fdba722f158e97bcca6c6d8fb5bc4d53a", func := "loop.example/g01074/laws.FnExactOrientInteract", spec := "fnExactOrientInteract", unfollowed := true, recurses := true, apart := false }
def FnExactOrientInteractSaid : Prop := fnExactOrientInteractRow.holds Tryz.pinned (OpenSpec.ofChange fnExactOrientInteractSpec)

/-- ITS FALSE NEIGHBOUR: 'it returns false'. Refute it at one input. -/
def fnExactOrientInteractWrong : ChangeSpec := { name := "fnExactOrientInteract", fn := fun _ => fun
  | [d1, d2, d3, d4] => { results := [.lit (.bool false)], args := [d1, d2, d3, d4] }
  | _ => none }
def FnExactOrientInteractWrongFalsely : Prop := fnExactOrientInteractRow.holds Tryz.pinned (OpenSpec.ofChange fnExactOrientInteractWrong)

/-- 'laws.FnExactRemoveJob': WHATEVER THE INPUT: true; the input reads as it did. -/
def fnExactRemoveJobSpec : ChangeSpec := { name := "fnExactRemoveJob", fn := fun _ => fun
  | [d1, d2] => { results := [.lit (.bool true)], args := [d1, d2] }
  | _ => none }
def fnExactRemoveJobRow : OpenClaim := { program := "ytckcfdggbbabfaagreat", sum := "0e320f8e126b9376f73dd11829fe7b0fdba722f158e97bcca6c6d8fb5bc4d53a", func := "loop.example/g01074/laws.FnExactRemoveJob", spec := "fnExactRemoveJob", unfollowed := true, recurses := true, apart := false }
def FnExactRemoveJobSaid : Prop := fnExactRemoveJobRow.holds Tryz.pinned (OpenSpec.ofChange fnExactRemoveJobSpec)

/-- ITS FALSE NEIGHBOUR: 'it returns false'. Refute it at one input. -/
def fnExactRemoveJobWrong : ChangeSpec := { name := "fnExactRemoveJob", fn := fun _ => fun
  | [d1, d2] => { results := [.lit (.bool false)], args := [d1, d2] }
  | _ => none }
def FnExactRemoveJobWrongFalsely : Prop := fnExactRemoveJobRow.holds Tryz.pinned (OpenSpec.ofChange fnExactRemoveJobWrong)

/- THE SECOND FORM. 'bulk': how many values and letters a reading holds, each counted each time it is reached (what is shared counts as often as it is met; a slice's spare places count too). A statement '..UptoSaid' is the law's where the arguments, and the package variables that the reading takes, are together of bulk at most 1048576: NARROWER than '..Said'. Prove '..Said' where nothing that the law and all that it calls make is longer than what came in: it says more and counts as full. Else prove '..UptoSaid'. A law counts once. -/
mutual
def uptoBulk {H : Type} : DataW H → Nat
  | .lit (.string bytes) => bytes.length + 1
  | .lit _ => 1
  | .nil => 1
  | .ptr d => uptoBulk d + 1
  | .slice elems spare => uptoBulkAll elems + uptoBulkAll spare + 1
  | .agg parts => uptoBulkAll parts + 1
  | .iface _ d => uptoBulk d + 1
  | .map entries => uptoBulkEntries entries + 1
  | .held _ => 1
def uptoBulkAll {H : Type} : List (DataW H) → Nat
  | [] => 0
  | d :: r => uptoBulk d + uptoBulkAll r
def uptoBulkEntries {H : Type} : List (Lit × DataW H) → Nat
  | [] => 0
  | x :: r => uptoBulkEntry x + uptoBulkEntries r
def uptoBulkEntry {H : Type} : Lit × DataW H → Nat
  | (.string bytes, d) => bytes.length + uptoBulk d + 1
  | (_, d) => uptoBulk d + 1
 end
def uptoSmall : (H : Type) → List (DataW H) → Bool := fun _ ds => decide (uptoBulkAll ds ≤ 1048576)
def OpenSpec.upto (s : _root_.Go.ChangeSpec) : _root_.Go.OpenSpec := { _root_.Go.OpenSpec.ofChange s with cond := some uptoSmall }

/-- 'laws.FnExactAddJob', WHERE WHAT IT READS IS OF BULK AT MOST 1048576: true; the input reads as it did. -/
def fnExactAddJobUptoRow : OpenClaim := { program := "ytckcfdggbbabfaagreat", sum := "0e320f8e126b9376f73dd11829fe7b0fdba722f158e97bcca6c6d8fb5bc4d53a", func := "loop.example/g01074/laws.FnExactAddJob", spec := "fnExactAddJob", unfollowed := true, recurses := true, apart := false, narrowed := true }
def FnExactAddJobUptoSaid : Prop := fnExactAddJobUptoRow.holds Tryz.pinned (OpenSpec.upto fnExactAddJobSpec)

/-- 'laws.FnExactInteract', WHERE WHAT IT READS IS OF BULK AT MOST 1048576: true; the input reads as it did. -/
def fnExactInteractUptoRow : OpenClaim := { program := "ytckcfdggbbabfaagreat", sum := "0e320f8e126b9376f73dd11829fe7b0fdba722f158e97bcca6c6d8fb5bc4d53a", func := "loop.example/g01074/laws.FnExactInteract", spec := "fnExactInteract", unfollowed := true, recurses := true, apart := false, narrowed := true }
def FnExactInteractUptoSaid : Prop := fnExactInteractUptoRow.holds Tryz.pinned (OpenSpec.upto fnExactInteractSpec)

/-- 'laws.FnExactInteractRound', WHERE WHAT IT READS IS OF BULK AT MOST 1048576: true; the input reads as it did. -/
def fnExactInteractRoundUptoRow : OpenClaim := { program := "ytckcfdggbbabfaagreat", sum := "0e320f8e126b9376f73dd11829fe7b0fdba722f158e97bcca6c6d8fb5bc4d53a", func := "loop.example/g01074/laws.FnExactInteractRound", spec := "fnExactInteractRound", unfollowed := true, recurses := true, apart := false, narrowed := true }
def FnExactInteractRoundUptoSaid : Prop := fnExactInteractRoundUptoRow.holds Tryz.pinned (OpenSpec.upto fnExactInteractRoundSpec)

/-- 'laws.FnExactGreedyRounds', WHERE WHAT IT READS IS OF BULK AT MOST 1048576: true; the input reads as it did. -/
def fnExactGreedyRoundsUptoRow : OpenClaim := { program := "ytckcfdggbbabfaagreat", sum := "0e320f8e126b9376f73dd11829fe7b0fdba722f158e97bcca6c6d8fb5bc4d53a", func := "loop.example/g01074/laws.FnExactGreedyRounds", spec := "fnExactGreedyRounds", unfollowed := true, recurses := true, apart := false, narrowed := true }
def FnExactGreedyRoundsUptoSaid : Prop := fnExactGreedyRoundsUptoRow.holds Tryz.pinned (OpenSpec.upto fnExactGreedyRoundsSpec)

/-- 'laws.FnExactWorkAndSpan', WHERE WHAT IT READS IS OF BULK AT MOST 1048576: true; the input reads as it did. -/
def fnExactWorkAndSpanUptoRow : OpenClaim := { program := "ytckcfdggbbabfaagreat", sum := "0e320f8e126b9376f73dd11829fe7b0fdba722f158e97bcca6c6d8fb5bc4d53a", func := "loop.example/g01074/laws.FnExactWorkAndSpan", spec := "fnExactWorkAndSpan", unfollowed := true, recurses := true, apart := false, narrowed := true }
def FnExactWorkAndSpanUptoSaid : Prop := fnExactWorkAndSpanUptoRow.holds Tryz.pinned (OpenSpec.upto fnExactWorkAndSpanSpec)

/-- 'laws.FnExactRoundSizes', WHERE WHAT IT READS IS OF BULK AT MOST 1048576: true; the input reads as it did. -/
def fnExactRoundSizesUptoRow : OpenClaim := { program := "ytckcfdggbbabfaagreat", sum := "0e320f8e126b9376f73dd11829fe7b0fdba722f158e97bcca6c6d8fb5bc4d53a", func := "loop.example/g01074/laws.FnExactRoundSizes", spec := "fnExactRoundSizes", unfollowed := true, recurses := true, apart := false, narrowed := true }
def FnExactRoundSizesUptoSaid : Prop := fnExactRoundSizesUptoRow.holds Tryz.pinned (OpenSpec.upto fnExactRoundSizesSpec)

/-- 'laws.FnExactRoundClasses', WHERE WHAT IT READS IS OF BULK AT MOST 1048576: true; the input reads as it did. -/
def fnExactRoundClassesUptoRow : OpenClaim := { program := "ytckcfdggbbabfaagreat", sum := "0e320f8e126b9376f73dd11829fe7b0fdba722f158e97bcca6c6d8fb5bc4d53a", func := "loop.example/g01074/laws.FnExactRoundClasses", spec := "fnExactRoundClasses", unfollowed := true, recurses := true, apart := false, narrowed := true }
def FnExactRoundClassesUptoSaid : Prop := fnExactRoundClassesUptoRow.holds Tryz.pinned (OpenSpec.upto fnExactRoundClassesSpec)

/-- 'laws.FnExactOrientInteract', WHERE WHAT IT READS IS OF BULK AT MOST 1048576: true; the input reads as it did. -/
def fnExactOrientInteractUptoRow : OpenClaim := { program := "ytckcfdggbbabfaagreat", sum := "0e320f8e126b9376f73dd11829fe7b0fdba722f158e97bcca6c6d8fb5bc4d53a", func := "loop.example/g01074/laws.FnExactOrientInteract", spec := "fnExactOrientInteract", unfollowed := true, recurses := true, apart := false, narrowed := true }
def FnExactOrientInteractUptoSaid : Prop := fnExactOrientInteractUptoRow.holds Tryz.pinned (OpenSpec.upto fnExactOrientInteractSpec)

/-- 'laws.FnExactRemoveJob', WHERE WHAT IT READS IS OF BULK AT MOST 1048576: true; the input reads as it did. -/
def fnExactRemoveJobUptoRow : OpenClaim := { program := "ytckcfdggbbabfaagreat", sum := "0e320f8e126b9376f73dd11829fe7b0fdba722f158e97bcca6c6d8fb5bc4d53a", func := "loop.example/g01074/laws.FnExactRemoveJob", spec := "fnExactRemoveJob", unfollowed := true, recurses := true, apart := false, narrowed := true }
def FnExactRemoveJobUptoSaid : Prop := fnExactRemoveJobUptoRow.holds Tryz.pinned (OpenSpec.upto fnExactRemoveJobSpec)

end Rows
end Go.Proofs.YtckcfdggbbabfaaGreat
