/-
  NARROWER THAN 'FOR EVERY INPUT', by the rows' own cells (each row's printed sentence says how): FnExactInstantiateCore: loops · FnExactEraseCore: loops · FnExactEraseBook: loops · FnExactSameDesk: loops · FnExactEncodeBook: loops · FnExactBookUses: loops · FnExactRecursiveDefs: loops · FnExactDeadDefs: loops · FnExactTrimBook: loops.
  DERIVED. THE GIVEN ROWS OF THIS SEAT. 12 by the template 'for every input the law returns true; each argument reads behind the call as it read before'; 0 by the template 'total and deterministic' (their statements: YtffokcfdkkikmaaTotals.lean).
  GIVEN WITH THE SEED: the statements are not yours to turn. If you find one false, say at which input.
  Laid BY PROGRAM, IN A SANDBOX (cutbox-rows.mjs): the forced cells as the released guide's own fill.sh prints them over the translation 9c5931f844594f53… (all of the seat's roots in one cut). By AI agents, Wed Nov 11 2026. No macro, syntax, notation, axiom, sorry.
-/
import Derived.Test.YtffokcfdkkikmaaChecked
import GoSem.Claim
import GoSem.ClaimJoined
import GoSem.ClaimMapViews
import Derived.JoinedTies
import Derived.KernelRfl
namespace Go.Proofs.Ytffokcfdkkikmaa
/- THE CELL 'sum', in the pinned program and in every row, IS THE sha256 OF THE DUMP (.gsa) THAT YtffokcfdkkikmaaProg.lean LOADS. Nothing in Lean hashes anything: it is a label: what it is worth is what the hold of that sum in a sandbox is worth. -/
noncomputable def Try.pinned : Pinned := { name := "ytffokcfdkkikmaa", sum := "9c5931f844594f530613b5e67cf76ec8fbc8ef766dffd8585b79bb53a36c37e2", checked := Try.checked }
namespace Rows
def none {H : Type} : Left H := { results := [], args := [] }

/-- 'laws.FnExactInstantiateCore': WHATEVER THE INPUT: true; the input reads as it did. -/
def fnExactInstantiateCoreSpec : ChangeSpec := { name := "fnExactInstantiateCore", fn := fun _ => fun
  | [d1, d2] => { results := [.lit (.bool true)], args := [d1, d2] }
  | _ => none }
def fnExactInstantiateCoreRow : OpenClaim := { program := "ytffokcfdkkikmaa", sum := "9c5931f844594f530613b5e67cf76ec8fbc8ef766dffd8585b79bb53a36c37e2", func := "loop.example/g01074/laws.FnExactInstantiateCore", spec := "fnExactInstantiateCore", unfollowed := true, recurses := true, loops := true, apart := false }
def FnExactInstantiateCoreSaid : Prop := fnExactInstantiateCoreRow.holds Try.pinned (OpenSpec.ofChange fnExactInstantiateCoreSpec)

/-- ITS FALSE NEIGHBOUR: 'it returns false'. Refute it at one input. -/
def fnExactInstantiateCoreWrong : ChangeSpec := { name := "fnExactInstantiateCore", fn := fun _ => fun
  | [d1, d2] => { results := [.lit (.bool false)], args := [d1, d2] }
  | _ => none }
def FnExactInstantiateCoreWrongFalsely : Prop := fnExactInstantiateCoreRow.holds Try.pinned (OpenSpec.ofChange fnExactInstantiateCoreWrong)

/-- 'laws.FnExactEraseCore': WHATEVER THE INPUT: true; the input reads as it did. -/
def fnExactEraseCoreSpec : ChangeSpec := { name := "fnExactEraseCore", fn := fun _ => fun
  | [d] => { results := [.lit (.bool true)], args := [d] }
  | _ => none }
def fnExactEraseCoreRow : OpenClaim := { program := "ytffokcfdkkikmaa", sum := "9c5931f844594f530613b5e67cf76ec8fbc8ef766dffd8585b79bb53a36c37e2", func := "loop.example/g01074/laws.FnExactEraseCore", spec := "fnExactEraseCore", unfollowed := true, recurses := true, loops := true, apart := false }
def FnExactEraseCoreSaid : Prop := fnExactEraseCoreRow.holds Try.pinned (OpenSpec.ofChange fnExactEraseCoreSpec)

/-- ITS FALSE NEIGHBOUR: 'it returns false'. Refute it at one input. -/
def fnExactEraseCoreWrong : ChangeSpec := { name := "fnExactEraseCore", fn := fun _ => fun
  | [d] => { results := [.lit (.bool false)], args := [d] }
  | _ => none }
def FnExactEraseCoreWrongFalsely : Prop := fnExactEraseCoreRow.holds Try.pinned (OpenSpec.ofChange fnExactEraseCoreWrong)

/-- 'laws.FnExactEraseBook': WHATEVER THE INPUT: true; the input reads as it did. -/
def fnExactEraseBookSpec : ChangeSpec := { name := "fnExactEraseBook", fn := fun _ => fun
  | [d] => { results := [.lit (.bool true)], args := [d] }
  | _ => none }
def fnExactEraseBookRow : OpenClaim := { program := "ytffokcfdkkikmaa", sum := "9c5931f844594f530613b5e67cf76ec8fbc8ef766dffd8585b79bb53a36c37e2", func := "loop.example/g01074/laws.FnExactEraseBook", spec := "fnExactEraseBook", unfollowed := true, recurses := true, loops := true, apart := false }
def FnExactEraseBookSaid : Prop := fnExactEraseBookRow.holds Try.pinned (OpenSpec.ofChange fnExactEraseBookSpec)

/-- ITS FALSE NEIGHBOUR: 'it returns false'. Refute it at one input. -/
def fnExactEraseBookWrong : ChangeSpec := { name := "fnExactEraseBook", fn := fun _ => fun
  | [d] => { results := [.lit (.bool false)], args := [d] }
  | _ => none }
def FnExactEraseBookWrongFalsely : Prop := fnExactEraseBookRow.holds Try.pinned (OpenSpec.ofChange fnExactEraseBookWrong)

/-- 'laws.FnExactSameDesk': WHATEVER THE INPUT: true; the input reads as it did. -/
def fnExactSameDeskSpec : ChangeSpec := { name := "fnExactSameDesk", fn := fun _ => fun
  | [d1, d2] => { results := [.lit (.bool true)], args := [d1, d2] }
  | _ => none }
def fnExactSameDeskRow : OpenClaim := { program := "ytffokcfdkkikmaa", sum := "9c5931f844594f530613b5e67cf76ec8fbc8ef766dffd8585b79bb53a36c37e2", func := "loop.example/g01074/laws.FnExactSameDesk", spec := "fnExactSameDesk", unfollowed := true, recurses := true, loops := true, apart := false }
def FnExactSameDeskSaid : Prop := fnExactSameDeskRow.holds Try.pinned (OpenSpec.ofChange fnExactSameDeskSpec)

/-- ITS FALSE NEIGHBOUR: 'it returns false'. Refute it at one input. -/
def fnExactSameDeskWrong : ChangeSpec := { name := "fnExactSameDesk", fn := fun _ => fun
  | [d1, d2] => { results := [.lit (.bool false)], args := [d1, d2] }
  | _ => none }
def FnExactSameDeskWrongFalsely : Prop := fnExactSameDeskRow.holds Try.pinned (OpenSpec.ofChange fnExactSameDeskWrong)

/-- 'laws.FnExactSameService': WHATEVER THE INPUT: true; the input reads as it did. -/
def fnExactSameServiceSpec : ChangeSpec := { name := "fnExactSameService", fn := fun _ => fun
  | [d1, d2] => { results := [.lit (.bool true)], args := [d1, d2] }
  | _ => none }
def fnExactSameServiceRow : OpenClaim := { program := "ytffokcfdkkikmaa", sum := "9c5931f844594f530613b5e67cf76ec8fbc8ef766dffd8585b79bb53a36c37e2", func := "loop.example/g01074/laws.FnExactSameService", spec := "fnExactSameService", unfollowed := true, recurses := true, apart := false }
def FnExactSameServiceSaid : Prop := fnExactSameServiceRow.holds Try.pinned (OpenSpec.ofChange fnExactSameServiceSpec)

/-- ITS FALSE NEIGHBOUR: 'it returns false'. Refute it at one input. -/
def fnExactSameServiceWrong : ChangeSpec := { name := "fnExactSameService", fn := fun _ => fun
  | [d1, d2] => { results := [.lit (.bool false)], args := [d1, d2] }
  | _ => none }
def FnExactSameServiceWrongFalsely : Prop := fnExactSameServiceRow.holds Try.pinned (OpenSpec.ofChange fnExactSameServiceWrong)

/-- 'laws.FnExactValidQueue': WHATEVER THE INPUT: true; the input reads as it did. -/
def fnExactValidQueueSpec : ChangeSpec := { name := "fnExactValidQueue", fn := fun _ => fun
  | [d] => { results := [.lit (.bool true)], args := [d] }
  | _ => none }
def fnExactValidQueueRow : OpenClaim := { program := "ytffokcfdkkikmaa", sum := "9c5931f844594f530613b5e67cf76ec8fbc8ef766dffd8585b79bb53a36c37e2", func := "loop.example/g01074/laws.FnExactValidQueue", spec := "fnExactValidQueue", unfollowed := true, recurses := true, apart := false }
def FnExactValidQueueSaid : Prop := fnExactValidQueueRow.holds Try.pinned (OpenSpec.ofChange fnExactValidQueueSpec)

/-- ITS FALSE NEIGHBOUR: 'it returns false'. Refute it at one input. -/
def fnExactValidQueueWrong : ChangeSpec := { name := "fnExactValidQueue", fn := fun _ => fun
  | [d] => { results := [.lit (.bool false)], args := [d] }
  | _ => none }
def FnExactValidQueueWrongFalsely : Prop := fnExactValidQueueRow.holds Try.pinned (OpenSpec.ofChange fnExactValidQueueWrong)

/-- 'laws.FnExactEncodeBook': WHATEVER THE INPUT: true; the input reads as it did. -/
def fnExactEncodeBookSpec : ChangeSpec := { name := "fnExactEncodeBook", fn := fun _ => fun
  | [d] => { results := [.lit (.bool true)], args := [d] }
  | _ => none }
def fnExactEncodeBookRow : OpenClaim := { program := "ytffokcfdkkikmaa", sum := "9c5931f844594f530613b5e67cf76ec8fbc8ef766dffd8585b79bb53a36c37e2", func := "loop.example/g01074/laws.FnExactEncodeBook", spec := "fnExactEncodeBook", unfollowed := true, recurses := true, loops := true, apart := false }
def FnExactEncodeBookSaid : Prop := fnExactEncodeBookRow.holds Try.pinned (OpenSpec.ofChange fnExactEncodeBookSpec)

/-- ITS FALSE NEIGHBOUR: 'it returns false'. Refute it at one input. -/
def fnExactEncodeBookWrong : ChangeSpec := { name := "fnExactEncodeBook", fn := fun _ => fun
  | [d] => { results := [.lit (.bool false)], args := [d] }
  | _ => none }
def FnExactEncodeBookWrongFalsely : Prop := fnExactEncodeBookRow.holds Try.pinned (OpenSpec.ofChange fnExactEncodeBookWrong)

/-- 'laws.FnExactDecodeBook': WHATEVER THE INPUT: true; the input reads as it did. -/
def fnExactDecodeBookSpec : ChangeSpec := { name := "fnExactDecodeBook", fn := fun _ => fun
  | [d] => { results := [.lit (.bool true)], args := [d] }
  | _ => none }
def fnExactDecodeBookRow : OpenClaim := { program := "ytffokcfdkkikmaa", sum := "9c5931f844594f530613b5e67cf76ec8fbc8ef766dffd8585b79bb53a36c37e2", func := "loop.example/g01074/laws.FnExactDecodeBook", spec := "fnExactDecodeBook", unfollowed := true, recurses := true, apart := false }
def FnExactDecodeBookSaid : Prop := fnExactDecodeBookRow.holds Try.pinned (OpenSpec.ofChange fnExactDecodeBookSpec)

/-- ITS FALSE NEIGHBOUR: 'it returns false'. Refute it at one input. -/
def fnExactDecodeBookWrong : ChangeSpec := { name := "fnExactDecodeBook", fn := fun _ => fun
  | [d] => { results := [.lit (.bool false)], args := [d] }
  | _ => none }
def FnExactDecodeBookWrongFalsely : Prop := fnExactDecodeBookRow.holds Try.pinned (OpenSpec.ofChange fnExactDecodeBookWrong)

/-- 'laws.FnExactBookUses': WHATEVER THE INPUT: true; the input reads as it did. -/
def fnExactBookUsesSpec : ChangeSpec := { name := "fnExactBookUses", fn := fun _ => fun
  | [d] => { results := [.lit (.bool true)], args := [d] }
  | _ => none }
def fnExactBookUsesRow : OpenClaim := { program := "ytffokcfdkkikmaa", sum := "9c5931f844594f530613b5e67cf76ec8fbc8ef766dffd8585b79bb53a36c37e2", func := "loop.example/g01074/laws.FnExactBookUses", spec := "fnExactBookUses", unfollowed := true, recurses := true, loops := true, apart := false }
def FnExactBookUsesSaid : Prop := fnExactBookUsesRow.holds Try.pinned (OpenSpec.ofChange fnExactBookUsesSpec)

/-- ITS FALSE NEIGHBOUR: 'it returns false'. Refute it at one input. -/
def fnExactBookUsesWrong : ChangeSpec := { name := "fnExactBookUses", fn := fun _ => fun
  | [d] => { results := [.lit (.bool false)], args := [d] }
  | _ => none }
def FnExactBookUsesWrongFalsely : Prop := fnExactBookUsesRow.holds Try.pinned (OpenSpec.ofChange fnExactBookUsesWrong)

/-- 'laws.FnExactRecursiveDefs': WHATEVER THE INPUT: true; the input reads as it did. -/
def fnExactRecursiveDefsSpec : ChangeSpec := { name := "fnExactRecursiveDefs", fn := fun _ => fun
  | [d] => { results := [.lit (.bool true)], args := [d] }
  | _ => none }
def fnExactRecursiveDefsRow : OpenClaim := { program := "ytffokcfdkkikmaa", sum := "9c5931f844594f530613b5e67cf76ec8fbc8ef766dffd8585b79bb53a36c37e2", func := "loop.example/g01074/laws.FnExactRecursiveDefs", spec := "fnExactRecursiveDefs", unfollowed := true, recurses := true, loops := true, apart := false }
def FnExactRecursiveDefsSaid : Prop := fnExactRecursiveDefsRow.holds Try.pinned (OpenSpec.ofChange fnExactRecursiveDefsSpec)

/-- ITS FALSE NEIGHBOUR: 'it returns false'. Refute it at one input. -/
def fnExactRecursiveDefsWrong : ChangeSpec := { name := "fnExactRecursiveDefs", fn := fun _ => fun
  | [d] => { results := [.lit (.bool false)], args := [d] }
  | _ => none }
def FnExactRecursiveDefsWrongFalsely : Prop := fnExactRecursiveDefsRow.holds Try.pinned (OpenSpec.ofChange fnExactRecursiveDefsWrong)

/-- 'laws.FnExactDeadDefs': WHATEVER THE INPUT: true; the input reads as it did. -/
def fnExactDeadDefsSpec : ChangeSpec := { name := "fnExactDeadDefs", fn := fun _ => fun
  | [d1, d2] => { results := [.lit (.bool true)], args := [d1, d2] }
  | _ => none }
def fnExactDeadDefsRow : OpenClaim := { program := "ytffokcfdkkikmaa", sum := "9c5931f844594f530613b5e67cf76ec8fbc8ef766dffd8585b79bb53a36c37e2", func := "loop.example/g01074/laws.FnExactDeadDefs", spec := "fnExactDeadDefs", unfollowed := true, recurses := true, loops := true, apart := false }
def FnExactDeadDefsSaid : Prop := fnExactDeadDefsRow.holds Try.pinned (OpenSpec.ofChange fnExactDeadDefsSpec)

/-- ITS FALSE NEIGHBOUR: 'it returns false'. Refute it at one input. -/
def fnExactDeadDefsWrong : ChangeSpec := { name := "fnExactDeadDefs", fn := fun _ => fun
  | [d1, d2] => { results := [.lit (.bool false)], args := [d1, d2] }
  | _ => none }
def FnExactDeadDefsWrongFalsely : Prop := fnExactDeadDefsRow.holds Try.pinned (OpenSpec.ofChange fnExactDeadDefsWrong)

/-- 'laws.FnExactTrimBook': WHATEVER THE INPUT: true; the input reads as it did. -/
def fnExactTrimBookSpec : ChangeSpec := { name := "fnExactTrimBook", fn := fun _ => fun
  | [d1, d2] => { results := [.lit (.bool true)], args := [d1, d2] }
  | _ => none }
def fnExactTrimBookRow : OpenClaim := { program := "ytffokcfdkkikmaa", sum := "9c5931f844594f530613b5e67cf76ec8fbc8ef766dffd8585b79bb53a36c37e2", func := "loop.example/g01074/laws.FnExactTrimBook", spec := "fnExactTrimBook", unfollowed := true, recurses := true, loops := true, apart := false }
def FnExactTrimBookSaid : Prop := fnExactTrimBookRow.holds Try.pinned (OpenSpec.ofChange fnExactTrimBookSpec)

/-- ITS FALSE NEIGHBOUR: 'it returns false'. Refute it at one input. -/
def fnExactTrimBookWrong : ChangeSpec := { name := "fnExactTrimBook", fn := fun _ => fun
  | [d1, d2] => { results := [.lit (.bool false)], args := [d1, d2] }
  | _ => none }
def FnExactTrimBookWrongFalsely : Prop := fnExactTrimBookRow.holds Try.pinned (OpenSpec.ofChange fnExactTrimBookWrong)

/- THE SECOND FORM. 'bulk': how many values and letters a reading holds, each counted each time it is reached (what is shared counts as often as it is met; a slice's spare places count too). A statement '..UptoSaid' is the law's where the arguments, and the package variables that the reading takes, are together of bulk at most 1048576: NARROWER than '..Said'. Prove '..Said' where nothing that the law and all that it calls make is longer than what came in: it says more and counts as full. Else prove '..UptoSaid'. A law counts once. -/
mutual
def uptoBulk {H : Type} : DataW H → Nat
  | .lit (.string bytes) => bytes.length + 1
  | .lit _ => 1
  | .nil => 1
  | .ptr d => uptoBulk d + 1
  | .slice elems spare => uptoBulkAll elems + uptoBulkAll spare + 1
  | .agg parts => uptoBulkAll parts + 1
  | .iface _ d => uptoBulk d + 1
  | .map entries => uptoBulkEntries entries + 1
  | .held _ => 1
def uptoBulkAll {H : Type} : List (DataW H) → Nat
  | [] => 0
  | d :: r => uptoBulk d + uptoBulkAll r
def uptoBulkEntries {H : Type} : List (Lit × DataW H) → Nat
  | [] => 0
  | x :: r => uptoBulkEntry x + uptoBulkEntries r
def uptoBulkEntry {H : Type} : Lit × DataW H → Nat
  | (.string bytes, d) => bytes.length + uptoBulk d + 1
  | (_, d) => uptoBulk d + 1
 end
def uptoSmall : (H : Type) → List (DataW H) → Bool := fun _ ds => decide (uptoBulkAll ds ≤ 1048576)
def OpenSpec.upto (s : _root_.Go.ChangeSpec) : _root_.Go.OpenSpec := { _root_.Go.OpenSpec.ofChange s with cond := some uptoSmall }

/-- 'laws.FnExactInstantiateCore', WHERE WHAT IT READS IS OF BULK AT MOST 1048576: true; the input reads as it did. -/
def fnExactInstantiateCoreUptoRow : OpenClaim := { program := "ytffokcfdkkikmaa", sum := "9c5931f844594f530613b5e67cf76ec8fbc8ef766dffd8585b79bb53a36c37e2", func := "loop.example/g01074/laws.FnExactInstantiateCore", spec := "fnExactInstantiateCore", unfollowed := true, recurses := true, loops := true, apart := false, narrowed := true }
def FnExactInstantiateCoreUptoSaid : Prop := fnExactInstantiateCoreUptoRow.holds Try.pinned (OpenSpec.upto fnExactInstantiateCoreSpec)

/-- 'laws.FnExactEraseCore', WHERE WHAT IT READS IS OF BULK AT MOST 1048576: true; the input reads as it did. -/
def fnExactEraseCoreUptoRow : OpenClaim := { program := "ytffokcfdkkikmaa", sum := "9c5931f844594f530613b5e67cf76ec8fbc8ef766dffd8585b79bb53a36c37e2", func := "loop.example/g01074/laws.FnExactEraseCore", spec := "fnExactEraseCore", unfollowed := true, recurses := true, loops := true, apart := false, narrowed := true }
def FnExactEraseCoreUptoSaid : Prop := fnExactEraseCoreUptoRow.holds Try.pinned (OpenSpec.upto fnExactEraseCoreSpec)

/-- 'laws.FnExactEraseBook', WHERE WHAT IT READS IS OF BULK AT MOST 1048576: true; the input reads as it did. -/
def fnExactEraseBookUptoRow : OpenClaim := { program := "ytffokcfdkkikmaa", sum := "9c5931f844594f530613b5e67cf76ec8fbc8ef766dffd8585b79bb53a36c37e2", func := "loop.example/g01074/laws.FnExactEraseBook", spec := "fnExactEraseBook", unfollowed := true, recurses := true, loops := true, apart := false, narrowed := true }
def FnExactEraseBookUptoSaid : Prop := fnExactEraseBookUptoRow.holds Try.pinned (OpenSpec.upto fnExactEraseBookSpec)

/-- 'laws.FnExactSameDesk', WHERE WHAT IT READS IS OF BULK AT MOST 1048576: true; the input reads as it did. -/
def fnExactSameDeskUptoRow : OpenClaim := { program := "ytffokcfdkkikmaa", sum := "9c5931f844594f530613b5e67cf76ec8fbc8ef766dffd8585b79bb53a36c37e2", func := "loop.example/g01074/laws.FnExactSameDesk", spec := "fnExactSameDesk", unfollowed := true, recurses := true, loops := true, apart := false, narrowed := true }
def FnExactSameDeskUptoSaid : Prop := fnExactSameDeskUptoRow.holds Try.pinned (OpenSpec.upto fnExactSameDeskSpec)

/-- 'laws.FnExactSameService', WHERE WHAT IT READS IS OF BULK AT MOST 1048576: true; the input reads as it did. -/
def fnExactSameServiceUptoRow : OpenClaim := { program := "ytffokcfdkkikmaa", sum := "9c5931f844594f530613b5e67cf76ec8fbc8ef766dffd8585b79bb53a36c37e2", func := "loop.example/g01074/laws.FnExactSameService", spec := "fnExactSameService", unfollowed := true, recurses := true, apart := false, narrowed := true }
def FnExactSameServiceUptoSaid : Prop := fnExactSameServiceUptoRow.holds Try.pinned (OpenSpec.upto fnExactSameServiceSpec)

/-- 'laws.FnExactValidQueue', WHERE WHAT IT READS IS OF BULK AT MOST 1048576: true; the input reads as it did. -/
def fnExactValidQueueUptoRow : OpenClaim := { program := "ytffokcfdkkikmaa", sum := "9c5931f844594f530613b5e67cf76ec8fbc8ef766dffd8585b79bb53a36c37e2", func := "loop.example/g01074/laws.FnExactValidQueue", spec := "fnExactValidQueue", unfollowed := true, recurses := true, apart := false, narrowed := true }
def FnExactValidQueueUptoSaid : Prop := fnExactValidQueueUptoRow.holds Try.pinned (OpenSpec.upto fnExactValidQueueSpec)

/-- 'laws.FnExactEncodeBook', WHERE WHAT IT READS IS OF BULK AT MOST 1048576: true; the input reads as it did. -/
def fnExactEncodeBookUptoRow : OpenClaim := { program := "ytffokcfdkkikmaa", sum := "9c5931f844594f530613b5e67cf76ec8fbc8ef766dffd8585b79bb53a36c37e2", func := "loop.example/g01074/laws.FnExactEncodeBook", spec := "fnExactEncodeBook", unfollowed := true, recurses := true, loops := true, apart := false, narrowed := true }
def FnExactEncodeBookUptoSaid : Prop := fnExactEncodeBookUptoRow.holds Try.pinned (OpenSpec.upto fnExactEncodeBookSpec)

/-- 'laws.FnExactDecodeBook', WHERE WHAT IT READS IS OF BULK AT MOST 1048576: true; the input reads as it did. -/
def fnExactDecodeBookUptoRow : OpenClaim := { program := "ytffokcfdkkikmaa", sum := "9c5931f844594f530613b5e67cf76ec8fbc8ef766dffd8585b79bb53a36c37e2", func := "loop.example/g01074/laws.FnExactDecodeBook", spec := "fnExactDecodeBook", unfollowed := true, recurses := true, apart := false, narrowed := true }
def FnExactDecodeBookUptoSaid : Prop := fnExactDecodeBookUptoRow.holds Try.pinned (OpenSpec.upto fnExactDecodeBookSpec)

/-- 'laws.FnExactBookUses', WHERE WHAT IT READS IS OF BULK AT MOST 1048576: true; the input reads as it did. -/
def fnExactBookUsesUptoRow : OpenClaim := { program := "ytffokcfdkkikmaa", sum := "9c5931f844594f530613b5e67cf76ec8fbc8ef766dffd8585b79bb53a36c37e2", func := "loop.example/g01074/laws.FnExactBookUses", spec := "fnExactBookUses", unfollowed := true, recurses := true, loops := true, apart := false, narrowed := true }
def FnExactBookUsesUptoSaid : Prop := fnExactBookUsesUptoRow.holds Try.pinned (OpenSpec.upto fnExactBookUsesSpec)

/-- 'laws.FnExactRecursiveDefs', WHERE WHAT IT READS IS OF BULK AT MOST 1048576: true; the input reads as it did. -/
def fnExactRecursiveDefsUptoRow : OpenClaim := { program := "ytffokcfdkkikmaa", sum := "9c5931f844594f530613b5e67cf76ec8fbc8ef766dffd8585b79bb53a36c37e2", func := "loop.example/g01074/laws.FnExactRecursiveDefs", spec := "fnExactRecursiveDefs", unfollowed := true, recurses := true, loops := true, apart := false, narrowed := true }
def FnExactRecursiveDefsUptoSaid : Prop := fnExactRecursiveDefsUptoRow.holds Try.pinned (OpenSpec.upto fnExactRecursiveDefsSpec)

/-- 'laws.FnExactDeadDefs', WHERE WHAT IT READS IS OF BULK AT MOST 1048576: true; the input reads as it did. -/
def fnExactDeadDefsUptoRow : OpenClaim := { program := "ytffokcfdkkikmaa", sum := "9c5931f844594f530613b5e67cf76ec8fbc8ef766dffd8585b79bb53a36c37e2", func := "loop.example/g01074/laws.FnExactDeadDefs", spec := "fnExactDeadDefs", unfollowed := true, recurses := true, loops := true, apart := false, narrowed := true }
def FnExactDeadDefsUptoSaid : Prop := fnExactDeadDefsUptoRow.holds Try.pinned (OpenSpec.upto fnExactDeadDefsSpec)

/-- 'laws.FnExactTrimBook', WHERE WHAT IT READS IS OF BULK AT MOST 1048576: true; the input reads as it did. -/
def fnExactTrimBookUptoRow : OpenClaim := { program := "ytffokcfdkkikmaa", sum := "9c5931f844594f530613b5e67cf76ec8fbc8ef766dffd8585b79bb53a36c37e2", func := "loop.example/g01074/laws.FnExactTrimBook", spec := "fnExactTrimBook", unfollowed := true, recurses := true, loops := true, apart := false, narrowed := true }
def FnExactTrimBookUptoSaid : Prop := fnExactTrimBookUptoRow.holds Try.pinned (OpenSpec.upto fnExactTrimBookSpec)

end Rows
end Go.Proofs.Ytffokcfdkkikmaa
