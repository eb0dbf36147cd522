/-
  NARROWER THAN 'FOR EVERY INPUT', by the rows' own cells (each row's printed sentence says how): FnExactBookSize: loops · FnExactValidLabelled: loops · FnExactShiftCore: loops · FnExactInstantiateCore: loops · FnExactEncodeBook: loops · FnExactEraseCore: loops · FnExactNameAt: loops.
  DERIVED. THE GIVEN ROWS OF THIS SEAT. 11 by the template 'for every input the law returns true; each argument reads behind the call as it read before'; 0 by the template 'total and deterministic' (their statements: YtfbnlkaggggmiaaTotals.lean).
  GIVEN WITH THE SEED: the statements are not yours to turn. If you find one false, say at which input.
  Laid BY PROGRAM, IN A SANDBOX (cutbox-rows.mjs): the forced cells as the released guide's own fill.sh prints them over the translation 53a8cb65f04ddaff… (all of the seat's roots in one cut). By AI agents, Wed Nov 11 2026. No macro, syntax, notation, axiom, sorry.
-/
import Derived.Test.YtfbnlkaggggmiaaChecked
import GoSem.Claim
import GoSem.ClaimJoined
import GoSem.ClaimMapViews
import Derived.JoinedTies
import Derived.KernelRfl
namespace Go.Proofs.Ytfbnlkaggggmiaa
/- THE CELL 'sum', in the pinned program and in every row, IS THE sha256 OF THE DUMP (.gsa) THAT YtfbnlkaggggmiaaProg.lean LOADS. Nothing in Lean hashes anything: it is a label: what it is worth is what the hold of that sum in a sandbox is worth. -/
noncomputable def Try.pinned : Pinned := { name := "ytfbnlkaggggmiaa", sum := "53a8cb65f04ddaff5305b1033e52d82d7184f7187c04d464767dbba51d2372ed", checked := Try.checked }
namespace Rows
def none {H : Type} : Left H := { results := [], args := [] }

/-- 'laws.FnExactNewQueue': WHATEVER THE INPUT: true; the input reads as it did. -/
def fnExactNewQueueSpec : ChangeSpec := { name := "fnExactNewQueue", fn := fun _ => fun
  | [d] => { results := [.lit (.bool true)], args := [d] }
  | _ => none }
def fnExactNewQueueRow : OpenClaim := { program := "ytfbnlkaggggmiaa", sum := "53a8cb65f04ddaff5305b1033e52d82d7184f7187c04d464767dbba51d2372ed", func := "loop.example/g01074/laws.FnExactNewQueue", spec := "fnExactNewQueue", apart := false }
def FnExactNewQueueSaid : Prop := fnExactNewQueueRow.holds Try.pinned (OpenSpec.ofChange fnExactNewQueueSpec)

/-- ITS FALSE NEIGHBOUR: 'it returns false'. Refute it at one input. -/
def fnExactNewQueueWrong : ChangeSpec := { name := "fnExactNewQueue", fn := fun _ => fun
  | [d] => { results := [.lit (.bool false)], args := [d] }
  | _ => none }
def FnExactNewQueueWrongFalsely : Prop := fnExactNewQueueRow.holds Try.pinned (OpenSpec.ofChange fnExactNewQueueWrong)

/-- 'laws.FnExactBookSize': WHATEVER THE INPUT: true; the input reads as it did. -/
def fnExactBookSizeSpec : ChangeSpec := { name := "fnExactBookSize", fn := fun _ => fun
  | [d] => { results := [.lit (.bool true)], args := [d] }
  | _ => none }
def fnExactBookSizeRow : OpenClaim := { program := "ytfbnlkaggggmiaa", sum := "53a8cb65f04ddaff5305b1033e52d82d7184f7187c04d464767dbba51d2372ed", func := "loop.example/g01074/laws.FnExactBookSize", spec := "fnExactBookSize", unfollowed := true, recurses := true, loops := true, apart := false }
def FnExactBookSizeSaid : Prop := fnExactBookSizeRow.holds Try.pinned (OpenSpec.ofChange fnExactBookSizeSpec)

/-- ITS FALSE NEIGHBOUR: 'it returns false'. Refute it at one input. -/
def fnExactBookSizeWrong : ChangeSpec := { name := "fnExactBookSize", fn := fun _ => fun
  | [d] => { results := [.lit (.bool false)], args := [d] }
  | _ => none }
def FnExactBookSizeWrongFalsely : Prop := fnExactBookSizeRow.holds Try.pinned (OpenSpec.ofChange fnExactBookSizeWrong)

/-- 'laws.FnExactValidLabelled': WHATEVER THE INPUT: true; the input reads as it did. -/
def fnExactValidLabelledSpec : ChangeSpec := { name := "fnExactValidLabelled", fn := fun _ => fun
  | [d] => { results := [.lit (.bool true)], args := [d] }
  | _ => none }
def fnExactValidLabelledRow : OpenClaim := { program := "ytfbnlkaggggmiaa", sum := "53a8cb65f04ddaff5305b1033e52d82d7184f7187c04d464767dbba51d2372ed", func := "loop.example/g01074/laws.FnExactValidLabelled", spec := "fnExactValidLabelled", unfollowed := true, recurses := true, loops := true, apart := false }
def FnExactValidLabelledSaid : Prop := fnExactValidLabelledRow.holds Try.pinned (OpenSpec.ofChange fnExactValidLabelledSpec)

/-- ITS FALSE NEIGHBOUR: 'it returns false'. Refute it at one input. -/
def fnExactValidLabelledWrong : ChangeSpec := { name := "fnExactValidLabelled", fn := fun _ => fun
  | [d] => { results := [.lit (.bool false)], args := [d] }
  | _ => none }
def FnExactValidLabelledWrongFalsely : Prop := fnExactValidLabelledRow.holds Try.pinned (OpenSpec.ofChange fnExactValidLabelledWrong)

/-- 'laws.FnExactTasksLeft': WHATEVER THE INPUT: true; the input reads as it did. -/
def fnExactTasksLeftSpec : ChangeSpec := { name := "fnExactTasksLeft", fn := fun _ => fun
  | [d] => { results := [.lit (.bool true)], args := [d] }
  | _ => none }
def fnExactTasksLeftRow : OpenClaim := { program := "ytfbnlkaggggmiaa", sum := "53a8cb65f04ddaff5305b1033e52d82d7184f7187c04d464767dbba51d2372ed", func := "loop.example/g01074/laws.FnExactTasksLeft", spec := "fnExactTasksLeft", unfollowed := true, recurses := true, apart := false }
def FnExactTasksLeftSaid : Prop := fnExactTasksLeftRow.holds Try.pinned (OpenSpec.ofChange fnExactTasksLeftSpec)

/-- ITS FALSE NEIGHBOUR: 'it returns false'. Refute it at one input. -/
def fnExactTasksLeftWrong : ChangeSpec := { name := "fnExactTasksLeft", fn := fun _ => fun
  | [d] => { results := [.lit (.bool false)], args := [d] }
  | _ => none }
def FnExactTasksLeftWrongFalsely : Prop := fnExactTasksLeftRow.holds Try.pinned (OpenSpec.ofChange fnExactTasksLeftWrong)

/-- 'laws.FnExactShiftCore': WHATEVER THE INPUT: true; the input reads as it did. -/
def fnExactShiftCoreSpec : ChangeSpec := { name := "fnExactShiftCore", fn := fun _ => fun
  | [d1, d2, d3] => { results := [.lit (.bool true)], args := [d1, d2, d3] }
  | _ => none }
def fnExactShiftCoreRow : OpenClaim := { program := "ytfbnlkaggggmiaa", sum := "53a8cb65f04ddaff5305b1033e52d82d7184f7187c04d464767dbba51d2372ed", func := "loop.example/g01074/laws.FnExactShiftCore", spec := "fnExactShiftCore", unfollowed := true, recurses := true, loops := true, apart := false }
def FnExactShiftCoreSaid : Prop := fnExactShiftCoreRow.holds Try.pinned (OpenSpec.ofChange fnExactShiftCoreSpec)

/-- ITS FALSE NEIGHBOUR: 'it returns false'. Refute it at one input. -/
def fnExactShiftCoreWrong : ChangeSpec := { name := "fnExactShiftCore", fn := fun _ => fun
  | [d1, d2, d3] => { results := [.lit (.bool false)], args := [d1, d2, d3] }
  | _ => none }
def FnExactShiftCoreWrongFalsely : Prop := fnExactShiftCoreRow.holds Try.pinned (OpenSpec.ofChange fnExactShiftCoreWrong)

/-- 'laws.FnExactSameQueue': WHATEVER THE INPUT: true; the input reads as it did. -/
def fnExactSameQueueSpec : ChangeSpec := { name := "fnExactSameQueue", fn := fun _ => fun
  | [d1, d2] => { results := [.lit (.bool true)], args := [d1, d2] }
  | _ => none }
def fnExactSameQueueRow : OpenClaim := { program := "ytfbnlkaggggmiaa", sum := "53a8cb65f04ddaff5305b1033e52d82d7184f7187c04d464767dbba51d2372ed", func := "loop.example/g01074/laws.FnExactSameQueue", spec := "fnExactSameQueue", unfollowed := true, recurses := true, apart := false }
def FnExactSameQueueSaid : Prop := fnExactSameQueueRow.holds Try.pinned (OpenSpec.ofChange fnExactSameQueueSpec)

/-- ITS FALSE NEIGHBOUR: 'it returns false'. Refute it at one input. -/
def fnExactSameQueueWrong : ChangeSpec := { name := "fnExactSameQueue", fn := fun _ => fun
  | [d1, d2] => { results := [.lit (.bool false)], args := [d1, d2] }
  | _ => none }
def FnExactSameQueueWrongFalsely : Prop := fnExactSameQueueRow.holds Try.pinned (OpenSpec.ofChange fnExactSameQueueWrong)

/-- 'laws.FnExactInstantiateCore': WHATEVER THE INPUT: true; the input reads as it did. -/
def fnExactInstantiateCoreSpec : ChangeSpec := { name := "fnExactInstantiateCore", fn := fun _ => fun
  | [d1, d2] => { results := [.lit (.bool true)], args := [d1, d2] }
  | _ => none }
def fnExactInstantiateCoreRow : OpenClaim := { program := "ytfbnlkaggggmiaa", sum := "53a8cb65f04ddaff5305b1033e52d82d7184f7187c04d464767dbba51d2372ed", func := "loop.example/g01074/laws.FnExactInstantiateCore", spec := "fnExactInstantiateCore", unfollowed := true, recurses := true, loops := true, apart := false }
def FnExactInstantiateCoreSaid : Prop := fnExactInstantiateCoreRow.holds Try.pinned (OpenSpec.ofChange fnExactInstantiateCoreSpec)

/-- ITS FALSE NEIGHBOUR: 'it returns false'. Refute it at one input. -/
def fnExactInstantiateCoreWrong : ChangeSpec := { name := "fnExactInstantiateCore", fn := fun _ => fun
  | [d1, d2] => { results := [.lit (.bool false)], args := [d1, d2] }
  | _ => none }
def FnExactInstantiateCoreWrongFalsely : Prop := fnExactInstantiateCoreRow.holds Try.pinned (OpenSpec.ofChange fnExactInstantiateCoreWrong)

/-- 'laws.FnExactNewDesk': WHATEVER THE INPUT: true; the input reads as it did. -/
def fnExactNewDeskSpec : ChangeSpec := { name := "fnExactNewDesk", fn := fun _ => fun
  | [] => { results := [.lit (.bool true)], args := [] }
  | _ => none }
def fnExactNewDeskRow : OpenClaim := { program := "ytfbnlkaggggmiaa", sum := "53a8cb65f04ddaff5305b1033e52d82d7184f7187c04d464767dbba51d2372ed", func := "loop.example/g01074/laws.FnExactNewDesk", spec := "fnExactNewDesk", recurses := true, apart := false }
def FnExactNewDeskSaid : Prop := fnExactNewDeskRow.holds Try.pinned (OpenSpec.ofChange fnExactNewDeskSpec)

/-- ITS FALSE NEIGHBOUR: 'it returns false'. Refute it at one input. -/
def fnExactNewDeskWrong : ChangeSpec := { name := "fnExactNewDesk", fn := fun _ => fun
  | [] => { results := [.lit (.bool false)], args := [] }
  | _ => none }
def FnExactNewDeskWrongFalsely : Prop := fnExactNewDeskRow.holds Try.pinned (OpenSpec.ofChange fnExactNewDeskWrong)

/-- 'laws.FnExactEncodeBook': WHATEVER THE INPUT: true; the input reads as it did. -/
def fnExactEncodeBookSpec : ChangeSpec := { name := "fnExactEncodeBook", fn := fun _ => fun
  | [d] => { results := [.lit (.bool true)], args := [d] }
  | _ => none }
def fnExactEncodeBookRow : OpenClaim := { program := "ytfbnlkaggggmiaa", sum := "53a8cb65f04ddaff5305b1033e52d82d7184f7187c04d464767dbba51d2372ed", func := "loop.example/g01074/laws.FnExactEncodeBook", spec := "fnExactEncodeBook", unfollowed := true, recurses := true, loops := true, apart := false }
def FnExactEncodeBookSaid : Prop := fnExactEncodeBookRow.holds Try.pinned (OpenSpec.ofChange fnExactEncodeBookSpec)

/-- ITS FALSE NEIGHBOUR: 'it returns false'. Refute it at one input. -/
def fnExactEncodeBookWrong : ChangeSpec := { name := "fnExactEncodeBook", fn := fun _ => fun
  | [d] => { results := [.lit (.bool false)], args := [d] }
  | _ => none }
def FnExactEncodeBookWrongFalsely : Prop := fnExactEncodeBookRow.holds Try.pinned (OpenSpec.ofChange fnExactEncodeBookWrong)

/-- 'laws.FnExactEraseCore': WHATEVER THE INPUT: true; the input reads as it did. -/
def fnExactEraseCoreSpec : ChangeSpec := { name := "fnExactEraseCore", fn := fun _ => fun
  | [d] => { results := [.lit (.bool true)], args := [d] }
  | _ => none }
def fnExactEraseCoreRow : OpenClaim := { program := "ytfbnlkaggggmiaa", sum := "53a8cb65f04ddaff5305b1033e52d82d7184f7187c04d464767dbba51d2372ed", func := "loop.example/g01074/laws.FnExactEraseCore", spec := "fnExactEraseCore", unfollowed := true, recurses := true, loops := true, apart := false }
def FnExactEraseCoreSaid : Prop := fnExactEraseCoreRow.holds Try.pinned (OpenSpec.ofChange fnExactEraseCoreSpec)

/-- ITS FALSE NEIGHBOUR: 'it returns false'. Refute it at one input. -/
def fnExactEraseCoreWrong : ChangeSpec := { name := "fnExactEraseCore", fn := fun _ => fun
  | [d] => { results := [.lit (.bool false)], args := [d] }
  | _ => none }
def FnExactEraseCoreWrongFalsely : Prop := fnExactEraseCoreRow.holds Try.pinned (OpenSpec.ofChange fnExactEraseCoreWrong)

/-- 'laws.FnExactNameAt': WHATEVER THE INPUT: true; the input reads as it did. -/
def fnExactNameAtSpec : ChangeSpec := { name := "fnExactNameAt", fn := fun _ => fun
  | [d1, d2] => { results := [.lit (.bool true)], args := [d1, d2] }
  | _ => none }
def fnExactNameAtRow : OpenClaim := { program := "ytfbnlkaggggmiaa", sum := "53a8cb65f04ddaff5305b1033e52d82d7184f7187c04d464767dbba51d2372ed", func := "loop.example/g01074/laws.FnExactNameAt", spec := "fnExactNameAt", unfollowed := true, recurses := true, loops := true, apart := false }
def FnExactNameAtSaid : Prop := fnExactNameAtRow.holds Try.pinned (OpenSpec.ofChange fnExactNameAtSpec)

/-- ITS FALSE NEIGHBOUR: 'it returns false'. Refute it at one input. -/
def fnExactNameAtWrong : ChangeSpec := { name := "fnExactNameAt", fn := fun _ => fun
  | [d1, d2] => { results := [.lit (.bool false)], args := [d1, d2] }
  | _ => none }
def FnExactNameAtWrongFalsely : Prop := fnExactNameAtRow.holds Try.pinned (OpenSpec.ofChange fnExactNameAtWrong)

/- THE SECOND FORM. 'bulk': how many values and letters a reading holds, each counted each time it is reached (what is shared counts as often as it is met; a slice's spare places count too). A statement '..UptoSaid' is the law's where the arguments, and the package variables that the reading takes, are together of bulk at most 1048576: NARROWER than '..Said'. Prove '..Said' where nothing that the law and all that it calls make is longer than what came in: it says more and counts as full. Else prove '..UptoSaid'. A law counts once. -/
mutual
def uptoBulk {H : Type} : DataW H → Nat
  | .lit (.string bytes) => bytes.length + 1
  | .lit _ => 1
  | .nil => 1
  | .ptr d => uptoBulk d + 1
  | .slice elems spare => uptoBulkAll elems + uptoBulkAll spare + 1
  | .agg parts => uptoBulkAll parts + 1
  | .iface _ d => uptoBulk d + 1
  | .map entries => uptoBulkEntries entries + 1
  | .held _ => 1
def uptoBulkAll {H : Type} : List (DataW H) → Nat
  | [] => 0
  | d :: r => uptoBulk d + uptoBulkAll r
def uptoBulkEntries {H : Type} : List (Lit × DataW H) → Nat
  | [] => 0
  | x :: r => uptoBulkEntry x + uptoBulkEntries r
def uptoBulkEntry {H : Type} : Lit × DataW H → Nat
  | (.string bytes, d) => bytes.length + uptoBulk d + 1
  | (_, d) => uptoBulk d + 1
 end
def uptoSmall : (H : Type) → List (DataW H) → Bool := fun _ ds => decide (uptoBulkAll ds ≤ 1048576)
def OpenSpec.upto (s : _root_.Go.ChangeSpec) : _root_.Go.OpenSpec := { _root_.Go.OpenSpec.ofChange s with cond := some uptoSmall }

/-- 'laws.FnExactNewQueue', WHERE WHAT IT READS IS OF BULK AT MOST 1048576: true; the input reads as it did. -/
def fnExactNewQueueUptoRow : OpenClaim := { program := "ytfbnlkaggggmiaa", sum := "53a8cb65f04ddaff5305b1033e52d82d7184f7187c04d464767dbba51d2372ed", func := "loop.example/g01074/laws.FnExactNewQueue", spec := "fnExactNewQueue", apart := false, narrowed := true }
def FnExactNewQueueUptoSaid : Prop := fnExactNewQueueUptoRow.holds Try.pinned (OpenSpec.upto fnExactNewQueueSpec)

/-- 'laws.FnExactBookSize', WHERE WHAT IT READS IS OF BULK AT MOST 1048576: true; the input reads as it did. -/
def fnExactBookSizeUptoRow : OpenClaim := { program := "ytfbnlkaggggmiaa", sum := "53a8cb65f04ddaff5305b1033e52d82d7184f7187c04d464767dbba51d2372ed", func := "loop.example/g01074/laws.FnExactBookSize", spec := "fnExactBookSize", unfollowed := true, recurses := true, loops := true, apart := false, narrowed := true }
def FnExactBookSizeUptoSaid : Prop := fnExactBookSizeUptoRow.holds Try.pinned (OpenSpec.upto fnExactBookSizeSpec)

/-- 'laws.FnExactValidLabelled', WHERE WHAT IT READS IS OF BULK AT MOST 1048576: true; the input reads as it did. -/
def fnExactValidLabelledUptoRow : OpenClaim := { program := "ytfbnlkaggggmiaa", sum := "53a8cb65f04ddaff5305b1033e52d82d7184f7187c04d464767dbba51d2372ed", func := "loop.example/g01074/laws.FnExactValidLabelled", spec := "fnExactValidLabelled", unfollowed := true, recurses := true, loops := true, apart := false, narrowed := true }
def FnExactValidLabelledUptoSaid : Prop := fnExactValidLabelledUptoRow.holds Try.pinned (OpenSpec.upto fnExactValidLabelledSpec)

/-- 'laws.FnExactTasksLeft', WHERE WHAT IT READS IS OF BULK AT MOST 1048576: true; the input reads as it did. -/
def fnExactTasksLeftUptoRow : OpenClaim := { program := "ytfbnlkaggggmiaa", sum := "53a8cb65f04ddaff5305b1033e52d82d7184f7187c04d464767dbba51d2372ed", func := "loop.example/g01074/laws.FnExactTasksLeft", spec := "fnExactTasksLeft", unfollowed := true, recurses := true, apart := false, narrowed := true }
def FnExactTasksLeftUptoSaid : Prop := fnExactTasksLeftUptoRow.holds Try.pinned (OpenSpec.upto fnExactTasksLeftSpec)

/-- 'laws.FnExactShiftCore', WHERE WHAT IT READS IS OF BULK AT MOST 1048576: true; the input reads as it did. -/
def fnExactShiftCoreUptoRow : OpenClaim := { program := "ytfbnlkaggggmiaa", sum := "53a8cb65f04ddaff5305b1033e52d82d7184f7187c04d464767dbba51d2372ed", func := "loop.example/g01074/laws.FnExactShiftCore", spec := "fnExactShiftCore", unfollowed := true, recurses := true, loops := true, apart := false, narrowed := true }
def FnExactShiftCoreUptoSaid : Prop := fnExactShiftCoreUptoRow.holds Try.pinned (OpenSpec.upto fnExactShiftCoreSpec)

/-- 'laws.FnExactSameQueue', WHERE WHAT IT READS IS OF BULK AT MOST 1048576: true; the input reads as it did. -/
def fnExactSameQueueUptoRow : OpenClaim := { program := "ytfbnlkaggggmiaa", sum := "53a8cb65f04ddaff5305b1033e52d82d7184f7187c04d464767dbba51d2372ed", func := "loop.example/g01074/laws.FnExactSameQueue", spec := "fnExactSameQueue", unfollowed := true, recurses := true, apart := false, narrowed := true }
def FnExactSameQueueUptoSaid : Prop := fnExactSameQueueUptoRow.holds Try.pinned (OpenSpec.upto fnExactSameQueueSpec)

/-- 'laws.FnExactInstantiateCore', WHERE WHAT IT READS IS OF BULK AT MOST 1048576: true; the input reads as it did. -/
def fnExactInstantiateCoreUptoRow : OpenClaim := { program := "ytfbnlkaggggmiaa", sum := "53a8cb65f04ddaff5305b1033e52d82d7184f7187c04d464767dbba51d2372ed", func := "loop.example/g01074/laws.FnExactInstantiateCore", spec := "fnExactInstantiateCore", unfollowed := true, recurses := true, loops := true, apart := false, narrowed := true }
def FnExactInstantiateCoreUptoSaid : Prop := fnExactInstantiateCoreUptoRow.holds Try.pinned (OpenSpec.upto fnExactInstantiateCoreSpec)

/-- 'laws.FnExactNewDesk', WHERE WHAT IT READS IS OF BULK AT MOST 1048576: true; the input reads as it did. -/
def fnExactNewDeskUptoRow : OpenClaim := { program := "ytfbnlkaggggmiaa", sum := "53a8cb65f04ddaff5305b1033e52d82d7184f7187c04d464767dbba51d2372ed", func := "loop.example/g01074/laws.FnExactNewDesk", spec := "fnExactNewDesk", recurses := true, apart := false, narrowed := true }
def FnExactNewDeskUptoSaid : Prop := fnExactNewDeskUptoRow.holds Try.pinned (OpenSpec.upto fnExactNewDeskSpec)

/-- 'laws.FnExactEncodeBook', WHERE WHAT IT READS IS OF BULK AT MOST 1048576: true; the input reads as it did. -/
def fnExactEncodeBookUptoRow : OpenClaim := { program := "ytfbnlkaggggmiaa", sum := "53a8cb65f04ddaff5305b1033e52d82d7184f7187c04d464767dbba51d2372ed", func := "loop.example/g01074/laws.FnExactEncodeBook", spec := "fnExactEncodeBook", unfollowed := true, recurses := true, loops := true, apart := false, narrowed := true }
def FnExactEncodeBookUptoSaid : Prop := fnExactEncodeBookUptoRow.holds Try.pinned (OpenSpec.upto fnExactEncodeBookSpec)

/-- 'laws.FnExactEraseCore', WHERE WHAT IT READS IS OF BULK AT MOST 1048576: true; the input reads as it did. -/
def fnExactEraseCoreUptoRow : OpenClaim := { program := "ytfbnlkaggggmiaa", sum := "53a8cb65f04ddaff5305b1033e52d82d7184f7187c04d464767dbba51d2372ed", func := "loop.example/g01074/laws.FnExactEraseCore", spec := "fnExactEraseCore", unfollowed := true, recurses := true, loops := true, apart := false, narrowed := true }
def FnExactEraseCoreUptoSaid : Prop := fnExactEraseCoreUptoRow.holds Try.pinned (OpenSpec.upto fnExactEraseCoreSpec)

/-- 'laws.FnExactNameAt', WHERE WHAT IT READS IS OF BULK AT MOST 1048576: true; the input reads as it did. -/
def fnExactNameAtUptoRow : OpenClaim := { program := "ytfbnlkaggggmiaa", sum := "53a8cb65f04ddaff5305b1033e52d82d7184f7187c04d464767dbba51d2372ed", func := "loop.example/g01074/laws.FnExactNameAt", spec := "fnExactNameAt", unfollowed := true, recurses := true, loops := true, apart := false, narrowed := true }
def FnExactNameAtUptoSaid : Prop := fnExactNameAtUptoRow.holds Try.pinned (OpenSpec.upto fnExactNameAtSpec)

end Rows
end Go.Proofs.Ytfbnlkaggggmiaa
