/-
  NARROWER THAN 'FOR EVERY INPUT', by the rows' own cells (each row's printed sentence says how): FnExactSameLabelled: loops.
  DERIVED. THE GIVEN ROWS OF THIS SEAT. 5 by the template 'for every input the law returns true; each argument reads behind the call as it read before'; 0 by the template 'total and deterministic' (their statements: YtmcnnjelajgkjaaTotals.lean).
  GIVEN WITH THE SEED: the statements are not yours to turn. If you find one false, say at which input.
  Laid BY PROGRAM, IN A SANDBOX (cutbox-rows.mjs): the forced cells as the released guide's own fill.sh prints them over the translation 819af88b554957e2… (all of the seat's roots in one cut). By AI agents, Wed Nov 11 2026. No macro, syntax, notation, axiom, sorry.
-/
import Derived.Test.YtmcnnjelajgkjaaChecked
import GoSem.Claim
import GoSem.ClaimJoined
import GoSem.ClaimMapViews
import Derived.JoinedTies
import Derived.KernelRfl
namespace Go.Proofs.Ytmcnnjelajgkjaa
/- THE CELL 'sum', in the pinned program and in every row, IS THE sha256 OF THE DUMP (.gsa) THAT YtmcnnjelajgkjaaProg.lean LOADS. Nothing in Lean hashes anything: it is a label: what it is worth is what the hold of that sum in a sandbox is worth. -/
noncomputable def Try.pinned : Pinned := { name := "ytmcnnjelajgkjaa", sum := "819af88b554957e2bad1238c566b923c7869aba61c681ee0bc4ca4d4f3a27273", checked := Try.checked }
namespace Rows
def none {H : Type} : Left H := { results := [], args := [] }

/-- 'laws.FnExactChecksumOf': WHATEVER THE INPUT: true; the input reads as it did. -/
def fnExactChecksumOfSpec : ChangeSpec := { name := "fnExactChecksumOf", fn := fun _ => fun
  | [d] => { results := [.lit (.bool true)], args := [d] }
  | _ => none }
def fnExactChecksumOfRow : OpenClaim := { program := "ytmcnnjelajgkjaa", sum := "819af88b554957e2bad1238c566b923c7869aba61c681ee0bc4ca4d4f3a27273", func := "loop.example/g01074/laws.FnExactChecksumOf", spec := "fnExactChecksumOf", apart := false }
def FnExactChecksumOfSaid : Prop := fnExactChecksumOfRow.holds Try.pinned (OpenSpec.ofChange fnExactChecksumOfSpec)

/-- ITS FALSE NEIGHBOUR: 'it returns false'. Refute it at one input. -/
def fnExactChecksumOfWrong : ChangeSpec := { name := "fnExactChecksumOf", fn := fun _ => fun
  | [d] => { results := [.lit (.bool false)], args := [d] }
  | _ => none }
def FnExactChecksumOfWrongFalsely : Prop := fnExactChecksumOfRow.holds Try.pinned (OpenSpec.ofChange fnExactChecksumOfWrong)

/-- 'laws.FnExactEncodeNumber': WHATEVER THE INPUT: true; the input reads as it did. -/
def fnExactEncodeNumberSpec : ChangeSpec := { name := "fnExactEncodeNumber", fn := fun _ => fun
  | [d] => { results := [.lit (.bool true)], args := [d] }
  | _ => none }
def fnExactEncodeNumberRow : OpenClaim := { program := "ytmcnnjelajgkjaa", sum := "819af88b554957e2bad1238c566b923c7869aba61c681ee0bc4ca4d4f3a27273", func := "loop.example/g01074/laws.FnExactEncodeNumber", spec := "fnExactEncodeNumber", apart := false }
def FnExactEncodeNumberSaid : Prop := fnExactEncodeNumberRow.holds Try.pinned (OpenSpec.ofChange fnExactEncodeNumberSpec)

/-- ITS FALSE NEIGHBOUR: 'it returns false'. Refute it at one input. -/
def fnExactEncodeNumberWrong : ChangeSpec := { name := "fnExactEncodeNumber", fn := fun _ => fun
  | [d] => { results := [.lit (.bool false)], args := [d] }
  | _ => none }
def FnExactEncodeNumberWrongFalsely : Prop := fnExactEncodeNumberRow.holds Try.pinned (OpenSpec.ofChange fnExactEncodeNumberWrong)

/-- 'laws.FnExactDecodeNumber': WHATEVER THE INPUT: true; the input reads as it did. -/
def fnExactDecodeNumberSpec : ChangeSpec := { name := "fnExactDecodeNumber", fn := fun _ => fun
  | [d1, d2] => { results := [.lit (.bool true)], args := [d1, d2] }
  | _ => none }
def fnExactDecodeNumberRow : OpenClaim := { program := "ytmcnnjelajgkjaa", sum := "819af88b554957e2bad1238c566b923c7869aba61c681ee0bc4ca4d4f3a27273", func := "loop.example/g01074/laws.FnExactDecodeNumber", spec := "fnExactDecodeNumber", apart := false }
def FnExactDecodeNumberSaid : Prop := fnExactDecodeNumberRow.holds Try.pinned (OpenSpec.ofChange fnExactDecodeNumberSpec)

/-- ITS FALSE NEIGHBOUR: 'it returns false'. Refute it at one input. -/
def fnExactDecodeNumberWrong : ChangeSpec := { name := "fnExactDecodeNumber", fn := fun _ => fun
  | [d1, d2] => { results := [.lit (.bool false)], args := [d1, d2] }
  | _ => none }
def FnExactDecodeNumberWrongFalsely : Prop := fnExactDecodeNumberRow.holds Try.pinned (OpenSpec.ofChange fnExactDecodeNumberWrong)

/-- 'laws.FnExactFrameKind': WHATEVER THE INPUT: true; the input reads as it did. -/
def fnExactFrameKindSpec : ChangeSpec := { name := "fnExactFrameKind", fn := fun _ => fun
  | [d] => { results := [.lit (.bool true)], args := [d] }
  | _ => none }
def fnExactFrameKindRow : OpenClaim := { program := "ytmcnnjelajgkjaa", sum := "819af88b554957e2bad1238c566b923c7869aba61c681ee0bc4ca4d4f3a27273", func := "loop.example/g01074/laws.FnExactFrameKind", spec := "fnExactFrameKind", apart := false }
def FnExactFrameKindSaid : Prop := fnExactFrameKindRow.holds Try.pinned (OpenSpec.ofChange fnExactFrameKindSpec)

/-- ITS FALSE NEIGHBOUR: 'it returns false'. Refute it at one input. -/
def fnExactFrameKindWrong : ChangeSpec := { name := "fnExactFrameKind", fn := fun _ => fun
  | [d] => { results := [.lit (.bool false)], args := [d] }
  | _ => none }
def FnExactFrameKindWrongFalsely : Prop := fnExactFrameKindRow.holds Try.pinned (OpenSpec.ofChange fnExactFrameKindWrong)

/-- 'laws.FnExactSameLabelled': WHATEVER THE INPUT: true; the input reads as it did. -/
def fnExactSameLabelledSpec : ChangeSpec := { name := "fnExactSameLabelled", fn := fun _ => fun
  | [d1, d2] => { results := [.lit (.bool true)], args := [d1, d2] }
  | _ => none }
def fnExactSameLabelledRow : OpenClaim := { program := "ytmcnnjelajgkjaa", sum := "819af88b554957e2bad1238c566b923c7869aba61c681ee0bc4ca4d4f3a27273", func := "loop.example/g01074/laws.FnExactSameLabelled", spec := "fnExactSameLabelled", unfollowed := true, recurses := true, loops := true, apart := false }
def FnExactSameLabelledSaid : Prop := fnExactSameLabelledRow.holds Try.pinned (OpenSpec.ofChange fnExactSameLabelledSpec)

/-- ITS FALSE NEIGHBOUR: 'it returns false'. Refute it at one input. -/
def fnExactSameLabelledWrong : ChangeSpec := { name := "fnExactSameLabelled", fn := fun _ => fun
  | [d1, d2] => { results := [.lit (.bool false)], args := [d1, d2] }
  | _ => none }
def FnExactSameLabelledWrongFalsely : Prop := fnExactSameLabelledRow.holds Try.pinned (OpenSpec.ofChange fnExactSameLabelledWrong)

/- THE SECOND FORM. 'bulk': how many values and letters a reading holds, each counted each time it is reached (what is shared counts as often as it is met; a slice's spare places count too). A statement '..UptoSaid' is the law's where the arguments, and the package variables that the reading takes, are together of bulk at most 1048576: NARROWER than '..Said'. Prove '..Said' where nothing that the law and all that it calls make is longer than what came in: it says more and counts as full. Else prove '..UptoSaid'. A law counts once. -/
mutual
def uptoBulk {H : Type} : DataW H → Nat
  | .lit (.string bytes) => bytes.length + 1
  | .lit _ => 1
  | .nil => 1
  | .ptr d => uptoBulk d + 1
  | .slice elems spare => uptoBulkAll elems + uptoBulkAll spare + 1
  | .agg parts => uptoBulkAll parts + 1
  | .iface _ d => uptoBulk d + 1
  | .map entries => uptoBulkEntries entries + 1
  | .held _ => 1
def uptoBulkAll {H : Type} : List (DataW H) → Nat
  | [] => 0
  | d :: r => uptoBulk d + uptoBulkAll r
def uptoBulkEntries {H : Type} : List (Lit × DataW H) → Nat
  | [] => 0
  | x :: r => uptoBulkEntry x + uptoBulkEntries r
def uptoBulkEntry {H : Type} : Lit × DataW H → Nat
  | (.string bytes, d) => bytes.length + uptoBulk d + 1
  | (_, d) => uptoBulk d + 1
 end
def uptoSmall : (H : Type) → List (DataW H) → Bool := fun _ ds => decide (uptoBulkAll ds ≤ 1048576)
def OpenSpec.upto (s : _root_.Go.ChangeSpec) : _root_.Go.OpenSpec := { _root_.Go.OpenSpec.ofChange s with cond := some uptoSmall }

/-- 'laws.FnExactChecksumOf', WHERE WHAT IT READS IS OF BULK AT MOST 1048576: true; the input reads as it did. -/
def fnExactChecksumOfUptoRow : OpenClaim := { program := "ytmcnnjelajgkjaa", sum := "819af88b554957e2bad1238c566b923c7869aba61c681ee0bc4ca4d4f3a27273", func := "loop.example/g01074/laws.FnExactChecksumOf", spec := "fnExactChecksumOf", apart := false, narrowed := true }
def FnExactChecksumOfUptoSaid : Prop := fnExactChecksumOfUptoRow.holds Try.pinned (OpenSpec.upto fnExactChecksumOfSpec)

/-- 'laws.FnExactEncodeNumber', WHERE WHAT IT READS IS OF BULK AT MOST 1048576: true; the input reads as it did. -/
def fnExactEncodeNumberUptoRow : OpenClaim := { program := "ytmcnnjelajgkjaa", sum := "819af88b554957e2bad1238c566b923c7869aba61c681ee0bc4ca4d4f3a27273", func := "loop.example/g01074/laws.FnExactEncodeNumber", spec := "fnExactEncodeNumber", apart := false, narrowed := true }
def FnExactEncodeNumberUptoSaid : Prop := fnExactEncodeNumberUptoRow.holds Try.pinned (OpenSpec.upto fnExactEncodeNumberSpec)

/-- 'laws.FnExactDecodeNumber', WHERE WHAT IT READS IS OF BULK AT MOST 1048576: true; the input reads as it did. -/
def fnExactDecodeNumberUptoRow : OpenClaim := { program := "ytmcnnjelajgkjaa", sum := "819af88b554957e2bad1238c566b923c7869aba61c681ee0bc4ca4d4f3a27273", func := "loop.example/g01074/laws.FnExactDecodeNumber", spec := "fnExactDecodeNumber", apart := false, narrowed := true }
def FnExactDecodeNumberUptoSaid : Prop := fnExactDecodeNumberUptoRow.holds Try.pinned (OpenSpec.upto fnExactDecodeNumberSpec)

/-- 'laws.FnExactFrameKind', WHERE WHAT IT READS IS OF BULK AT MOST 1048576: true; the input reads as it did. -/
def fnExactFrameKindUptoRow : OpenClaim := { program := "ytmcnnjelajgkjaa", sum := "819af88b554957e2bad1238c566b923c7869aba61c681ee0bc4ca4d4f3a27273", func := "loop.example/g01074/laws.FnExactFrameKind", spec := "fnExactFrameKind", apart := false, narrowed := true }
def FnExactFrameKindUptoSaid : Prop := fnExactFrameKindUptoRow.holds Try.pinned (OpenSpec.upto fnExactFrameKindSpec)

/-- 'laws.FnExactSameLabelled', WHERE WHAT IT READS IS OF BULK AT MOST 1048576: true; the input reads as it did. -/
def fnExactSameLabelledUptoRow : OpenClaim := { program := "ytmcnnjelajgkjaa", sum := "819af88b554957e2bad1238c566b923c7869aba61c681ee0bc4ca4d4f3a27273", func := "loop.example/g01074/laws.FnExactSameLabelled", spec := "fnExactSameLabelled", unfollowed := true, recurses := true, loops := true, apart := false, narrowed := true }
def FnExactSameLabelledUptoSaid : Prop := fnExactSameLabelledUptoRow.holds Try.pinned (OpenSpec.upto fnExactSameLabelledSpec)

end Rows
end Go.Proofs.Ytmcnnjelajgkjaa
