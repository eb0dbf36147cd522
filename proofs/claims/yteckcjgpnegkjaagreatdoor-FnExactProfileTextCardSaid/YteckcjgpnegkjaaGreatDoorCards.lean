/-
  DERIVED. GIVEN WITH THE SEED: THE CARDS: each row of YteckcjgpnegkjaaGreatDoorRows.lean that lists a variable, with what it lists TIED to the program's text (the seventh form; the later family's looks); each row that meets fmt, with fmt's text TOLD by the authors' own Lean function (tested against real Go, not proved from fmt's source: count such statements apart). THE CARD IS WHAT COUNTS. Prove the row's statement (the work); the ties are given (YteckcjgpnegkjaaGreatDoorTie.lean); close each card by the builder's one call (the guide's Derived/Test/ToyasCard.lean, 'card_holds'). Laid BY PROGRAM, IN A SANDBOX (cutbox-door.mjs). By AI agents, Wed Nov 11 2026. No macro, syntax, notation, axiom, sorry.
-/
import Derived.Test.YteckcjgpnegkjaaGreatDoorRows
import GoSem.ClaimSeven
namespace Go.Proofs.YteckcjgpnegkjaaGreatDoor
namespace Rows

/-- THE TIED CARD OF 'laws.FnExactFamilyTrace'. -/
def fnExactFamilyTraceCard : Claim7 := { stood := { row := fnExactFamilyTraceRow, standIns := [], harness := (true, "e40a84a478573d8f7996449b15638ab7f93324579eb1184a43e39812bb5b2701"), looks := false }, kinds := [], alts := [], laidByText := true, laidKinds := [.data, .data, .data], laidTests := true, laidLooks := .later }
def FnExactFamilyTraceCardSaid : Prop := Claim7.holds Tryz.pinned (.plain (OpenSpec.ofChange fnExactFamilyTraceSpec)) fnExactFamilyTraceCard

/-- THE TIED CARD OF 'laws.FnExactProfileText'. -/
def fnExactProfileTextCard : Claim7 := { stood := { row := fnExactProfileTextRow, standIns := [], harness := (true, "e40a84a478573d8f7996449b15638ab7f93324579eb1184a43e39812bb5b2701"), looks := false }, kinds := [], alts := [], laidByText := true, laidKinds := [.data, .data, .data], laidTests := true, laidLooks := .later }
def FnExactProfileTextCardSaid : Prop := Claim7.holds Tryz.pinned (.plain (OpenSpec.ofChange fnExactProfileTextSpec)) fnExactProfileTextCard

/-- THE SECOND FORM's CARD OF 'laws.FnExactFamilyTrace'. -/
def fnExactFamilyTraceUptoCard : Claim7 := { stood := { row := fnExactFamilyTraceUptoRow, standIns := [], harness := (true, "e40a84a478573d8f7996449b15638ab7f93324579eb1184a43e39812bb5b2701"), looks := false }, kinds := [], alts := [], laidByText := true, laidKinds := [.data, .data, .data], laidTests := true, laidLooks := .later }
def FnExactFamilyTraceUptoCardSaid : Prop := Claim7.holds Tryz.pinned (.plain (OpenSpec.upto fnExactFamilyTraceSpec)) fnExactFamilyTraceUptoCard

/-- THE SECOND FORM's CARD OF 'laws.FnExactProfileText'. -/
def fnExactProfileTextUptoCard : Claim7 := { stood := { row := fnExactProfileTextUptoRow, standIns := [], harness := (true, "e40a84a478573d8f7996449b15638ab7f93324579eb1184a43e39812bb5b2701"), looks := false }, kinds := [], alts := [], laidByText := true, laidKinds := [.data, .data, .data], laidTests := true, laidLooks := .later }
def FnExactProfileTextUptoCardSaid : Prop := Claim7.holds Tryz.pinned (.plain (OpenSpec.upto fnExactProfileTextSpec)) fnExactProfileTextUptoCard
end Rows
end Go.Proofs.YteckcjgpnegkjaaGreatDoor
