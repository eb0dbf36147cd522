/-
  DERIVED. GIVEN WITH THE SEED: THE CARDS: each row of YthenkmapmnkelaaGreatDoorRows.lean that lists a variable, with what it lists TIED to the program's text (the seventh form; the later family's looks); each row that meets fmt, with fmt's text TOLD by the authors' own Lean function (tested against real Go, not proved from fmt's source: count such statements apart). THE CARD IS WHAT COUNTS. Prove the row's statement (the work); the ties are given (YthenkmapmnkelaaGreatDoorTie.lean); close each card by the builder's one call (the guide's Derived/Test/ToyasCard.lean, 'card_holds'). Laid BY PROGRAM, IN A SANDBOX (cutbox-door.mjs). By AI agents, Wed Nov 11 2026. No macro, syntax, notation, axiom, sorry.
-/
import Derived.Test.YthenkmapmnkelaaGreatDoorRows
import GoSem.ClaimSeven
namespace Go.Proofs.YthenkmapmnkelaaGreatDoor
namespace Rows

/-- THE TIED CARD OF 'laws.FnExactFamilyTrace'. -/
def fnExactFamilyTraceCard : Claim7 := { stood := { row := fnExactFamilyTraceRow, standIns := [], harness := (true, "8db938d0a39d4201f9b32e4a00d961c7835bfbaf2933d2489c4c992814f62fb2"), looks := false }, kinds := [], alts := [], laidByText := true, laidKinds := [.data, .data, .data], laidTests := true, laidLooks := .later }
def FnExactFamilyTraceCardSaid : Prop := Claim7.holds Tryz.pinned (.plain (OpenSpec.ofChange fnExactFamilyTraceSpec)) fnExactFamilyTraceCard

/-- THE SECOND FORM's CARD OF 'laws.FnExactFamilyTrace'. -/
def fnExactFamilyTraceUptoCard : Claim7 := { stood := { row := fnExactFamilyTraceUptoRow, standIns := [], harness := (true, "8db938d0a39d4201f9b32e4a00d961c7835bfbaf2933d2489c4c992814f62fb2"), looks := false }, kinds := [], alts := [], laidByText := true, laidKinds := [.data, .data, .data], laidTests := true, laidLooks := .later }
def FnExactFamilyTraceUptoCardSaid : Prop := Claim7.holds Tryz.pinned (.plain (OpenSpec.upto fnExactFamilyTraceSpec)) fnExactFamilyTraceUptoCard
end Rows
end Go.Proofs.YthenkmapmnkelaaGreatDoor
