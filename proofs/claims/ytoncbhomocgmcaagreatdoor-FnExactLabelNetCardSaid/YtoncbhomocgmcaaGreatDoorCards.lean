/-
  DERIVED. GIVEN WITH THE SEED: THE CARDS: each row of YtoncbhomocgmcaaGreatDoorRows.lean that lists a variable, with what it lists TIED to the program's text (the seventh form; the later family's looks); each row that meets fmt, with fmt's text TOLD by the authors' own Lean function (tested against real Go, not proved from fmt's source: count such statements apart). THE CARD IS WHAT COUNTS. Prove the row's statement (the work); the ties are given (YtoncbhomocgmcaaGreatDoorTie.lean); close each card by the builder's one call (the guide's Derived/Test/ToyasCard.lean, 'card_holds'). Laid BY PROGRAM, IN A SANDBOX (cutbox-door.mjs). By AI agents, Wed Nov 11 2026. No macro, syntax, notation, axiom, sorry.
-/
import Derived.Test.YtoncbhomocgmcaaGreatDoorRows
import GoSem.ClaimSeven
namespace Go.Proofs.YtoncbhomocgmcaaGreatDoor
namespace Rows

/-- THE TIED CARD OF 'laws.FnExactLabelNet'. -/
def fnExactLabelNetCard : Claim7 := { stood := { row := fnExactLabelNetRow, standIns := [], harness := (true, "3f6ede0fca271016660981af213a0cdedeb1e405ca4150beeedd743c3c203df6"), looks := false }, kinds := [], alts := [], laidByText := true, laidKinds := [.data, .data, .data], laidTests := true, laidLooks := .later }
def FnExactLabelNetCardSaid : Prop := Claim7.holds Tryz.pinned (.plain (OpenSpec.ofChange fnExactLabelNetSpec)) fnExactLabelNetCard

/-- THE SECOND FORM's CARD OF 'laws.FnExactLabelNet'. -/
def fnExactLabelNetUptoCard : Claim7 := { stood := { row := fnExactLabelNetUptoRow, standIns := [], harness := (true, "3f6ede0fca271016660981af213a0cdedeb1e405ca4150beeedd743c3c203df6"), looks := false }, kinds := [], alts := [], laidByText := true, laidKinds := [.data, .data, .data], laidTests := true, laidLooks := .later }
def FnExactLabelNetUptoCardSaid : Prop := Claim7.holds Tryz.pinned (.plain (OpenSpec.upto fnExactLabelNetSpec)) fnExactLabelNetUptoCard
end Rows
end Go.Proofs.YtoncbhomocgmcaaGreatDoor
