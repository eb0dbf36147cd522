/-
  DERIVED. GIVEN WITH THE SEED: THE CARDS: each row of YtjnifengdhcojaaGreatDoorRows.lean that lists a variable, with what it lists TIED to the program's text (the seventh form; the later family's looks); each row that meets fmt, with fmt's text TOLD by the authors' own Lean function (tested against real Go, not proved from fmt's source: count such statements apart). THE CARD IS WHAT COUNTS. Prove the row's statement (the work); the ties are given (YtjnifengdhcojaaGreatDoorTie.lean); close each card by the builder's one call (the guide's Derived/Test/ToyasCard.lean, 'card_holds'). Laid BY PROGRAM, IN A SANDBOX (cutbox-door.mjs). By AI agents, Wed Nov 11 2026. No macro, syntax, notation, axiom, sorry.
-/
import Derived.Test.YtjnifengdhcojaaGreatDoorRows
import GoSem.ClaimSeven
namespace Go.Proofs.YtjnifengdhcojaaGreatDoor
namespace Rows

/-- THE TIED CARD OF 'laws.FnExactFamilyTrace'. -/
def fnExactFamilyTraceCard : Claim7 := { stood := { row := fnExactFamilyTraceRow, standIns := [], harness := (true, "462a0d6c4583cbcf6a51e4a6c71f0f7b7c088ae94310043a60cef233bef2ac5a"), looks := false }, kinds := [], alts := [], laidByText := true, laidKinds := [.data, .data, .data], laidTests := true, laidLooks := .later }
def FnExactFamilyTraceCardSaid : Prop := Claim7.holds Tryz.pinned (.plain (OpenSpec.ofChange fnExactFamilyTraceSpec)) fnExactFamilyTraceCard

/-- THE TIED CARD OF 'laws.FnExactPredictRead'. -/
def fnExactPredictReadCard : Claim7 := { stood := { row := fnExactPredictReadRow, standIns := [], harness := (true, "462a0d6c4583cbcf6a51e4a6c71f0f7b7c088ae94310043a60cef233bef2ac5a"), looks := false }, kinds := [], alts := [], laidByText := true, laidKinds := [.data, .data, .data], laidTests := true, laidLooks := .later }
def FnExactPredictReadCardSaid : Prop := Claim7.holds Tryz.pinned (.plain (OpenSpec.ofChange fnExactPredictReadSpec)) fnExactPredictReadCard

/-- THE SECOND FORM's CARD OF 'laws.FnExactFamilyTrace'. -/
def fnExactFamilyTraceUptoCard : Claim7 := { stood := { row := fnExactFamilyTraceUptoRow, standIns := [], harness := (true, "462a0d6c4583cbcf6a51e4a6c71f0f7b7c088ae94310043a60cef233bef2ac5a"), looks := false }, kinds := [], alts := [], laidByText := true, laidKinds := [.data, .data, .data], laidTests := true, laidLooks := .later }
def FnExactFamilyTraceUptoCardSaid : Prop := Claim7.holds Tryz.pinned (.plain (OpenSpec.upto fnExactFamilyTraceSpec)) fnExactFamilyTraceUptoCard

/-- THE SECOND FORM's CARD OF 'laws.FnExactPredictRead'. -/
def fnExactPredictReadUptoCard : Claim7 := { stood := { row := fnExactPredictReadUptoRow, standIns := [], harness := (true, "462a0d6c4583cbcf6a51e4a6c71f0f7b7c088ae94310043a60cef233bef2ac5a"), looks := false }, kinds := [], alts := [], laidByText := true, laidKinds := [.data, .data, .data], laidTests := true, laidLooks := .later }
def FnExactPredictReadUptoCardSaid : Prop := Claim7.holds Tryz.pinned (.plain (OpenSpec.upto fnExactPredictReadSpec)) fnExactPredictReadUptoCard
end Rows
end Go.Proofs.YtjnifengdhcojaaGreatDoor
