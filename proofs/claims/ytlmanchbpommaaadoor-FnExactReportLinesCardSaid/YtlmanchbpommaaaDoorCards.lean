/-
  DERIVED. GIVEN WITH THE SEED: THE CARDS: each row of YtlmanchbpommaaaDoorRows.lean that lists a variable, with what it lists TIED to the program's text (the seventh form; the later family's looks); each row that meets fmt, with fmt's text TOLD by the authors' own Lean function (tested against real Go, not proved from fmt's source: count such statements apart). THE CARD IS WHAT COUNTS. Prove the row's statement (the work); the ties are given (YtlmanchbpommaaaDoorTie.lean); close each card by the builder's one call (the guide's Derived/Test/ToyasCard.lean, 'card_holds'). Laid BY PROGRAM, IN A SANDBOX (cutbox-door.mjs). By AI agents, Wed Nov 11 2026. No macro, syntax, notation, axiom, sorry.
-/
import Derived.Test.YtlmanchbpommaaaDoorRows
import GoSem.ClaimSeven
namespace Go.Proofs.YtlmanchbpommaaaDoor
namespace Rows

/-- THE TIED CARD OF 'laws.FnExactRowLine'. -/
def fnExactRowLineCard : Claim7 := { stood := { row := fnExactRowLineRow, standIns := [], harness := (true, "5b99ba1348b1fceb8072563a08e2d396f3ae228b876b9a703f06e901ebb7a579"), looks := false }, kinds := [], alts := [], laidByText := true, laidKinds := [.data, .data, .data], laidTests := true, laidLooks := .later }
def FnExactRowLineCardSaid : Prop := Claim7.holds Tryd.pinned (.plain (OpenSpec.ofChange fnExactRowLineSpec)) fnExactRowLineCard

/-- THE TIED CARD OF 'laws.FnExactReportLines'. -/
def fnExactReportLinesCard : Claim7 := { stood := { row := fnExactReportLinesRow, standIns := [], harness := (true, "5b99ba1348b1fceb8072563a08e2d396f3ae228b876b9a703f06e901ebb7a579"), looks := false }, kinds := [], alts := [], laidByText := true, laidKinds := [.data, .data, .data], laidTests := true, laidLooks := .later }
def FnExactReportLinesCardSaid : Prop := Claim7.holds Tryd.pinned (.plain (OpenSpec.ofChange fnExactReportLinesSpec)) fnExactReportLinesCard

/-- THE SECOND FORM's CARD OF 'laws.FnExactRowLine'. -/
def fnExactRowLineUptoCard : Claim7 := { stood := { row := fnExactRowLineUptoRow, standIns := [], harness := (true, "5b99ba1348b1fceb8072563a08e2d396f3ae228b876b9a703f06e901ebb7a579"), looks := false }, kinds := [], alts := [], laidByText := true, laidKinds := [.data, .data, .data], laidTests := true, laidLooks := .later }
def FnExactRowLineUptoCardSaid : Prop := Claim7.holds Tryd.pinned (.plain (OpenSpec.upto fnExactRowLineSpec)) fnExactRowLineUptoCard

/-- THE SECOND FORM's CARD OF 'laws.FnExactReportLines'. -/
def fnExactReportLinesUptoCard : Claim7 := { stood := { row := fnExactReportLinesUptoRow, standIns := [], harness := (true, "5b99ba1348b1fceb8072563a08e2d396f3ae228b876b9a703f06e901ebb7a579"), looks := false }, kinds := [], alts := [], laidByText := true, laidKinds := [.data, .data, .data], laidTests := true, laidLooks := .later }
def FnExactReportLinesUptoCardSaid : Prop := Claim7.holds Tryd.pinned (.plain (OpenSpec.upto fnExactReportLinesSpec)) fnExactReportLinesUptoCard
end Rows
end Go.Proofs.YtlmanchbpommaaaDoor
