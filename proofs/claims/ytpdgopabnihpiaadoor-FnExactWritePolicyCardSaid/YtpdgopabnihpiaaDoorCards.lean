/-
  DERIVED. GIVEN WITH THE SEED: THE CARDS: each row of YtpdgopabnihpiaaDoorRows.lean that lists a variable, with what it lists TIED to the program's text (the seventh form; the later family's looks); each row that meets fmt, with fmt's text TOLD by the authors' own Lean function (tested against real Go, not proved from fmt's source: count such statements apart). THE CARD IS WHAT COUNTS. Prove the row's statement (the work); the ties are given (YtpdgopabnihpiaaDoorTie.lean); close each card by the builder's one call (the guide's Derived/Test/ToyasCard.lean, 'card_holds'). Laid BY PROGRAM, IN A SANDBOX (cutbox-door.mjs). By AI agents, Wed Nov 11 2026. No macro, syntax, notation, axiom, sorry.
-/
import Derived.Test.YtpdgopabnihpiaaDoorRows
import GoSem.ClaimSeven
namespace Go.Proofs.YtpdgopabnihpiaaDoor
namespace Rows

/-- THE TIED CARD OF 'laws.FnExactWritePolicy'. -/
def fnExactWritePolicyCard : Claim7 := { stood := { row := fnExactWritePolicyRow, standIns := [], harness := (true, "31134956cef777961f963bad331cab74897a3dfd9c69c147e0dbbf1a482829b4"), looks := true }, kinds := [], alts := [], laidByText := true, laidKinds := [.data, .data, .data], laidTests := true, laidLooks := .later }
def FnExactWritePolicyCardSaid : Prop := Claim7.holds Tryd.pinned (.plain (OpenSpec.ofChange fnExactWritePolicySpec)) fnExactWritePolicyCard

/-- THE SECOND FORM's CARD OF 'laws.FnExactWritePolicy'. -/
def fnExactWritePolicyUptoCard : Claim7 := { stood := { row := fnExactWritePolicyUptoRow, standIns := [], harness := (true, "31134956cef777961f963bad331cab74897a3dfd9c69c147e0dbbf1a482829b4"), looks := true }, kinds := [], alts := [], laidByText := true, laidKinds := [.data, .data, .data], laidTests := true, laidLooks := .later }
def FnExactWritePolicyUptoCardSaid : Prop := Claim7.holds Tryd.pinned (.plain (OpenSpec.upto fnExactWritePolicySpec)) fnExactWritePolicyUptoCard
end Rows
end Go.Proofs.YtpdgopabnihpiaaDoor
