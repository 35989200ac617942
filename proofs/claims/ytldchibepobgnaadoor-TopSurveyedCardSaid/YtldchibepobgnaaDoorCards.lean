/-
  DERIVED. GIVEN WITH THE SEED: THE CARDS: each row of YtldchibepobgnaaDoorRows.lean that lists a variable, with what it lists TIED to the program's text (the seventh form; the later family's looks); each row that meets fmt, with fmt's text TOLD by the authors' own Lean function (tested against real Go, not proved from fmt's source: count such statements apart). THE CARD IS WHAT COUNTS. Prove the row's statement (the work); the ties are given (YtldchibepobgnaaDoorTie.lean); close each card by the builder's one call (the guide's Derived/Test/ToyasCard.lean, 'card_holds'). Laid BY PROGRAM, IN A SANDBOX (cutbox-door.mjs). By AI agents, Wed Nov 11 2026. No macro, syntax, notation, axiom, sorry.
-/
import Derived.Test.YtldchibepobgnaaDoorRows
import GoSem.ClaimSeven
namespace Go.Proofs.YtldchibepobgnaaDoor
namespace Rows

/-- THE TIED CARD OF 'overburdentop.TopClocks'. -/
def topClocksCard : Claim7 := { stood := { row := topClocksRow, standIns := [], harness := (true, "0ee2cee5cbe110d46606f48aae4a85d8ffa3962fbd3c4f914a8f9a49086f8d81"), looks := false }, kinds := [], alts := [], laidByText := true, laidKinds := [.data], laidTests := true, laidLooks := .later }
def TopClocksCardSaid : Prop := Claim7.holds Tryd.pinned (.plain (OpenSpec.ofChange topClocksSpec)) topClocksCard

/-- THE TIED CARD OF 'overburdentop.TopSurveyed'. -/
def topSurveyedCard : Claim7 := { stood := { row := topSurveyedRow, standIns := [], harness := (true, "0ee2cee5cbe110d46606f48aae4a85d8ffa3962fbd3c4f914a8f9a49086f8d81"), looks := false }, kinds := [], alts := [], laidByText := true, laidKinds := [.data], laidTests := true, laidLooks := .later }
def TopSurveyedCardSaid : Prop := Claim7.holds Tryd.pinned (.plain (OpenSpec.ofChange topSurveyedSpec)) topSurveyedCard

/-- THE SECOND FORM's CARD OF 'overburdentop.TopClocks'. -/
def topClocksUptoCard : Claim7 := { stood := { row := topClocksUptoRow, standIns := [], harness := (true, "0ee2cee5cbe110d46606f48aae4a85d8ffa3962fbd3c4f914a8f9a49086f8d81"), looks := false }, kinds := [], alts := [], laidByText := true, laidKinds := [.data], laidTests := true, laidLooks := .later }
def TopClocksUptoCardSaid : Prop := Claim7.holds Tryd.pinned (.plain (OpenSpec.upto topClocksSpec)) topClocksUptoCard

/-- THE SECOND FORM's CARD OF 'overburdentop.TopSurveyed'. -/
def topSurveyedUptoCard : Claim7 := { stood := { row := topSurveyedUptoRow, standIns := [], harness := (true, "0ee2cee5cbe110d46606f48aae4a85d8ffa3962fbd3c4f914a8f9a49086f8d81"), looks := false }, kinds := [], alts := [], laidByText := true, laidKinds := [.data], laidTests := true, laidLooks := .later }
def TopSurveyedUptoCardSaid : Prop := Claim7.holds Tryd.pinned (.plain (OpenSpec.upto topSurveyedSpec)) topSurveyedUptoCard
end Rows
end Go.Proofs.YtldchibepobgnaaDoor
