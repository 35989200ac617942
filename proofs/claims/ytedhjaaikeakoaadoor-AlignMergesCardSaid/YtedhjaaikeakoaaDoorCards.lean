/-
  DERIVED. GIVEN WITH THE SEED: THE CARDS: each row of YtedhjaaikeakoaaDoorRows.lean that lists a variable, with what it lists TIED to the program's text (the seventh form; the later family's looks); each row that meets fmt, with fmt's text TOLD by the authors' own Lean function (tested against real Go, not proved from fmt's source: count such statements apart). THE CARD IS WHAT COUNTS. Prove the row's statement (the work); the ties are given (YtedhjaaikeakoaaDoorTie.lean); close each card by the builder's one call (the guide's Derived/Test/ToyasCard.lean, 'card_holds'). Laid BY PROGRAM, IN A SANDBOX (cutbox-door.mjs). By AI agents, Wed Nov 11 2026. No macro, syntax, notation, axiom, sorry.
-/
import Derived.Test.YtedhjaaikeakoaaDoorRows
import GoSem.ClaimSeven
namespace Go.Proofs.YtedhjaaikeakoaaDoor
namespace Rows

/-- THE TIED CARD OF 'overburdenlaw03.AlignBlames'. -/
def alignBlamesCard : Claim7 := { stood := { row := alignBlamesRow, standIns := [], harness := (true, "5097d02014b7f9bdc457588f16a61179f96daee4a085c0a2c5462d863db43dbf"), looks := true }, kinds := [], alts := [], laidByText := true, laidKinds := [.data], laidTests := true, laidLooks := .later }
def AlignBlamesCardSaid : Prop := Claim7.holds Tryd.pinned (.plain (OpenSpec.ofChange alignBlamesSpec)) alignBlamesCard

/-- THE TIED CARD OF 'overburdenlaw03.AlignFewest'. -/
def alignFewestCard : Claim7 := { stood := { row := alignFewestRow, standIns := [], harness := (true, "5097d02014b7f9bdc457588f16a61179f96daee4a085c0a2c5462d863db43dbf"), looks := true }, kinds := [], alts := [], laidByText := true, laidKinds := [.data], laidTests := true, laidLooks := .later }
def AlignFewestCardSaid : Prop := Claim7.holds Tryd.pinned (.plain (OpenSpec.ofChange alignFewestSpec)) alignFewestCard

/-- THE TIED CARD OF 'overburdenlaw03.AlignTurned'. -/
def alignTurnedCard : Claim7 := { stood := { row := alignTurnedRow, standIns := [], harness := (true, "5097d02014b7f9bdc457588f16a61179f96daee4a085c0a2c5462d863db43dbf"), looks := true }, kinds := [], alts := [], laidByText := true, laidKinds := [.data], laidTests := true, laidLooks := .later }
def AlignTurnedCardSaid : Prop := Claim7.holds Tryd.pinned (.plain (OpenSpec.ofChange alignTurnedSpec)) alignTurnedCard

/-- THE TIED CARD OF 'overburdenlaw03.AlignBounds'. -/
def alignBoundsCard : Claim7 := { stood := { row := alignBoundsRow, standIns := [], harness := (true, "5097d02014b7f9bdc457588f16a61179f96daee4a085c0a2c5462d863db43dbf"), looks := true }, kinds := [], alts := [], laidByText := true, laidKinds := [.data], laidTests := true, laidLooks := .later }
def AlignBoundsCardSaid : Prop := Claim7.holds Tryd.pinned (.plain (OpenSpec.ofChange alignBoundsSpec)) alignBoundsCard

/-- THE TIED CARD OF 'overburdenlaw03.AlignFollows'. -/
def alignFollowsCard : Claim7 := { stood := { row := alignFollowsRow, standIns := [], harness := (true, "5097d02014b7f9bdc457588f16a61179f96daee4a085c0a2c5462d863db43dbf"), looks := true }, kinds := [], alts := [], laidByText := true, laidKinds := [.data], laidTests := true, laidLooks := .later }
def AlignFollowsCardSaid : Prop := Claim7.holds Tryd.pinned (.plain (OpenSpec.ofChange alignFollowsSpec)) alignFollowsCard

/-- THE TIED CARD OF 'overburdenlaw03.AlignPulses'. -/
def alignPulsesCard : Claim7 := { stood := { row := alignPulsesRow, standIns := [], harness := (true, "5097d02014b7f9bdc457588f16a61179f96daee4a085c0a2c5462d863db43dbf"), looks := true }, kinds := [], alts := [], laidByText := true, laidKinds := [.data], laidTests := true, laidLooks := .later }
def AlignPulsesCardSaid : Prop := Claim7.holds Tryd.pinned (.plain (OpenSpec.ofChange alignPulsesSpec)) alignPulsesCard

/-- THE TIED CARD OF 'overburdenlaw03.AlignAttains'. -/
def alignAttainsCard : Claim7 := { stood := { row := alignAttainsRow, standIns := [], harness := (true, "5097d02014b7f9bdc457588f16a61179f96daee4a085c0a2c5462d863db43dbf"), looks := true }, kinds := [], alts := [], laidByText := true, laidKinds := [.data], laidTests := true, laidLooks := .later }
def AlignAttainsCardSaid : Prop := Claim7.holds Tryd.pinned (.plain (OpenSpec.ofChange alignAttainsSpec)) alignAttainsCard

/-- THE TIED CARD OF 'overburdenlaw03.AlignChecks'. -/
def alignChecksCard : Claim7 := { stood := { row := alignChecksRow, standIns := [], harness := (true, "5097d02014b7f9bdc457588f16a61179f96daee4a085c0a2c5462d863db43dbf"), looks := true }, kinds := [], alts := [], laidByText := true, laidKinds := [.data], laidTests := true, laidLooks := .later }
def AlignChecksCardSaid : Prop := Claim7.holds Tryd.pinned (.plain (OpenSpec.ofChange alignChecksSpec)) alignChecksCard

/-- THE TIED CARD OF 'overburdenlaw03.AlignContradicts'. -/
def alignContradictsCard : Claim7 := { stood := { row := alignContradictsRow, standIns := [], harness := (true, "5097d02014b7f9bdc457588f16a61179f96daee4a085c0a2c5462d863db43dbf"), looks := true }, kinds := [], alts := [], laidByText := true, laidKinds := [.data], laidTests := true, laidLooks := .later }
def AlignContradictsCardSaid : Prop := Claim7.holds Tryd.pinned (.plain (OpenSpec.ofChange alignContradictsSpec)) alignContradictsCard

/-- THE TIED CARD OF 'overburdenlaw03.AlignEither'. -/
def alignEitherCard : Claim7 := { stood := { row := alignEitherRow, standIns := [], harness := (true, "5097d02014b7f9bdc457588f16a61179f96daee4a085c0a2c5462d863db43dbf"), looks := true }, kinds := [], alts := [], laidByText := true, laidKinds := [.data], laidTests := true, laidLooks := .later }
def AlignEitherCardSaid : Prop := Claim7.holds Tryd.pinned (.plain (OpenSpec.ofChange alignEitherSpec)) alignEitherCard

/-- THE TIED CARD OF 'overburdenlaw03.AlignChains'. -/
def alignChainsCard : Claim7 := { stood := { row := alignChainsRow, standIns := [], harness := (true, "5097d02014b7f9bdc457588f16a61179f96daee4a085c0a2c5462d863db43dbf"), looks := true }, kinds := [], alts := [], laidByText := true, laidKinds := [.data], laidTests := true, laidLooks := .later }
def AlignChainsCardSaid : Prop := Claim7.holds Tryd.pinned (.plain (OpenSpec.ofChange alignChainsSpec)) alignChainsCard

/-- THE TIED CARD OF 'overburdenlaw03.AlignProves'. -/
def alignProvesCard : Claim7 := { stood := { row := alignProvesRow, standIns := [], harness := (true, "5097d02014b7f9bdc457588f16a61179f96daee4a085c0a2c5462d863db43dbf"), looks := true }, kinds := [], alts := [], laidByText := true, laidKinds := [.data], laidTests := true, laidLooks := .later }
def AlignProvesCardSaid : Prop := Claim7.holds Tryd.pinned (.plain (OpenSpec.ofChange alignProvesSpec)) alignProvesCard

/-- THE TIED CARD OF 'overburdenlaw03.AlignClocks'. -/
def alignClocksCard : Claim7 := { stood := { row := alignClocksRow, standIns := [], harness := (true, "5097d02014b7f9bdc457588f16a61179f96daee4a085c0a2c5462d863db43dbf"), looks := true }, kinds := [], alts := [], laidByText := true, laidKinds := [.data], laidTests := true, laidLooks := .later }
def AlignClocksCardSaid : Prop := Claim7.holds Tryd.pinned (.plain (OpenSpec.ofChange alignClocksSpec)) alignClocksCard

/-- THE TIED CARD OF 'overburdenlaw03.AlignNeeds'. -/
def alignNeedsCard : Claim7 := { stood := { row := alignNeedsRow, standIns := [], harness := (true, "5097d02014b7f9bdc457588f16a61179f96daee4a085c0a2c5462d863db43dbf"), looks := true }, kinds := [], alts := [], laidByText := true, laidKinds := [.data], laidTests := true, laidLooks := .later }
def AlignNeedsCardSaid : Prop := Claim7.holds Tryd.pinned (.plain (OpenSpec.ofChange alignNeedsSpec)) alignNeedsCard

/-- THE TIED CARD OF 'overburdenlaw03.AlignEpochs'. -/
def alignEpochsCard : Claim7 := { stood := { row := alignEpochsRow, standIns := [], harness := (true, "5097d02014b7f9bdc457588f16a61179f96daee4a085c0a2c5462d863db43dbf"), looks := true }, kinds := [], alts := [], laidByText := true, laidKinds := [.data], laidTests := true, laidLooks := .later }
def AlignEpochsCardSaid : Prop := Claim7.holds Tryd.pinned (.plain (OpenSpec.ofChange alignEpochsSpec)) alignEpochsCard

/-- THE TIED CARD OF 'overburdenlaw03.AlignDrifts'. -/
def alignDriftsCard : Claim7 := { stood := { row := alignDriftsRow, standIns := [], harness := (true, "5097d02014b7f9bdc457588f16a61179f96daee4a085c0a2c5462d863db43dbf"), looks := true }, kinds := [], alts := [], laidByText := true, laidKinds := [.data], laidTests := true, laidLooks := .later }
def AlignDriftsCardSaid : Prop := Claim7.holds Tryd.pinned (.plain (OpenSpec.ofChange alignDriftsSpec)) alignDriftsCard

/-- THE TIED CARD OF 'overburdenlaw03.AlignMerges'. -/
def alignMergesCard : Claim7 := { stood := { row := alignMergesRow, standIns := [], harness := (true, "5097d02014b7f9bdc457588f16a61179f96daee4a085c0a2c5462d863db43dbf"), looks := true }, kinds := [], alts := [], laidByText := true, laidKinds := [.data], laidTests := true, laidLooks := .later }
def AlignMergesCardSaid : Prop := Claim7.holds Tryd.pinned (.plain (OpenSpec.ofChange alignMergesSpec)) alignMergesCard

/-- THE SECOND FORM's CARD OF 'overburdenlaw03.AlignBlames'. -/
def alignBlamesUptoCard : Claim7 := { stood := { row := alignBlamesUptoRow, standIns := [], harness := (true, "5097d02014b7f9bdc457588f16a61179f96daee4a085c0a2c5462d863db43dbf"), looks := true }, kinds := [], alts := [], laidByText := true, laidKinds := [.data], laidTests := true, laidLooks := .later }
def AlignBlamesUptoCardSaid : Prop := Claim7.holds Tryd.pinned (.plain (OpenSpec.upto alignBlamesSpec)) alignBlamesUptoCard

/-- THE SECOND FORM's CARD OF 'overburdenlaw03.AlignFewest'. -/
def alignFewestUptoCard : Claim7 := { stood := { row := alignFewestUptoRow, standIns := [], harness := (true, "5097d02014b7f9bdc457588f16a61179f96daee4a085c0a2c5462d863db43dbf"), looks := true }, kinds := [], alts := [], laidByText := true, laidKinds := [.data], laidTests := true, laidLooks := .later }
def AlignFewestUptoCardSaid : Prop := Claim7.holds Tryd.pinned (.plain (OpenSpec.upto alignFewestSpec)) alignFewestUptoCard

/-- THE SECOND FORM's CARD OF 'overburdenlaw03.AlignTurned'. -/
def alignTurnedUptoCard : Claim7 := { stood := { row := alignTurnedUptoRow, standIns := [], harness := (true, "5097d02014b7f9bdc457588f16a61179f96daee4a085c0a2c5462d863db43dbf"), looks := true }, kinds := [], alts := [], laidByText := true, laidKinds := [.data], laidTests := true, laidLooks := .later }
def AlignTurnedUptoCardSaid : Prop := Claim7.holds Tryd.pinned (.plain (OpenSpec.upto alignTurnedSpec)) alignTurnedUptoCard

/-- THE SECOND FORM's CARD OF 'overburdenlaw03.AlignBounds'. -/
def alignBoundsUptoCard : Claim7 := { stood := { row := alignBoundsUptoRow, standIns := [], harness := (true, "5097d02014b7f9bdc457588f16a61179f96daee4a085c0a2c5462d863db43dbf"), looks := true }, kinds := [], alts := [], laidByText := true, laidKinds := [.data], laidTests := true, laidLooks := .later }
def AlignBoundsUptoCardSaid : Prop := Claim7.holds Tryd.pinned (.plain (OpenSpec.upto alignBoundsSpec)) alignBoundsUptoCard

/-- THE SECOND FORM's CARD OF 'overburdenlaw03.AlignFollows'. -/
def alignFollowsUptoCard : Claim7 := { stood := { row := alignFollowsUptoRow, standIns := [], harness := (true, "5097d02014b7f9bdc457588f16a61179f96daee4a085c0a2c5462d863db43dbf"), looks := true }, kinds := [], alts := [], laidByText := true, laidKinds := [.data], laidTests := true, laidLooks := .later }
def AlignFollowsUptoCardSaid : Prop := Claim7.holds Tryd.pinned (.plain (OpenSpec.upto alignFollowsSpec)) alignFollowsUptoCard

/-- THE SECOND FORM's CARD OF 'overburdenlaw03.AlignPulses'. -/
def alignPulsesUptoCard : Claim7 := { stood := { row := alignPulsesUptoRow, standIns := [], harness := (true, "5097d02014b7f9bdc457588f16a61179f96daee4a085c0a2c5462d863db43dbf"), looks := true }, kinds := [], alts := [], laidByText := true, laidKinds := [.data], laidTests := true, laidLooks := .later }
def AlignPulsesUptoCardSaid : Prop := Claim7.holds Tryd.pinned (.plain (OpenSpec.upto alignPulsesSpec)) alignPulsesUptoCard

/-- THE SECOND FORM's CARD OF 'overburdenlaw03.AlignAttains'. -/
def alignAttainsUptoCard : Claim7 := { stood := { row := alignAttainsUptoRow, standIns := [], harness := (true, "5097d02014b7f9bdc457588f16a61179f96daee4a085c0a2c5462d863db43dbf"), looks := true }, kinds := [], alts := [], laidByText := true, laidKinds := [.data], laidTests := true, laidLooks := .later }
def AlignAttainsUptoCardSaid : Prop := Claim7.holds Tryd.pinned (.plain (OpenSpec.upto alignAttainsSpec)) alignAttainsUptoCard

/-- THE SECOND FORM's CARD OF 'overburdenlaw03.AlignChecks'. -/
def alignChecksUptoCard : Claim7 := { stood := { row := alignChecksUptoRow, standIns := [], harness := (true, "5097d02014b7f9bdc457588f16a61179f96daee4a085c0a2c5462d863db43dbf"), looks := true }, kinds := [], alts := [], laidByText := true, laidKinds := [.data], laidTests := true, laidLooks := .later }
def AlignChecksUptoCardSaid : Prop := Claim7.holds Tryd.pinned (.plain (OpenSpec.upto alignChecksSpec)) alignChecksUptoCard

/-- THE SECOND FORM's CARD OF 'overburdenlaw03.AlignContradicts'. -/
def alignContradictsUptoCard : Claim7 := { stood := { row := alignContradictsUptoRow, standIns := [], harness := (true, "5097d02014b7f9bdc457588f16a61179f96daee4a085c0a2c5462d863db43dbf"), looks := true }, kinds := [], alts := [], laidByText := true, laidKinds := [.data], laidTests := true, laidLooks := .later }
def AlignContradictsUptoCardSaid : Prop := Claim7.holds Tryd.pinned (.plain (OpenSpec.upto alignContradictsSpec)) alignContradictsUptoCard

/-- THE SECOND FORM's CARD OF 'overburdenlaw03.AlignEither'. -/
def alignEitherUptoCard : Claim7 := { stood := { row := alignEitherUptoRow, standIns := [], harness := (true, "5097d02014b7f9bdc457588f16a61179f96daee4a085c0a2c5462d863db43dbf"), looks := true }, kinds := [], alts := [], laidByText := true, laidKinds := [.data], laidTests := true, laidLooks := .later }
def AlignEitherUptoCardSaid : Prop := Claim7.holds Tryd.pinned (.plain (OpenSpec.upto alignEitherSpec)) alignEitherUptoCard

/-- THE SECOND FORM's CARD OF 'overburdenlaw03.AlignChains'. -/
def alignChainsUptoCard : Claim7 := { stood := { row := alignChainsUptoRow, standIns := [], harness := (true, "5097d02014b7f9bdc457588f16a61179f96daee4a085c0a2c5462d863db43dbf"), looks := true }, kinds := [], alts := [], laidByText := true, laidKinds := [.data], laidTests := true, laidLooks := .later }
def AlignChainsUptoCardSaid : Prop := Claim7.holds Tryd.pinned (.plain (OpenSpec.upto alignChainsSpec)) alignChainsUptoCard

/-- THE SECOND FORM's CARD OF 'overburdenlaw03.AlignProves'. -/
def alignProvesUptoCard : Claim7 := { stood := { row := alignProvesUptoRow, standIns := [], harness := (true, "5097d02014b7f9bdc457588f16a61179f96daee4a085c0a2c5462d863db43dbf"), looks := true }, kinds := [], alts := [], laidByText := true, laidKinds := [.data], laidTests := true, laidLooks := .later }
def AlignProvesUptoCardSaid : Prop := Claim7.holds Tryd.pinned (.plain (OpenSpec.upto alignProvesSpec)) alignProvesUptoCard

/-- THE SECOND FORM's CARD OF 'overburdenlaw03.AlignClocks'. -/
def alignClocksUptoCard : Claim7 := { stood := { row := alignClocksUptoRow, standIns := [], harness := (true, "5097d02014b7f9bdc457588f16a61179f96daee4a085c0a2c5462d863db43dbf"), looks := true }, kinds := [], alts := [], laidByText := true, laidKinds := [.data], laidTests := true, laidLooks := .later }
def AlignClocksUptoCardSaid : Prop := Claim7.holds Tryd.pinned (.plain (OpenSpec.upto alignClocksSpec)) alignClocksUptoCard

/-- THE SECOND FORM's CARD OF 'overburdenlaw03.AlignNeeds'. -/
def alignNeedsUptoCard : Claim7 := { stood := { row := alignNeedsUptoRow, standIns := [], harness := (true, "5097d02014b7f9bdc457588f16a61179f96daee4a085c0a2c5462d863db43dbf"), looks := true }, kinds := [], alts := [], laidByText := true, laidKinds := [.data], laidTests := true, laidLooks := .later }
def AlignNeedsUptoCardSaid : Prop := Claim7.holds Tryd.pinned (.plain (OpenSpec.upto alignNeedsSpec)) alignNeedsUptoCard

/-- THE SECOND FORM's CARD OF 'overburdenlaw03.AlignEpochs'. -/
def alignEpochsUptoCard : Claim7 := { stood := { row := alignEpochsUptoRow, standIns := [], harness := (true, "5097d02014b7f9bdc457588f16a61179f96daee4a085c0a2c5462d863db43dbf"), looks := true }, kinds := [], alts := [], laidByText := true, laidKinds := [.data], laidTests := true, laidLooks := .later }
def AlignEpochsUptoCardSaid : Prop := Claim7.holds Tryd.pinned (.plain (OpenSpec.upto alignEpochsSpec)) alignEpochsUptoCard

/-- THE SECOND FORM's CARD OF 'overburdenlaw03.AlignDrifts'. -/
def alignDriftsUptoCard : Claim7 := { stood := { row := alignDriftsUptoRow, standIns := [], harness := (true, "5097d02014b7f9bdc457588f16a61179f96daee4a085c0a2c5462d863db43dbf"), looks := true }, kinds := [], alts := [], laidByText := true, laidKinds := [.data], laidTests := true, laidLooks := .later }
def AlignDriftsUptoCardSaid : Prop := Claim7.holds Tryd.pinned (.plain (OpenSpec.upto alignDriftsSpec)) alignDriftsUptoCard

/-- THE SECOND FORM's CARD OF 'overburdenlaw03.AlignMerges'. -/
def alignMergesUptoCard : Claim7 := { stood := { row := alignMergesUptoRow, standIns := [], harness := (true, "5097d02014b7f9bdc457588f16a61179f96daee4a085c0a2c5462d863db43dbf"), looks := true }, kinds := [], alts := [], laidByText := true, laidKinds := [.data], laidTests := true, laidLooks := .later }
def AlignMergesUptoCardSaid : Prop := Claim7.holds Tryd.pinned (.plain (OpenSpec.upto alignMergesSpec)) alignMergesUptoCard
end Rows
end Go.Proofs.YtedhjaaikeakoaaDoor
