/-
  NARROWER THAN 'FOR EVERY INPUT', by the rows' own cells (each row's printed sentence says how): AlignBlames: laid · AlignFewest: laid · AlignTurned: laid · AlignBounds: laid · AlignFollows: laid · AlignPulses: laid · AlignAttains: laid · AlignChecks: laid · AlignContradicts: laid · AlignEither: laid · AlignChains: laid · AlignProves: laid · AlignClocks: laid · AlignNeeds: laid · AlignEpochs: laid · AlignDrifts: laid · AlignMerges: laid.
  DERIVED. THE GIVEN ROWS OF THIS SEAT. 17 by the template 'for every input the law returns true; each argument reads behind the call as it read before'; 0 by the template 'total and deterministic' (their statements: YtedhjaaikeakoaaDoorTotals.lean).
  GIVEN WITH THE SEED: the statements are not yours to turn. If you find one false, say at which input.
  Laid BY PROGRAM, IN A SANDBOX (cutbox-rows.mjs): the forced cells as the released guide's own fill.sh prints them over the translation 5e25d92596078d44… (all of the seat's roots in one cut). By AI agents, Wed Nov 11 2026. No macro, syntax, notation, axiom, sorry.
-/
import Derived.Test.YtedhjaaikeakoaaDoorChecked
import GoSem.Claim
import GoSem.ClaimJoined
import GoSem.ClaimMapViews
import Derived.JoinedTies
import Derived.KernelRfl
namespace Go.Proofs.YtedhjaaikeakoaaDoor
/- THE CELL 'sum', in the pinned program and in every row, IS THE sha256 OF THE DUMP (.gsa) THAT YtedhjaaikeakoaaDoorProg.lean LOADS. Nothing in Lean hashes anything: it is a label: what it is worth is what the hold of that sum in a sandbox is worth. -/
noncomputable def Tryd.pinned : Pinned := { name := "ytedhjaaikeakoaadoor", sum := "5e25d92596078d44cd651c7340090e038e04c9094afa1a8dd3c30f85b332de6d", checked := Tryd.checked }
namespace Rows
def none {H : Type} : Left H := { results := [], args := [] }

/- WHAT THE LISTED PACKAGE-LEVEL VARIABLES READ AS WHEN THE CALL BEGINS. Each datum BY PROGRAM (the guide's laid-datum.mjs) off the statement by which the dump's own 'gosem.cut.vars' lays the variable. In a bare row this is a premise. The card (YtedhjaaikeakoaaDoorCards.lean) ties it to the program's text. -/
def laid_overburden_align_never {H : Type} : DataW H := .agg [.lit (.int .i64 1000000000000), .lit (.int .i64 0)]

/-- 'overburdenlaw03.AlignBlames': WHATEVER THE INPUT: true; the input reads as it did. -/
def alignBlamesSpec : ChangeSpec := { name := "alignBlames", fn := fun _ => fun
  | [d] => { results := [.lit (.bool true)], args := [d] }
  | _ => none }
def alignBlamesRow : OpenClaim := { program := "ytedhjaaikeakoaadoor", sum := "5e25d92596078d44cd651c7340090e038e04c9094afa1a8dd3c30f85b332de6d", func := "overburden/overburdenlaw03.AlignBlames", spec := "alignBlames", unfollowed := true, recurses := true, named := ["overburden/align.never"], plainKeys := false, apart := false, laid := [("overburden/align.never", laid_overburden_align_never)] }
def AlignBlamesSaid : Prop := alignBlamesRow.holds Tryd.pinned (OpenSpec.ofChange alignBlamesSpec)

/-- ITS FALSE NEIGHBOUR: 'it returns false'. Refute it at one input. -/
def alignBlamesWrong : ChangeSpec := { name := "alignBlames", fn := fun _ => fun
  | [d] => { results := [.lit (.bool false)], args := [d] }
  | _ => none }
def AlignBlamesWrongFalsely : Prop := alignBlamesRow.holds Tryd.pinned (OpenSpec.ofChange alignBlamesWrong)

/-- 'overburdenlaw03.AlignFewest': WHATEVER THE INPUT: true; the input reads as it did. -/
def alignFewestSpec : ChangeSpec := { name := "alignFewest", fn := fun _ => fun
  | [d1, d2] => { results := [.lit (.bool true)], args := [d1, d2] }
  | _ => none }
def alignFewestRow : OpenClaim := { program := "ytedhjaaikeakoaadoor", sum := "5e25d92596078d44cd651c7340090e038e04c9094afa1a8dd3c30f85b332de6d", func := "overburden/overburdenlaw03.AlignFewest", spec := "alignFewest", unfollowed := true, recurses := true, named := ["overburden/align.never"], plainKeys := false, apart := false, laid := [("overburden/align.never", laid_overburden_align_never)] }
def AlignFewestSaid : Prop := alignFewestRow.holds Tryd.pinned (OpenSpec.ofChange alignFewestSpec)

/-- ITS FALSE NEIGHBOUR: 'it returns false'. Refute it at one input. -/
def alignFewestWrong : ChangeSpec := { name := "alignFewest", fn := fun _ => fun
  | [d1, d2] => { results := [.lit (.bool false)], args := [d1, d2] }
  | _ => none }
def AlignFewestWrongFalsely : Prop := alignFewestRow.holds Tryd.pinned (OpenSpec.ofChange alignFewestWrong)

/-- 'overburdenlaw03.AlignTurned': WHATEVER THE INPUT: true; the input reads as it did. -/
def alignTurnedSpec : ChangeSpec := { name := "alignTurned", fn := fun _ => fun
  | [d1, d2] => { results := [.lit (.bool true)], args := [d1, d2] }
  | _ => none }
def alignTurnedRow : OpenClaim := { program := "ytedhjaaikeakoaadoor", sum := "5e25d92596078d44cd651c7340090e038e04c9094afa1a8dd3c30f85b332de6d", func := "overburden/overburdenlaw03.AlignTurned", spec := "alignTurned", unfollowed := true, recurses := true, named := ["overburden/align.never"], plainKeys := false, apart := false, laid := [("overburden/align.never", laid_overburden_align_never)] }
def AlignTurnedSaid : Prop := alignTurnedRow.holds Tryd.pinned (OpenSpec.ofChange alignTurnedSpec)

/-- ITS FALSE NEIGHBOUR: 'it returns false'. Refute it at one input. -/
def alignTurnedWrong : ChangeSpec := { name := "alignTurned", fn := fun _ => fun
  | [d1, d2] => { results := [.lit (.bool false)], args := [d1, d2] }
  | _ => none }
def AlignTurnedWrongFalsely : Prop := alignTurnedRow.holds Tryd.pinned (OpenSpec.ofChange alignTurnedWrong)

/-- 'overburdenlaw03.AlignBounds': WHATEVER THE INPUT: true; the input reads as it did. -/
def alignBoundsSpec : ChangeSpec := { name := "alignBounds", fn := fun _ => fun
  | [d1, d2, d3] => { results := [.lit (.bool true)], args := [d1, d2, d3] }
  | _ => none }
def alignBoundsRow : OpenClaim := { program := "ytedhjaaikeakoaadoor", sum := "5e25d92596078d44cd651c7340090e038e04c9094afa1a8dd3c30f85b332de6d", func := "overburden/overburdenlaw03.AlignBounds", spec := "alignBounds", unfollowed := true, recurses := true, named := ["overburden/align.never"], plainKeys := false, apart := false, laid := [("overburden/align.never", laid_overburden_align_never)] }
def AlignBoundsSaid : Prop := alignBoundsRow.holds Tryd.pinned (OpenSpec.ofChange alignBoundsSpec)

/-- ITS FALSE NEIGHBOUR: 'it returns false'. Refute it at one input. -/
def alignBoundsWrong : ChangeSpec := { name := "alignBounds", fn := fun _ => fun
  | [d1, d2, d3] => { results := [.lit (.bool false)], args := [d1, d2, d3] }
  | _ => none }
def AlignBoundsWrongFalsely : Prop := alignBoundsRow.holds Tryd.pinned (OpenSpec.ofChange alignBoundsWrong)

/-- 'overburdenlaw03.AlignFollows': WHATEVER THE INPUT: true; the input reads as it did. -/
def alignFollowsSpec : ChangeSpec := { name := "alignFollows", fn := fun _ => fun
  | [d1, d2, d3] => { results := [.lit (.bool true)], args := [d1, d2, d3] }
  | _ => none }
def alignFollowsRow : OpenClaim := { program := "ytedhjaaikeakoaadoor", sum := "5e25d92596078d44cd651c7340090e038e04c9094afa1a8dd3c30f85b332de6d", func := "overburden/overburdenlaw03.AlignFollows", spec := "alignFollows", unfollowed := true, recurses := true, named := ["overburden/align.never"], plainKeys := false, apart := false, laid := [("overburden/align.never", laid_overburden_align_never)] }
def AlignFollowsSaid : Prop := alignFollowsRow.holds Tryd.pinned (OpenSpec.ofChange alignFollowsSpec)

/-- ITS FALSE NEIGHBOUR: 'it returns false'. Refute it at one input. -/
def alignFollowsWrong : ChangeSpec := { name := "alignFollows", fn := fun _ => fun
  | [d1, d2, d3] => { results := [.lit (.bool false)], args := [d1, d2, d3] }
  | _ => none }
def AlignFollowsWrongFalsely : Prop := alignFollowsRow.holds Tryd.pinned (OpenSpec.ofChange alignFollowsWrong)

/-- 'overburdenlaw03.AlignPulses': WHATEVER THE INPUT: true; the input reads as it did. -/
def alignPulsesSpec : ChangeSpec := { name := "alignPulses", fn := fun _ => fun
  | [d1, d2] => { results := [.lit (.bool true)], args := [d1, d2] }
  | _ => none }
def alignPulsesRow : OpenClaim := { program := "ytedhjaaikeakoaadoor", sum := "5e25d92596078d44cd651c7340090e038e04c9094afa1a8dd3c30f85b332de6d", func := "overburden/overburdenlaw03.AlignPulses", spec := "alignPulses", unfollowed := true, recurses := true, named := ["overburden/align.never"], plainKeys := false, apart := false, laid := [("overburden/align.never", laid_overburden_align_never)] }
def AlignPulsesSaid : Prop := alignPulsesRow.holds Tryd.pinned (OpenSpec.ofChange alignPulsesSpec)

/-- ITS FALSE NEIGHBOUR: 'it returns false'. Refute it at one input. -/
def alignPulsesWrong : ChangeSpec := { name := "alignPulses", fn := fun _ => fun
  | [d1, d2] => { results := [.lit (.bool false)], args := [d1, d2] }
  | _ => none }
def AlignPulsesWrongFalsely : Prop := alignPulsesRow.holds Tryd.pinned (OpenSpec.ofChange alignPulsesWrong)

/-- 'overburdenlaw03.AlignAttains': WHATEVER THE INPUT: true; the input reads as it did. -/
def alignAttainsSpec : ChangeSpec := { name := "alignAttains", fn := fun _ => fun
  | [d1, d2, d3] => { results := [.lit (.bool true)], args := [d1, d2, d3] }
  | _ => none }
def alignAttainsRow : OpenClaim := { program := "ytedhjaaikeakoaadoor", sum := "5e25d92596078d44cd651c7340090e038e04c9094afa1a8dd3c30f85b332de6d", func := "overburden/overburdenlaw03.AlignAttains", spec := "alignAttains", unfollowed := true, recurses := true, named := ["overburden/align.never"], plainKeys := false, apart := false, laid := [("overburden/align.never", laid_overburden_align_never)] }
def AlignAttainsSaid : Prop := alignAttainsRow.holds Tryd.pinned (OpenSpec.ofChange alignAttainsSpec)

/-- ITS FALSE NEIGHBOUR: 'it returns false'. Refute it at one input. -/
def alignAttainsWrong : ChangeSpec := { name := "alignAttains", fn := fun _ => fun
  | [d1, d2, d3] => { results := [.lit (.bool false)], args := [d1, d2, d3] }
  | _ => none }
def AlignAttainsWrongFalsely : Prop := alignAttainsRow.holds Tryd.pinned (OpenSpec.ofChange alignAttainsWrong)

/-- 'overburdenlaw03.AlignChecks': WHATEVER THE INPUT: true; the input reads as it did. -/
def alignChecksSpec : ChangeSpec := { name := "alignChecks", fn := fun _ => fun
  | [d1, d2] => { results := [.lit (.bool true)], args := [d1, d2] }
  | _ => none }
def alignChecksRow : OpenClaim := { program := "ytedhjaaikeakoaadoor", sum := "5e25d92596078d44cd651c7340090e038e04c9094afa1a8dd3c30f85b332de6d", func := "overburden/overburdenlaw03.AlignChecks", spec := "alignChecks", unfollowed := true, recurses := true, named := ["overburden/align.never"], plainKeys := false, apart := false, laid := [("overburden/align.never", laid_overburden_align_never)] }
def AlignChecksSaid : Prop := alignChecksRow.holds Tryd.pinned (OpenSpec.ofChange alignChecksSpec)

/-- ITS FALSE NEIGHBOUR: 'it returns false'. Refute it at one input. -/
def alignChecksWrong : ChangeSpec := { name := "alignChecks", fn := fun _ => fun
  | [d1, d2] => { results := [.lit (.bool false)], args := [d1, d2] }
  | _ => none }
def AlignChecksWrongFalsely : Prop := alignChecksRow.holds Tryd.pinned (OpenSpec.ofChange alignChecksWrong)

/-- 'overburdenlaw03.AlignContradicts': WHATEVER THE INPUT: true; the input reads as it did. -/
def alignContradictsSpec : ChangeSpec := { name := "alignContradicts", fn := fun _ => fun
  | [d1, d2, d3] => { results := [.lit (.bool true)], args := [d1, d2, d3] }
  | _ => none }
def alignContradictsRow : OpenClaim := { program := "ytedhjaaikeakoaadoor", sum := "5e25d92596078d44cd651c7340090e038e04c9094afa1a8dd3c30f85b332de6d", func := "overburden/overburdenlaw03.AlignContradicts", spec := "alignContradicts", unfollowed := true, recurses := true, named := ["overburden/align.never"], plainKeys := false, apart := false, laid := [("overburden/align.never", laid_overburden_align_never)] }
def AlignContradictsSaid : Prop := alignContradictsRow.holds Tryd.pinned (OpenSpec.ofChange alignContradictsSpec)

/-- ITS FALSE NEIGHBOUR: 'it returns false'. Refute it at one input. -/
def alignContradictsWrong : ChangeSpec := { name := "alignContradicts", fn := fun _ => fun
  | [d1, d2, d3] => { results := [.lit (.bool false)], args := [d1, d2, d3] }
  | _ => none }
def AlignContradictsWrongFalsely : Prop := alignContradictsRow.holds Tryd.pinned (OpenSpec.ofChange alignContradictsWrong)

/-- 'overburdenlaw03.AlignEither': WHATEVER THE INPUT: true; the input reads as it did. -/
def alignEitherSpec : ChangeSpec := { name := "alignEither", fn := fun _ => fun
  | [d1, d2, d3, d4] => { results := [.lit (.bool true)], args := [d1, d2, d3, d4] }
  | _ => none }
def alignEitherRow : OpenClaim := { program := "ytedhjaaikeakoaadoor", sum := "5e25d92596078d44cd651c7340090e038e04c9094afa1a8dd3c30f85b332de6d", func := "overburden/overburdenlaw03.AlignEither", spec := "alignEither", unfollowed := true, recurses := true, named := ["overburden/align.never"], plainKeys := false, apart := false, laid := [("overburden/align.never", laid_overburden_align_never)] }
def AlignEitherSaid : Prop := alignEitherRow.holds Tryd.pinned (OpenSpec.ofChange alignEitherSpec)

/-- ITS FALSE NEIGHBOUR: 'it returns false'. Refute it at one input. -/
def alignEitherWrong : ChangeSpec := { name := "alignEither", fn := fun _ => fun
  | [d1, d2, d3, d4] => { results := [.lit (.bool false)], args := [d1, d2, d3, d4] }
  | _ => none }
def AlignEitherWrongFalsely : Prop := alignEitherRow.holds Tryd.pinned (OpenSpec.ofChange alignEitherWrong)

/-- 'overburdenlaw03.AlignChains': WHATEVER THE INPUT: true; the input reads as it did. -/
def alignChainsSpec : ChangeSpec := { name := "alignChains", fn := fun _ => fun
  | [d1, d2, d3] => { results := [.lit (.bool true)], args := [d1, d2, d3] }
  | _ => none }
def alignChainsRow : OpenClaim := { program := "ytedhjaaikeakoaadoor", sum := "5e25d92596078d44cd651c7340090e038e04c9094afa1a8dd3c30f85b332de6d", func := "overburden/overburdenlaw03.AlignChains", spec := "alignChains", unfollowed := true, recurses := true, named := ["overburden/align.never"], plainKeys := false, apart := false, laid := [("overburden/align.never", laid_overburden_align_never)] }
def AlignChainsSaid : Prop := alignChainsRow.holds Tryd.pinned (OpenSpec.ofChange alignChainsSpec)

/-- ITS FALSE NEIGHBOUR: 'it returns false'. Refute it at one input. -/
def alignChainsWrong : ChangeSpec := { name := "alignChains", fn := fun _ => fun
  | [d1, d2, d3] => { results := [.lit (.bool false)], args := [d1, d2, d3] }
  | _ => none }
def AlignChainsWrongFalsely : Prop := alignChainsRow.holds Tryd.pinned (OpenSpec.ofChange alignChainsWrong)

/-- 'overburdenlaw03.AlignProves': WHATEVER THE INPUT: true; the input reads as it did. -/
def alignProvesSpec : ChangeSpec := { name := "alignProves", fn := fun _ => fun
  | [d1, d2, d3, d4] => { results := [.lit (.bool true)], args := [d1, d2, d3, d4] }
  | _ => none }
def alignProvesRow : OpenClaim := { program := "ytedhjaaikeakoaadoor", sum := "5e25d92596078d44cd651c7340090e038e04c9094afa1a8dd3c30f85b332de6d", func := "overburden/overburdenlaw03.AlignProves", spec := "alignProves", unfollowed := true, recurses := true, named := ["overburden/align.never"], plainKeys := false, apart := false, laid := [("overburden/align.never", laid_overburden_align_never)] }
def AlignProvesSaid : Prop := alignProvesRow.holds Tryd.pinned (OpenSpec.ofChange alignProvesSpec)

/-- ITS FALSE NEIGHBOUR: 'it returns false'. Refute it at one input. -/
def alignProvesWrong : ChangeSpec := { name := "alignProves", fn := fun _ => fun
  | [d1, d2, d3, d4] => { results := [.lit (.bool false)], args := [d1, d2, d3, d4] }
  | _ => none }
def AlignProvesWrongFalsely : Prop := alignProvesRow.holds Tryd.pinned (OpenSpec.ofChange alignProvesWrong)

/-- 'overburdenlaw03.AlignClocks': WHATEVER THE INPUT: true; the input reads as it did. -/
def alignClocksSpec : ChangeSpec := { name := "alignClocks", fn := fun _ => fun
  | [d1, d2, d3, d4] => { results := [.lit (.bool true)], args := [d1, d2, d3, d4] }
  | _ => none }
def alignClocksRow : OpenClaim := { program := "ytedhjaaikeakoaadoor", sum := "5e25d92596078d44cd651c7340090e038e04c9094afa1a8dd3c30f85b332de6d", func := "overburden/overburdenlaw03.AlignClocks", spec := "alignClocks", unfollowed := true, recurses := true, named := ["overburden/align.never"], plainKeys := false, apart := false, laid := [("overburden/align.never", laid_overburden_align_never)] }
def AlignClocksSaid : Prop := alignClocksRow.holds Tryd.pinned (OpenSpec.ofChange alignClocksSpec)

/-- ITS FALSE NEIGHBOUR: 'it returns false'. Refute it at one input. -/
def alignClocksWrong : ChangeSpec := { name := "alignClocks", fn := fun _ => fun
  | [d1, d2, d3, d4] => { results := [.lit (.bool false)], args := [d1, d2, d3, d4] }
  | _ => none }
def AlignClocksWrongFalsely : Prop := alignClocksRow.holds Tryd.pinned (OpenSpec.ofChange alignClocksWrong)

/-- 'overburdenlaw03.AlignNeeds': WHATEVER THE INPUT: true; the input reads as it did. -/
def alignNeedsSpec : ChangeSpec := { name := "alignNeeds", fn := fun _ => fun
  | [d] => { results := [.lit (.bool true)], args := [d] }
  | _ => none }
def alignNeedsRow : OpenClaim := { program := "ytedhjaaikeakoaadoor", sum := "5e25d92596078d44cd651c7340090e038e04c9094afa1a8dd3c30f85b332de6d", func := "overburden/overburdenlaw03.AlignNeeds", spec := "alignNeeds", unfollowed := true, recurses := true, named := ["overburden/align.never"], plainKeys := false, apart := false, laid := [("overburden/align.never", laid_overburden_align_never)] }
def AlignNeedsSaid : Prop := alignNeedsRow.holds Tryd.pinned (OpenSpec.ofChange alignNeedsSpec)

/-- ITS FALSE NEIGHBOUR: 'it returns false'. Refute it at one input. -/
def alignNeedsWrong : ChangeSpec := { name := "alignNeeds", fn := fun _ => fun
  | [d] => { results := [.lit (.bool false)], args := [d] }
  | _ => none }
def AlignNeedsWrongFalsely : Prop := alignNeedsRow.holds Tryd.pinned (OpenSpec.ofChange alignNeedsWrong)

/-- 'overburdenlaw03.AlignEpochs': WHATEVER THE INPUT: true; the input reads as it did. -/
def alignEpochsSpec : ChangeSpec := { name := "alignEpochs", fn := fun _ => fun
  | [d1, d2] => { results := [.lit (.bool true)], args := [d1, d2] }
  | _ => none }
def alignEpochsRow : OpenClaim := { program := "ytedhjaaikeakoaadoor", sum := "5e25d92596078d44cd651c7340090e038e04c9094afa1a8dd3c30f85b332de6d", func := "overburden/overburdenlaw03.AlignEpochs", spec := "alignEpochs", unfollowed := true, recurses := true, named := ["overburden/align.never"], plainKeys := false, apart := false, laid := [("overburden/align.never", laid_overburden_align_never)] }
def AlignEpochsSaid : Prop := alignEpochsRow.holds Tryd.pinned (OpenSpec.ofChange alignEpochsSpec)

/-- ITS FALSE NEIGHBOUR: 'it returns false'. Refute it at one input. -/
def alignEpochsWrong : ChangeSpec := { name := "alignEpochs", fn := fun _ => fun
  | [d1, d2] => { results := [.lit (.bool false)], args := [d1, d2] }
  | _ => none }
def AlignEpochsWrongFalsely : Prop := alignEpochsRow.holds Tryd.pinned (OpenSpec.ofChange alignEpochsWrong)

/-- 'overburdenlaw03.AlignDrifts': WHATEVER THE INPUT: true; the input reads as it did. -/
def alignDriftsSpec : ChangeSpec := { name := "alignDrifts", fn := fun _ => fun
  | [d1, d2, d3] => { results := [.lit (.bool true)], args := [d1, d2, d3] }
  | _ => none }
def alignDriftsRow : OpenClaim := { program := "ytedhjaaikeakoaadoor", sum := "5e25d92596078d44cd651c7340090e038e04c9094afa1a8dd3c30f85b332de6d", func := "overburden/overburdenlaw03.AlignDrifts", spec := "alignDrifts", unfollowed := true, recurses := true, named := ["overburden/align.never"], plainKeys := false, apart := false, laid := [("overburden/align.never", laid_overburden_align_never)] }
def AlignDriftsSaid : Prop := alignDriftsRow.holds Tryd.pinned (OpenSpec.ofChange alignDriftsSpec)

/-- ITS FALSE NEIGHBOUR: 'it returns false'. Refute it at one input. -/
def alignDriftsWrong : ChangeSpec := { name := "alignDrifts", fn := fun _ => fun
  | [d1, d2, d3] => { results := [.lit (.bool false)], args := [d1, d2, d3] }
  | _ => none }
def AlignDriftsWrongFalsely : Prop := alignDriftsRow.holds Tryd.pinned (OpenSpec.ofChange alignDriftsWrong)

/-- 'overburdenlaw03.AlignMerges': WHATEVER THE INPUT: true; the input reads as it did. -/
def alignMergesSpec : ChangeSpec := { name := "alignMerges", fn := fun _ => fun
  | [d1, d2] => { results := [.lit (.bool true)], args := [d1, d2] }
  | _ => none }
def alignMergesRow : OpenClaim := { program := "ytedhjaaikeakoaadoor", sum := "5e25d92596078d44cd651c7340090e038e04c9094afa1a8dd3c30f85b332de6d", func := "overburden/overburdenlaw03.AlignMerges", spec := "alignMerges", unfollowed := true, recurses := true, named := ["overburden/align.never"], plainKeys := false, apart := false, laid := [("overburden/align.never", laid_overburden_align_never)] }
def AlignMergesSaid : Prop := alignMergesRow.holds Tryd.pinned (OpenSpec.ofChange alignMergesSpec)

/-- ITS FALSE NEIGHBOUR: 'it returns false'. Refute it at one input. -/
def alignMergesWrong : ChangeSpec := { name := "alignMerges", fn := fun _ => fun
  | [d1, d2] => { results := [.lit (.bool false)], args := [d1, d2] }
  | _ => none }
def AlignMergesWrongFalsely : Prop := alignMergesRow.holds Tryd.pinned (OpenSpec.ofChange alignMergesWrong)

/- THE SECOND FORM. 'bulk': how many values and letters a reading holds, each counted each time it is reached (what is shared counts as often as it is met; a slice's spare places count too). A statement '..UptoSaid' is the law's where the arguments, and the package variables that the reading takes, are together of bulk at most 1048576: NARROWER than '..Said'. Prove '..Said' where nothing that the law and all that it calls make is longer than what came in: it says more and counts as full. Else prove '..UptoSaid'. A law counts once. -/
mutual
def uptoBulk {H : Type} : DataW H → Nat
  | .lit (.string bytes) => bytes.length + 1
  | .lit _ => 1
  | .nil => 1
  | .ptr d => uptoBulk d + 1
  | .slice elems spare => uptoBulkAll elems + uptoBulkAll spare + 1
  | .agg parts => uptoBulkAll parts + 1
  | .iface _ d => uptoBulk d + 1
  | .map entries => uptoBulkEntries entries + 1
  | .held _ => 1
def uptoBulkAll {H : Type} : List (DataW H) → Nat
  | [] => 0
  | d :: r => uptoBulk d + uptoBulkAll r
def uptoBulkEntries {H : Type} : List (Lit × DataW H) → Nat
  | [] => 0
  | x :: r => uptoBulkEntry x + uptoBulkEntries r
def uptoBulkEntry {H : Type} : Lit × DataW H → Nat
  | (.string bytes, d) => bytes.length + uptoBulk d + 1
  | (_, d) => uptoBulk d + 1
 end
def uptoSmall : (H : Type) → List (DataW H) → Bool := fun _ ds => decide (uptoBulkAll ds ≤ 1048576)
def OpenSpec.upto (s : _root_.Go.ChangeSpec) : _root_.Go.OpenSpec := { _root_.Go.OpenSpec.ofChange s with cond := some uptoSmall }

/-- 'overburdenlaw03.AlignBlames', WHERE WHAT IT READS IS OF BULK AT MOST 1048576: true; the input reads as it did. -/
def alignBlamesUptoRow : OpenClaim := { program := "ytedhjaaikeakoaadoor", sum := "5e25d92596078d44cd651c7340090e038e04c9094afa1a8dd3c30f85b332de6d", func := "overburden/overburdenlaw03.AlignBlames", spec := "alignBlames", unfollowed := true, recurses := true, named := ["overburden/align.never"], plainKeys := false, apart := false, laid := [("overburden/align.never", laid_overburden_align_never)], narrowed := true }
def AlignBlamesUptoSaid : Prop := alignBlamesUptoRow.holds Tryd.pinned (OpenSpec.upto alignBlamesSpec)

/-- 'overburdenlaw03.AlignFewest', WHERE WHAT IT READS IS OF BULK AT MOST 1048576: true; the input reads as it did. -/
def alignFewestUptoRow : OpenClaim := { program := "ytedhjaaikeakoaadoor", sum := "5e25d92596078d44cd651c7340090e038e04c9094afa1a8dd3c30f85b332de6d", func := "overburden/overburdenlaw03.AlignFewest", spec := "alignFewest", unfollowed := true, recurses := true, named := ["overburden/align.never"], plainKeys := false, apart := false, laid := [("overburden/align.never", laid_overburden_align_never)], narrowed := true }
def AlignFewestUptoSaid : Prop := alignFewestUptoRow.holds Tryd.pinned (OpenSpec.upto alignFewestSpec)

/-- 'overburdenlaw03.AlignTurned', WHERE WHAT IT READS IS OF BULK AT MOST 1048576: true; the input reads as it did. -/
def alignTurnedUptoRow : OpenClaim := { program := "ytedhjaaikeakoaadoor", sum := "5e25d92596078d44cd651c7340090e038e04c9094afa1a8dd3c30f85b332de6d", func := "overburden/overburdenlaw03.AlignTurned", spec := "alignTurned", unfollowed := true, recurses := true, named := ["overburden/align.never"], plainKeys := false, apart := false, laid := [("overburden/align.never", laid_overburden_align_never)], narrowed := true }
def AlignTurnedUptoSaid : Prop := alignTurnedUptoRow.holds Tryd.pinned (OpenSpec.upto alignTurnedSpec)

/-- 'overburdenlaw03.AlignBounds', WHERE WHAT IT READS IS OF BULK AT MOST 1048576: true; the input reads as it did. -/
def alignBoundsUptoRow : OpenClaim := { program := "ytedhjaaikeakoaadoor", sum := "5e25d92596078d44cd651c7340090e038e04c9094afa1a8dd3c30f85b332de6d", func := "overburden/overburdenlaw03.AlignBounds", spec := "alignBounds", unfollowed := true, recurses := true, named := ["overburden/align.never"], plainKeys := false, apart := false, laid := [("overburden/align.never", laid_overburden_align_never)], narrowed := true }
def AlignBoundsUptoSaid : Prop := alignBoundsUptoRow.holds Tryd.pinned (OpenSpec.upto alignBoundsSpec)

/-- 'overburdenlaw03.AlignFollows', WHERE WHAT IT READS IS OF BULK AT MOST 1048576: true; the input reads as it did. -/
def alignFollowsUptoRow : OpenClaim := { program := "ytedhjaaikeakoaadoor", sum := "5e25d92596078d44cd651c7340090e038e04c9094afa1a8dd3c30f85b332de6d", func := "overburden/overburdenlaw03.AlignFollows", spec := "alignFollows", unfollowed := true, recurses := true, named := ["overburden/align.never"], plainKeys := false, apart := false, laid := [("overburden/align.never", laid_overburden_align_never)], narrowed := true }
def AlignFollowsUptoSaid : Prop := alignFollowsUptoRow.holds Tryd.pinned (OpenSpec.upto alignFollowsSpec)

/-- 'overburdenlaw03.AlignPulses', WHERE WHAT IT READS IS OF BULK AT MOST 1048576: true; the input reads as it did. -/
def alignPulsesUptoRow : OpenClaim := { program := "ytedhjaaikeakoaadoor", sum := "5e25d92596078d44cd651c7340090e038e04c9094afa1a8dd3c30f85b332de6d", func := "overburden/overburdenlaw03.AlignPulses", spec := "alignPulses", unfollowed := true, recurses := true, named := ["overburden/align.never"], plainKeys := false, apart := false, laid := [("overburden/align.never", laid_overburden_align_never)], narrowed := true }
def AlignPulsesUptoSaid : Prop := alignPulsesUptoRow.holds Tryd.pinned (OpenSpec.upto alignPulsesSpec)

/-- 'overburdenlaw03.AlignAttains', WHERE WHAT IT READS IS OF BULK AT MOST 1048576: true; the input reads as it did. -/
def alignAttainsUptoRow : OpenClaim := { program := "ytedhjaaikeakoaadoor", sum := "5e25d92596078d44cd651c7340090e038e04c9094afa1a8dd3c30f85b332de6d", func := "overburden/overburdenlaw03.AlignAttains", spec := "alignAttains", unfollowed := true, recurses := true, named := ["overburden/align.never"], plainKeys := false, apart := false, laid := [("overburden/align.never", laid_overburden_align_never)], narrowed := true }
def AlignAttainsUptoSaid : Prop := alignAttainsUptoRow.holds Tryd.pinned (OpenSpec.upto alignAttainsSpec)

/-- 'overburdenlaw03.AlignChecks', WHERE WHAT IT READS IS OF BULK AT MOST 1048576: true; the input reads as it did. -/
def alignChecksUptoRow : OpenClaim := { program := "ytedhjaaikeakoaadoor", sum := "5e25d92596078d44cd651c7340090e038e04c9094afa1a8dd3c30f85b332de6d", func := "overburden/overburdenlaw03.AlignChecks", spec := "alignChecks", unfollowed := true, recurses := true, named := ["overburden/align.never"], plainKeys := false, apart := false, laid := [("overburden/align.never", laid_overburden_align_never)], narrowed := true }
def AlignChecksUptoSaid : Prop := alignChecksUptoRow.holds Tryd.pinned (OpenSpec.upto alignChecksSpec)

/-- 'overburdenlaw03.AlignContradicts', WHERE WHAT IT READS IS OF BULK AT MOST 1048576: true; the input reads as it did. -/
def alignContradictsUptoRow : OpenClaim := { program := "ytedhjaaikeakoaadoor", sum := "5e25d92596078d44cd651c7340090e038e04c9094afa1a8dd3c30f85b332de6d", func := "overburden/overburdenlaw03.AlignContradicts", spec := "alignContradicts", unfollowed := true, recurses := true, named := ["overburden/align.never"], plainKeys := false, apart := false, laid := [("overburden/align.never", laid_overburden_align_never)], narrowed := true }
def AlignContradictsUptoSaid : Prop := alignContradictsUptoRow.holds Tryd.pinned (OpenSpec.upto alignContradictsSpec)

/-- 'overburdenlaw03.AlignEither', WHERE WHAT IT READS IS OF BULK AT MOST 1048576: true; the input reads as it did. -/
def alignEitherUptoRow : OpenClaim := { program := "ytedhjaaikeakoaadoor", sum := "5e25d92596078d44cd651c7340090e038e04c9094afa1a8dd3c30f85b332de6d", func := "overburden/overburdenlaw03.AlignEither", spec := "alignEither", unfollowed := true, recurses := true, named := ["overburden/align.never"], plainKeys := false, apart := false, laid := [("overburden/align.never", laid_overburden_align_never)], narrowed := true }
def AlignEitherUptoSaid : Prop := alignEitherUptoRow.holds Tryd.pinned (OpenSpec.upto alignEitherSpec)

/-- 'overburdenlaw03.AlignChains', WHERE WHAT IT READS IS OF BULK AT MOST 1048576: true; the input reads as it did. -/
def alignChainsUptoRow : OpenClaim := { program := "ytedhjaaikeakoaadoor", sum := "5e25d92596078d44cd651c7340090e038e04c9094afa1a8dd3c30f85b332de6d", func := "overburden/overburdenlaw03.AlignChains", spec := "alignChains", unfollowed := true, recurses := true, named := ["overburden/align.never"], plainKeys := false, apart := false, laid := [("overburden/align.never", laid_overburden_align_never)], narrowed := true }
def AlignChainsUptoSaid : Prop := alignChainsUptoRow.holds Tryd.pinned (OpenSpec.upto alignChainsSpec)

/-- 'overburdenlaw03.AlignProves', WHERE WHAT IT READS IS OF BULK AT MOST 1048576: true; the input reads as it did. -/
def alignProvesUptoRow : OpenClaim := { program := "ytedhjaaikeakoaadoor", sum := "5e25d92596078d44cd651c7340090e038e04c9094afa1a8dd3c30f85b332de6d", func := "overburden/overburdenlaw03.AlignProves", spec := "alignProves", unfollowed := true, recurses := true, named := ["overburden/align.never"], plainKeys := false, apart := false, laid := [("overburden/align.never", laid_overburden_align_never)], narrowed := true }
def AlignProvesUptoSaid : Prop := alignProvesUptoRow.holds Tryd.pinned (OpenSpec.upto alignProvesSpec)

/-- 'overburdenlaw03.AlignClocks', WHERE WHAT IT READS IS OF BULK AT MOST 1048576: true; the input reads as it did. -/
def alignClocksUptoRow : OpenClaim := { program := "ytedhjaaikeakoaadoor", sum := "5e25d92596078d44cd651c7340090e038e04c9094afa1a8dd3c30f85b332de6d", func := "overburden/overburdenlaw03.AlignClocks", spec := "alignClocks", unfollowed := true, recurses := true, named := ["overburden/align.never"], plainKeys := false, apart := false, laid := [("overburden/align.never", laid_overburden_align_never)], narrowed := true }
def AlignClocksUptoSaid : Prop := alignClocksUptoRow.holds Tryd.pinned (OpenSpec.upto alignClocksSpec)

/-- 'overburdenlaw03.AlignNeeds', WHERE WHAT IT READS IS OF BULK AT MOST 1048576: true; the input reads as it did. -/
def alignNeedsUptoRow : OpenClaim := { program := "ytedhjaaikeakoaadoor", sum := "5e25d92596078d44cd651c7340090e038e04c9094afa1a8dd3c30f85b332de6d", func := "overburden/overburdenlaw03.AlignNeeds", spec := "alignNeeds", unfollowed := true, recurses := true, named := ["overburden/align.never"], plainKeys := false, apart := false, laid := [("overburden/align.never", laid_overburden_align_never)], narrowed := true }
def AlignNeedsUptoSaid : Prop := alignNeedsUptoRow.holds Tryd.pinned (OpenSpec.upto alignNeedsSpec)

/-- 'overburdenlaw03.AlignEpochs', WHERE WHAT IT READS IS OF BULK AT MOST 1048576: true; the input reads as it did. -/
def alignEpochsUptoRow : OpenClaim := { program := "ytedhjaaikeakoaadoor", sum := "5e25d92596078d44cd651c7340090e038e04c9094afa1a8dd3c30f85b332de6d", func := "overburden/overburdenlaw03.AlignEpochs", spec := "alignEpochs", unfollowed := true, recurses := true, named := ["overburden/align.never"], plainKeys := false, apart := false, laid := [("overburden/align.never", laid_overburden_align_never)], narrowed := true }
def AlignEpochsUptoSaid : Prop := alignEpochsUptoRow.holds Tryd.pinned (OpenSpec.upto alignEpochsSpec)

/-- 'overburdenlaw03.AlignDrifts', WHERE WHAT IT READS IS OF BULK AT MOST 1048576: true; the input reads as it did. -/
def alignDriftsUptoRow : OpenClaim := { program := "ytedhjaaikeakoaadoor", sum := "5e25d92596078d44cd651c7340090e038e04c9094afa1a8dd3c30f85b332de6d", func := "overburden/overburdenlaw03.AlignDrifts", spec := "alignDrifts", unfollowed := true, recurses := true, named := ["overburden/align.never"], plainKeys := false, apart := false, laid := [("overburden/align.never", laid_overburden_align_never)], narrowed := true }
def AlignDriftsUptoSaid : Prop := alignDriftsUptoRow.holds Tryd.pinned (OpenSpec.upto alignDriftsSpec)

/-- 'overburdenlaw03.AlignMerges', WHERE WHAT IT READS IS OF BULK AT MOST 1048576: true; the input reads as it did. -/
def alignMergesUptoRow : OpenClaim := { program := "ytedhjaaikeakoaadoor", sum := "5e25d92596078d44cd651c7340090e038e04c9094afa1a8dd3c30f85b332de6d", func := "overburden/overburdenlaw03.AlignMerges", spec := "alignMerges", unfollowed := true, recurses := true, named := ["overburden/align.never"], plainKeys := false, apart := false, laid := [("overburden/align.never", laid_overburden_align_never)], narrowed := true }
def AlignMergesUptoSaid : Prop := alignMergesUptoRow.holds Tryd.pinned (OpenSpec.upto alignMergesSpec)

end Rows
end Go.Proofs.YtedhjaaikeakoaaDoor
