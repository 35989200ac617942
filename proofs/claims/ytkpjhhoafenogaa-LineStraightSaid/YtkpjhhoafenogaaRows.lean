/-
  No cell of these rows narrows 'for every input' (looked for: loops, veiled, ifaces, maps, wideKeys, modest, calm, conditions, laid).
  DERIVED. THE GIVEN ROWS OF THIS SEAT. 15 by the template 'for every input the law returns true; each argument reads behind the call as it read before'; 0 by the template 'total and deterministic' (their statements: YtkpjhhoafenogaaTotals.lean).
  GIVEN WITH THE SEED: the statements are not yours to turn. If you find one false, say at which input.
  Laid BY PROGRAM, IN A SANDBOX (cutbox-rows.mjs): the forced cells as the released guide's own fill.sh prints them over the translation 456fe97c6553d999… (all of the seat's roots in one cut). By AI agents, Wed Nov 11 2026. No macro, syntax, notation, axiom, sorry.
-/
import Derived.Test.YtkpjhhoafenogaaChecked
import GoSem.Claim
import GoSem.ClaimJoined
import GoSem.ClaimMapViews
import Derived.JoinedTies
import Derived.KernelRfl
namespace Go.Proofs.Ytkpjhhoafenogaa
/- THE CELL 'sum', in the pinned program and in every row, IS THE sha256 OF THE DUMP (.gsa) THAT YtkpjhhoafenogaaProg.lean LOADS. Nothing in Lean hashes anything: it is a label: what it is worth is what the hold of that sum in a sandbox is worth. -/
noncomputable def Try.pinned : Pinned := { name := "ytkpjhhoafenogaa", sum := "456fe97c6553d999e3f40b1236cd305f2713e85b5f1558c7ed88e126d9de65ae", checked := Try.checked }
namespace Rows
def none {H : Type} : Left H := { results := [], args := [] }

/-- 'overburdenlaw02.LineCross': WHATEVER THE INPUT: true; the input reads as it did. -/
def lineCrossSpec : ChangeSpec := { name := "lineCross", fn := fun _ => fun
  | [d1, d2, d3, d4] => { results := [.lit (.bool true)], args := [d1, d2, d3, d4] }
  | _ => none }
def lineCrossRow : OpenClaim := { program := "ytkpjhhoafenogaa", sum := "456fe97c6553d999e3f40b1236cd305f2713e85b5f1558c7ed88e126d9de65ae", func := "overburden/overburdenlaw02.LineCross", spec := "lineCross", unfollowed := true, recurses := true, plainKeys := false, apart := false }
def LineCrossSaid : Prop := lineCrossRow.holds Try.pinned (OpenSpec.ofChange lineCrossSpec)

/-- ITS FALSE NEIGHBOUR: 'it returns false'. Refute it at one input. -/
def lineCrossWrong : ChangeSpec := { name := "lineCross", fn := fun _ => fun
  | [d1, d2, d3, d4] => { results := [.lit (.bool false)], args := [d1, d2, d3, d4] }
  | _ => none }
def LineCrossWrongFalsely : Prop := lineCrossRow.holds Try.pinned (OpenSpec.ofChange lineCrossWrong)

/-- 'overburdenlaw02.LineVertex': WHATEVER THE INPUT: true; the input reads as it did. -/
def lineVertexSpec : ChangeSpec := { name := "lineVertex", fn := fun _ => fun
  | [d1, d2, d3, d4, d5, d6, d7] => { results := [.lit (.bool true)], args := [d1, d2, d3, d4, d5, d6, d7] }
  | _ => none }
def lineVertexRow : OpenClaim := { program := "ytkpjhhoafenogaa", sum := "456fe97c6553d999e3f40b1236cd305f2713e85b5f1558c7ed88e126d9de65ae", func := "overburden/overburdenlaw02.LineVertex", spec := "lineVertex", unfollowed := true, recurses := true, plainKeys := false, apart := false }
def LineVertexSaid : Prop := lineVertexRow.holds Try.pinned (OpenSpec.ofChange lineVertexSpec)

/-- ITS FALSE NEIGHBOUR: 'it returns false'. Refute it at one input. -/
def lineVertexWrong : ChangeSpec := { name := "lineVertex", fn := fun _ => fun
  | [d1, d2, d3, d4, d5, d6, d7] => { results := [.lit (.bool false)], args := [d1, d2, d3, d4, d5, d6, d7] }
  | _ => none }
def LineVertexWrongFalsely : Prop := lineVertexRow.holds Try.pinned (OpenSpec.ofChange lineVertexWrong)

/-- 'overburdenlaw02.LineCorners': WHATEVER THE INPUT: true; the input reads as it did. -/
def lineCornersSpec : ChangeSpec := { name := "lineCorners", fn := fun _ => fun
  | [d] => { results := [.lit (.bool true)], args := [d] }
  | _ => none }
def lineCornersRow : OpenClaim := { program := "ytkpjhhoafenogaa", sum := "456fe97c6553d999e3f40b1236cd305f2713e85b5f1558c7ed88e126d9de65ae", func := "overburden/overburdenlaw02.LineCorners", spec := "lineCorners", unfollowed := true, recurses := true, plainKeys := false, apart := false }
def LineCornersSaid : Prop := lineCornersRow.holds Try.pinned (OpenSpec.ofChange lineCornersSpec)

/-- ITS FALSE NEIGHBOUR: 'it returns false'. Refute it at one input. -/
def lineCornersWrong : ChangeSpec := { name := "lineCorners", fn := fun _ => fun
  | [d] => { results := [.lit (.bool false)], args := [d] }
  | _ => none }
def LineCornersWrongFalsely : Prop := lineCornersRow.holds Try.pinned (OpenSpec.ofChange lineCornersWrong)

/-- 'overburdenlaw02.LineBounds': WHATEVER THE INPUT: true; the input reads as it did. -/
def lineBoundsSpec : ChangeSpec := { name := "lineBounds", fn := fun _ => fun
  | [d1, d2] => { results := [.lit (.bool true)], args := [d1, d2] }
  | _ => none }
def lineBoundsRow : OpenClaim := { program := "ytkpjhhoafenogaa", sum := "456fe97c6553d999e3f40b1236cd305f2713e85b5f1558c7ed88e126d9de65ae", func := "overburden/overburdenlaw02.LineBounds", spec := "lineBounds", unfollowed := true, recurses := true, plainKeys := false, apart := false }
def LineBoundsSaid : Prop := lineBoundsRow.holds Try.pinned (OpenSpec.ofChange lineBoundsSpec)

/-- ITS FALSE NEIGHBOUR: 'it returns false'. Refute it at one input. -/
def lineBoundsWrong : ChangeSpec := { name := "lineBounds", fn := fun _ => fun
  | [d1, d2] => { results := [.lit (.bool false)], args := [d1, d2] }
  | _ => none }
def LineBoundsWrongFalsely : Prop := lineBoundsRow.holds Try.pinned (OpenSpec.ofChange lineBoundsWrong)

/-- 'overburdenlaw02.LineMoved': WHATEVER THE INPUT: true; the input reads as it did. -/
def lineMovedSpec : ChangeSpec := { name := "lineMoved", fn := fun _ => fun
  | [d1, d2, d3, d4] => { results := [.lit (.bool true)], args := [d1, d2, d3, d4] }
  | _ => none }
def lineMovedRow : OpenClaim := { program := "ytkpjhhoafenogaa", sum := "456fe97c6553d999e3f40b1236cd305f2713e85b5f1558c7ed88e126d9de65ae", func := "overburden/overburdenlaw02.LineMoved", spec := "lineMoved", unfollowed := true, recurses := true, plainKeys := false, apart := false }
def LineMovedSaid : Prop := lineMovedRow.holds Try.pinned (OpenSpec.ofChange lineMovedSpec)

/-- ITS FALSE NEIGHBOUR: 'it returns false'. Refute it at one input. -/
def lineMovedWrong : ChangeSpec := { name := "lineMoved", fn := fun _ => fun
  | [d1, d2, d3, d4] => { results := [.lit (.bool false)], args := [d1, d2, d3, d4] }
  | _ => none }
def LineMovedWrongFalsely : Prop := lineMovedRow.holds Try.pinned (OpenSpec.ofChange lineMovedWrong)

/-- 'overburdenlaw02.LineEmpty': WHATEVER THE INPUT: true; the input reads as it did. -/
def lineEmptySpec : ChangeSpec := { name := "lineEmpty", fn := fun _ => fun
  | [d1, d2] => { results := [.lit (.bool true)], args := [d1, d2] }
  | _ => none }
def lineEmptyRow : OpenClaim := { program := "ytkpjhhoafenogaa", sum := "456fe97c6553d999e3f40b1236cd305f2713e85b5f1558c7ed88e126d9de65ae", func := "overburden/overburdenlaw02.LineEmpty", spec := "lineEmpty", unfollowed := true, recurses := true, plainKeys := false, apart := false }
def LineEmptySaid : Prop := lineEmptyRow.holds Try.pinned (OpenSpec.ofChange lineEmptySpec)

/-- ITS FALSE NEIGHBOUR: 'it returns false'. Refute it at one input. -/
def lineEmptyWrong : ChangeSpec := { name := "lineEmpty", fn := fun _ => fun
  | [d1, d2] => { results := [.lit (.bool false)], args := [d1, d2] }
  | _ => none }
def LineEmptyWrongFalsely : Prop := lineEmptyRow.holds Try.pinned (OpenSpec.ofChange lineEmptyWrong)

/-- 'overburdenlaw02.LineKinks': WHATEVER THE INPUT: true; the input reads as it did. -/
def lineKinksSpec : ChangeSpec := { name := "lineKinks", fn := fun _ => fun
  | [d1, d2] => { results := [.lit (.bool true)], args := [d1, d2] }
  | _ => none }
def lineKinksRow : OpenClaim := { program := "ytkpjhhoafenogaa", sum := "456fe97c6553d999e3f40b1236cd305f2713e85b5f1558c7ed88e126d9de65ae", func := "overburden/overburdenlaw02.LineKinks", spec := "lineKinks", unfollowed := true, recurses := true, plainKeys := false, apart := false }
def LineKinksSaid : Prop := lineKinksRow.holds Try.pinned (OpenSpec.ofChange lineKinksSpec)

/-- ITS FALSE NEIGHBOUR: 'it returns false'. Refute it at one input. -/
def lineKinksWrong : ChangeSpec := { name := "lineKinks", fn := fun _ => fun
  | [d1, d2] => { results := [.lit (.bool false)], args := [d1, d2] }
  | _ => none }
def LineKinksWrongFalsely : Prop := lineKinksRow.holds Try.pinned (OpenSpec.ofChange lineKinksWrong)

/-- 'overburdenlaw02.LineEither': WHATEVER THE INPUT: true; the input reads as it did. -/
def lineEitherSpec : ChangeSpec := { name := "lineEither", fn := fun _ => fun
  | [d1, d2, d3, d4, d5] => { results := [.lit (.bool true)], args := [d1, d2, d3, d4, d5] }
  | _ => none }
def lineEitherRow : OpenClaim := { program := "ytkpjhhoafenogaa", sum := "456fe97c6553d999e3f40b1236cd305f2713e85b5f1558c7ed88e126d9de65ae", func := "overburden/overburdenlaw02.LineEither", spec := "lineEither", unfollowed := true, recurses := true, plainKeys := false, apart := false }
def LineEitherSaid : Prop := lineEitherRow.holds Try.pinned (OpenSpec.ofChange lineEitherSpec)

/-- ITS FALSE NEIGHBOUR: 'it returns false'. Refute it at one input. -/
def lineEitherWrong : ChangeSpec := { name := "lineEither", fn := fun _ => fun
  | [d1, d2, d3, d4, d5] => { results := [.lit (.bool false)], args := [d1, d2, d3, d4, d5] }
  | _ => none }
def LineEitherWrongFalsely : Prop := lineEitherRow.holds Try.pinned (OpenSpec.ofChange lineEitherWrong)

/-- 'overburdenlaw02.LineMeets': WHATEVER THE INPUT: true; the input reads as it did. -/
def lineMeetsSpec : ChangeSpec := { name := "lineMeets", fn := fun _ => fun
  | [d1, d2] => { results := [.lit (.bool true)], args := [d1, d2] }
  | _ => none }
def lineMeetsRow : OpenClaim := { program := "ytkpjhhoafenogaa", sum := "456fe97c6553d999e3f40b1236cd305f2713e85b5f1558c7ed88e126d9de65ae", func := "overburden/overburdenlaw02.LineMeets", spec := "lineMeets", unfollowed := true, recurses := true, plainKeys := false, apart := false }
def LineMeetsSaid : Prop := lineMeetsRow.holds Try.pinned (OpenSpec.ofChange lineMeetsSpec)

/-- ITS FALSE NEIGHBOUR: 'it returns false'. Refute it at one input. -/
def lineMeetsWrong : ChangeSpec := { name := "lineMeets", fn := fun _ => fun
  | [d1, d2] => { results := [.lit (.bool false)], args := [d1, d2] }
  | _ => none }
def LineMeetsWrongFalsely : Prop := lineMeetsRow.holds Try.pinned (OpenSpec.ofChange lineMeetsWrong)

/-- 'overburdenlaw02.LineFewer': WHATEVER THE INPUT: true; the input reads as it did. -/
def lineFewerSpec : ChangeSpec := { name := "lineFewer", fn := fun _ => fun
  | [d1, d2, d3] => { results := [.lit (.bool true)], args := [d1, d2, d3] }
  | _ => none }
def lineFewerRow : OpenClaim := { program := "ytkpjhhoafenogaa", sum := "456fe97c6553d999e3f40b1236cd305f2713e85b5f1558c7ed88e126d9de65ae", func := "overburden/overburdenlaw02.LineFewer", spec := "lineFewer", unfollowed := true, recurses := true, plainKeys := false, apart := false }
def LineFewerSaid : Prop := lineFewerRow.holds Try.pinned (OpenSpec.ofChange lineFewerSpec)

/-- ITS FALSE NEIGHBOUR: 'it returns false'. Refute it at one input. -/
def lineFewerWrong : ChangeSpec := { name := "lineFewer", fn := fun _ => fun
  | [d1, d2, d3] => { results := [.lit (.bool false)], args := [d1, d2, d3] }
  | _ => none }
def LineFewerWrongFalsely : Prop := lineFewerRow.holds Try.pinned (OpenSpec.ofChange lineFewerWrong)

/-- 'overburdenlaw02.LineChecks': WHATEVER THE INPUT: true; the input reads as it did. -/
def lineChecksSpec : ChangeSpec := { name := "lineChecks", fn := fun _ => fun
  | [d1, d2] => { results := [.lit (.bool true)], args := [d1, d2] }
  | _ => none }
def lineChecksRow : OpenClaim := { program := "ytkpjhhoafenogaa", sum := "456fe97c6553d999e3f40b1236cd305f2713e85b5f1558c7ed88e126d9de65ae", func := "overburden/overburdenlaw02.LineChecks", spec := "lineChecks", unfollowed := true, recurses := true, plainKeys := false, apart := false }
def LineChecksSaid : Prop := lineChecksRow.holds Try.pinned (OpenSpec.ofChange lineChecksSpec)

/-- ITS FALSE NEIGHBOUR: 'it returns false'. Refute it at one input. -/
def lineChecksWrong : ChangeSpec := { name := "lineChecks", fn := fun _ => fun
  | [d1, d2] => { results := [.lit (.bool false)], args := [d1, d2] }
  | _ => none }
def LineChecksWrongFalsely : Prop := lineChecksRow.holds Try.pinned (OpenSpec.ofChange lineChecksWrong)

/-- 'overburdenlaw02.LineTrue': WHATEVER THE INPUT: true; the input reads as it did. -/
def lineTrueSpec : ChangeSpec := { name := "lineTrue", fn := fun _ => fun
  | [d1, d2, d3, d4, d5, d6] => { results := [.lit (.bool true)], args := [d1, d2, d3, d4, d5, d6] }
  | _ => none }
def lineTrueRow : OpenClaim := { program := "ytkpjhhoafenogaa", sum := "456fe97c6553d999e3f40b1236cd305f2713e85b5f1558c7ed88e126d9de65ae", func := "overburden/overburdenlaw02.LineTrue", spec := "lineTrue", unfollowed := true, recurses := true, plainKeys := false, apart := false }
def LineTrueSaid : Prop := lineTrueRow.holds Try.pinned (OpenSpec.ofChange lineTrueSpec)

/-- ITS FALSE NEIGHBOUR: 'it returns false'. Refute it at one input. -/
def lineTrueWrong : ChangeSpec := { name := "lineTrue", fn := fun _ => fun
  | [d1, d2, d3, d4, d5, d6] => { results := [.lit (.bool false)], args := [d1, d2, d3, d4, d5, d6] }
  | _ => none }
def LineTrueWrongFalsely : Prop := lineTrueRow.holds Try.pinned (OpenSpec.ofChange lineTrueWrong)

/-- 'overburdenlaw02.LineStraight': WHATEVER THE INPUT: true; the input reads as it did. -/
def lineStraightSpec : ChangeSpec := { name := "lineStraight", fn := fun _ => fun
  | [d1, d2] => { results := [.lit (.bool true)], args := [d1, d2] }
  | _ => none }
def lineStraightRow : OpenClaim := { program := "ytkpjhhoafenogaa", sum := "456fe97c6553d999e3f40b1236cd305f2713e85b5f1558c7ed88e126d9de65ae", func := "overburden/overburdenlaw02.LineStraight", spec := "lineStraight", unfollowed := true, recurses := true, plainKeys := false, apart := false }
def LineStraightSaid : Prop := lineStraightRow.holds Try.pinned (OpenSpec.ofChange lineStraightSpec)

/-- ITS FALSE NEIGHBOUR: 'it returns false'. Refute it at one input. -/
def lineStraightWrong : ChangeSpec := { name := "lineStraight", fn := fun _ => fun
  | [d1, d2] => { results := [.lit (.bool false)], args := [d1, d2] }
  | _ => none }
def LineStraightWrongFalsely : Prop := lineStraightRow.holds Try.pinned (OpenSpec.ofChange lineStraightWrong)

/-- 'overburdenlaw02.LineBent': WHATEVER THE INPUT: true; the input reads as it did. -/
def lineBentSpec : ChangeSpec := { name := "lineBent", fn := fun _ => fun
  | [d1, d2, d3] => { results := [.lit (.bool true)], args := [d1, d2, d3] }
  | _ => none }
def lineBentRow : OpenClaim := { program := "ytkpjhhoafenogaa", sum := "456fe97c6553d999e3f40b1236cd305f2713e85b5f1558c7ed88e126d9de65ae", func := "overburden/overburdenlaw02.LineBent", spec := "lineBent", unfollowed := true, recurses := true, plainKeys := false, apart := false }
def LineBentSaid : Prop := lineBentRow.holds Try.pinned (OpenSpec.ofChange lineBentSpec)

/-- ITS FALSE NEIGHBOUR: 'it returns false'. Refute it at one input. -/
def lineBentWrong : ChangeSpec := { name := "lineBent", fn := fun _ => fun
  | [d1, d2, d3] => { results := [.lit (.bool false)], args := [d1, d2, d3] }
  | _ => none }
def LineBentWrongFalsely : Prop := lineBentRow.holds Try.pinned (OpenSpec.ofChange lineBentWrong)

/-- 'overburdenlaw02.LineFlat': WHATEVER THE INPUT: true; the input reads as it did. -/
def lineFlatSpec : ChangeSpec := { name := "lineFlat", fn := fun _ => fun
  | [d1, d2, d3, d4] => { results := [.lit (.bool true)], args := [d1, d2, d3, d4] }
  | _ => none }
def lineFlatRow : OpenClaim := { program := "ytkpjhhoafenogaa", sum := "456fe97c6553d999e3f40b1236cd305f2713e85b5f1558c7ed88e126d9de65ae", func := "overburden/overburdenlaw02.LineFlat", spec := "lineFlat", unfollowed := true, recurses := true, plainKeys := false, apart := false }
def LineFlatSaid : Prop := lineFlatRow.holds Try.pinned (OpenSpec.ofChange lineFlatSpec)

/-- ITS FALSE NEIGHBOUR: 'it returns false'. Refute it at one input. -/
def lineFlatWrong : ChangeSpec := { name := "lineFlat", fn := fun _ => fun
  | [d1, d2, d3, d4] => { results := [.lit (.bool false)], args := [d1, d2, d3, d4] }
  | _ => none }
def LineFlatWrongFalsely : Prop := lineFlatRow.holds Try.pinned (OpenSpec.ofChange lineFlatWrong)

/- THE SECOND FORM. 'bulk': how many values and letters a reading holds, each counted each time it is reached (what is shared counts as often as it is met; a slice's spare places count too). A statement '..UptoSaid' is the law's where the arguments, and the package variables that the reading takes, are together of bulk at most 1048576: NARROWER than '..Said'. Prove '..Said' where nothing that the law and all that it calls make is longer than what came in: it says more and counts as full. Else prove '..UptoSaid'. A law counts once. -/
mutual
def uptoBulk {H : Type} : DataW H → Nat
  | .lit (.string bytes) => bytes.length + 1
  | .lit _ => 1
  | .nil => 1
  | .ptr d => uptoBulk d + 1
  | .slice elems spare => uptoBulkAll elems + uptoBulkAll spare + 1
  | .agg parts => uptoBulkAll parts + 1
  | .iface _ d => uptoBulk d + 1
  | .map entries => uptoBulkEntries entries + 1
  | .held _ => 1
def uptoBulkAll {H : Type} : List (DataW H) → Nat
  | [] => 0
  | d :: r => uptoBulk d + uptoBulkAll r
def uptoBulkEntries {H : Type} : List (Lit × DataW H) → Nat
  | [] => 0
  | x :: r => uptoBulkEntry x + uptoBulkEntries r
def uptoBulkEntry {H : Type} : Lit × DataW H → Nat
  | (.string bytes, d) => bytes.length + uptoBulk d + 1
  | (_, d) => uptoBulk d + 1
 end
def uptoSmall : (H : Type) → List (DataW H) → Bool := fun _ ds => decide (uptoBulkAll ds ≤ 1048576)
def OpenSpec.upto (s : _root_.Go.ChangeSpec) : _root_.Go.OpenSpec := { _root_.Go.OpenSpec.ofChange s with cond := some uptoSmall }

/-- 'overburdenlaw02.LineCross', WHERE WHAT IT READS IS OF BULK AT MOST 1048576: true; the input reads as it did. -/
def lineCrossUptoRow : OpenClaim := { program := "ytkpjhhoafenogaa", sum := "456fe97c6553d999e3f40b1236cd305f2713e85b5f1558c7ed88e126d9de65ae", func := "overburden/overburdenlaw02.LineCross", spec := "lineCross", unfollowed := true, recurses := true, plainKeys := false, apart := false, narrowed := true }
def LineCrossUptoSaid : Prop := lineCrossUptoRow.holds Try.pinned (OpenSpec.upto lineCrossSpec)

/-- 'overburdenlaw02.LineVertex', WHERE WHAT IT READS IS OF BULK AT MOST 1048576: true; the input reads as it did. -/
def lineVertexUptoRow : OpenClaim := { program := "ytkpjhhoafenogaa", sum := "456fe97c6553d999e3f40b1236cd305f2713e85b5f1558c7ed88e126d9de65ae", func := "overburden/overburdenlaw02.LineVertex", spec := "lineVertex", unfollowed := true, recurses := true, plainKeys := false, apart := false, narrowed := true }
def LineVertexUptoSaid : Prop := lineVertexUptoRow.holds Try.pinned (OpenSpec.upto lineVertexSpec)

/-- 'overburdenlaw02.LineCorners', WHERE WHAT IT READS IS OF BULK AT MOST 1048576: true; the input reads as it did. -/
def lineCornersUptoRow : OpenClaim := { program := "ytkpjhhoafenogaa", sum := "456fe97c6553d999e3f40b1236cd305f2713e85b5f1558c7ed88e126d9de65ae", func := "overburden/overburdenlaw02.LineCorners", spec := "lineCorners", unfollowed := true, recurses := true, plainKeys := false, apart := false, narrowed := true }
def LineCornersUptoSaid : Prop := lineCornersUptoRow.holds Try.pinned (OpenSpec.upto lineCornersSpec)

/-- 'overburdenlaw02.LineBounds', WHERE WHAT IT READS IS OF BULK AT MOST 1048576: true; the input reads as it did. -/
def lineBoundsUptoRow : OpenClaim := { program := "ytkpjhhoafenogaa", sum := "456fe97c6553d999e3f40b1236cd305f2713e85b5f1558c7ed88e126d9de65ae", func := "overburden/overburdenlaw02.LineBounds", spec := "lineBounds", unfollowed := true, recurses := true, plainKeys := false, apart := false, narrowed := true }
def LineBoundsUptoSaid : Prop := lineBoundsUptoRow.holds Try.pinned (OpenSpec.upto lineBoundsSpec)

/-- 'overburdenlaw02.LineMoved', WHERE WHAT IT READS IS OF BULK AT MOST 1048576: true; the input reads as it did. -/
def lineMovedUptoRow : OpenClaim := { program := "ytkpjhhoafenogaa", sum := "456fe97c6553d999e3f40b1236cd305f2713e85b5f1558c7ed88e126d9de65ae", func := "overburden/overburdenlaw02.LineMoved", spec := "lineMoved", unfollowed := true, recurses := true, plainKeys := false, apart := false, narrowed := true }
def LineMovedUptoSaid : Prop := lineMovedUptoRow.holds Try.pinned (OpenSpec.upto lineMovedSpec)

/-- 'overburdenlaw02.LineEmpty', WHERE WHAT IT READS IS OF BULK AT MOST 1048576: true; the input reads as it did. -/
def lineEmptyUptoRow : OpenClaim := { program := "ytkpjhhoafenogaa", sum := "456fe97c6553d999e3f40b1236cd305f2713e85b5f1558c7ed88e126d9de65ae", func := "overburden/overburdenlaw02.LineEmpty", spec := "lineEmpty", unfollowed := true, recurses := true, plainKeys := false, apart := false, narrowed := true }
def LineEmptyUptoSaid : Prop := lineEmptyUptoRow.holds Try.pinned (OpenSpec.upto lineEmptySpec)

/-- 'overburdenlaw02.LineKinks', WHERE WHAT IT READS IS OF BULK AT MOST 1048576: true; the input reads as it did. -/
def lineKinksUptoRow : OpenClaim := { program := "ytkpjhhoafenogaa", sum := "456fe97c6553d999e3f40b1236cd305f2713e85b5f1558c7ed88e126d9de65ae", func := "overburden/overburdenlaw02.LineKinks", spec := "lineKinks", unfollowed := true, recurses := true, plainKeys := false, apart := false, narrowed := true }
def LineKinksUptoSaid : Prop := lineKinksUptoRow.holds Try.pinned (OpenSpec.upto lineKinksSpec)

/-- 'overburdenlaw02.LineEither', WHERE WHAT IT READS IS OF BULK AT MOST 1048576: true; the input reads as it did. -/
def lineEitherUptoRow : OpenClaim := { program := "ytkpjhhoafenogaa", sum := "456fe97c6553d999e3f40b1236cd305f2713e85b5f1558c7ed88e126d9de65ae", func := "overburden/overburdenlaw02.LineEither", spec := "lineEither", unfollowed := true, recurses := true, plainKeys := false, apart := false, narrowed := true }
def LineEitherUptoSaid : Prop := lineEitherUptoRow.holds Try.pinned (OpenSpec.upto lineEitherSpec)

/-- 'overburdenlaw02.LineMeets', WHERE WHAT IT READS IS OF BULK AT MOST 1048576: true; the input reads as it did. -/
def lineMeetsUptoRow : OpenClaim := { program := "ytkpjhhoafenogaa", sum := "456fe97c6553d999e3f40b1236cd305f2713e85b5f1558c7ed88e126d9de65ae", func := "overburden/overburdenlaw02.LineMeets", spec := "lineMeets", unfollowed := true, recurses := true, plainKeys := false, apart := false, narrowed := true }
def LineMeetsUptoSaid : Prop := lineMeetsUptoRow.holds Try.pinned (OpenSpec.upto lineMeetsSpec)

/-- 'overburdenlaw02.LineFewer', WHERE WHAT IT READS IS OF BULK AT MOST 1048576: true; the input reads as it did. -/
def lineFewerUptoRow : OpenClaim := { program := "ytkpjhhoafenogaa", sum := "456fe97c6553d999e3f40b1236cd305f2713e85b5f1558c7ed88e126d9de65ae", func := "overburden/overburdenlaw02.LineFewer", spec := "lineFewer", unfollowed := true, recurses := true, plainKeys := false, apart := false, narrowed := true }
def LineFewerUptoSaid : Prop := lineFewerUptoRow.holds Try.pinned (OpenSpec.upto lineFewerSpec)

/-- 'overburdenlaw02.LineChecks', WHERE WHAT IT READS IS OF BULK AT MOST 1048576: true; the input reads as it did. -/
def lineChecksUptoRow : OpenClaim := { program := "ytkpjhhoafenogaa", sum := "456fe97c6553d999e3f40b1236cd305f2713e85b5f1558c7ed88e126d9de65ae", func := "overburden/overburdenlaw02.LineChecks", spec := "lineChecks", unfollowed := true, recurses := true, plainKeys := false, apart := false, narrowed := true }
def LineChecksUptoSaid : Prop := lineChecksUptoRow.holds Try.pinned (OpenSpec.upto lineChecksSpec)

/-- 'overburdenlaw02.LineTrue', WHERE WHAT IT READS IS OF BULK AT MOST 1048576: true; the input reads as it did. -/
def lineTrueUptoRow : OpenClaim := { program := "ytkpjhhoafenogaa", sum := "456fe97c6553d999e3f40b1236cd305f2713e85b5f1558c7ed88e126d9de65ae", func := "overburden/overburdenlaw02.LineTrue", spec := "lineTrue", unfollowed := true, recurses := true, plainKeys := false, apart := false, narrowed := true }
def LineTrueUptoSaid : Prop := lineTrueUptoRow.holds Try.pinned (OpenSpec.upto lineTrueSpec)

/-- 'overburdenlaw02.LineStraight', WHERE WHAT IT READS IS OF BULK AT MOST 1048576: true; the input reads as it did. -/
def lineStraightUptoRow : OpenClaim := { program := "ytkpjhhoafenogaa", sum := "456fe97c6553d999e3f40b1236cd305f2713e85b5f1558c7ed88e126d9de65ae", func := "overburden/overburdenlaw02.LineStraight", spec := "lineStraight", unfollowed := true, recurses := true, plainKeys := false, apart := false, narrowed := true }
def LineStraightUptoSaid : Prop := lineStraightUptoRow.holds Try.pinned (OpenSpec.upto lineStraightSpec)

/-- 'overburdenlaw02.LineBent', WHERE WHAT IT READS IS OF BULK AT MOST 1048576: true; the input reads as it did. -/
def lineBentUptoRow : OpenClaim := { program := "ytkpjhhoafenogaa", sum := "456fe97c6553d999e3f40b1236cd305f2713e85b5f1558c7ed88e126d9de65ae", func := "overburden/overburdenlaw02.LineBent", spec := "lineBent", unfollowed := true, recurses := true, plainKeys := false, apart := false, narrowed := true }
def LineBentUptoSaid : Prop := lineBentUptoRow.holds Try.pinned (OpenSpec.upto lineBentSpec)

/-- 'overburdenlaw02.LineFlat', WHERE WHAT IT READS IS OF BULK AT MOST 1048576: true; the input reads as it did. -/
def lineFlatUptoRow : OpenClaim := { program := "ytkpjhhoafenogaa", sum := "456fe97c6553d999e3f40b1236cd305f2713e85b5f1558c7ed88e126d9de65ae", func := "overburden/overburdenlaw02.LineFlat", spec := "lineFlat", unfollowed := true, recurses := true, plainKeys := false, apart := false, narrowed := true }
def LineFlatUptoSaid : Prop := lineFlatUptoRow.holds Try.pinned (OpenSpec.upto lineFlatSpec)

end Rows
end Go.Proofs.Ytkpjhhoafenogaa
