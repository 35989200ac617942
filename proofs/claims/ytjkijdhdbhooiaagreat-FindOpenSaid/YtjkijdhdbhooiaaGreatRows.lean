/-
  No cell of these rows narrows 'for every input' (looked for: loops, veiled, ifaces, maps, wideKeys, modest, calm, conditions, laid).
  DERIVED. THE GIVEN ROWS OF THIS SEAT. 14 by the template 'for every input the law returns true; each argument reads behind the call as it read before'; 0 by the template 'total and deterministic' (their statements: YtjkijdhdbhooiaaGreatTotals.lean).
  GIVEN WITH THE SEED: the statements are not yours to turn. If you find one false, say at which input.
  Laid BY PROGRAM, IN A SANDBOX (cutbox-rows.mjs): the forced cells as the released guide's own fill.sh prints them over the translation 1cd10544fe8ebbdf… (all of the seat's roots in one cut). By AI agents, Wed Nov 11 2026. No macro, syntax, notation, axiom, sorry.
-/
import Derived.Test.YtjkijdhdbhooiaaGreatChecked
import GoSem.Claim
import GoSem.ClaimJoined
import GoSem.ClaimMapViews
import Derived.JoinedTies
import Derived.KernelRfl
namespace Go.Proofs.YtjkijdhdbhooiaaGreat
/- THE CELL 'sum', in the pinned program and in every row, IS THE sha256 OF THE DUMP (.gsa) THAT YtjkijdhdbhooiaaGreatProg.lean LOADS. Nothing in Lean hashes anything: it is a label: what it is worth is what the hold of that sum in a sandbox is worth. -/
noncomputable def Tryz.pinned : Pinned := { name := "ytjkijdhdbhooiaagreat", sum := "1cd10544fe8ebbdfd5e08147773910ad9395ed838a57226915072bce34933f15", checked := Tryz.checked }
namespace Rows
def none {H : Type} : Left H := { results := [], args := [] }

/-- 'overburdenlaw04.FindTrue': WHATEVER THE INPUT: true; the input reads as it did. -/
def findTrueSpec : ChangeSpec := { name := "findTrue", fn := fun _ => fun
  | [d1, d2, d3, d4, d5, d6] => { results := [.lit (.bool true)], args := [d1, d2, d3, d4, d5, d6] }
  | _ => none }
def findTrueRow : OpenClaim := { program := "ytjkijdhdbhooiaagreat", sum := "1cd10544fe8ebbdfd5e08147773910ad9395ed838a57226915072bce34933f15", func := "overburden/overburdenlaw04.FindTrue", spec := "findTrue", unfollowed := true, recurses := true, plainKeys := false, apart := false }
def FindTrueSaid : Prop := findTrueRow.holds Tryz.pinned (OpenSpec.ofChange findTrueSpec)

/-- ITS FALSE NEIGHBOUR: 'it returns false'. Refute it at one input. -/
def findTrueWrong : ChangeSpec := { name := "findTrue", fn := fun _ => fun
  | [d1, d2, d3, d4, d5, d6] => { results := [.lit (.bool false)], args := [d1, d2, d3, d4, d5, d6] }
  | _ => none }
def FindTrueWrongFalsely : Prop := findTrueRow.holds Tryz.pinned (OpenSpec.ofChange findTrueWrong)

/-- 'overburdenlaw04.FindWhy': WHATEVER THE INPUT: true; the input reads as it did. -/
def findWhySpec : ChangeSpec := { name := "findWhy", fn := fun _ => fun
  | [d1, d2, d3, d4] => { results := [.lit (.bool true)], args := [d1, d2, d3, d4] }
  | _ => none }
def findWhyRow : OpenClaim := { program := "ytjkijdhdbhooiaagreat", sum := "1cd10544fe8ebbdfd5e08147773910ad9395ed838a57226915072bce34933f15", func := "overburden/overburdenlaw04.FindWhy", spec := "findWhy", unfollowed := true, recurses := true, plainKeys := false, apart := false }
def FindWhySaid : Prop := findWhyRow.holds Tryz.pinned (OpenSpec.ofChange findWhySpec)

/-- ITS FALSE NEIGHBOUR: 'it returns false'. Refute it at one input. -/
def findWhyWrong : ChangeSpec := { name := "findWhy", fn := fun _ => fun
  | [d1, d2, d3, d4] => { results := [.lit (.bool false)], args := [d1, d2, d3, d4] }
  | _ => none }
def FindWhyWrongFalsely : Prop := findWhyRow.holds Tryz.pinned (OpenSpec.ofChange findWhyWrong)

/-- 'overburdenlaw04.FindMuons': WHATEVER THE INPUT: true; the input reads as it did. -/
def findMuonsSpec : ChangeSpec := { name := "findMuons", fn := fun _ => fun
  | [d1, d2, d3] => { results := [.lit (.bool true)], args := [d1, d2, d3] }
  | _ => none }
def findMuonsRow : OpenClaim := { program := "ytjkijdhdbhooiaagreat", sum := "1cd10544fe8ebbdfd5e08147773910ad9395ed838a57226915072bce34933f15", func := "overburden/overburdenlaw04.FindMuons", spec := "findMuons", unfollowed := true, recurses := true, plainKeys := false, apart := false }
def FindMuonsSaid : Prop := findMuonsRow.holds Tryz.pinned (OpenSpec.ofChange findMuonsSpec)

/-- ITS FALSE NEIGHBOUR: 'it returns false'. Refute it at one input. -/
def findMuonsWrong : ChangeSpec := { name := "findMuons", fn := fun _ => fun
  | [d1, d2, d3] => { results := [.lit (.bool false)], args := [d1, d2, d3] }
  | _ => none }
def FindMuonsWrongFalsely : Prop := findMuonsRow.holds Tryz.pinned (OpenSpec.ofChange findMuonsWrong)

/-- 'overburdenlaw04.FindPaired': WHATEVER THE INPUT: true; the input reads as it did. -/
def findPairedSpec : ChangeSpec := { name := "findPaired", fn := fun _ => fun
  | [d1, d2, d3, d4, d5, d6, d7] => { results := [.lit (.bool true)], args := [d1, d2, d3, d4, d5, d6, d7] }
  | _ => none }
def findPairedRow : OpenClaim := { program := "ytjkijdhdbhooiaagreat", sum := "1cd10544fe8ebbdfd5e08147773910ad9395ed838a57226915072bce34933f15", func := "overburden/overburdenlaw04.FindPaired", spec := "findPaired", unfollowed := true, recurses := true, plainKeys := false, apart := false }
def FindPairedSaid : Prop := findPairedRow.holds Tryz.pinned (OpenSpec.ofChange findPairedSpec)

/-- ITS FALSE NEIGHBOUR: 'it returns false'. Refute it at one input. -/
def findPairedWrong : ChangeSpec := { name := "findPaired", fn := fun _ => fun
  | [d1, d2, d3, d4, d5, d6, d7] => { results := [.lit (.bool false)], args := [d1, d2, d3, d4, d5, d6, d7] }
  | _ => none }
def FindPairedWrongFalsely : Prop := findPairedRow.holds Tryz.pinned (OpenSpec.ofChange findPairedWrong)

/-- 'overburdenlaw04.FindNumber': WHATEVER THE INPUT: true; the input reads as it did. -/
def findNumberSpec : ChangeSpec := { name := "findNumber", fn := fun _ => fun
  | [d1, d2, d3, d4] => { results := [.lit (.bool true)], args := [d1, d2, d3, d4] }
  | _ => none }
def findNumberRow : OpenClaim := { program := "ytjkijdhdbhooiaagreat", sum := "1cd10544fe8ebbdfd5e08147773910ad9395ed838a57226915072bce34933f15", func := "overburden/overburdenlaw04.FindNumber", spec := "findNumber", unfollowed := true, recurses := true, plainKeys := false, apart := false }
def FindNumberSaid : Prop := findNumberRow.holds Tryz.pinned (OpenSpec.ofChange findNumberSpec)

/-- ITS FALSE NEIGHBOUR: 'it returns false'. Refute it at one input. -/
def findNumberWrong : ChangeSpec := { name := "findNumber", fn := fun _ => fun
  | [d1, d2, d3, d4] => { results := [.lit (.bool false)], args := [d1, d2, d3, d4] }
  | _ => none }
def FindNumberWrongFalsely : Prop := findNumberRow.holds Tryz.pinned (OpenSpec.ofChange findNumberWrong)

/-- 'overburdenlaw04.FindFewest': WHATEVER THE INPUT: true; the input reads as it did. -/
def findFewestSpec : ChangeSpec := { name := "findFewest", fn := fun _ => fun
  | [d1, d2, d3, d4, d5] => { results := [.lit (.bool true)], args := [d1, d2, d3, d4, d5] }
  | _ => none }
def findFewestRow : OpenClaim := { program := "ytjkijdhdbhooiaagreat", sum := "1cd10544fe8ebbdfd5e08147773910ad9395ed838a57226915072bce34933f15", func := "overburden/overburdenlaw04.FindFewest", spec := "findFewest", unfollowed := true, recurses := true, plainKeys := false, apart := false }
def FindFewestSaid : Prop := findFewestRow.holds Tryz.pinned (OpenSpec.ofChange findFewestSpec)

/-- ITS FALSE NEIGHBOUR: 'it returns false'. Refute it at one input. -/
def findFewestWrong : ChangeSpec := { name := "findFewest", fn := fun _ => fun
  | [d1, d2, d3, d4, d5] => { results := [.lit (.bool false)], args := [d1, d2, d3, d4, d5] }
  | _ => none }
def FindFewestWrongFalsely : Prop := findFewestRow.holds Tryz.pinned (OpenSpec.ofChange findFewestWrong)

/-- 'overburdenlaw04.FindBins': WHATEVER THE INPUT: true; the input reads as it did. -/
def findBinsSpec : ChangeSpec := { name := "findBins", fn := fun _ => fun
  | [d1, d2, d3, d4] => { results := [.lit (.bool true)], args := [d1, d2, d3, d4] }
  | _ => none }
def findBinsRow : OpenClaim := { program := "ytjkijdhdbhooiaagreat", sum := "1cd10544fe8ebbdfd5e08147773910ad9395ed838a57226915072bce34933f15", func := "overburden/overburdenlaw04.FindBins", spec := "findBins", unfollowed := true, recurses := true, plainKeys := false, apart := false }
def FindBinsSaid : Prop := findBinsRow.holds Tryz.pinned (OpenSpec.ofChange findBinsSpec)

/-- ITS FALSE NEIGHBOUR: 'it returns false'. Refute it at one input. -/
def findBinsWrong : ChangeSpec := { name := "findBins", fn := fun _ => fun
  | [d1, d2, d3, d4] => { results := [.lit (.bool false)], args := [d1, d2, d3, d4] }
  | _ => none }
def FindBinsWrongFalsely : Prop := findBinsRow.holds Tryz.pinned (OpenSpec.ofChange findBinsWrong)

/-- 'overburdenlaw04.FindMore': WHATEVER THE INPUT: true; the input reads as it did. -/
def findMoreSpec : ChangeSpec := { name := "findMore", fn := fun _ => fun
  | [d1, d2, d3, d4] => { results := [.lit (.bool true)], args := [d1, d2, d3, d4] }
  | _ => none }
def findMoreRow : OpenClaim := { program := "ytjkijdhdbhooiaagreat", sum := "1cd10544fe8ebbdfd5e08147773910ad9395ed838a57226915072bce34933f15", func := "overburden/overburdenlaw04.FindMore", spec := "findMore", unfollowed := true, recurses := true, plainKeys := false, apart := false }
def FindMoreSaid : Prop := findMoreRow.holds Tryz.pinned (OpenSpec.ofChange findMoreSpec)

/-- ITS FALSE NEIGHBOUR: 'it returns false'. Refute it at one input. -/
def findMoreWrong : ChangeSpec := { name := "findMore", fn := fun _ => fun
  | [d1, d2, d3, d4] => { results := [.lit (.bool false)], args := [d1, d2, d3, d4] }
  | _ => none }
def FindMoreWrongFalsely : Prop := findMoreRow.holds Tryz.pinned (OpenSpec.ofChange findMoreWrong)

/-- 'overburdenlaw04.FindLooser': WHATEVER THE INPUT: true; the input reads as it did. -/
def findLooserSpec : ChangeSpec := { name := "findLooser", fn := fun _ => fun
  | [d1, d2, d3, d4, d5] => { results := [.lit (.bool true)], args := [d1, d2, d3, d4, d5] }
  | _ => none }
def findLooserRow : OpenClaim := { program := "ytjkijdhdbhooiaagreat", sum := "1cd10544fe8ebbdfd5e08147773910ad9395ed838a57226915072bce34933f15", func := "overburden/overburdenlaw04.FindLooser", spec := "findLooser", unfollowed := true, recurses := true, plainKeys := false, apart := false }
def FindLooserSaid : Prop := findLooserRow.holds Tryz.pinned (OpenSpec.ofChange findLooserSpec)

/-- ITS FALSE NEIGHBOUR: 'it returns false'. Refute it at one input. -/
def findLooserWrong : ChangeSpec := { name := "findLooser", fn := fun _ => fun
  | [d1, d2, d3, d4, d5] => { results := [.lit (.bool false)], args := [d1, d2, d3, d4, d5] }
  | _ => none }
def FindLooserWrongFalsely : Prop := findLooserRow.holds Tryz.pinned (OpenSpec.ofChange findLooserWrong)

/-- 'overburdenlaw04.FindReasons': WHATEVER THE INPUT: true; the input reads as it did. -/
def findReasonsSpec : ChangeSpec := { name := "findReasons", fn := fun _ => fun
  | [d1, d2, d3, d4] => { results := [.lit (.bool true)], args := [d1, d2, d3, d4] }
  | _ => none }
def findReasonsRow : OpenClaim := { program := "ytjkijdhdbhooiaagreat", sum := "1cd10544fe8ebbdfd5e08147773910ad9395ed838a57226915072bce34933f15", func := "overburden/overburdenlaw04.FindReasons", spec := "findReasons", unfollowed := true, recurses := true, plainKeys := false, apart := false }
def FindReasonsSaid : Prop := findReasonsRow.holds Tryz.pinned (OpenSpec.ofChange findReasonsSpec)

/-- ITS FALSE NEIGHBOUR: 'it returns false'. Refute it at one input. -/
def findReasonsWrong : ChangeSpec := { name := "findReasons", fn := fun _ => fun
  | [d1, d2, d3, d4] => { results := [.lit (.bool false)], args := [d1, d2, d3, d4] }
  | _ => none }
def FindReasonsWrongFalsely : Prop := findReasonsRow.holds Tryz.pinned (OpenSpec.ofChange findReasonsWrong)

/-- 'overburdenlaw04.FindFalls': WHATEVER THE INPUT: true; the input reads as it did. -/
def findFallsSpec : ChangeSpec := { name := "findFalls", fn := fun _ => fun
  | [d1, d2, d3, d4, d5, d6] => { results := [.lit (.bool true)], args := [d1, d2, d3, d4, d5, d6] }
  | _ => none }
def findFallsRow : OpenClaim := { program := "ytjkijdhdbhooiaagreat", sum := "1cd10544fe8ebbdfd5e08147773910ad9395ed838a57226915072bce34933f15", func := "overburden/overburdenlaw04.FindFalls", spec := "findFalls", unfollowed := true, recurses := true, plainKeys := false, apart := false }
def FindFallsSaid : Prop := findFallsRow.holds Tryz.pinned (OpenSpec.ofChange findFallsSpec)

/-- ITS FALSE NEIGHBOUR: 'it returns false'. Refute it at one input. -/
def findFallsWrong : ChangeSpec := { name := "findFalls", fn := fun _ => fun
  | [d1, d2, d3, d4, d5, d6] => { results := [.lit (.bool false)], args := [d1, d2, d3, d4, d5, d6] }
  | _ => none }
def FindFallsWrongFalsely : Prop := findFallsRow.holds Tryz.pinned (OpenSpec.ofChange findFallsWrong)

/-- 'overburdenlaw04.FindOpen': WHATEVER THE INPUT: true; the input reads as it did. -/
def findOpenSpec : ChangeSpec := { name := "findOpen", fn := fun _ => fun
  | [d] => { results := [.lit (.bool true)], args := [d] }
  | _ => none }
def findOpenRow : OpenClaim := { program := "ytjkijdhdbhooiaagreat", sum := "1cd10544fe8ebbdfd5e08147773910ad9395ed838a57226915072bce34933f15", func := "overburden/overburdenlaw04.FindOpen", spec := "findOpen", unfollowed := true, recurses := true, plainKeys := false, apart := false }
def FindOpenSaid : Prop := findOpenRow.holds Tryz.pinned (OpenSpec.ofChange findOpenSpec)

/-- ITS FALSE NEIGHBOUR: 'it returns false'. Refute it at one input. -/
def findOpenWrong : ChangeSpec := { name := "findOpen", fn := fun _ => fun
  | [d] => { results := [.lit (.bool false)], args := [d] }
  | _ => none }
def FindOpenWrongFalsely : Prop := findOpenRow.holds Tryz.pinned (OpenSpec.ofChange findOpenWrong)

/-- 'overburdenlaw04.FindChecks': WHATEVER THE INPUT: true; the input reads as it did. -/
def findChecksSpec : ChangeSpec := { name := "findChecks", fn := fun _ => fun
  | [d1, d2, d3, d4, d5, d6] => { results := [.lit (.bool true)], args := [d1, d2, d3, d4, d5, d6] }
  | _ => none }
def findChecksRow : OpenClaim := { program := "ytjkijdhdbhooiaagreat", sum := "1cd10544fe8ebbdfd5e08147773910ad9395ed838a57226915072bce34933f15", func := "overburden/overburdenlaw04.FindChecks", spec := "findChecks", unfollowed := true, recurses := true, plainKeys := false, apart := false }
def FindChecksSaid : Prop := findChecksRow.holds Tryz.pinned (OpenSpec.ofChange findChecksSpec)

/-- ITS FALSE NEIGHBOUR: 'it returns false'. Refute it at one input. -/
def findChecksWrong : ChangeSpec := { name := "findChecks", fn := fun _ => fun
  | [d1, d2, d3, d4, d5, d6] => { results := [.lit (.bool false)], args := [d1, d2, d3, d4, d5, d6] }
  | _ => none }
def FindChecksWrongFalsely : Prop := findChecksRow.holds Tryz.pinned (OpenSpec.ofChange findChecksWrong)

/-- 'overburdenlaw04.FindTracks': WHATEVER THE INPUT: true; the input reads as it did. -/
def findTracksSpec : ChangeSpec := { name := "findTracks", fn := fun _ => fun
  | [d1, d2, d3] => { results := [.lit (.bool true)], args := [d1, d2, d3] }
  | _ => none }
def findTracksRow : OpenClaim := { program := "ytjkijdhdbhooiaagreat", sum := "1cd10544fe8ebbdfd5e08147773910ad9395ed838a57226915072bce34933f15", func := "overburden/overburdenlaw04.FindTracks", spec := "findTracks", unfollowed := true, recurses := true, plainKeys := false, apart := false }
def FindTracksSaid : Prop := findTracksRow.holds Tryz.pinned (OpenSpec.ofChange findTracksSpec)

/-- ITS FALSE NEIGHBOUR: 'it returns false'. Refute it at one input. -/
def findTracksWrong : ChangeSpec := { name := "findTracks", fn := fun _ => fun
  | [d1, d2, d3] => { results := [.lit (.bool false)], args := [d1, d2, d3] }
  | _ => none }
def FindTracksWrongFalsely : Prop := findTracksRow.holds Tryz.pinned (OpenSpec.ofChange findTracksWrong)

/- THE SECOND FORM. 'bulk': how many values and letters a reading holds, each counted each time it is reached (what is shared counts as often as it is met; a slice's spare places count too). A statement '..UptoSaid' is the law's where the arguments, and the package variables that the reading takes, are together of bulk at most 1048576: NARROWER than '..Said'. Prove '..Said' where nothing that the law and all that it calls make is longer than what came in: it says more and counts as full. Else prove '..UptoSaid'. A law counts once. -/
mutual
def uptoBulk {H : Type} : DataW H → Nat
  | .lit (.string bytes) => bytes.length + 1
  | .lit _ => 1
  | .nil => 1
  | .ptr d => uptoBulk d + 1
  | .slice elems spare => uptoBulkAll elems + uptoBulkAll spare + 1
  | .agg parts => uptoBulkAll parts + 1
  | .iface _ d => uptoBulk d + 1
  | .map entries => uptoBulkEntries entries + 1
  | .held _ => 1
def uptoBulkAll {H : Type} : List (DataW H) → Nat
  | [] => 0
  | d :: r => uptoBulk d + uptoBulkAll r
def uptoBulkEntries {H : Type} : List (Lit × DataW H) → Nat
  | [] => 0
  | x :: r => uptoBulkEntry x + uptoBulkEntries r
def uptoBulkEntry {H : Type} : Lit × DataW H → Nat
  | (.string bytes, d) => bytes.length + uptoBulk d + 1
  | (_, d) => uptoBulk d + 1
 end
def uptoSmall : (H : Type) → List (DataW H) → Bool := fun _ ds => decide (uptoBulkAll ds ≤ 1048576)
def OpenSpec.upto (s : _root_.Go.ChangeSpec) : _root_.Go.OpenSpec := { _root_.Go.OpenSpec.ofChange s with cond := some uptoSmall }

/-- 'overburdenlaw04.FindTrue', WHERE WHAT IT READS IS OF BULK AT MOST 1048576: true; the input reads as it did. -/
def findTrueUptoRow : OpenClaim := { program := "ytjkijdhdbhooiaagreat", sum := "1cd10544fe8ebbdfd5e08147773910ad9395ed838a57226915072bce34933f15", func := "overburden/overburdenlaw04.FindTrue", spec := "findTrue", unfollowed := true, recurses := true, plainKeys := false, apart := false, narrowed := true }
def FindTrueUptoSaid : Prop := findTrueUptoRow.holds Tryz.pinned (OpenSpec.upto findTrueSpec)

/-- 'overburdenlaw04.FindWhy', WHERE WHAT IT READS IS OF BULK AT MOST 1048576: true; the input reads as it did. -/
def findWhyUptoRow : OpenClaim := { program := "ytjkijdhdbhooiaagreat", sum := "1cd10544fe8ebbdfd5e08147773910ad9395ed838a57226915072bce34933f15", func := "overburden/overburdenlaw04.FindWhy", spec := "findWhy", unfollowed := true, recurses := true, plainKeys := false, apart := false, narrowed := true }
def FindWhyUptoSaid : Prop := findWhyUptoRow.holds Tryz.pinned (OpenSpec.upto findWhySpec)

/-- 'overburdenlaw04.FindMuons', WHERE WHAT IT READS IS OF BULK AT MOST 1048576: true; the input reads as it did. -/
def findMuonsUptoRow : OpenClaim := { program := "ytjkijdhdbhooiaagreat", sum := "1cd10544fe8ebbdfd5e08147773910ad9395ed838a57226915072bce34933f15", func := "overburden/overburdenlaw04.FindMuons", spec := "findMuons", unfollowed := true, recurses := true, plainKeys := false, apart := false, narrowed := true }
def FindMuonsUptoSaid : Prop := findMuonsUptoRow.holds Tryz.pinned (OpenSpec.upto findMuonsSpec)

/-- 'overburdenlaw04.FindPaired', WHERE WHAT IT READS IS OF BULK AT MOST 1048576: true; the input reads as it did. -/
def findPairedUptoRow : OpenClaim := { program := "ytjkijdhdbhooiaagreat", sum := "1cd10544fe8ebbdfd5e08147773910ad9395ed838a57226915072bce34933f15", func := "overburden/overburdenlaw04.FindPaired", spec := "findPaired", unfollowed := true, recurses := true, plainKeys := false, apart := false, narrowed := true }
def FindPairedUptoSaid : Prop := findPairedUptoRow.holds Tryz.pinned (OpenSpec.upto findPairedSpec)

/-- 'overburdenlaw04.FindNumber', WHERE WHAT IT READS IS OF BULK AT MOST 1048576: true; the input reads as it did. -/
def findNumberUptoRow : OpenClaim := { program := "ytjkijdhdbhooiaagreat", sum := "1cd10544fe8ebbdfd5e08147773910ad9395ed838a57226915072bce34933f15", func := "overburden/overburdenlaw04.FindNumber", spec := "findNumber", unfollowed := true, recurses := true, plainKeys := false, apart := false, narrowed := true }
def FindNumberUptoSaid : Prop := findNumberUptoRow.holds Tryz.pinned (OpenSpec.upto findNumberSpec)

/-- 'overburdenlaw04.FindFewest', WHERE WHAT IT READS IS OF BULK AT MOST 1048576: true; the input reads as it did. -/
def findFewestUptoRow : OpenClaim := { program := "ytjkijdhdbhooiaagreat", sum := "1cd10544fe8ebbdfd5e08147773910ad9395ed838a57226915072bce34933f15", func := "overburden/overburdenlaw04.FindFewest", spec := "findFewest", unfollowed := true, recurses := true, plainKeys := false, apart := false, narrowed := true }
def FindFewestUptoSaid : Prop := findFewestUptoRow.holds Tryz.pinned (OpenSpec.upto findFewestSpec)

/-- 'overburdenlaw04.FindBins', WHERE WHAT IT READS IS OF BULK AT MOST 1048576: true; the input reads as it did. -/
def findBinsUptoRow : OpenClaim := { program := "ytjkijdhdbhooiaagreat", sum := "1cd10544fe8ebbdfd5e08147773910ad9395ed838a57226915072bce34933f15", func := "overburden/overburdenlaw04.FindBins", spec := "findBins", unfollowed := true, recurses := true, plainKeys := false, apart := false, narrowed := true }
def FindBinsUptoSaid : Prop := findBinsUptoRow.holds Tryz.pinned (OpenSpec.upto findBinsSpec)

/-- 'overburdenlaw04.FindMore', WHERE WHAT IT READS IS OF BULK AT MOST 1048576: true; the input reads as it did. -/
def findMoreUptoRow : OpenClaim := { program := "ytjkijdhdbhooiaagreat", sum := "1cd10544fe8ebbdfd5e08147773910ad9395ed838a57226915072bce34933f15", func := "overburden/overburdenlaw04.FindMore", spec := "findMore", unfollowed := true, recurses := true, plainKeys := false, apart := false, narrowed := true }
def FindMoreUptoSaid : Prop := findMoreUptoRow.holds Tryz.pinned (OpenSpec.upto findMoreSpec)

/-- 'overburdenlaw04.FindLooser', WHERE WHAT IT READS IS OF BULK AT MOST 1048576: true; the input reads as it did. -/
def findLooserUptoRow : OpenClaim := { program := "ytjkijdhdbhooiaagreat", sum := "1cd10544fe8ebbdfd5e08147773910ad9395ed838a57226915072bce34933f15", func := "overburden/overburdenlaw04.FindLooser", spec := "findLooser", unfollowed := true, recurses := true, plainKeys := false, apart := false, narrowed := true }
def FindLooserUptoSaid : Prop := findLooserUptoRow.holds Tryz.pinned (OpenSpec.upto findLooserSpec)

/-- 'overburdenlaw04.FindReasons', WHERE WHAT IT READS IS OF BULK AT MOST 1048576: true; the input reads as it did. -/
def findReasonsUptoRow : OpenClaim := { program := "ytjkijdhdbhooiaagreat", sum := "1cd10544fe8ebbdfd5e08147773910ad9395ed838a57226915072bce34933f15", func := "overburden/overburdenlaw04.FindReasons", spec := "findReasons", unfollowed := true, recurses := true, plainKeys := false, apart := false, narrowed := true }
def FindReasonsUptoSaid : Prop := findReasonsUptoRow.holds Tryz.pinned (OpenSpec.upto findReasonsSpec)

/-- 'overburdenlaw04.FindFalls', WHERE WHAT IT READS IS OF BULK AT MOST 1048576: true; the input reads as it did. -/
def findFallsUptoRow : OpenClaim := { program := "ytjkijdhdbhooiaagreat", sum := "1cd10544fe8ebbdfd5e08147773910ad9395ed838a57226915072bce34933f15", func := "overburden/overburdenlaw04.FindFalls", spec := "findFalls", unfollowed := true, recurses := true, plainKeys := false, apart := false, narrowed := true }
def FindFallsUptoSaid : Prop := findFallsUptoRow.holds Tryz.pinned (OpenSpec.upto findFallsSpec)

/-- 'overburdenlaw04.FindOpen', WHERE WHAT IT READS IS OF BULK AT MOST 1048576: true; the input reads as it did. -/
def findOpenUptoRow : OpenClaim := { program := "ytjkijdhdbhooiaagreat", sum := "1cd10544fe8ebbdfd5e08147773910ad9395ed838a57226915072bce34933f15", func := "overburden/overburdenlaw04.FindOpen", spec := "findOpen", unfollowed := true, recurses := true, plainKeys := false, apart := false, narrowed := true }
def FindOpenUptoSaid : Prop := findOpenUptoRow.holds Tryz.pinned (OpenSpec.upto findOpenSpec)

/-- 'overburdenlaw04.FindChecks', WHERE WHAT IT READS IS OF BULK AT MOST 1048576: true; the input reads as it did. -/
def findChecksUptoRow : OpenClaim := { program := "ytjkijdhdbhooiaagreat", sum := "1cd10544fe8ebbdfd5e08147773910ad9395ed838a57226915072bce34933f15", func := "overburden/overburdenlaw04.FindChecks", spec := "findChecks", unfollowed := true, recurses := true, plainKeys := false, apart := false, narrowed := true }
def FindChecksUptoSaid : Prop := findChecksUptoRow.holds Tryz.pinned (OpenSpec.upto findChecksSpec)

/-- 'overburdenlaw04.FindTracks', WHERE WHAT IT READS IS OF BULK AT MOST 1048576: true; the input reads as it did. -/
def findTracksUptoRow : OpenClaim := { program := "ytjkijdhdbhooiaagreat", sum := "1cd10544fe8ebbdfd5e08147773910ad9395ed838a57226915072bce34933f15", func := "overburden/overburdenlaw04.FindTracks", spec := "findTracks", unfollowed := true, recurses := true, plainKeys := false, apart := false, narrowed := true }
def FindTracksUptoSaid : Prop := findTracksUptoRow.holds Tryz.pinned (OpenSpec.upto findTracksSpec)

end Rows
end Go.Proofs.YtjkijdhdbhooiaaGreat
