/-
  No cell of these rows narrows 'for every input' (looked for: loops, veiled, ifaces, maps, wideKeys, modest, calm, conditions, laid).
  DERIVED. THE GIVEN ROWS OF THIS SEAT. 12 by the template 'for every input the law returns true; each argument reads behind the call as it read before'; 0 by the template 'total and deterministic' (their statements: YtpjoicpmbdaniaaTotals.lean).
  GIVEN WITH THE SEED: the statements are not yours to turn. If you find one false, say at which input.
  Laid BY PROGRAM, IN A SANDBOX (cutbox-rows.mjs): the forced cells as the released guide's own fill.sh prints them over the translation 5fc4b74a905e2ff3… (all of the seat's roots in one cut). By AI agents, Wed Nov 11 2026. No macro, syntax, notation, axiom, sorry.
-/
import Derived.Test.YtpjoicpmbdaniaaChecked
import GoSem.Claim
import GoSem.ClaimJoined
import GoSem.ClaimMapViews
import Derived.JoinedTies
import Derived.KernelRfl
namespace Go.Proofs.Ytpjoicpmbdaniaa
/- THE CELL 'sum', in the pinned program and in every row, IS THE sha256 OF THE DUMP (.gsa) THAT YtpjoicpmbdaniaaProg.lean LOADS. Nothing in Lean hashes anything: it is a label: what it is worth is what the hold of that sum in a sandbox is worth. -/
noncomputable def Try.pinned : Pinned := { name := "ytpjoicpmbdaniaa", sum := "5fc4b74a905e2ff3fea22531e5a202460815f937664f112ad1c6f29e9c55d27c", checked := Try.checked }
namespace Rows
def none {H : Type} : Left H := { results := [], args := [] }

/-- 'overburdenlaw05.FluxSharp': WHATEVER THE INPUT: true; the input reads as it did. -/
def fluxSharpSpec : ChangeSpec := { name := "fluxSharp", fn := fun _ => fun
  | [d1, d2, d3, d4] => { results := [.lit (.bool true)], args := [d1, d2, d3, d4] }
  | _ => none }
def fluxSharpRow : OpenClaim := { program := "ytpjoicpmbdaniaa", sum := "5fc4b74a905e2ff3fea22531e5a202460815f937664f112ad1c6f29e9c55d27c", func := "overburden/overburdenlaw05.FluxSharp", spec := "fluxSharp", unfollowed := true, recurses := true, apart := false }
def FluxSharpSaid : Prop := fluxSharpRow.holds Try.pinned (OpenSpec.ofChange fluxSharpSpec)

/-- ITS FALSE NEIGHBOUR: 'it returns false'. Refute it at one input. -/
def fluxSharpWrong : ChangeSpec := { name := "fluxSharp", fn := fun _ => fun
  | [d1, d2, d3, d4] => { results := [.lit (.bool false)], args := [d1, d2, d3, d4] }
  | _ => none }
def FluxSharpWrongFalsely : Prop := fluxSharpRow.holds Try.pinned (OpenSpec.ofChange fluxSharpWrong)

/-- 'overburdenlaw05.FluxMean': WHATEVER THE INPUT: true; the input reads as it did. -/
def fluxMeanSpec : ChangeSpec := { name := "fluxMean", fn := fun _ => fun
  | [d1, d2, d3, d4, d5, d6, d7, d8, d9] => { results := [.lit (.bool true)], args := [d1, d2, d3, d4, d5, d6, d7, d8, d9] }
  | _ => none }
def fluxMeanRow : OpenClaim := { program := "ytpjoicpmbdaniaa", sum := "5fc4b74a905e2ff3fea22531e5a202460815f937664f112ad1c6f29e9c55d27c", func := "overburden/overburdenlaw05.FluxMean", spec := "fluxMean", unfollowed := true, recurses := true, apart := false }
def FluxMeanSaid : Prop := fluxMeanRow.holds Try.pinned (OpenSpec.ofChange fluxMeanSpec)

/-- ITS FALSE NEIGHBOUR: 'it returns false'. Refute it at one input. -/
def fluxMeanWrong : ChangeSpec := { name := "fluxMean", fn := fun _ => fun
  | [d1, d2, d3, d4, d5, d6, d7, d8, d9] => { results := [.lit (.bool false)], args := [d1, d2, d3, d4, d5, d6, d7, d8, d9] }
  | _ => none }
def FluxMeanWrongFalsely : Prop := fluxMeanRow.holds Try.pinned (OpenSpec.ofChange fluxMeanWrong)

/-- 'overburdenlaw05.FluxOpacity': WHATEVER THE INPUT: true; the input reads as it did. -/
def fluxOpacitySpec : ChangeSpec := { name := "fluxOpacity", fn := fun _ => fun
  | [d1, d2, d3, d4, d5, d6] => { results := [.lit (.bool true)], args := [d1, d2, d3, d4, d5, d6] }
  | _ => none }
def fluxOpacityRow : OpenClaim := { program := "ytpjoicpmbdaniaa", sum := "5fc4b74a905e2ff3fea22531e5a202460815f937664f112ad1c6f29e9c55d27c", func := "overburden/overburdenlaw05.FluxOpacity", spec := "fluxOpacity", unfollowed := true, recurses := true, apart := false }
def FluxOpacitySaid : Prop := fluxOpacityRow.holds Try.pinned (OpenSpec.ofChange fluxOpacitySpec)

/-- ITS FALSE NEIGHBOUR: 'it returns false'. Refute it at one input. -/
def fluxOpacityWrong : ChangeSpec := { name := "fluxOpacity", fn := fun _ => fun
  | [d1, d2, d3, d4, d5, d6] => { results := [.lit (.bool false)], args := [d1, d2, d3, d4, d5, d6] }
  | _ => none }
def FluxOpacityWrongFalsely : Prop := fluxOpacityRow.holds Try.pinned (OpenSpec.ofChange fluxOpacityWrong)

/-- 'overburdenlaw05.FluxFalls': WHATEVER THE INPUT: true; the input reads as it did. -/
def fluxFallsSpec : ChangeSpec := { name := "fluxFalls", fn := fun _ => fun
  | [d1, d2, d3, d4, d5, d6] => { results := [.lit (.bool true)], args := [d1, d2, d3, d4, d5, d6] }
  | _ => none }
def fluxFallsRow : OpenClaim := { program := "ytpjoicpmbdaniaa", sum := "5fc4b74a905e2ff3fea22531e5a202460815f937664f112ad1c6f29e9c55d27c", func := "overburden/overburdenlaw05.FluxFalls", spec := "fluxFalls", unfollowed := true, recurses := true, apart := false }
def FluxFallsSaid : Prop := fluxFallsRow.holds Try.pinned (OpenSpec.ofChange fluxFallsSpec)

/-- ITS FALSE NEIGHBOUR: 'it returns false'. Refute it at one input. -/
def fluxFallsWrong : ChangeSpec := { name := "fluxFalls", fn := fun _ => fun
  | [d1, d2, d3, d4, d5, d6] => { results := [.lit (.bool false)], args := [d1, d2, d3, d4, d5, d6] }
  | _ => none }
def FluxFallsWrongFalsely : Prop := fluxFallsRow.holds Try.pinned (OpenSpec.ofChange fluxFallsWrong)

/-- 'overburdenlaw05.FluxTaught': WHATEVER THE INPUT: true; the input reads as it did. -/
def fluxTaughtSpec : ChangeSpec := { name := "fluxTaught", fn := fun _ => fun
  | [d1, d2, d3, d4, d5, d6, d7] => { results := [.lit (.bool true)], args := [d1, d2, d3, d4, d5, d6, d7] }
  | _ => none }
def fluxTaughtRow : OpenClaim := { program := "ytpjoicpmbdaniaa", sum := "5fc4b74a905e2ff3fea22531e5a202460815f937664f112ad1c6f29e9c55d27c", func := "overburden/overburdenlaw05.FluxTaught", spec := "fluxTaught", unfollowed := true, recurses := true, apart := false }
def FluxTaughtSaid : Prop := fluxTaughtRow.holds Try.pinned (OpenSpec.ofChange fluxTaughtSpec)

/-- ITS FALSE NEIGHBOUR: 'it returns false'. Refute it at one input. -/
def fluxTaughtWrong : ChangeSpec := { name := "fluxTaught", fn := fun _ => fun
  | [d1, d2, d3, d4, d5, d6, d7] => { results := [.lit (.bool false)], args := [d1, d2, d3, d4, d5, d6, d7] }
  | _ => none }
def FluxTaughtWrongFalsely : Prop := fluxTaughtRow.holds Try.pinned (OpenSpec.ofChange fluxTaughtWrong)

/-- 'overburdenlaw05.FluxBetter': WHATEVER THE INPUT: true; the input reads as it did. -/
def fluxBetterSpec : ChangeSpec := { name := "fluxBetter", fn := fun _ => fun
  | [d1, d2, d3, d4, d5, d6, d7] => { results := [.lit (.bool true)], args := [d1, d2, d3, d4, d5, d6, d7] }
  | _ => none }
def fluxBetterRow : OpenClaim := { program := "ytpjoicpmbdaniaa", sum := "5fc4b74a905e2ff3fea22531e5a202460815f937664f112ad1c6f29e9c55d27c", func := "overburden/overburdenlaw05.FluxBetter", spec := "fluxBetter", unfollowed := true, recurses := true, apart := false }
def FluxBetterSaid : Prop := fluxBetterRow.holds Try.pinned (OpenSpec.ofChange fluxBetterSpec)

/-- ITS FALSE NEIGHBOUR: 'it returns false'. Refute it at one input. -/
def fluxBetterWrong : ChangeSpec := { name := "fluxBetter", fn := fun _ => fun
  | [d1, d2, d3, d4, d5, d6, d7] => { results := [.lit (.bool false)], args := [d1, d2, d3, d4, d5, d6, d7] }
  | _ => none }
def FluxBetterWrongFalsely : Prop := fluxBetterRow.holds Try.pinned (OpenSpec.ofChange fluxBetterWrong)

/-- 'overburdenlaw05.FluxWeather': WHATEVER THE INPUT: true; the input reads as it did. -/
def fluxWeatherSpec : ChangeSpec := { name := "fluxWeather", fn := fun _ => fun
  | [d1, d2, d3, d4, d5, d6] => { results := [.lit (.bool true)], args := [d1, d2, d3, d4, d5, d6] }
  | _ => none }
def fluxWeatherRow : OpenClaim := { program := "ytpjoicpmbdaniaa", sum := "5fc4b74a905e2ff3fea22531e5a202460815f937664f112ad1c6f29e9c55d27c", func := "overburden/overburdenlaw05.FluxWeather", spec := "fluxWeather", unfollowed := true, recurses := true, apart := false }
def FluxWeatherSaid : Prop := fluxWeatherRow.holds Try.pinned (OpenSpec.ofChange fluxWeatherSpec)

/-- ITS FALSE NEIGHBOUR: 'it returns false'. Refute it at one input. -/
def fluxWeatherWrong : ChangeSpec := { name := "fluxWeather", fn := fun _ => fun
  | [d1, d2, d3, d4, d5, d6] => { results := [.lit (.bool false)], args := [d1, d2, d3, d4, d5, d6] }
  | _ => none }
def FluxWeatherWrongFalsely : Prop := fluxWeatherRow.holds Try.pinned (OpenSpec.ofChange fluxWeatherWrong)

/-- 'overburdenlaw05.FluxLearns': WHATEVER THE INPUT: true; the input reads as it did. -/
def fluxLearnsSpec : ChangeSpec := { name := "fluxLearns", fn := fun _ => fun
  | [d1, d2, d3, d4, d5] => { results := [.lit (.bool true)], args := [d1, d2, d3, d4, d5] }
  | _ => none }
def fluxLearnsRow : OpenClaim := { program := "ytpjoicpmbdaniaa", sum := "5fc4b74a905e2ff3fea22531e5a202460815f937664f112ad1c6f29e9c55d27c", func := "overburden/overburdenlaw05.FluxLearns", spec := "fluxLearns", unfollowed := true, recurses := true, apart := false }
def FluxLearnsSaid : Prop := fluxLearnsRow.holds Try.pinned (OpenSpec.ofChange fluxLearnsSpec)

/-- ITS FALSE NEIGHBOUR: 'it returns false'. Refute it at one input. -/
def fluxLearnsWrong : ChangeSpec := { name := "fluxLearns", fn := fun _ => fun
  | [d1, d2, d3, d4, d5] => { results := [.lit (.bool false)], args := [d1, d2, d3, d4, d5] }
  | _ => none }
def FluxLearnsWrongFalsely : Prop := fluxLearnsRow.holds Try.pinned (OpenSpec.ofChange fluxLearnsWrong)

/-- 'overburdenlaw05.FluxTrue': WHATEVER THE INPUT: true; the input reads as it did. -/
def fluxTrueSpec : ChangeSpec := { name := "fluxTrue", fn := fun _ => fun
  | [d1, d2, d3, d4, d5, d6, d7, d8] => { results := [.lit (.bool true)], args := [d1, d2, d3, d4, d5, d6, d7, d8] }
  | _ => none }
def fluxTrueRow : OpenClaim := { program := "ytpjoicpmbdaniaa", sum := "5fc4b74a905e2ff3fea22531e5a202460815f937664f112ad1c6f29e9c55d27c", func := "overburden/overburdenlaw05.FluxTrue", spec := "fluxTrue", unfollowed := true, recurses := true, apart := false }
def FluxTrueSaid : Prop := fluxTrueRow.holds Try.pinned (OpenSpec.ofChange fluxTrueSpec)

/-- ITS FALSE NEIGHBOUR: 'it returns false'. Refute it at one input. -/
def fluxTrueWrong : ChangeSpec := { name := "fluxTrue", fn := fun _ => fun
  | [d1, d2, d3, d4, d5, d6, d7, d8] => { results := [.lit (.bool false)], args := [d1, d2, d3, d4, d5, d6, d7, d8] }
  | _ => none }
def FluxTrueWrongFalsely : Prop := fluxTrueRow.holds Try.pinned (OpenSpec.ofChange fluxTrueWrong)

/-- 'overburdenlaw05.FluxAbove': WHATEVER THE INPUT: true; the input reads as it did. -/
def fluxAboveSpec : ChangeSpec := { name := "fluxAbove", fn := fun _ => fun
  | [d1, d2, d3, d4, d5] => { results := [.lit (.bool true)], args := [d1, d2, d3, d4, d5] }
  | _ => none }
def fluxAboveRow : OpenClaim := { program := "ytpjoicpmbdaniaa", sum := "5fc4b74a905e2ff3fea22531e5a202460815f937664f112ad1c6f29e9c55d27c", func := "overburden/overburdenlaw05.FluxAbove", spec := "fluxAbove", unfollowed := true, recurses := true, apart := false }
def FluxAboveSaid : Prop := fluxAboveRow.holds Try.pinned (OpenSpec.ofChange fluxAboveSpec)

/-- ITS FALSE NEIGHBOUR: 'it returns false'. Refute it at one input. -/
def fluxAboveWrong : ChangeSpec := { name := "fluxAbove", fn := fun _ => fun
  | [d1, d2, d3, d4, d5] => { results := [.lit (.bool false)], args := [d1, d2, d3, d4, d5] }
  | _ => none }
def FluxAboveWrongFalsely : Prop := fluxAboveRow.holds Try.pinned (OpenSpec.ofChange fluxAboveWrong)

/-- 'overburdenlaw05.FluxRanges': WHATEVER THE INPUT: true; the input reads as it did. -/
def fluxRangesSpec : ChangeSpec := { name := "fluxRanges", fn := fun _ => fun
  | [d1, d2, d3] => { results := [.lit (.bool true)], args := [d1, d2, d3] }
  | _ => none }
def fluxRangesRow : OpenClaim := { program := "ytpjoicpmbdaniaa", sum := "5fc4b74a905e2ff3fea22531e5a202460815f937664f112ad1c6f29e9c55d27c", func := "overburden/overburdenlaw05.FluxRanges", spec := "fluxRanges", unfollowed := true, recurses := true, apart := false }
def FluxRangesSaid : Prop := fluxRangesRow.holds Try.pinned (OpenSpec.ofChange fluxRangesSpec)

/-- ITS FALSE NEIGHBOUR: 'it returns false'. Refute it at one input. -/
def fluxRangesWrong : ChangeSpec := { name := "fluxRanges", fn := fun _ => fun
  | [d1, d2, d3] => { results := [.lit (.bool false)], args := [d1, d2, d3] }
  | _ => none }
def FluxRangesWrongFalsely : Prop := fluxRangesRow.holds Try.pinned (OpenSpec.ofChange fluxRangesWrong)

/-- 'overburdenlaw05.FluxBent': WHATEVER THE INPUT: true; the input reads as it did. -/
def fluxBentSpec : ChangeSpec := { name := "fluxBent", fn := fun _ => fun
  | [d1, d2, d3, d4, d5] => { results := [.lit (.bool true)], args := [d1, d2, d3, d4, d5] }
  | _ => none }
def fluxBentRow : OpenClaim := { program := "ytpjoicpmbdaniaa", sum := "5fc4b74a905e2ff3fea22531e5a202460815f937664f112ad1c6f29e9c55d27c", func := "overburden/overburdenlaw05.FluxBent", spec := "fluxBent", unfollowed := true, recurses := true, apart := false }
def FluxBentSaid : Prop := fluxBentRow.holds Try.pinned (OpenSpec.ofChange fluxBentSpec)

/-- ITS FALSE NEIGHBOUR: 'it returns false'. Refute it at one input. -/
def fluxBentWrong : ChangeSpec := { name := "fluxBent", fn := fun _ => fun
  | [d1, d2, d3, d4, d5] => { results := [.lit (.bool false)], args := [d1, d2, d3, d4, d5] }
  | _ => none }
def FluxBentWrongFalsely : Prop := fluxBentRow.holds Try.pinned (OpenSpec.ofChange fluxBentWrong)

/- THE SECOND FORM. 'bulk': how many values and letters a reading holds, each counted each time it is reached (what is shared counts as often as it is met; a slice's spare places count too). A statement '..UptoSaid' is the law's where the arguments, and the package variables that the reading takes, are together of bulk at most 1048576: NARROWER than '..Said'. Prove '..Said' where nothing that the law and all that it calls make is longer than what came in: it says more and counts as full. Else prove '..UptoSaid'. A law counts once. -/
mutual
def uptoBulk {H : Type} : DataW H → Nat
  | .lit (.string bytes) => bytes.length + 1
  | .lit _ => 1
  | .nil => 1
  | .ptr d => uptoBulk d + 1
  | .slice elems spare => uptoBulkAll elems + uptoBulkAll spare + 1
  | .agg parts => uptoBulkAll parts + 1
  | .iface _ d => uptoBulk d + 1
  | .map entries => uptoBulkEntries entries + 1
  | .held _ => 1
def uptoBulkAll {H : Type} : List (DataW H) → Nat
  | [] => 0
  | d :: r => uptoBulk d + uptoBulkAll r
def uptoBulkEntries {H : Type} : List (Lit × DataW H) → Nat
  | [] => 0
  | x :: r => uptoBulkEntry x + uptoBulkEntries r
def uptoBulkEntry {H : Type} : Lit × DataW H → Nat
  | (.string bytes, d) => bytes.length + uptoBulk d + 1
  | (_, d) => uptoBulk d + 1
 end
def uptoSmall : (H : Type) → List (DataW H) → Bool := fun _ ds => decide (uptoBulkAll ds ≤ 1048576)
def OpenSpec.upto (s : _root_.Go.ChangeSpec) : _root_.Go.OpenSpec := { _root_.Go.OpenSpec.ofChange s with cond := some uptoSmall }

/-- 'overburdenlaw05.FluxSharp', WHERE WHAT IT READS IS OF BULK AT MOST 1048576: true; the input reads as it did. -/
def fluxSharpUptoRow : OpenClaim := { program := "ytpjoicpmbdaniaa", sum := "5fc4b74a905e2ff3fea22531e5a202460815f937664f112ad1c6f29e9c55d27c", func := "overburden/overburdenlaw05.FluxSharp", spec := "fluxSharp", unfollowed := true, recurses := true, apart := false, narrowed := true }
def FluxSharpUptoSaid : Prop := fluxSharpUptoRow.holds Try.pinned (OpenSpec.upto fluxSharpSpec)

/-- 'overburdenlaw05.FluxMean', WHERE WHAT IT READS IS OF BULK AT MOST 1048576: true; the input reads as it did. -/
def fluxMeanUptoRow : OpenClaim := { program := "ytpjoicpmbdaniaa", sum := "5fc4b74a905e2ff3fea22531e5a202460815f937664f112ad1c6f29e9c55d27c", func := "overburden/overburdenlaw05.FluxMean", spec := "fluxMean", unfollowed := true, recurses := true, apart := false, narrowed := true }
def FluxMeanUptoSaid : Prop := fluxMeanUptoRow.holds Try.pinned (OpenSpec.upto fluxMeanSpec)

/-- 'overburdenlaw05.FluxOpacity', WHERE WHAT IT READS IS OF BULK AT MOST 1048576: true; the input reads as it did. -/
def fluxOpacityUptoRow : OpenClaim := { program := "ytpjoicpmbdaniaa", sum := "5fc4b74a905e2ff3fea22531e5a202460815f937664f112ad1c6f29e9c55d27c", func := "overburden/overburdenlaw05.FluxOpacity", spec := "fluxOpacity", unfollowed := true, recurses := true, apart := false, narrowed := true }
def FluxOpacityUptoSaid : Prop := fluxOpacityUptoRow.holds Try.pinned (OpenSpec.upto fluxOpacitySpec)

/-- 'overburdenlaw05.FluxFalls', WHERE WHAT IT READS IS OF BULK AT MOST 1048576: true; the input reads as it did. -/
def fluxFallsUptoRow : OpenClaim := { program := "ytpjoicpmbdaniaa", sum := "5fc4b74a905e2ff3fea22531e5a202460815f937664f112ad1c6f29e9c55d27c", func := "overburden/overburdenlaw05.FluxFalls", spec := "fluxFalls", unfollowed := true, recurses := true, apart := false, narrowed := true }
def FluxFallsUptoSaid : Prop := fluxFallsUptoRow.holds Try.pinned (OpenSpec.upto fluxFallsSpec)

/-- 'overburdenlaw05.FluxTaught', WHERE WHAT IT READS IS OF BULK AT MOST 1048576: true; the input reads as it did. -/
def fluxTaughtUptoRow : OpenClaim := { program := "ytpjoicpmbdaniaa", sum := "5fc4b74a905e2ff3fea22531e5a202460815f937664f112ad1c6f29e9c55d27c", func := "overburden/overburdenlaw05.FluxTaught", spec := "fluxTaught", unfollowed := true, recurses := true, apart := false, narrowed := true }
def FluxTaughtUptoSaid : Prop := fluxTaughtUptoRow.holds Try.pinned (OpenSpec.upto fluxTaughtSpec)

/-- 'overburdenlaw05.FluxBetter', WHERE WHAT IT READS IS OF BULK AT MOST 1048576: true; the input reads as it did. -/
def fluxBetterUptoRow : OpenClaim := { program := "ytpjoicpmbdaniaa", sum := "5fc4b74a905e2ff3fea22531e5a202460815f937664f112ad1c6f29e9c55d27c", func := "overburden/overburdenlaw05.FluxBetter", spec := "fluxBetter", unfollowed := true, recurses := true, apart := false, narrowed := true }
def FluxBetterUptoSaid : Prop := fluxBetterUptoRow.holds Try.pinned (OpenSpec.upto fluxBetterSpec)

/-- 'overburdenlaw05.FluxWeather', WHERE WHAT IT READS IS OF BULK AT MOST 1048576: true; the input reads as it did. -/
def fluxWeatherUptoRow : OpenClaim := { program := "ytpjoicpmbdaniaa", sum := "5fc4b74a905e2ff3fea22531e5a202460815f937664f112ad1c6f29e9c55d27c", func := "overburden/overburdenlaw05.FluxWeather", spec := "fluxWeather", unfollowed := true, recurses := true, apart := false, narrowed := true }
def FluxWeatherUptoSaid : Prop := fluxWeatherUptoRow.holds Try.pinned (OpenSpec.upto fluxWeatherSpec)

/-- 'overburdenlaw05.FluxLearns', WHERE WHAT IT READS IS OF BULK AT MOST 1048576: true; the input reads as it did. -/
def fluxLearnsUptoRow : OpenClaim := { program := "ytpjoicpmbdaniaa", sum := "5fc4b74a905e2ff3fea22531e5a202460815f937664f112ad1c6f29e9c55d27c", func := "overburden/overburdenlaw05.FluxLearns", spec := "fluxLearns", unfollowed := true, recurses := true, apart := false, narrowed := true }
def FluxLearnsUptoSaid : Prop := fluxLearnsUptoRow.holds Try.pinned (OpenSpec.upto fluxLearnsSpec)

/-- 'overburdenlaw05.FluxTrue', WHERE WHAT IT READS IS OF BULK AT MOST 1048576: true; the input reads as it did. -/
def fluxTrueUptoRow : OpenClaim := { program := "ytpjoicpmbdaniaa", sum := "5fc4b74a905e2ff3fea22531e5a202460815f937664f112ad1c6f29e9c55d27c", func := "overburden/overburdenlaw05.FluxTrue", spec := "fluxTrue", unfollowed := true, recurses := true, apart := false, narrowed := true }
def FluxTrueUptoSaid : Prop := fluxTrueUptoRow.holds Try.pinned (OpenSpec.upto fluxTrueSpec)

/-- 'overburdenlaw05.FluxAbove', WHERE WHAT IT READS IS OF BULK AT MOST 1048576: true; the input reads as it did. -/
def fluxAboveUptoRow : OpenClaim := { program := "ytpjoicpmbdaniaa", sum := "5fc4b74a905e2ff3fea22531e5a202460815f937664f112ad1c6f29e9c55d27c", func := "overburden/overburdenlaw05.FluxAbove", spec := "fluxAbove", unfollowed := true, recurses := true, apart := false, narrowed := true }
def FluxAboveUptoSaid : Prop := fluxAboveUptoRow.holds Try.pinned (OpenSpec.upto fluxAboveSpec)

/-- 'overburdenlaw05.FluxRanges', WHERE WHAT IT READS IS OF BULK AT MOST 1048576: true; the input reads as it did. -/
def fluxRangesUptoRow : OpenClaim := { program := "ytpjoicpmbdaniaa", sum := "5fc4b74a905e2ff3fea22531e5a202460815f937664f112ad1c6f29e9c55d27c", func := "overburden/overburdenlaw05.FluxRanges", spec := "fluxRanges", unfollowed := true, recurses := true, apart := false, narrowed := true }
def FluxRangesUptoSaid : Prop := fluxRangesUptoRow.holds Try.pinned (OpenSpec.upto fluxRangesSpec)

/-- 'overburdenlaw05.FluxBent', WHERE WHAT IT READS IS OF BULK AT MOST 1048576: true; the input reads as it did. -/
def fluxBentUptoRow : OpenClaim := { program := "ytpjoicpmbdaniaa", sum := "5fc4b74a905e2ff3fea22531e5a202460815f937664f112ad1c6f29e9c55d27c", func := "overburden/overburdenlaw05.FluxBent", spec := "fluxBent", unfollowed := true, recurses := true, apart := false, narrowed := true }
def FluxBentUptoSaid : Prop := fluxBentUptoRow.holds Try.pinned (OpenSpec.upto fluxBentSpec)

end Rows
end Go.Proofs.Ytpjoicpmbdaniaa
