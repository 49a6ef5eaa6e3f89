/-
  No cell of these rows narrows 'for every input' (looked for: loops, veiled, ifaces, maps, wideKeys, modest, calm, conditions, laid).
  DERIVED. THE GIVEN ROWS OF THIS SEAT. 12 by the template 'for every input the law returns true; each argument reads behind the call as it read before'; 0 by the template 'total and deterministic' (their statements: YtkefjgbcpoggiaaTotals.lean).
  GIVEN WITH THE SEED: the statements are not yours to turn. If you find one false, say at which input.
  Laid BY PROGRAM, IN A SANDBOX (cutbox-rows.mjs): the forced cells as the released guide's own fill.sh prints them over the translation 55985a6993415de0… (all of the seat's roots in one cut). By AI agents, Wed Nov 11 2026. No macro, syntax, notation, axiom, sorry.
-/
import Derived.Test.YtkefjgbcpoggiaaChecked
import GoSem.Claim
import GoSem.ClaimJoined
import GoSem.ClaimMapViews
import Derived.JoinedTies
import Derived.KernelRfl
namespace Go.Proofs.Ytkefjgbcpoggiaa
/- THE CELL 'sum', in the pinned program and in every row, IS THE sha256 OF THE DUMP (.gsa) THAT YtkefjgbcpoggiaaProg.lean LOADS. Nothing in Lean hashes anything: it is a label: what it is worth is what the hold of that sum in a sandbox is worth. -/
noncomputable def Try.pinned : Pinned := { name := "ytkefjgbcpoggiaa", sum := "55985a6993415de06010bd4233351efaf959dbbc3650a75198f1c464181d5b0d", checked := Try.checked }
namespace Rows
def none {H : Type} : Left H := { results := [], args := [] }

/-- 'laws.FnSharedDrums': WHATEVER THE INPUT: true; the input reads as it did. -/
def fnSharedDrumsSpec : ChangeSpec := { name := "fnSharedDrums", fn := fun _ => fun
  | [d1, d2] => { results := [.lit (.bool true)], args := [d1, d2] }
  | _ => none }
def fnSharedDrumsRow : OpenClaim := { program := "ytkefjgbcpoggiaa", sum := "55985a6993415de06010bd4233351efaf959dbbc3650a75198f1c464181d5b0d", func := "loop.example/g01311/laws.FnSharedDrums", spec := "fnSharedDrums", unfollowed := true, recurses := true, apart := false }
def FnSharedDrumsSaid : Prop := fnSharedDrumsRow.holds Try.pinned (OpenSpec.ofChange fnSharedDrumsSpec)

/-- ITS FALSE NEIGHBOUR: 'it returns false'. Refute it at one input. -/
def fnSharedDrumsWrong : ChangeSpec := { name := "fnSharedDrums", fn := fun _ => fun
  | [d1, d2] => { results := [.lit (.bool false)], args := [d1, d2] }
  | _ => none }
def FnSharedDrumsWrongFalsely : Prop := fnSharedDrumsRow.holds Try.pinned (OpenSpec.ofChange fnSharedDrumsWrong)

/-- 'laws.FnLeastTurns': WHATEVER THE INPUT: true; the input reads as it did. -/
def fnLeastTurnsSpec : ChangeSpec := { name := "fnLeastTurns", fn := fun _ => fun
  | [d1, d2] => { results := [.lit (.bool true)], args := [d1, d2] }
  | _ => none }
def fnLeastTurnsRow : OpenClaim := { program := "ytkefjgbcpoggiaa", sum := "55985a6993415de06010bd4233351efaf959dbbc3650a75198f1c464181d5b0d", func := "loop.example/g01311/laws.FnLeastTurns", spec := "fnLeastTurns", unfollowed := true, recurses := true, apart := false }
def FnLeastTurnsSaid : Prop := fnLeastTurnsRow.holds Try.pinned (OpenSpec.ofChange fnLeastTurnsSpec)

/-- ITS FALSE NEIGHBOUR: 'it returns false'. Refute it at one input. -/
def fnLeastTurnsWrong : ChangeSpec := { name := "fnLeastTurns", fn := fun _ => fun
  | [d1, d2] => { results := [.lit (.bool false)], args := [d1, d2] }
  | _ => none }
def FnLeastTurnsWrongFalsely : Prop := fnLeastTurnsRow.holds Try.pinned (OpenSpec.ofChange fnLeastTurnsWrong)

/-- 'laws.FnExactCrowdedAt': WHATEVER THE INPUT: true; the input reads as it did. -/
def fnExactCrowdedAtSpec : ChangeSpec := { name := "fnExactCrowdedAt", fn := fun _ => fun
  | [d1, d2] => { results := [.lit (.bool true)], args := [d1, d2] }
  | _ => none }
def fnExactCrowdedAtRow : OpenClaim := { program := "ytkefjgbcpoggiaa", sum := "55985a6993415de06010bd4233351efaf959dbbc3650a75198f1c464181d5b0d", func := "loop.example/g01311/laws.FnExactCrowdedAt", spec := "fnExactCrowdedAt", unfollowed := true, recurses := true, apart := false }
def FnExactCrowdedAtSaid : Prop := fnExactCrowdedAtRow.holds Try.pinned (OpenSpec.ofChange fnExactCrowdedAtSpec)

/-- ITS FALSE NEIGHBOUR: 'it returns false'. Refute it at one input. -/
def fnExactCrowdedAtWrong : ChangeSpec := { name := "fnExactCrowdedAt", fn := fun _ => fun
  | [d1, d2] => { results := [.lit (.bool false)], args := [d1, d2] }
  | _ => none }
def FnExactCrowdedAtWrongFalsely : Prop := fnExactCrowdedAtRow.holds Try.pinned (OpenSpec.ofChange fnExactCrowdedAtWrong)

/-- 'laws.FnExactFrameFor': WHATEVER THE INPUT: true; the input reads as it did. -/
def fnExactFrameForSpec : ChangeSpec := { name := "fnExactFrameFor", fn := fun _ => fun
  | [d1, d2, d3] => { results := [.lit (.bool true)], args := [d1, d2, d3] }
  | _ => none }
def fnExactFrameForRow : OpenClaim := { program := "ytkefjgbcpoggiaa", sum := "55985a6993415de06010bd4233351efaf959dbbc3650a75198f1c464181d5b0d", func := "loop.example/g01311/laws.FnExactFrameFor", spec := "fnExactFrameFor", unfollowed := true, recurses := true, apart := false }
def FnExactFrameForSaid : Prop := fnExactFrameForRow.holds Try.pinned (OpenSpec.ofChange fnExactFrameForSpec)

/-- ITS FALSE NEIGHBOUR: 'it returns false'. Refute it at one input. -/
def fnExactFrameForWrong : ChangeSpec := { name := "fnExactFrameFor", fn := fun _ => fun
  | [d1, d2, d3] => { results := [.lit (.bool false)], args := [d1, d2, d3] }
  | _ => none }
def FnExactFrameForWrongFalsely : Prop := fnExactFrameForRow.holds Try.pinned (OpenSpec.ofChange fnExactFrameForWrong)

/-- 'laws.FnExactFirstUnpinned': WHATEVER THE INPUT: true; the input reads as it did. -/
def fnExactFirstUnpinnedSpec : ChangeSpec := { name := "fnExactFirstUnpinned", fn := fun _ => fun
  | [d1, d2] => { results := [.lit (.bool true)], args := [d1, d2] }
  | _ => none }
def fnExactFirstUnpinnedRow : OpenClaim := { program := "ytkefjgbcpoggiaa", sum := "55985a6993415de06010bd4233351efaf959dbbc3650a75198f1c464181d5b0d", func := "loop.example/g01311/laws.FnExactFirstUnpinned", spec := "fnExactFirstUnpinned", unfollowed := true, recurses := true, apart := false }
def FnExactFirstUnpinnedSaid : Prop := fnExactFirstUnpinnedRow.holds Try.pinned (OpenSpec.ofChange fnExactFirstUnpinnedSpec)

/-- ITS FALSE NEIGHBOUR: 'it returns false'. Refute it at one input. -/
def fnExactFirstUnpinnedWrong : ChangeSpec := { name := "fnExactFirstUnpinned", fn := fun _ => fun
  | [d1, d2] => { results := [.lit (.bool false)], args := [d1, d2] }
  | _ => none }
def FnExactFirstUnpinnedWrongFalsely : Prop := fnExactFirstUnpinnedRow.holds Try.pinned (OpenSpec.ofChange fnExactFirstUnpinnedWrong)

/-- 'laws.FnExactShareGroups': WHATEVER THE INPUT: true; the input reads as it did. -/
def fnExactShareGroupsSpec : ChangeSpec := { name := "fnExactShareGroups", fn := fun _ => fun
  | [d1, d2] => { results := [.lit (.bool true)], args := [d1, d2] }
  | _ => none }
def fnExactShareGroupsRow : OpenClaim := { program := "ytkefjgbcpoggiaa", sum := "55985a6993415de06010bd4233351efaf959dbbc3650a75198f1c464181d5b0d", func := "loop.example/g01311/laws.FnExactShareGroups", spec := "fnExactShareGroups", unfollowed := true, recurses := true, apart := false }
def FnExactShareGroupsSaid : Prop := fnExactShareGroupsRow.holds Try.pinned (OpenSpec.ofChange fnExactShareGroupsSpec)

/-- ITS FALSE NEIGHBOUR: 'it returns false'. Refute it at one input. -/
def fnExactShareGroupsWrong : ChangeSpec := { name := "fnExactShareGroups", fn := fun _ => fun
  | [d1, d2] => { results := [.lit (.bool false)], args := [d1, d2] }
  | _ => none }
def FnExactShareGroupsWrongFalsely : Prop := fnExactShareGroupsRow.holds Try.pinned (OpenSpec.ofChange fnExactShareGroupsWrong)

/-- 'laws.FnExactPinGreedily': WHATEVER THE INPUT: true; the input reads as it did. -/
def fnExactPinGreedilySpec : ChangeSpec := { name := "fnExactPinGreedily", fn := fun _ => fun
  | [d1, d2] => { results := [.lit (.bool true)], args := [d1, d2] }
  | _ => none }
def fnExactPinGreedilyRow : OpenClaim := { program := "ytkefjgbcpoggiaa", sum := "55985a6993415de06010bd4233351efaf959dbbc3650a75198f1c464181d5b0d", func := "loop.example/g01311/laws.FnExactPinGreedily", spec := "fnExactPinGreedily", unfollowed := true, recurses := true, apart := false }
def FnExactPinGreedilySaid : Prop := fnExactPinGreedilyRow.holds Try.pinned (OpenSpec.ofChange fnExactPinGreedilySpec)

/-- ITS FALSE NEIGHBOUR: 'it returns false'. Refute it at one input. -/
def fnExactPinGreedilyWrong : ChangeSpec := { name := "fnExactPinGreedily", fn := fun _ => fun
  | [d1, d2] => { results := [.lit (.bool false)], args := [d1, d2] }
  | _ => none }
def FnExactPinGreedilyWrongFalsely : Prop := fnExactPinGreedilyRow.holds Try.pinned (OpenSpec.ofChange fnExactPinGreedilyWrong)

/-- 'laws.FnExactNearestOrder': WHATEVER THE INPUT: true; the input reads as it did. -/
def fnExactNearestOrderSpec : ChangeSpec := { name := "fnExactNearestOrder", fn := fun _ => fun
  | [d1, d2, d3] => { results := [.lit (.bool true)], args := [d1, d2, d3] }
  | _ => none }
def fnExactNearestOrderRow : OpenClaim := { program := "ytkefjgbcpoggiaa", sum := "55985a6993415de06010bd4233351efaf959dbbc3650a75198f1c464181d5b0d", func := "loop.example/g01311/laws.FnExactNearestOrder", spec := "fnExactNearestOrder", unfollowed := true, recurses := true, apart := false }
def FnExactNearestOrderSaid : Prop := fnExactNearestOrderRow.holds Try.pinned (OpenSpec.ofChange fnExactNearestOrderSpec)

/-- ITS FALSE NEIGHBOUR: 'it returns false'. Refute it at one input. -/
def fnExactNearestOrderWrong : ChangeSpec := { name := "fnExactNearestOrder", fn := fun _ => fun
  | [d1, d2, d3] => { results := [.lit (.bool false)], args := [d1, d2, d3] }
  | _ => none }
def FnExactNearestOrderWrongFalsely : Prop := fnExactNearestOrderRow.holds Try.pinned (OpenSpec.ofChange fnExactNearestOrderWrong)

/-- 'laws.FnExactLeastStepsOrder': WHATEVER THE INPUT: true; the input reads as it did. -/
def fnExactLeastStepsOrderSpec : ChangeSpec := { name := "fnExactLeastStepsOrder", fn := fun _ => fun
  | [d1, d2] => { results := [.lit (.bool true)], args := [d1, d2] }
  | _ => none }
def fnExactLeastStepsOrderRow : OpenClaim := { program := "ytkefjgbcpoggiaa", sum := "55985a6993415de06010bd4233351efaf959dbbc3650a75198f1c464181d5b0d", func := "loop.example/g01311/laws.FnExactLeastStepsOrder", spec := "fnExactLeastStepsOrder", unfollowed := true, recurses := true, apart := false }
def FnExactLeastStepsOrderSaid : Prop := fnExactLeastStepsOrderRow.holds Try.pinned (OpenSpec.ofChange fnExactLeastStepsOrderSpec)

/-- ITS FALSE NEIGHBOUR: 'it returns false'. Refute it at one input. -/
def fnExactLeastStepsOrderWrong : ChangeSpec := { name := "fnExactLeastStepsOrder", fn := fun _ => fun
  | [d1, d2] => { results := [.lit (.bool false)], args := [d1, d2] }
  | _ => none }
def FnExactLeastStepsOrderWrongFalsely : Prop := fnExactLeastStepsOrderRow.holds Try.pinned (OpenSpec.ofChange fnExactLeastStepsOrderWrong)

/-- 'laws.FnExactPinTune': WHATEVER THE INPUT: true; the input reads as it did. -/
def fnExactPinTuneSpec : ChangeSpec := { name := "fnExactPinTune", fn := fun _ => fun
  | [d1, d2, d3] => { results := [.lit (.bool true)], args := [d1, d2, d3] }
  | _ => none }
def fnExactPinTuneRow : OpenClaim := { program := "ytkefjgbcpoggiaa", sum := "55985a6993415de06010bd4233351efaf959dbbc3650a75198f1c464181d5b0d", func := "loop.example/g01311/laws.FnExactPinTune", spec := "fnExactPinTune", unfollowed := true, recurses := true, apart := false }
def FnExactPinTuneSaid : Prop := fnExactPinTuneRow.holds Try.pinned (OpenSpec.ofChange fnExactPinTuneSpec)

/-- ITS FALSE NEIGHBOUR: 'it returns false'. Refute it at one input. -/
def fnExactPinTuneWrong : ChangeSpec := { name := "fnExactPinTune", fn := fun _ => fun
  | [d1, d2, d3] => { results := [.lit (.bool false)], args := [d1, d2, d3] }
  | _ => none }
def FnExactPinTuneWrongFalsely : Prop := fnExactPinTuneRow.holds Try.pinned (OpenSpec.ofChange fnExactPinTuneWrong)

/-- 'laws.FnExactLayTunes': WHATEVER THE INPUT: true; the input reads as it did. -/
def fnExactLayTunesSpec : ChangeSpec := { name := "fnExactLayTunes", fn := fun _ => fun
  | [d1, d2, d3] => { results := [.lit (.bool true)], args := [d1, d2, d3] }
  | _ => none }
def fnExactLayTunesRow : OpenClaim := { program := "ytkefjgbcpoggiaa", sum := "55985a6993415de06010bd4233351efaf959dbbc3650a75198f1c464181d5b0d", func := "loop.example/g01311/laws.FnExactLayTunes", spec := "fnExactLayTunes", unfollowed := true, recurses := true, apart := false }
def FnExactLayTunesSaid : Prop := fnExactLayTunesRow.holds Try.pinned (OpenSpec.ofChange fnExactLayTunesSpec)

/-- ITS FALSE NEIGHBOUR: 'it returns false'. Refute it at one input. -/
def fnExactLayTunesWrong : ChangeSpec := { name := "fnExactLayTunes", fn := fun _ => fun
  | [d1, d2, d3] => { results := [.lit (.bool false)], args := [d1, d2, d3] }
  | _ => none }
def FnExactLayTunesWrongFalsely : Prop := fnExactLayTunesRow.holds Try.pinned (OpenSpec.ofChange fnExactLayTunesWrong)

/-- 'laws.FnExactPinLike': WHATEVER THE INPUT: true; the input reads as it did. -/
def fnExactPinLikeSpec : ChangeSpec := { name := "fnExactPinLike", fn := fun _ => fun
  | [d1, d2, d3, d4] => { results := [.lit (.bool true)], args := [d1, d2, d3, d4] }
  | _ => none }
def fnExactPinLikeRow : OpenClaim := { program := "ytkefjgbcpoggiaa", sum := "55985a6993415de06010bd4233351efaf959dbbc3650a75198f1c464181d5b0d", func := "loop.example/g01311/laws.FnExactPinLike", spec := "fnExactPinLike", unfollowed := true, recurses := true, apart := false }
def FnExactPinLikeSaid : Prop := fnExactPinLikeRow.holds Try.pinned (OpenSpec.ofChange fnExactPinLikeSpec)

/-- ITS FALSE NEIGHBOUR: 'it returns false'. Refute it at one input. -/
def fnExactPinLikeWrong : ChangeSpec := { name := "fnExactPinLike", fn := fun _ => fun
  | [d1, d2, d3, d4] => { results := [.lit (.bool false)], args := [d1, d2, d3, d4] }
  | _ => none }
def FnExactPinLikeWrongFalsely : Prop := fnExactPinLikeRow.holds Try.pinned (OpenSpec.ofChange fnExactPinLikeWrong)

/- THE SECOND FORM. 'bulk': how many values and letters a reading holds, each counted each time it is reached (what is shared counts as often as it is met; a slice's spare places count too). A statement '..UptoSaid' is the law's where the arguments, and the package variables that the reading takes, are together of bulk at most 1048576: NARROWER than '..Said'. Prove '..Said' where nothing that the law and all that it calls make is longer than what came in: it says more and counts as full. Else prove '..UptoSaid'. A law counts once. -/
mutual
def uptoBulk {H : Type} : DataW H → Nat
  | .lit (.string bytes) => bytes.length + 1
  | .lit _ => 1
  | .nil => 1
  | .ptr d => uptoBulk d + 1
  | .slice elems spare => uptoBulkAll elems + uptoBulkAll spare + 1
  | .agg parts => uptoBulkAll parts + 1
  | .iface _ d => uptoBulk d + 1
  | .map entries => uptoBulkEntries entries + 1
  | .held _ => 1
def uptoBulkAll {H : Type} : List (DataW H) → Nat
  | [] => 0
  | d :: r => uptoBulk d + uptoBulkAll r
def uptoBulkEntries {H : Type} : List (Lit × DataW H) → Nat
  | [] => 0
  | x :: r => uptoBulkEntry x + uptoBulkEntries r
def uptoBulkEntry {H : Type} : Lit × DataW H → Nat
  | (.string bytes, d) => bytes.length + uptoBulk d + 1
  | (_, d) => uptoBulk d + 1
 end
def uptoSmall : (H : Type) → List (DataW H) → Bool := fun _ ds => decide (uptoBulkAll ds ≤ 1048576)
def OpenSpec.upto (s : _root_.Go.ChangeSpec) : _root_.Go.OpenSpec := { _root_.Go.OpenSpec.ofChange s with cond := some uptoSmall }

/-- 'laws.FnSharedDrums', WHERE WHAT IT READS IS OF BULK AT MOST 1048576: true; the input reads as it did. -/
def fnSharedDrumsUptoRow : OpenClaim := { program := "ytkefjgbcpoggiaa", sum := "55985a6993415de06010bd4233351efaf959dbbc3650a75198f1c464181d5b0d", func := "loop.example/g01311/laws.FnSharedDrums", spec := "fnSharedDrums", unfollowed := true, recurses := true, apart := false, narrowed := true }
def FnSharedDrumsUptoSaid : Prop := fnSharedDrumsUptoRow.holds Try.pinned (OpenSpec.upto fnSharedDrumsSpec)

/-- 'laws.FnLeastTurns', WHERE WHAT IT READS IS OF BULK AT MOST 1048576: true; the input reads as it did. -/
def fnLeastTurnsUptoRow : OpenClaim := { program := "ytkefjgbcpoggiaa", sum := "55985a6993415de06010bd4233351efaf959dbbc3650a75198f1c464181d5b0d", func := "loop.example/g01311/laws.FnLeastTurns", spec := "fnLeastTurns", unfollowed := true, recurses := true, apart := false, narrowed := true }
def FnLeastTurnsUptoSaid : Prop := fnLeastTurnsUptoRow.holds Try.pinned (OpenSpec.upto fnLeastTurnsSpec)

/-- 'laws.FnExactCrowdedAt', WHERE WHAT IT READS IS OF BULK AT MOST 1048576: true; the input reads as it did. -/
def fnExactCrowdedAtUptoRow : OpenClaim := { program := "ytkefjgbcpoggiaa", sum := "55985a6993415de06010bd4233351efaf959dbbc3650a75198f1c464181d5b0d", func := "loop.example/g01311/laws.FnExactCrowdedAt", spec := "fnExactCrowdedAt", unfollowed := true, recurses := true, apart := false, narrowed := true }
def FnExactCrowdedAtUptoSaid : Prop := fnExactCrowdedAtUptoRow.holds Try.pinned (OpenSpec.upto fnExactCrowdedAtSpec)

/-- 'laws.FnExactFrameFor', WHERE WHAT IT READS IS OF BULK AT MOST 1048576: true; the input reads as it did. -/
def fnExactFrameForUptoRow : OpenClaim := { program := "ytkefjgbcpoggiaa", sum := "55985a6993415de06010bd4233351efaf959dbbc3650a75198f1c464181d5b0d", func := "loop.example/g01311/laws.FnExactFrameFor", spec := "fnExactFrameFor", unfollowed := true, recurses := true, apart := false, narrowed := true }
def FnExactFrameForUptoSaid : Prop := fnExactFrameForUptoRow.holds Try.pinned (OpenSpec.upto fnExactFrameForSpec)

/-- 'laws.FnExactFirstUnpinned', WHERE WHAT IT READS IS OF BULK AT MOST 1048576: true; the input reads as it did. -/
def fnExactFirstUnpinnedUptoRow : OpenClaim := { program := "ytkefjgbcpoggiaa", sum := "55985a6993415de06010bd4233351efaf959dbbc3650a75198f1c464181d5b0d", func := "loop.example/g01311/laws.FnExactFirstUnpinned", spec := "fnExactFirstUnpinned", unfollowed := true, recurses := true, apart := false, narrowed := true }
def FnExactFirstUnpinnedUptoSaid : Prop := fnExactFirstUnpinnedUptoRow.holds Try.pinned (OpenSpec.upto fnExactFirstUnpinnedSpec)

/-- 'laws.FnExactShareGroups', WHERE WHAT IT READS IS OF BULK AT MOST 1048576: true; the input reads as it did. -/
def fnExactShareGroupsUptoRow : OpenClaim := { program := "ytkefjgbcpoggiaa", sum := "55985a6993415de06010bd4233351efaf959dbbc3650a75198f1c464181d5b0d", func := "loop.example/g01311/laws.FnExactShareGroups", spec := "fnExactShareGroups", unfollowed := true, recurses := true, apart := false, narrowed := true }
def FnExactShareGroupsUptoSaid : Prop := fnExactShareGroupsUptoRow.holds Try.pinned (OpenSpec.upto fnExactShareGroupsSpec)

/-- 'laws.FnExactPinGreedily', WHERE WHAT IT READS IS OF BULK AT MOST 1048576: true; the input reads as it did. -/
def fnExactPinGreedilyUptoRow : OpenClaim := { program := "ytkefjgbcpoggiaa", sum := "55985a6993415de06010bd4233351efaf959dbbc3650a75198f1c464181d5b0d", func := "loop.example/g01311/laws.FnExactPinGreedily", spec := "fnExactPinGreedily", unfollowed := true, recurses := true, apart := false, narrowed := true }
def FnExactPinGreedilyUptoSaid : Prop := fnExactPinGreedilyUptoRow.holds Try.pinned (OpenSpec.upto fnExactPinGreedilySpec)

/-- 'laws.FnExactNearestOrder', WHERE WHAT IT READS IS OF BULK AT MOST 1048576: true; the input reads as it did. -/
def fnExactNearestOrderUptoRow : OpenClaim := { program := "ytkefjgbcpoggiaa", sum := "55985a6993415de06010bd4233351efaf959dbbc3650a75198f1c464181d5b0d", func := "loop.example/g01311/laws.FnExactNearestOrder", spec := "fnExactNearestOrder", unfollowed := true, recurses := true, apart := false, narrowed := true }
def FnExactNearestOrderUptoSaid : Prop := fnExactNearestOrderUptoRow.holds Try.pinned (OpenSpec.upto fnExactNearestOrderSpec)

/-- 'laws.FnExactLeastStepsOrder', WHERE WHAT IT READS IS OF BULK AT MOST 1048576: true; the input reads as it did. -/
def fnExactLeastStepsOrderUptoRow : OpenClaim := { program := "ytkefjgbcpoggiaa", sum := "55985a6993415de06010bd4233351efaf959dbbc3650a75198f1c464181d5b0d", func := "loop.example/g01311/laws.FnExactLeastStepsOrder", spec := "fnExactLeastStepsOrder", unfollowed := true, recurses := true, apart := false, narrowed := true }
def FnExactLeastStepsOrderUptoSaid : Prop := fnExactLeastStepsOrderUptoRow.holds Try.pinned (OpenSpec.upto fnExactLeastStepsOrderSpec)

/-- 'laws.FnExactPinTune', WHERE WHAT IT READS IS OF BULK AT MOST 1048576: true; the input reads as it did. -/
def fnExactPinTuneUptoRow : OpenClaim := { program := "ytkefjgbcpoggiaa", sum := "55985a6993415de06010bd4233351efaf959dbbc3650a75198f1c464181d5b0d", func := "loop.example/g01311/laws.FnExactPinTune", spec := "fnExactPinTune", unfollowed := true, recurses := true, apart := false, narrowed := true }
def FnExactPinTuneUptoSaid : Prop := fnExactPinTuneUptoRow.holds Try.pinned (OpenSpec.upto fnExactPinTuneSpec)

/-- 'laws.FnExactLayTunes', WHERE WHAT IT READS IS OF BULK AT MOST 1048576: true; the input reads as it did. -/
def fnExactLayTunesUptoRow : OpenClaim := { program := "ytkefjgbcpoggiaa", sum := "55985a6993415de06010bd4233351efaf959dbbc3650a75198f1c464181d5b0d", func := "loop.example/g01311/laws.FnExactLayTunes", spec := "fnExactLayTunes", unfollowed := true, recurses := true, apart := false, narrowed := true }
def FnExactLayTunesUptoSaid : Prop := fnExactLayTunesUptoRow.holds Try.pinned (OpenSpec.upto fnExactLayTunesSpec)

/-- 'laws.FnExactPinLike', WHERE WHAT IT READS IS OF BULK AT MOST 1048576: true; the input reads as it did. -/
def fnExactPinLikeUptoRow : OpenClaim := { program := "ytkefjgbcpoggiaa", sum := "55985a6993415de06010bd4233351efaf959dbbc3650a75198f1c464181d5b0d", func := "loop.example/g01311/laws.FnExactPinLike", spec := "fnExactPinLike", unfollowed := true, recurses := true, apart := false, narrowed := true }
def FnExactPinLikeUptoSaid : Prop := fnExactPinLikeUptoRow.holds Try.pinned (OpenSpec.upto fnExactPinLikeSpec)

end Rows
end Go.Proofs.Ytkefjgbcpoggiaa
