/-
  No cell of these rows narrows 'for every input' (looked for: loops, veiled, ifaces, maps, wideKeys, modest, calm, conditions, laid).
  DERIVED. THE GIVEN ROWS OF THIS SEAT. 12 by the template 'for every input the law returns true; each argument reads behind the call as it read before'; 0 by the template 'total and deterministic' (their statements: YtancboodcnomiaaTotals.lean).
  GIVEN WITH THE SEED: the statements are not yours to turn. If you find one false, say at which input.
  Laid BY PROGRAM, IN A SANDBOX (cutbox-rows.mjs): the forced cells as the released guide's own fill.sh prints them over the translation 63327f205f2efc5f… (all of the seat's roots in one cut). By AI agents, Wed Nov 11 2026. No macro, syntax, notation, axiom, sorry.
-/
import Derived.Test.YtancboodcnomiaaChecked
import GoSem.Claim
import GoSem.ClaimJoined
import GoSem.ClaimMapViews
import Derived.JoinedTies
import Derived.KernelRfl
namespace Go.Proofs.Ytancboodcnomiaa
/- THE CELL 'sum', in the pinned program and in every row, IS THE sha256 OF THE DUMP (.gsa) THAT YtancboodcnomiaaProg.lean LOADS. Nothing in Lean hashes anything: it is a label: what it is worth is what the hold of that sum in a sandbox is worth. -/
noncomputable def Try.pinned : Pinned := { name := "ytancboodcnomiaa", sum := "63327f205f2efc5f912058050dec1dd3129d56b2e40d805030d0ff3658b656bf", checked := Try.checked }
namespace Rows
def none {H : Type} : Left H := { results := [], args := [] }

/-- 'laws.FnExactPinsNeeded': WHATEVER THE INPUT: true; the input reads as it did. -/
def fnExactPinsNeededSpec : ChangeSpec := { name := "fnExactPinsNeeded", fn := fun _ => fun
  | [d1, d2] => { results := [.lit (.bool true)], args := [d1, d2] }
  | _ => none }
def fnExactPinsNeededRow : OpenClaim := { program := "ytancboodcnomiaa", sum := "63327f205f2efc5f912058050dec1dd3129d56b2e40d805030d0ff3658b656bf", func := "loop.example/g01311/laws.FnExactPinsNeeded", spec := "fnExactPinsNeeded", unfollowed := true, recurses := true, apart := false }
def FnExactPinsNeededSaid : Prop := fnExactPinsNeededRow.holds Try.pinned (OpenSpec.ofChange fnExactPinsNeededSpec)

/-- ITS FALSE NEIGHBOUR: 'it returns false'. Refute it at one input. -/
def fnExactPinsNeededWrong : ChangeSpec := { name := "fnExactPinsNeeded", fn := fun _ => fun
  | [d1, d2] => { results := [.lit (.bool false)], args := [d1, d2] }
  | _ => none }
def FnExactPinsNeededWrongFalsely : Prop := fnExactPinsNeededRow.holds Try.pinned (OpenSpec.ofChange fnExactPinsNeededWrong)

/-- 'laws.FnExactStepsTo': WHATEVER THE INPUT: true; the input reads as it did. -/
def fnExactStepsToSpec : ChangeSpec := { name := "fnExactStepsTo", fn := fun _ => fun
  | [d1, d2, d3, d4] => { results := [.lit (.bool true)], args := [d1, d2, d3, d4] }
  | _ => none }
def fnExactStepsToRow : OpenClaim := { program := "ytancboodcnomiaa", sum := "63327f205f2efc5f912058050dec1dd3129d56b2e40d805030d0ff3658b656bf", func := "loop.example/g01311/laws.FnExactStepsTo", spec := "fnExactStepsTo", unfollowed := true, recurses := true, apart := false }
def FnExactStepsToSaid : Prop := fnExactStepsToRow.holds Try.pinned (OpenSpec.ofChange fnExactStepsToSpec)

/-- ITS FALSE NEIGHBOUR: 'it returns false'. Refute it at one input. -/
def fnExactStepsToWrong : ChangeSpec := { name := "fnExactStepsTo", fn := fun _ => fun
  | [d1, d2, d3, d4] => { results := [.lit (.bool false)], args := [d1, d2, d3, d4] }
  | _ => none }
def FnExactStepsToWrongFalsely : Prop := fnExactStepsToRow.holds Try.pinned (OpenSpec.ofChange fnExactStepsToWrong)

/-- 'laws.FnExactNextChime': WHATEVER THE INPUT: true; the input reads as it did. -/
def fnExactNextChimeSpec : ChangeSpec := { name := "fnExactNextChime", fn := fun _ => fun
  | [d1, d2, d3, d4] => { results := [.lit (.bool true)], args := [d1, d2, d3, d4] }
  | _ => none }
def fnExactNextChimeRow : OpenClaim := { program := "ytancboodcnomiaa", sum := "63327f205f2efc5f912058050dec1dd3129d56b2e40d805030d0ff3658b656bf", func := "loop.example/g01311/laws.FnExactNextChime", spec := "fnExactNextChime", unfollowed := true, recurses := true, apart := false }
def FnExactNextChimeSaid : Prop := fnExactNextChimeRow.holds Try.pinned (OpenSpec.ofChange fnExactNextChimeSpec)

/-- ITS FALSE NEIGHBOUR: 'it returns false'. Refute it at one input. -/
def fnExactNextChimeWrong : ChangeSpec := { name := "fnExactNextChime", fn := fun _ => fun
  | [d1, d2, d3, d4] => { results := [.lit (.bool false)], args := [d1, d2, d3, d4] }
  | _ => none }
def FnExactNextChimeWrongFalsely : Prop := fnExactNextChimeRow.holds Try.pinned (OpenSpec.ofChange fnExactNextChimeWrong)

/-- 'laws.FnExactSectionAt': WHATEVER THE INPUT: true; the input reads as it did. -/
def fnExactSectionAtSpec : ChangeSpec := { name := "fnExactSectionAt", fn := fun _ => fun
  | [d1, d2, d3] => { results := [.lit (.bool true)], args := [d1, d2, d3] }
  | _ => none }
def fnExactSectionAtRow : OpenClaim := { program := "ytancboodcnomiaa", sum := "63327f205f2efc5f912058050dec1dd3129d56b2e40d805030d0ff3658b656bf", func := "loop.example/g01311/laws.FnExactSectionAt", spec := "fnExactSectionAt", unfollowed := true, recurses := true, apart := false }
def FnExactSectionAtSaid : Prop := fnExactSectionAtRow.holds Try.pinned (OpenSpec.ofChange fnExactSectionAtSpec)

/-- ITS FALSE NEIGHBOUR: 'it returns false'. Refute it at one input. -/
def fnExactSectionAtWrong : ChangeSpec := { name := "fnExactSectionAt", fn := fun _ => fun
  | [d1, d2, d3] => { results := [.lit (.bool false)], args := [d1, d2, d3] }
  | _ => none }
def FnExactSectionAtWrongFalsely : Prop := fnExactSectionAtRow.holds Try.pinned (OpenSpec.ofChange fnExactSectionAtWrong)

/-- 'laws.FnExactStepsInDay': WHATEVER THE INPUT: true; the input reads as it did. -/
def fnExactStepsInDaySpec : ChangeSpec := { name := "fnExactStepsInDay", fn := fun _ => fun
  | [d1, d2] => { results := [.lit (.bool true)], args := [d1, d2] }
  | _ => none }
def fnExactStepsInDayRow : OpenClaim := { program := "ytancboodcnomiaa", sum := "63327f205f2efc5f912058050dec1dd3129d56b2e40d805030d0ff3658b656bf", func := "loop.example/g01311/laws.FnExactStepsInDay", spec := "fnExactStepsInDay", unfollowed := true, recurses := true, apart := false }
def FnExactStepsInDaySaid : Prop := fnExactStepsInDayRow.holds Try.pinned (OpenSpec.ofChange fnExactStepsInDaySpec)

/-- ITS FALSE NEIGHBOUR: 'it returns false'. Refute it at one input. -/
def fnExactStepsInDayWrong : ChangeSpec := { name := "fnExactStepsInDay", fn := fun _ => fun
  | [d1, d2] => { results := [.lit (.bool false)], args := [d1, d2] }
  | _ => none }
def FnExactStepsInDayWrongFalsely : Prop := fnExactStepsInDayRow.holds Try.pinned (OpenSpec.ofChange fnExactStepsInDayWrong)

/-- 'laws.FnExactMakeChanges': WHATEVER THE INPUT: true; the input reads as it did. -/
def fnExactMakeChangesSpec : ChangeSpec := { name := "fnExactMakeChanges", fn := fun _ => fun
  | [d1, d2, d3] => { results := [.lit (.bool true)], args := [d1, d2, d3] }
  | _ => none }
def fnExactMakeChangesRow : OpenClaim := { program := "ytancboodcnomiaa", sum := "63327f205f2efc5f912058050dec1dd3129d56b2e40d805030d0ff3658b656bf", func := "loop.example/g01311/laws.FnExactMakeChanges", spec := "fnExactMakeChanges", unfollowed := true, recurses := true, apart := false }
def FnExactMakeChangesSaid : Prop := fnExactMakeChangesRow.holds Try.pinned (OpenSpec.ofChange fnExactMakeChangesSpec)

/-- ITS FALSE NEIGHBOUR: 'it returns false'. Refute it at one input. -/
def fnExactMakeChangesWrong : ChangeSpec := { name := "fnExactMakeChanges", fn := fun _ => fun
  | [d1, d2, d3] => { results := [.lit (.bool false)], args := [d1, d2, d3] }
  | _ => none }
def FnExactMakeChangesWrongFalsely : Prop := fnExactMakeChangesRow.holds Try.pinned (OpenSpec.ofChange fnExactMakeChangesWrong)

/-- 'laws.FnExactFirstBadChange': WHATEVER THE INPUT: true; the input reads as it did. -/
def fnExactFirstBadChangeSpec : ChangeSpec := { name := "fnExactFirstBadChange", fn := fun _ => fun
  | [d1, d2, d3] => { results := [.lit (.bool true)], args := [d1, d2, d3] }
  | _ => none }
def fnExactFirstBadChangeRow : OpenClaim := { program := "ytancboodcnomiaa", sum := "63327f205f2efc5f912058050dec1dd3129d56b2e40d805030d0ff3658b656bf", func := "loop.example/g01311/laws.FnExactFirstBadChange", spec := "fnExactFirstBadChange", unfollowed := true, recurses := true, apart := false }
def FnExactFirstBadChangeSaid : Prop := fnExactFirstBadChangeRow.holds Try.pinned (OpenSpec.ofChange fnExactFirstBadChangeSpec)

/-- ITS FALSE NEIGHBOUR: 'it returns false'. Refute it at one input. -/
def fnExactFirstBadChangeWrong : ChangeSpec := { name := "fnExactFirstBadChange", fn := fun _ => fun
  | [d1, d2, d3] => { results := [.lit (.bool false)], args := [d1, d2, d3] }
  | _ => none }
def FnExactFirstBadChangeWrongFalsely : Prop := fnExactFirstBadChangeRow.holds Try.pinned (OpenSpec.ofChange fnExactFirstBadChangeWrong)

/-- 'laws.FnExactCountPlays': WHATEVER THE INPUT: true; the input reads as it did. -/
def fnExactCountPlaysSpec : ChangeSpec := { name := "fnExactCountPlays", fn := fun _ => fun
  | [d1, d2] => { results := [.lit (.bool true)], args := [d1, d2] }
  | _ => none }
def fnExactCountPlaysRow : OpenClaim := { program := "ytancboodcnomiaa", sum := "63327f205f2efc5f912058050dec1dd3129d56b2e40d805030d0ff3658b656bf", func := "loop.example/g01311/laws.FnExactCountPlays", spec := "fnExactCountPlays", unfollowed := true, recurses := true, apart := false }
def FnExactCountPlaysSaid : Prop := fnExactCountPlaysRow.holds Try.pinned (OpenSpec.ofChange fnExactCountPlaysSpec)

/-- ITS FALSE NEIGHBOUR: 'it returns false'. Refute it at one input. -/
def fnExactCountPlaysWrong : ChangeSpec := { name := "fnExactCountPlays", fn := fun _ => fun
  | [d1, d2] => { results := [.lit (.bool false)], args := [d1, d2] }
  | _ => none }
def FnExactCountPlaysWrongFalsely : Prop := fnExactCountPlaysRow.holds Try.pinned (OpenSpec.ofChange fnExactCountPlaysWrong)

/-- 'laws.FnExactSilentQuarters': WHATEVER THE INPUT: true; the input reads as it did. -/
def fnExactSilentQuartersSpec : ChangeSpec := { name := "fnExactSilentQuarters", fn := fun _ => fun
  | [d1, d2] => { results := [.lit (.bool true)], args := [d1, d2] }
  | _ => none }
def fnExactSilentQuartersRow : OpenClaim := { program := "ytancboodcnomiaa", sum := "63327f205f2efc5f912058050dec1dd3129d56b2e40d805030d0ff3658b656bf", func := "loop.example/g01311/laws.FnExactSilentQuarters", spec := "fnExactSilentQuarters", unfollowed := true, recurses := true, apart := false }
def FnExactSilentQuartersSaid : Prop := fnExactSilentQuartersRow.holds Try.pinned (OpenSpec.ofChange fnExactSilentQuartersSpec)

/-- ITS FALSE NEIGHBOUR: 'it returns false'. Refute it at one input. -/
def fnExactSilentQuartersWrong : ChangeSpec := { name := "fnExactSilentQuarters", fn := fun _ => fun
  | [d1, d2] => { results := [.lit (.bool false)], args := [d1, d2] }
  | _ => none }
def FnExactSilentQuartersWrongFalsely : Prop := fnExactSilentQuartersRow.holds Try.pinned (OpenSpec.ofChange fnExactSilentQuartersWrong)

/-- 'laws.FnExactCheckOrder': WHATEVER THE INPUT: true; the input reads as it did. -/
def fnExactCheckOrderSpec : ChangeSpec := { name := "fnExactCheckOrder", fn := fun _ => fun
  | [d1, d2, d3, d4] => { results := [.lit (.bool true)], args := [d1, d2, d3, d4] }
  | _ => none }
def fnExactCheckOrderRow : OpenClaim := { program := "ytancboodcnomiaa", sum := "63327f205f2efc5f912058050dec1dd3129d56b2e40d805030d0ff3658b656bf", func := "loop.example/g01311/laws.FnExactCheckOrder", spec := "fnExactCheckOrder", unfollowed := true, recurses := true, apart := false }
def FnExactCheckOrderSaid : Prop := fnExactCheckOrderRow.holds Try.pinned (OpenSpec.ofChange fnExactCheckOrderSpec)

/-- ITS FALSE NEIGHBOUR: 'it returns false'. Refute it at one input. -/
def fnExactCheckOrderWrong : ChangeSpec := { name := "fnExactCheckOrder", fn := fun _ => fun
  | [d1, d2, d3, d4] => { results := [.lit (.bool false)], args := [d1, d2, d3, d4] }
  | _ => none }
def FnExactCheckOrderWrongFalsely : Prop := fnExactCheckOrderRow.holds Try.pinned (OpenSpec.ofChange fnExactCheckOrderWrong)

/-- 'laws.FnExactOrderCost': WHATEVER THE INPUT: true; the input reads as it did. -/
def fnExactOrderCostSpec : ChangeSpec := { name := "fnExactOrderCost", fn := fun _ => fun
  | [d1, d2, d3] => { results := [.lit (.bool true)], args := [d1, d2, d3] }
  | _ => none }
def fnExactOrderCostRow : OpenClaim := { program := "ytancboodcnomiaa", sum := "63327f205f2efc5f912058050dec1dd3129d56b2e40d805030d0ff3658b656bf", func := "loop.example/g01311/laws.FnExactOrderCost", spec := "fnExactOrderCost", unfollowed := true, recurses := true, apart := false }
def FnExactOrderCostSaid : Prop := fnExactOrderCostRow.holds Try.pinned (OpenSpec.ofChange fnExactOrderCostSpec)

/-- ITS FALSE NEIGHBOUR: 'it returns false'. Refute it at one input. -/
def fnExactOrderCostWrong : ChangeSpec := { name := "fnExactOrderCost", fn := fun _ => fun
  | [d1, d2, d3] => { results := [.lit (.bool false)], args := [d1, d2, d3] }
  | _ => none }
def FnExactOrderCostWrongFalsely : Prop := fnExactOrderCostRow.holds Try.pinned (OpenSpec.ofChange fnExactOrderCostWrong)

/-- 'laws.FnExactCostTable': WHATEVER THE INPUT: true; the input reads as it did. -/
def fnExactCostTableSpec : ChangeSpec := { name := "fnExactCostTable", fn := fun _ => fun
  | [d1, d2] => { results := [.lit (.bool true)], args := [d1, d2] }
  | _ => none }
def fnExactCostTableRow : OpenClaim := { program := "ytancboodcnomiaa", sum := "63327f205f2efc5f912058050dec1dd3129d56b2e40d805030d0ff3658b656bf", func := "loop.example/g01311/laws.FnExactCostTable", spec := "fnExactCostTable", unfollowed := true, recurses := true, apart := false }
def FnExactCostTableSaid : Prop := fnExactCostTableRow.holds Try.pinned (OpenSpec.ofChange fnExactCostTableSpec)

/-- ITS FALSE NEIGHBOUR: 'it returns false'. Refute it at one input. -/
def fnExactCostTableWrong : ChangeSpec := { name := "fnExactCostTable", fn := fun _ => fun
  | [d1, d2] => { results := [.lit (.bool false)], args := [d1, d2] }
  | _ => none }
def FnExactCostTableWrongFalsely : Prop := fnExactCostTableRow.holds Try.pinned (OpenSpec.ofChange fnExactCostTableWrong)

/- THE SECOND FORM. 'bulk': how many values and letters a reading holds, each counted each time it is reached (what is shared counts as often as it is met; a slice's spare places count too). A statement '..UptoSaid' is the law's where the arguments, and the package variables that the reading takes, are together of bulk at most 1048576: NARROWER than '..Said'. Prove '..Said' where nothing that the law and all that it calls make is longer than what came in: it says more and counts as full. Else prove '..UptoSaid'. A law counts once. -/
mutual
def uptoBulk {H : Type} : DataW H → Nat
  | .lit (.string bytes) => bytes.length + 1
  | .lit _ => 1
  | .nil => 1
  | .ptr d => uptoBulk d + 1
  | .slice elems spare => uptoBulkAll elems + uptoBulkAll spare + 1
  | .agg parts => uptoBulkAll parts + 1
  | .iface _ d => uptoBulk d + 1
  | .map entries => uptoBulkEntries entries + 1
  | .held _ => 1
def uptoBulkAll {H : Type} : List (DataW H) → Nat
  | [] => 0
  | d :: r => uptoBulk d + uptoBulkAll r
def uptoBulkEntries {H : Type} : List (Lit × DataW H) → Nat
  | [] => 0
  | x :: r => uptoBulkEntry x + uptoBulkEntries r
def uptoBulkEntry {H : Type} : Lit × DataW H → Nat
  | (.string bytes, d) => bytes.length + uptoBulk d + 1
  | (_, d) => uptoBulk d + 1
 end
def uptoSmall : (H : Type) → List (DataW H) → Bool := fun _ ds => decide (uptoBulkAll ds ≤ 1048576)
def OpenSpec.upto (s : _root_.Go.ChangeSpec) : _root_.Go.OpenSpec := { _root_.Go.OpenSpec.ofChange s with cond := some uptoSmall }

/-- 'laws.FnExactPinsNeeded', WHERE WHAT IT READS IS OF BULK AT MOST 1048576: true; the input reads as it did. -/
def fnExactPinsNeededUptoRow : OpenClaim := { program := "ytancboodcnomiaa", sum := "63327f205f2efc5f912058050dec1dd3129d56b2e40d805030d0ff3658b656bf", func := "loop.example/g01311/laws.FnExactPinsNeeded", spec := "fnExactPinsNeeded", unfollowed := true, recurses := true, apart := false, narrowed := true }
def FnExactPinsNeededUptoSaid : Prop := fnExactPinsNeededUptoRow.holds Try.pinned (OpenSpec.upto fnExactPinsNeededSpec)

/-- 'laws.FnExactStepsTo', WHERE WHAT IT READS IS OF BULK AT MOST 1048576: true; the input reads as it did. -/
def fnExactStepsToUptoRow : OpenClaim := { program := "ytancboodcnomiaa", sum := "63327f205f2efc5f912058050dec1dd3129d56b2e40d805030d0ff3658b656bf", func := "loop.example/g01311/laws.FnExactStepsTo", spec := "fnExactStepsTo", unfollowed := true, recurses := true, apart := false, narrowed := true }
def FnExactStepsToUptoSaid : Prop := fnExactStepsToUptoRow.holds Try.pinned (OpenSpec.upto fnExactStepsToSpec)

/-- 'laws.FnExactNextChime', WHERE WHAT IT READS IS OF BULK AT MOST 1048576: true; the input reads as it did. -/
def fnExactNextChimeUptoRow : OpenClaim := { program := "ytancboodcnomiaa", sum := "63327f205f2efc5f912058050dec1dd3129d56b2e40d805030d0ff3658b656bf", func := "loop.example/g01311/laws.FnExactNextChime", spec := "fnExactNextChime", unfollowed := true, recurses := true, apart := false, narrowed := true }
def FnExactNextChimeUptoSaid : Prop := fnExactNextChimeUptoRow.holds Try.pinned (OpenSpec.upto fnExactNextChimeSpec)

/-- 'laws.FnExactSectionAt', WHERE WHAT IT READS IS OF BULK AT MOST 1048576: true; the input reads as it did. -/
def fnExactSectionAtUptoRow : OpenClaim := { program := "ytancboodcnomiaa", sum := "63327f205f2efc5f912058050dec1dd3129d56b2e40d805030d0ff3658b656bf", func := "loop.example/g01311/laws.FnExactSectionAt", spec := "fnExactSectionAt", unfollowed := true, recurses := true, apart := false, narrowed := true }
def FnExactSectionAtUptoSaid : Prop := fnExactSectionAtUptoRow.holds Try.pinned (OpenSpec.upto fnExactSectionAtSpec)

/-- 'laws.FnExactStepsInDay', WHERE WHAT IT READS IS OF BULK AT MOST 1048576: true; the input reads as it did. -/
def fnExactStepsInDayUptoRow : OpenClaim := { program := "ytancboodcnomiaa", sum := "63327f205f2efc5f912058050dec1dd3129d56b2e40d805030d0ff3658b656bf", func := "loop.example/g01311/laws.FnExactStepsInDay", spec := "fnExactStepsInDay", unfollowed := true, recurses := true, apart := false, narrowed := true }
def FnExactStepsInDayUptoSaid : Prop := fnExactStepsInDayUptoRow.holds Try.pinned (OpenSpec.upto fnExactStepsInDaySpec)

/-- 'laws.FnExactMakeChanges', WHERE WHAT IT READS IS OF BULK AT MOST 1048576: true; the input reads as it did. -/
def fnExactMakeChangesUptoRow : OpenClaim := { program := "ytancboodcnomiaa", sum := "63327f205f2efc5f912058050dec1dd3129d56b2e40d805030d0ff3658b656bf", func := "loop.example/g01311/laws.FnExactMakeChanges", spec := "fnExactMakeChanges", unfollowed := true, recurses := true, apart := false, narrowed := true }
def FnExactMakeChangesUptoSaid : Prop := fnExactMakeChangesUptoRow.holds Try.pinned (OpenSpec.upto fnExactMakeChangesSpec)

/-- 'laws.FnExactFirstBadChange', WHERE WHAT IT READS IS OF BULK AT MOST 1048576: true; the input reads as it did. -/
def fnExactFirstBadChangeUptoRow : OpenClaim := { program := "ytancboodcnomiaa", sum := "63327f205f2efc5f912058050dec1dd3129d56b2e40d805030d0ff3658b656bf", func := "loop.example/g01311/laws.FnExactFirstBadChange", spec := "fnExactFirstBadChange", unfollowed := true, recurses := true, apart := false, narrowed := true }
def FnExactFirstBadChangeUptoSaid : Prop := fnExactFirstBadChangeUptoRow.holds Try.pinned (OpenSpec.upto fnExactFirstBadChangeSpec)

/-- 'laws.FnExactCountPlays', WHERE WHAT IT READS IS OF BULK AT MOST 1048576: true; the input reads as it did. -/
def fnExactCountPlaysUptoRow : OpenClaim := { program := "ytancboodcnomiaa", sum := "63327f205f2efc5f912058050dec1dd3129d56b2e40d805030d0ff3658b656bf", func := "loop.example/g01311/laws.FnExactCountPlays", spec := "fnExactCountPlays", unfollowed := true, recurses := true, apart := false, narrowed := true }
def FnExactCountPlaysUptoSaid : Prop := fnExactCountPlaysUptoRow.holds Try.pinned (OpenSpec.upto fnExactCountPlaysSpec)

/-- 'laws.FnExactSilentQuarters', WHERE WHAT IT READS IS OF BULK AT MOST 1048576: true; the input reads as it did. -/
def fnExactSilentQuartersUptoRow : OpenClaim := { program := "ytancboodcnomiaa", sum := "63327f205f2efc5f912058050dec1dd3129d56b2e40d805030d0ff3658b656bf", func := "loop.example/g01311/laws.FnExactSilentQuarters", spec := "fnExactSilentQuarters", unfollowed := true, recurses := true, apart := false, narrowed := true }
def FnExactSilentQuartersUptoSaid : Prop := fnExactSilentQuartersUptoRow.holds Try.pinned (OpenSpec.upto fnExactSilentQuartersSpec)

/-- 'laws.FnExactCheckOrder', WHERE WHAT IT READS IS OF BULK AT MOST 1048576: true; the input reads as it did. -/
def fnExactCheckOrderUptoRow : OpenClaim := { program := "ytancboodcnomiaa", sum := "63327f205f2efc5f912058050dec1dd3129d56b2e40d805030d0ff3658b656bf", func := "loop.example/g01311/laws.FnExactCheckOrder", spec := "fnExactCheckOrder", unfollowed := true, recurses := true, apart := false, narrowed := true }
def FnExactCheckOrderUptoSaid : Prop := fnExactCheckOrderUptoRow.holds Try.pinned (OpenSpec.upto fnExactCheckOrderSpec)

/-- 'laws.FnExactOrderCost', WHERE WHAT IT READS IS OF BULK AT MOST 1048576: true; the input reads as it did. -/
def fnExactOrderCostUptoRow : OpenClaim := { program := "ytancboodcnomiaa", sum := "63327f205f2efc5f912058050dec1dd3129d56b2e40d805030d0ff3658b656bf", func := "loop.example/g01311/laws.FnExactOrderCost", spec := "fnExactOrderCost", unfollowed := true, recurses := true, apart := false, narrowed := true }
def FnExactOrderCostUptoSaid : Prop := fnExactOrderCostUptoRow.holds Try.pinned (OpenSpec.upto fnExactOrderCostSpec)

/-- 'laws.FnExactCostTable', WHERE WHAT IT READS IS OF BULK AT MOST 1048576: true; the input reads as it did. -/
def fnExactCostTableUptoRow : OpenClaim := { program := "ytancboodcnomiaa", sum := "63327f205f2efc5f912058050dec1dd3129d56b2e40d805030d0ff3658b656bf", func := "loop.example/g01311/laws.FnExactCostTable", spec := "fnExactCostTable", unfollowed := true, recurses := true, apart := false, narrowed := true }
def FnExactCostTableUptoSaid : Prop := fnExactCostTableUptoRow.holds Try.pinned (OpenSpec.upto fnExactCostTableSpec)

end Rows
end Go.Proofs.Ytancboodcnomiaa
