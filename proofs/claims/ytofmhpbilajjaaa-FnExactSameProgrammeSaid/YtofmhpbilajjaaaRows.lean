/-
  No cell of these rows narrows 'for every input' (looked for: loops, veiled, ifaces, maps, wideKeys, modest, calm, conditions, laid).
  DERIVED. THE GIVEN ROWS OF THIS SEAT. 11 by the template 'for every input the law returns true; each argument reads behind the call as it read before'; 0 by the template 'total and deterministic' (their statements: YtofmhpbilajjaaaTotals.lean).
  GIVEN WITH THE SEED: the statements are not yours to turn. If you find one false, say at which input.
  Laid BY PROGRAM, IN A SANDBOX (cutbox-rows.mjs): the forced cells as the released guide's own fill.sh prints them over the translation 178778728e4f48a8… (all of the seat's roots in one cut). By AI agents, Wed Nov 11 2026. No macro, syntax, notation, axiom, sorry.
-/
import Derived.Test.YtofmhpbilajjaaaChecked
import GoSem.Claim
import GoSem.ClaimJoined
import GoSem.ClaimMapViews
import Derived.JoinedTies
import Derived.KernelRfl
namespace Go.Proofs.Ytofmhpbilajjaaa
/- THE CELL 'sum', in the pinned program and in every row, IS THE sha256 OF THE DUMP (.gsa) THAT YtofmhpbilajjaaaProg.lean LOADS. Nothing in Lean hashes anything: it is a label: what it is worth is what the hold of that sum in a sandbox is worth. -/
noncomputable def Try.pinned : Pinned := { name := "ytofmhpbilajjaaa", sum := "178778728e4f48a8dc12021791432d1b351962569bafbd35a04c29b1e463cd42", checked := Try.checked }
namespace Rows
def none {H : Type} : Left H := { results := [], args := [] }

/-- 'laws.FnExactStrikeTune': WHATEVER THE INPUT: true; the input reads as it did. -/
def fnExactStrikeTuneSpec : ChangeSpec := { name := "fnExactStrikeTune", fn := fun _ => fun
  | [d1, d2, d3] => { results := [.lit (.bool true)], args := [d1, d2, d3] }
  | _ => none }
def fnExactStrikeTuneRow : OpenClaim := { program := "ytofmhpbilajjaaa", sum := "178778728e4f48a8dc12021791432d1b351962569bafbd35a04c29b1e463cd42", func := "loop.example/g01311/laws.FnExactStrikeTune", spec := "fnExactStrikeTune", apart := false }
def FnExactStrikeTuneSaid : Prop := fnExactStrikeTuneRow.holds Try.pinned (OpenSpec.ofChange fnExactStrikeTuneSpec)

/-- ITS FALSE NEIGHBOUR: 'it returns false'. Refute it at one input. -/
def fnExactStrikeTuneWrong : ChangeSpec := { name := "fnExactStrikeTune", fn := fun _ => fun
  | [d1, d2, d3] => { results := [.lit (.bool false)], args := [d1, d2, d3] }
  | _ => none }
def FnExactStrikeTuneWrongFalsely : Prop := fnExactStrikeTuneRow.holds Try.pinned (OpenSpec.ofChange fnExactStrikeTuneWrong)

/-- 'laws.FnExactSameProgramme': WHATEVER THE INPUT: true; the input reads as it did. -/
def fnExactSameProgrammeSpec : ChangeSpec := { name := "fnExactSameProgramme", fn := fun _ => fun
  | [d1, d2] => { results := [.lit (.bool true)], args := [d1, d2] }
  | _ => none }
def fnExactSameProgrammeRow : OpenClaim := { program := "ytofmhpbilajjaaa", sum := "178778728e4f48a8dc12021791432d1b351962569bafbd35a04c29b1e463cd42", func := "loop.example/g01311/laws.FnExactSameProgramme", spec := "fnExactSameProgramme", apart := false }
def FnExactSameProgrammeSaid : Prop := fnExactSameProgrammeRow.holds Try.pinned (OpenSpec.ofChange fnExactSameProgrammeSpec)

/-- ITS FALSE NEIGHBOUR: 'it returns false'. Refute it at one input. -/
def fnExactSameProgrammeWrong : ChangeSpec := { name := "fnExactSameProgramme", fn := fun _ => fun
  | [d1, d2] => { results := [.lit (.bool false)], args := [d1, d2] }
  | _ => none }
def FnExactSameProgrammeWrongFalsely : Prop := fnExactSameProgrammeRow.holds Try.pinned (OpenSpec.ofChange fnExactSameProgrammeWrong)

/-- 'laws.FnExactUndoChanges': WHATEVER THE INPUT: true; the input reads as it did. -/
def fnExactUndoChangesSpec : ChangeSpec := { name := "fnExactUndoChanges", fn := fun _ => fun
  | [d] => { results := [.lit (.bool true)], args := [d] }
  | _ => none }
def fnExactUndoChangesRow : OpenClaim := { program := "ytofmhpbilajjaaa", sum := "178778728e4f48a8dc12021791432d1b351962569bafbd35a04c29b1e463cd42", func := "loop.example/g01311/laws.FnExactUndoChanges", spec := "fnExactUndoChanges", apart := false }
def FnExactUndoChangesSaid : Prop := fnExactUndoChangesRow.holds Try.pinned (OpenSpec.ofChange fnExactUndoChangesSpec)

/-- ITS FALSE NEIGHBOUR: 'it returns false'. Refute it at one input. -/
def fnExactUndoChangesWrong : ChangeSpec := { name := "fnExactUndoChanges", fn := fun _ => fun
  | [d] => { results := [.lit (.bool false)], args := [d] }
  | _ => none }
def FnExactUndoChangesWrongFalsely : Prop := fnExactUndoChangesRow.holds Try.pinned (OpenSpec.ofChange fnExactUndoChangesWrong)

/-- 'laws.FnExactChangeCost': WHATEVER THE INPUT: true; the input reads as it did. -/
def fnExactChangeCostSpec : ChangeSpec := { name := "fnExactChangeCost", fn := fun _ => fun
  | [d1, d2, d3] => { results := [.lit (.bool true)], args := [d1, d2, d3] }
  | _ => none }
def fnExactChangeCostRow : OpenClaim := { program := "ytofmhpbilajjaaa", sum := "178778728e4f48a8dc12021791432d1b351962569bafbd35a04c29b1e463cd42", func := "loop.example/g01311/laws.FnExactChangeCost", spec := "fnExactChangeCost", unfollowed := true, recurses := true, apart := false }
def FnExactChangeCostSaid : Prop := fnExactChangeCostRow.holds Try.pinned (OpenSpec.ofChange fnExactChangeCostSpec)

/-- ITS FALSE NEIGHBOUR: 'it returns false'. Refute it at one input. -/
def fnExactChangeCostWrong : ChangeSpec := { name := "fnExactChangeCost", fn := fun _ => fun
  | [d1, d2, d3] => { results := [.lit (.bool false)], args := [d1, d2, d3] }
  | _ => none }
def FnExactChangeCostWrongFalsely : Prop := fnExactChangeCostRow.holds Try.pinned (OpenSpec.ofChange fnExactChangeCostWrong)

/-- 'laws.FnExactTurnedCost': WHATEVER THE INPUT: true; the input reads as it did. -/
def fnExactTurnedCostSpec : ChangeSpec := { name := "fnExactTurnedCost", fn := fun _ => fun
  | [d1, d2, d3] => { results := [.lit (.bool true)], args := [d1, d2, d3] }
  | _ => none }
def fnExactTurnedCostRow : OpenClaim := { program := "ytofmhpbilajjaaa", sum := "178778728e4f48a8dc12021791432d1b351962569bafbd35a04c29b1e463cd42", func := "loop.example/g01311/laws.FnExactTurnedCost", spec := "fnExactTurnedCost", unfollowed := true, recurses := true, apart := false }
def FnExactTurnedCostSaid : Prop := fnExactTurnedCostRow.holds Try.pinned (OpenSpec.ofChange fnExactTurnedCostSpec)

/-- ITS FALSE NEIGHBOUR: 'it returns false'. Refute it at one input. -/
def fnExactTurnedCostWrong : ChangeSpec := { name := "fnExactTurnedCost", fn := fun _ => fun
  | [d1, d2, d3] => { results := [.lit (.bool false)], args := [d1, d2, d3] }
  | _ => none }
def FnExactTurnedCostWrongFalsely : Prop := fnExactTurnedCostRow.holds Try.pinned (OpenSpec.ofChange fnExactTurnedCostWrong)

/-- 'laws.FnExactValidProgramme': WHATEVER THE INPUT: true; the input reads as it did. -/
def fnExactValidProgrammeSpec : ChangeSpec := { name := "fnExactValidProgramme", fn := fun _ => fun
  | [d1, d2] => { results := [.lit (.bool true)], args := [d1, d2] }
  | _ => none }
def fnExactValidProgrammeRow : OpenClaim := { program := "ytofmhpbilajjaaa", sum := "178778728e4f48a8dc12021791432d1b351962569bafbd35a04c29b1e463cd42", func := "loop.example/g01311/laws.FnExactValidProgramme", spec := "fnExactValidProgramme", unfollowed := true, recurses := true, apart := false }
def FnExactValidProgrammeSaid : Prop := fnExactValidProgrammeRow.holds Try.pinned (OpenSpec.ofChange fnExactValidProgrammeSpec)

/-- ITS FALSE NEIGHBOUR: 'it returns false'. Refute it at one input. -/
def fnExactValidProgrammeWrong : ChangeSpec := { name := "fnExactValidProgramme", fn := fun _ => fun
  | [d1, d2] => { results := [.lit (.bool false)], args := [d1, d2] }
  | _ => none }
def FnExactValidProgrammeWrongFalsely : Prop := fnExactValidProgrammeRow.holds Try.pinned (OpenSpec.ofChange fnExactValidProgrammeWrong)

/-- 'laws.FnSharedDrums': WHATEVER THE INPUT: true; the input reads as it did. -/
def fnSharedDrumsSpec : ChangeSpec := { name := "fnSharedDrums", fn := fun _ => fun
  | [d1, d2] => { results := [.lit (.bool true)], args := [d1, d2] }
  | _ => none }
def fnSharedDrumsRow : OpenClaim := { program := "ytofmhpbilajjaaa", sum := "178778728e4f48a8dc12021791432d1b351962569bafbd35a04c29b1e463cd42", func := "loop.example/g01311/laws.FnSharedDrums", spec := "fnSharedDrums", unfollowed := true, recurses := true, apart := false }
def FnSharedDrumsSaid : Prop := fnSharedDrumsRow.holds Try.pinned (OpenSpec.ofChange fnSharedDrumsSpec)

/-- ITS FALSE NEIGHBOUR: 'it returns false'. Refute it at one input. -/
def fnSharedDrumsWrong : ChangeSpec := { name := "fnSharedDrums", fn := fun _ => fun
  | [d1, d2] => { results := [.lit (.bool false)], args := [d1, d2] }
  | _ => none }
def FnSharedDrumsWrongFalsely : Prop := fnSharedDrumsRow.holds Try.pinned (OpenSpec.ofChange fnSharedDrumsWrong)

/-- 'laws.FnExactUnionOf': WHATEVER THE INPUT: true; the input reads as it did. -/
def fnExactUnionOfSpec : ChangeSpec := { name := "fnExactUnionOf", fn := fun _ => fun
  | [d1, d2] => { results := [.lit (.bool true)], args := [d1, d2] }
  | _ => none }
def fnExactUnionOfRow : OpenClaim := { program := "ytofmhpbilajjaaa", sum := "178778728e4f48a8dc12021791432d1b351962569bafbd35a04c29b1e463cd42", func := "loop.example/g01311/laws.FnExactUnionOf", spec := "fnExactUnionOf", unfollowed := true, recurses := true, apart := false }
def FnExactUnionOfSaid : Prop := fnExactUnionOfRow.holds Try.pinned (OpenSpec.ofChange fnExactUnionOfSpec)

/-- ITS FALSE NEIGHBOUR: 'it returns false'. Refute it at one input. -/
def fnExactUnionOfWrong : ChangeSpec := { name := "fnExactUnionOf", fn := fun _ => fun
  | [d1, d2] => { results := [.lit (.bool false)], args := [d1, d2] }
  | _ => none }
def FnExactUnionOfWrongFalsely : Prop := fnExactUnionOfRow.holds Try.pinned (OpenSpec.ofChange fnExactUnionOfWrong)

/-- 'laws.FnExactSpareTracks': WHATEVER THE INPUT: true; the input reads as it did. -/
def fnExactSpareTracksSpec : ChangeSpec := { name := "fnExactSpareTracks", fn := fun _ => fun
  | [d1, d2] => { results := [.lit (.bool true)], args := [d1, d2] }
  | _ => none }
def fnExactSpareTracksRow : OpenClaim := { program := "ytofmhpbilajjaaa", sum := "178778728e4f48a8dc12021791432d1b351962569bafbd35a04c29b1e463cd42", func := "loop.example/g01311/laws.FnExactSpareTracks", spec := "fnExactSpareTracks", unfollowed := true, recurses := true, apart := false }
def FnExactSpareTracksSaid : Prop := fnExactSpareTracksRow.holds Try.pinned (OpenSpec.ofChange fnExactSpareTracksSpec)

/-- ITS FALSE NEIGHBOUR: 'it returns false'. Refute it at one input. -/
def fnExactSpareTracksWrong : ChangeSpec := { name := "fnExactSpareTracks", fn := fun _ => fun
  | [d1, d2] => { results := [.lit (.bool false)], args := [d1, d2] }
  | _ => none }
def FnExactSpareTracksWrongFalsely : Prop := fnExactSpareTracksRow.holds Try.pinned (OpenSpec.ofChange fnExactSpareTracksWrong)

/-- 'laws.FnExactSharedPins': WHATEVER THE INPUT: true; the input reads as it did. -/
def fnExactSharedPinsSpec : ChangeSpec := { name := "fnExactSharedPins", fn := fun _ => fun
  | [d1, d2] => { results := [.lit (.bool true)], args := [d1, d2] }
  | _ => none }
def fnExactSharedPinsRow : OpenClaim := { program := "ytofmhpbilajjaaa", sum := "178778728e4f48a8dc12021791432d1b351962569bafbd35a04c29b1e463cd42", func := "loop.example/g01311/laws.FnExactSharedPins", spec := "fnExactSharedPins", unfollowed := true, recurses := true, apart := false }
def FnExactSharedPinsSaid : Prop := fnExactSharedPinsRow.holds Try.pinned (OpenSpec.ofChange fnExactSharedPinsSpec)

/-- ITS FALSE NEIGHBOUR: 'it returns false'. Refute it at one input. -/
def fnExactSharedPinsWrong : ChangeSpec := { name := "fnExactSharedPins", fn := fun _ => fun
  | [d1, d2] => { results := [.lit (.bool false)], args := [d1, d2] }
  | _ => none }
def FnExactSharedPinsWrongFalsely : Prop := fnExactSharedPinsRow.holds Try.pinned (OpenSpec.ofChange fnExactSharedPinsWrong)

/-- 'laws.FnExactCanShare': WHATEVER THE INPUT: true; the input reads as it did. -/
def fnExactCanShareSpec : ChangeSpec := { name := "fnExactCanShare", fn := fun _ => fun
  | [d1, d2, d3] => { results := [.lit (.bool true)], args := [d1, d2, d3] }
  | _ => none }
def fnExactCanShareRow : OpenClaim := { program := "ytofmhpbilajjaaa", sum := "178778728e4f48a8dc12021791432d1b351962569bafbd35a04c29b1e463cd42", func := "loop.example/g01311/laws.FnExactCanShare", spec := "fnExactCanShare", unfollowed := true, recurses := true, apart := false }
def FnExactCanShareSaid : Prop := fnExactCanShareRow.holds Try.pinned (OpenSpec.ofChange fnExactCanShareSpec)

/-- ITS FALSE NEIGHBOUR: 'it returns false'. Refute it at one input. -/
def fnExactCanShareWrong : ChangeSpec := { name := "fnExactCanShare", fn := fun _ => fun
  | [d1, d2, d3] => { results := [.lit (.bool false)], args := [d1, d2, d3] }
  | _ => none }
def FnExactCanShareWrongFalsely : Prop := fnExactCanShareRow.holds Try.pinned (OpenSpec.ofChange fnExactCanShareWrong)

/- THE SECOND FORM. 'bulk': how many values and letters a reading holds, each counted each time it is reached (what is shared counts as often as it is met; a slice's spare places count too). A statement '..UptoSaid' is the law's where the arguments, and the package variables that the reading takes, are together of bulk at most 1048576: NARROWER than '..Said'. Prove '..Said' where nothing that the law and all that it calls make is longer than what came in: it says more and counts as full. Else prove '..UptoSaid'. A law counts once. -/
mutual
def uptoBulk {H : Type} : DataW H → Nat
  | .lit (.string bytes) => bytes.length + 1
  | .lit _ => 1
  | .nil => 1
  | .ptr d => uptoBulk d + 1
  | .slice elems spare => uptoBulkAll elems + uptoBulkAll spare + 1
  | .agg parts => uptoBulkAll parts + 1
  | .iface _ d => uptoBulk d + 1
  | .map entries => uptoBulkEntries entries + 1
  | .held _ => 1
def uptoBulkAll {H : Type} : List (DataW H) → Nat
  | [] => 0
  | d :: r => uptoBulk d + uptoBulkAll r
def uptoBulkEntries {H : Type} : List (Lit × DataW H) → Nat
  | [] => 0
  | x :: r => uptoBulkEntry x + uptoBulkEntries r
def uptoBulkEntry {H : Type} : Lit × DataW H → Nat
  | (.string bytes, d) => bytes.length + uptoBulk d + 1
  | (_, d) => uptoBulk d + 1
 end
def uptoSmall : (H : Type) → List (DataW H) → Bool := fun _ ds => decide (uptoBulkAll ds ≤ 1048576)
def OpenSpec.upto (s : _root_.Go.ChangeSpec) : _root_.Go.OpenSpec := { _root_.Go.OpenSpec.ofChange s with cond := some uptoSmall }

/-- 'laws.FnExactStrikeTune', WHERE WHAT IT READS IS OF BULK AT MOST 1048576: true; the input reads as it did. -/
def fnExactStrikeTuneUptoRow : OpenClaim := { program := "ytofmhpbilajjaaa", sum := "178778728e4f48a8dc12021791432d1b351962569bafbd35a04c29b1e463cd42", func := "loop.example/g01311/laws.FnExactStrikeTune", spec := "fnExactStrikeTune", apart := false, narrowed := true }
def FnExactStrikeTuneUptoSaid : Prop := fnExactStrikeTuneUptoRow.holds Try.pinned (OpenSpec.upto fnExactStrikeTuneSpec)

/-- 'laws.FnExactSameProgramme', WHERE WHAT IT READS IS OF BULK AT MOST 1048576: true; the input reads as it did. -/
def fnExactSameProgrammeUptoRow : OpenClaim := { program := "ytofmhpbilajjaaa", sum := "178778728e4f48a8dc12021791432d1b351962569bafbd35a04c29b1e463cd42", func := "loop.example/g01311/laws.FnExactSameProgramme", spec := "fnExactSameProgramme", apart := false, narrowed := true }
def FnExactSameProgrammeUptoSaid : Prop := fnExactSameProgrammeUptoRow.holds Try.pinned (OpenSpec.upto fnExactSameProgrammeSpec)

/-- 'laws.FnExactUndoChanges', WHERE WHAT IT READS IS OF BULK AT MOST 1048576: true; the input reads as it did. -/
def fnExactUndoChangesUptoRow : OpenClaim := { program := "ytofmhpbilajjaaa", sum := "178778728e4f48a8dc12021791432d1b351962569bafbd35a04c29b1e463cd42", func := "loop.example/g01311/laws.FnExactUndoChanges", spec := "fnExactUndoChanges", apart := false, narrowed := true }
def FnExactUndoChangesUptoSaid : Prop := fnExactUndoChangesUptoRow.holds Try.pinned (OpenSpec.upto fnExactUndoChangesSpec)

/-- 'laws.FnExactChangeCost', WHERE WHAT IT READS IS OF BULK AT MOST 1048576: true; the input reads as it did. -/
def fnExactChangeCostUptoRow : OpenClaim := { program := "ytofmhpbilajjaaa", sum := "178778728e4f48a8dc12021791432d1b351962569bafbd35a04c29b1e463cd42", func := "loop.example/g01311/laws.FnExactChangeCost", spec := "fnExactChangeCost", unfollowed := true, recurses := true, apart := false, narrowed := true }
def FnExactChangeCostUptoSaid : Prop := fnExactChangeCostUptoRow.holds Try.pinned (OpenSpec.upto fnExactChangeCostSpec)

/-- 'laws.FnExactTurnedCost', WHERE WHAT IT READS IS OF BULK AT MOST 1048576: true; the input reads as it did. -/
def fnExactTurnedCostUptoRow : OpenClaim := { program := "ytofmhpbilajjaaa", sum := "178778728e4f48a8dc12021791432d1b351962569bafbd35a04c29b1e463cd42", func := "loop.example/g01311/laws.FnExactTurnedCost", spec := "fnExactTurnedCost", unfollowed := true, recurses := true, apart := false, narrowed := true }
def FnExactTurnedCostUptoSaid : Prop := fnExactTurnedCostUptoRow.holds Try.pinned (OpenSpec.upto fnExactTurnedCostSpec)

/-- 'laws.FnExactValidProgramme', WHERE WHAT IT READS IS OF BULK AT MOST 1048576: true; the input reads as it did. -/
def fnExactValidProgrammeUptoRow : OpenClaim := { program := "ytofmhpbilajjaaa", sum := "178778728e4f48a8dc12021791432d1b351962569bafbd35a04c29b1e463cd42", func := "loop.example/g01311/laws.FnExactValidProgramme", spec := "fnExactValidProgramme", unfollowed := true, recurses := true, apart := false, narrowed := true }
def FnExactValidProgrammeUptoSaid : Prop := fnExactValidProgrammeUptoRow.holds Try.pinned (OpenSpec.upto fnExactValidProgrammeSpec)

/-- 'laws.FnSharedDrums', WHERE WHAT IT READS IS OF BULK AT MOST 1048576: true; the input reads as it did. -/
def fnSharedDrumsUptoRow : OpenClaim := { program := "ytofmhpbilajjaaa", sum := "178778728e4f48a8dc12021791432d1b351962569bafbd35a04c29b1e463cd42", func := "loop.example/g01311/laws.FnSharedDrums", spec := "fnSharedDrums", unfollowed := true, recurses := true, apart := false, narrowed := true }
def FnSharedDrumsUptoSaid : Prop := fnSharedDrumsUptoRow.holds Try.pinned (OpenSpec.upto fnSharedDrumsSpec)

/-- 'laws.FnExactUnionOf', WHERE WHAT IT READS IS OF BULK AT MOST 1048576: true; the input reads as it did. -/
def fnExactUnionOfUptoRow : OpenClaim := { program := "ytofmhpbilajjaaa", sum := "178778728e4f48a8dc12021791432d1b351962569bafbd35a04c29b1e463cd42", func := "loop.example/g01311/laws.FnExactUnionOf", spec := "fnExactUnionOf", unfollowed := true, recurses := true, apart := false, narrowed := true }
def FnExactUnionOfUptoSaid : Prop := fnExactUnionOfUptoRow.holds Try.pinned (OpenSpec.upto fnExactUnionOfSpec)

/-- 'laws.FnExactSpareTracks', WHERE WHAT IT READS IS OF BULK AT MOST 1048576: true; the input reads as it did. -/
def fnExactSpareTracksUptoRow : OpenClaim := { program := "ytofmhpbilajjaaa", sum := "178778728e4f48a8dc12021791432d1b351962569bafbd35a04c29b1e463cd42", func := "loop.example/g01311/laws.FnExactSpareTracks", spec := "fnExactSpareTracks", unfollowed := true, recurses := true, apart := false, narrowed := true }
def FnExactSpareTracksUptoSaid : Prop := fnExactSpareTracksUptoRow.holds Try.pinned (OpenSpec.upto fnExactSpareTracksSpec)

/-- 'laws.FnExactSharedPins', WHERE WHAT IT READS IS OF BULK AT MOST 1048576: true; the input reads as it did. -/
def fnExactSharedPinsUptoRow : OpenClaim := { program := "ytofmhpbilajjaaa", sum := "178778728e4f48a8dc12021791432d1b351962569bafbd35a04c29b1e463cd42", func := "loop.example/g01311/laws.FnExactSharedPins", spec := "fnExactSharedPins", unfollowed := true, recurses := true, apart := false, narrowed := true }
def FnExactSharedPinsUptoSaid : Prop := fnExactSharedPinsUptoRow.holds Try.pinned (OpenSpec.upto fnExactSharedPinsSpec)

/-- 'laws.FnExactCanShare', WHERE WHAT IT READS IS OF BULK AT MOST 1048576: true; the input reads as it did. -/
def fnExactCanShareUptoRow : OpenClaim := { program := "ytofmhpbilajjaaa", sum := "178778728e4f48a8dc12021791432d1b351962569bafbd35a04c29b1e463cd42", func := "loop.example/g01311/laws.FnExactCanShare", spec := "fnExactCanShare", unfollowed := true, recurses := true, apart := false, narrowed := true }
def FnExactCanShareUptoSaid : Prop := fnExactCanShareUptoRow.holds Try.pinned (OpenSpec.upto fnExactCanShareSpec)

end Rows
end Go.Proofs.Ytofmhpbilajjaaa
