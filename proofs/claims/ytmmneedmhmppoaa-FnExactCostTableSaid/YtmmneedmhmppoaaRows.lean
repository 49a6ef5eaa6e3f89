/-
  No cell of these rows narrows 'for every input' (looked for: loops, veiled, ifaces, maps, wideKeys, modest, calm, conditions, laid).
  DERIVED. THE GIVEN ROWS OF THIS SEAT. 12 by the template 'for every input the law returns true; each argument reads behind the call as it read before'; 0 by the template 'total and deterministic' (their statements: YtmmneedmhmppoaaTotals.lean).
  GIVEN WITH THE SEED: the statements are not yours to turn. If you find one false, say at which input.
  Laid BY PROGRAM, IN A SANDBOX (cutbox-rows.mjs): the forced cells as the released guide's own fill.sh prints them over the translation 54e3027951c03930… (all of the seat's roots in one cut). By AI agents, Wed Nov 11 2026. No macro, syntax, notation, axiom, sorry.
-/
import Derived.Test.YtmmneedmhmppoaaChecked
import GoSem.Claim
import GoSem.ClaimJoined
import GoSem.ClaimMapViews
import Derived.JoinedTies
import Derived.KernelRfl
namespace Go.Proofs.Ytmmneedmhmppoaa
/- THE CELL 'sum', in the pinned program and in every row, IS THE sha256 OF THE DUMP (.gsa) THAT YtmmneedmhmppoaaProg.lean LOADS. Nothing in Lean hashes anything: it is a label: what it is worth is what the hold of that sum in a sandbox is worth. -/
noncomputable def Try.pinned : Pinned := { name := "ytmmneedmhmppoaa", sum := "54e3027951c0393098afdfd302804f6bc8c834dffcc09cd4ba4f7c105362ddca", checked := Try.checked }
namespace Rows
def none {H : Type} : Left H := { results := [], args := [] }

/-- 'laws.FnExactUndoChanges': WHATEVER THE INPUT: true; the input reads as it did. -/
def fnExactUndoChangesSpec : ChangeSpec := { name := "fnExactUndoChanges", fn := fun _ => fun
  | [d] => { results := [.lit (.bool true)], args := [d] }
  | _ => none }
def fnExactUndoChangesRow : OpenClaim := { program := "ytmmneedmhmppoaa", sum := "54e3027951c0393098afdfd302804f6bc8c834dffcc09cd4ba4f7c105362ddca", func := "loop.example/g01311/laws.FnExactUndoChanges", spec := "fnExactUndoChanges", apart := false }
def FnExactUndoChangesSaid : Prop := fnExactUndoChangesRow.holds Try.pinned (OpenSpec.ofChange fnExactUndoChangesSpec)

/-- ITS FALSE NEIGHBOUR: 'it returns false'. Refute it at one input. -/
def fnExactUndoChangesWrong : ChangeSpec := { name := "fnExactUndoChanges", fn := fun _ => fun
  | [d] => { results := [.lit (.bool false)], args := [d] }
  | _ => none }
def FnExactUndoChangesWrongFalsely : Prop := fnExactUndoChangesRow.holds Try.pinned (OpenSpec.ofChange fnExactUndoChangesWrong)

/-- 'laws.FnExactSpareTracks': WHATEVER THE INPUT: true; the input reads as it did. -/
def fnExactSpareTracksSpec : ChangeSpec := { name := "fnExactSpareTracks", fn := fun _ => fun
  | [d1, d2] => { results := [.lit (.bool true)], args := [d1, d2] }
  | _ => none }
def fnExactSpareTracksRow : OpenClaim := { program := "ytmmneedmhmppoaa", sum := "54e3027951c0393098afdfd302804f6bc8c834dffcc09cd4ba4f7c105362ddca", func := "loop.example/g01311/laws.FnExactSpareTracks", spec := "fnExactSpareTracks", unfollowed := true, recurses := true, apart := false }
def FnExactSpareTracksSaid : Prop := fnExactSpareTracksRow.holds Try.pinned (OpenSpec.ofChange fnExactSpareTracksSpec)

/-- ITS FALSE NEIGHBOUR: 'it returns false'. Refute it at one input. -/
def fnExactSpareTracksWrong : ChangeSpec := { name := "fnExactSpareTracks", fn := fun _ => fun
  | [d1, d2] => { results := [.lit (.bool false)], args := [d1, d2] }
  | _ => none }
def FnExactSpareTracksWrongFalsely : Prop := fnExactSpareTracksRow.holds Try.pinned (OpenSpec.ofChange fnExactSpareTracksWrong)

/-- 'laws.FnExactCanShare': WHATEVER THE INPUT: true; the input reads as it did. -/
def fnExactCanShareSpec : ChangeSpec := { name := "fnExactCanShare", fn := fun _ => fun
  | [d1, d2, d3] => { results := [.lit (.bool true)], args := [d1, d2, d3] }
  | _ => none }
def fnExactCanShareRow : OpenClaim := { program := "ytmmneedmhmppoaa", sum := "54e3027951c0393098afdfd302804f6bc8c834dffcc09cd4ba4f7c105362ddca", func := "loop.example/g01311/laws.FnExactCanShare", spec := "fnExactCanShare", unfollowed := true, recurses := true, apart := false }
def FnExactCanShareSaid : Prop := fnExactCanShareRow.holds Try.pinned (OpenSpec.ofChange fnExactCanShareSpec)

/-- ITS FALSE NEIGHBOUR: 'it returns false'. Refute it at one input. -/
def fnExactCanShareWrong : ChangeSpec := { name := "fnExactCanShare", fn := fun _ => fun
  | [d1, d2, d3] => { results := [.lit (.bool false)], args := [d1, d2, d3] }
  | _ => none }
def FnExactCanShareWrongFalsely : Prop := fnExactCanShareRow.holds Try.pinned (OpenSpec.ofChange fnExactCanShareWrong)

/-- 'laws.FnExactMovesBetween': WHATEVER THE INPUT: true; the input reads as it did. -/
def fnExactMovesBetweenSpec : ChangeSpec := { name := "fnExactMovesBetween", fn := fun _ => fun
  | [d1, d2, d3] => { results := [.lit (.bool true)], args := [d1, d2, d3] }
  | _ => none }
def fnExactMovesBetweenRow : OpenClaim := { program := "ytmmneedmhmppoaa", sum := "54e3027951c0393098afdfd302804f6bc8c834dffcc09cd4ba4f7c105362ddca", func := "loop.example/g01311/laws.FnExactMovesBetween", spec := "fnExactMovesBetween", unfollowed := true, recurses := true, apart := false }
def FnExactMovesBetweenSaid : Prop := fnExactMovesBetweenRow.holds Try.pinned (OpenSpec.ofChange fnExactMovesBetweenSpec)

/-- ITS FALSE NEIGHBOUR: 'it returns false'. Refute it at one input. -/
def fnExactMovesBetweenWrong : ChangeSpec := { name := "fnExactMovesBetween", fn := fun _ => fun
  | [d1, d2, d3] => { results := [.lit (.bool false)], args := [d1, d2, d3] }
  | _ => none }
def FnExactMovesBetweenWrongFalsely : Prop := fnExactMovesBetweenRow.holds Try.pinned (OpenSpec.ofChange fnExactMovesBetweenWrong)

/-- 'laws.FnExactPackSections': WHATEVER THE INPUT: true; the input reads as it did. -/
def fnExactPackSectionsSpec : ChangeSpec := { name := "fnExactPackSections", fn := fun _ => fun
  | [d1, d2, d3] => { results := [.lit (.bool true)], args := [d1, d2, d3] }
  | _ => none }
def fnExactPackSectionsRow : OpenClaim := { program := "ytmmneedmhmppoaa", sum := "54e3027951c0393098afdfd302804f6bc8c834dffcc09cd4ba4f7c105362ddca", func := "loop.example/g01311/laws.FnExactPackSections", spec := "fnExactPackSections", unfollowed := true, recurses := true, apart := false }
def FnExactPackSectionsSaid : Prop := fnExactPackSectionsRow.holds Try.pinned (OpenSpec.ofChange fnExactPackSectionsSpec)

/-- ITS FALSE NEIGHBOUR: 'it returns false'. Refute it at one input. -/
def fnExactPackSectionsWrong : ChangeSpec := { name := "fnExactPackSections", fn := fun _ => fun
  | [d1, d2, d3] => { results := [.lit (.bool false)], args := [d1, d2, d3] }
  | _ => none }
def FnExactPackSectionsWrongFalsely : Prop := fnExactPackSectionsRow.holds Try.pinned (OpenSpec.ofChange fnExactPackSectionsWrong)

/-- 'laws.FnExactApplyMoves': WHATEVER THE INPUT: true; the input reads as it did. -/
def fnExactApplyMovesSpec : ChangeSpec := { name := "fnExactApplyMoves", fn := fun _ => fun
  | [d1, d2, d3, d4] => { results := [.lit (.bool true)], args := [d1, d2, d3, d4] }
  | _ => none }
def fnExactApplyMovesRow : OpenClaim := { program := "ytmmneedmhmppoaa", sum := "54e3027951c0393098afdfd302804f6bc8c834dffcc09cd4ba4f7c105362ddca", func := "loop.example/g01311/laws.FnExactApplyMoves", spec := "fnExactApplyMoves", unfollowed := true, recurses := true, apart := false }
def FnExactApplyMovesSaid : Prop := fnExactApplyMovesRow.holds Try.pinned (OpenSpec.ofChange fnExactApplyMovesSpec)

/-- ITS FALSE NEIGHBOUR: 'it returns false'. Refute it at one input. -/
def fnExactApplyMovesWrong : ChangeSpec := { name := "fnExactApplyMoves", fn := fun _ => fun
  | [d1, d2, d3, d4] => { results := [.lit (.bool false)], args := [d1, d2, d3, d4] }
  | _ => none }
def FnExactApplyMovesWrongFalsely : Prop := fnExactApplyMovesRow.holds Try.pinned (OpenSpec.ofChange fnExactApplyMovesWrong)

/-- 'laws.FnExactChangesBetween': WHATEVER THE INPUT: true; the input reads as it did. -/
def fnExactChangesBetweenSpec : ChangeSpec := { name := "fnExactChangesBetween", fn := fun _ => fun
  | [d1, d2, d3] => { results := [.lit (.bool true)], args := [d1, d2, d3] }
  | _ => none }
def fnExactChangesBetweenRow : OpenClaim := { program := "ytmmneedmhmppoaa", sum := "54e3027951c0393098afdfd302804f6bc8c834dffcc09cd4ba4f7c105362ddca", func := "loop.example/g01311/laws.FnExactChangesBetween", spec := "fnExactChangesBetween", unfollowed := true, recurses := true, apart := false }
def FnExactChangesBetweenSaid : Prop := fnExactChangesBetweenRow.holds Try.pinned (OpenSpec.ofChange fnExactChangesBetweenSpec)

/-- ITS FALSE NEIGHBOUR: 'it returns false'. Refute it at one input. -/
def fnExactChangesBetweenWrong : ChangeSpec := { name := "fnExactChangesBetween", fn := fun _ => fun
  | [d1, d2, d3] => { results := [.lit (.bool false)], args := [d1, d2, d3] }
  | _ => none }
def FnExactChangesBetweenWrongFalsely : Prop := fnExactChangesBetweenRow.holds Try.pinned (OpenSpec.ofChange fnExactChangesBetweenWrong)

/-- 'laws.FnExactCountPlays': WHATEVER THE INPUT: true; the input reads as it did. -/
def fnExactCountPlaysSpec : ChangeSpec := { name := "fnExactCountPlays", fn := fun _ => fun
  | [d1, d2] => { results := [.lit (.bool true)], args := [d1, d2] }
  | _ => none }
def fnExactCountPlaysRow : OpenClaim := { program := "ytmmneedmhmppoaa", sum := "54e3027951c0393098afdfd302804f6bc8c834dffcc09cd4ba4f7c105362ddca", func := "loop.example/g01311/laws.FnExactCountPlays", spec := "fnExactCountPlays", unfollowed := true, recurses := true, apart := false }
def FnExactCountPlaysSaid : Prop := fnExactCountPlaysRow.holds Try.pinned (OpenSpec.ofChange fnExactCountPlaysSpec)

/-- ITS FALSE NEIGHBOUR: 'it returns false'. Refute it at one input. -/
def fnExactCountPlaysWrong : ChangeSpec := { name := "fnExactCountPlays", fn := fun _ => fun
  | [d1, d2] => { results := [.lit (.bool false)], args := [d1, d2] }
  | _ => none }
def FnExactCountPlaysWrongFalsely : Prop := fnExactCountPlaysRow.holds Try.pinned (OpenSpec.ofChange fnExactCountPlaysWrong)

/-- 'laws.FnExactSilentQuarters': WHATEVER THE INPUT: true; the input reads as it did. -/
def fnExactSilentQuartersSpec : ChangeSpec := { name := "fnExactSilentQuarters", fn := fun _ => fun
  | [d1, d2] => { results := [.lit (.bool true)], args := [d1, d2] }
  | _ => none }
def fnExactSilentQuartersRow : OpenClaim := { program := "ytmmneedmhmppoaa", sum := "54e3027951c0393098afdfd302804f6bc8c834dffcc09cd4ba4f7c105362ddca", func := "loop.example/g01311/laws.FnExactSilentQuarters", spec := "fnExactSilentQuarters", unfollowed := true, recurses := true, apart := false }
def FnExactSilentQuartersSaid : Prop := fnExactSilentQuartersRow.holds Try.pinned (OpenSpec.ofChange fnExactSilentQuartersSpec)

/-- ITS FALSE NEIGHBOUR: 'it returns false'. Refute it at one input. -/
def fnExactSilentQuartersWrong : ChangeSpec := { name := "fnExactSilentQuarters", fn := fun _ => fun
  | [d1, d2] => { results := [.lit (.bool false)], args := [d1, d2] }
  | _ => none }
def FnExactSilentQuartersWrongFalsely : Prop := fnExactSilentQuartersRow.holds Try.pinned (OpenSpec.ofChange fnExactSilentQuartersWrong)

/-- 'laws.FnExactCheckOrder': WHATEVER THE INPUT: true; the input reads as it did. -/
def fnExactCheckOrderSpec : ChangeSpec := { name := "fnExactCheckOrder", fn := fun _ => fun
  | [d1, d2, d3, d4] => { results := [.lit (.bool true)], args := [d1, d2, d3, d4] }
  | _ => none }
def fnExactCheckOrderRow : OpenClaim := { program := "ytmmneedmhmppoaa", sum := "54e3027951c0393098afdfd302804f6bc8c834dffcc09cd4ba4f7c105362ddca", func := "loop.example/g01311/laws.FnExactCheckOrder", spec := "fnExactCheckOrder", unfollowed := true, recurses := true, apart := false }
def FnExactCheckOrderSaid : Prop := fnExactCheckOrderRow.holds Try.pinned (OpenSpec.ofChange fnExactCheckOrderSpec)

/-- ITS FALSE NEIGHBOUR: 'it returns false'. Refute it at one input. -/
def fnExactCheckOrderWrong : ChangeSpec := { name := "fnExactCheckOrder", fn := fun _ => fun
  | [d1, d2, d3, d4] => { results := [.lit (.bool false)], args := [d1, d2, d3, d4] }
  | _ => none }
def FnExactCheckOrderWrongFalsely : Prop := fnExactCheckOrderRow.holds Try.pinned (OpenSpec.ofChange fnExactCheckOrderWrong)

/-- 'laws.FnExactOrderCost': WHATEVER THE INPUT: true; the input reads as it did. -/
def fnExactOrderCostSpec : ChangeSpec := { name := "fnExactOrderCost", fn := fun _ => fun
  | [d1, d2, d3] => { results := [.lit (.bool true)], args := [d1, d2, d3] }
  | _ => none }
def fnExactOrderCostRow : OpenClaim := { program := "ytmmneedmhmppoaa", sum := "54e3027951c0393098afdfd302804f6bc8c834dffcc09cd4ba4f7c105362ddca", func := "loop.example/g01311/laws.FnExactOrderCost", spec := "fnExactOrderCost", unfollowed := true, recurses := true, apart := false }
def FnExactOrderCostSaid : Prop := fnExactOrderCostRow.holds Try.pinned (OpenSpec.ofChange fnExactOrderCostSpec)

/-- ITS FALSE NEIGHBOUR: 'it returns false'. Refute it at one input. -/
def fnExactOrderCostWrong : ChangeSpec := { name := "fnExactOrderCost", fn := fun _ => fun
  | [d1, d2, d3] => { results := [.lit (.bool false)], args := [d1, d2, d3] }
  | _ => none }
def FnExactOrderCostWrongFalsely : Prop := fnExactOrderCostRow.holds Try.pinned (OpenSpec.ofChange fnExactOrderCostWrong)

/-- 'laws.FnExactCostTable': WHATEVER THE INPUT: true; the input reads as it did. -/
def fnExactCostTableSpec : ChangeSpec := { name := "fnExactCostTable", fn := fun _ => fun
  | [d1, d2] => { results := [.lit (.bool true)], args := [d1, d2] }
  | _ => none }
def fnExactCostTableRow : OpenClaim := { program := "ytmmneedmhmppoaa", sum := "54e3027951c0393098afdfd302804f6bc8c834dffcc09cd4ba4f7c105362ddca", func := "loop.example/g01311/laws.FnExactCostTable", spec := "fnExactCostTable", unfollowed := true, recurses := true, apart := false }
def FnExactCostTableSaid : Prop := fnExactCostTableRow.holds Try.pinned (OpenSpec.ofChange fnExactCostTableSpec)

/-- ITS FALSE NEIGHBOUR: 'it returns false'. Refute it at one input. -/
def fnExactCostTableWrong : ChangeSpec := { name := "fnExactCostTable", fn := fun _ => fun
  | [d1, d2] => { results := [.lit (.bool false)], args := [d1, d2] }
  | _ => none }
def FnExactCostTableWrongFalsely : Prop := fnExactCostTableRow.holds Try.pinned (OpenSpec.ofChange fnExactCostTableWrong)

/- THE SECOND FORM. 'bulk': how many values and letters a reading holds, each counted each time it is reached (what is shared counts as often as it is met; a slice's spare places count too). A statement '..UptoSaid' is the law's where the arguments, and the package variables that the reading takes, are together of bulk at most 1048576: NARROWER than '..Said'. Prove '..Said' where nothing that the law and all that it calls make is longer than what came in: it says more and counts as full. Else prove '..UptoSaid'. A law counts once. -/
mutual
def uptoBulk {H : Type} : DataW H → Nat
  | .lit (.string bytes) => bytes.length + 1
  | .lit _ => 1
  | .nil => 1
  | .ptr d => uptoBulk d + 1
  | .slice elems spare => uptoBulkAll elems + uptoBulkAll spare + 1
  | .agg parts => uptoBulkAll parts + 1
  | .iface _ d => uptoBulk d + 1
  | .map entries => uptoBulkEntries entries + 1
  | .held _ => 1
def uptoBulkAll {H : Type} : List (DataW H) → Nat
  | [] => 0
  | d :: r => uptoBulk d + uptoBulkAll r
def uptoBulkEntries {H : Type} : List (Lit × DataW H) → Nat
  | [] => 0
  | x :: r => uptoBulkEntry x + uptoBulkEntries r
def uptoBulkEntry {H : Type} : Lit × DataW H → Nat
  | (.string bytes, d) => bytes.length + uptoBulk d + 1
  | (_, d) => uptoBulk d + 1
 end
def uptoSmall : (H : Type) → List (DataW H) → Bool := fun _ ds => decide (uptoBulkAll ds ≤ 1048576)
def OpenSpec.upto (s : _root_.Go.ChangeSpec) : _root_.Go.OpenSpec := { _root_.Go.OpenSpec.ofChange s with cond := some uptoSmall }

/-- 'laws.FnExactUndoChanges', WHERE WHAT IT READS IS OF BULK AT MOST 1048576: true; the input reads as it did. -/
def fnExactUndoChangesUptoRow : OpenClaim := { program := "ytmmneedmhmppoaa", sum := "54e3027951c0393098afdfd302804f6bc8c834dffcc09cd4ba4f7c105362ddca", func := "loop.example/g01311/laws.FnExactUndoChanges", spec := "fnExactUndoChanges", apart := false, narrowed := true }
def FnExactUndoChangesUptoSaid : Prop := fnExactUndoChangesUptoRow.holds Try.pinned (OpenSpec.upto fnExactUndoChangesSpec)

/-- 'laws.FnExactSpareTracks', WHERE WHAT IT READS IS OF BULK AT MOST 1048576: true; the input reads as it did. -/
def fnExactSpareTracksUptoRow : OpenClaim := { program := "ytmmneedmhmppoaa", sum := "54e3027951c0393098afdfd302804f6bc8c834dffcc09cd4ba4f7c105362ddca", func := "loop.example/g01311/laws.FnExactSpareTracks", spec := "fnExactSpareTracks", unfollowed := true, recurses := true, apart := false, narrowed := true }
def FnExactSpareTracksUptoSaid : Prop := fnExactSpareTracksUptoRow.holds Try.pinned (OpenSpec.upto fnExactSpareTracksSpec)

/-- 'laws.FnExactCanShare', WHERE WHAT IT READS IS OF BULK AT MOST 1048576: true; the input reads as it did. -/
def fnExactCanShareUptoRow : OpenClaim := { program := "ytmmneedmhmppoaa", sum := "54e3027951c0393098afdfd302804f6bc8c834dffcc09cd4ba4f7c105362ddca", func := "loop.example/g01311/laws.FnExactCanShare", spec := "fnExactCanShare", unfollowed := true, recurses := true, apart := false, narrowed := true }
def FnExactCanShareUptoSaid : Prop := fnExactCanShareUptoRow.holds Try.pinned (OpenSpec.upto fnExactCanShareSpec)

/-- 'laws.FnExactMovesBetween', WHERE WHAT IT READS IS OF BULK AT MOST 1048576: true; the input reads as it did. -/
def fnExactMovesBetweenUptoRow : OpenClaim := { program := "ytmmneedmhmppoaa", sum := "54e3027951c0393098afdfd302804f6bc8c834dffcc09cd4ba4f7c105362ddca", func := "loop.example/g01311/laws.FnExactMovesBetween", spec := "fnExactMovesBetween", unfollowed := true, recurses := true, apart := false, narrowed := true }
def FnExactMovesBetweenUptoSaid : Prop := fnExactMovesBetweenUptoRow.holds Try.pinned (OpenSpec.upto fnExactMovesBetweenSpec)

/-- 'laws.FnExactPackSections', WHERE WHAT IT READS IS OF BULK AT MOST 1048576: true; the input reads as it did. -/
def fnExactPackSectionsUptoRow : OpenClaim := { program := "ytmmneedmhmppoaa", sum := "54e3027951c0393098afdfd302804f6bc8c834dffcc09cd4ba4f7c105362ddca", func := "loop.example/g01311/laws.FnExactPackSections", spec := "fnExactPackSections", unfollowed := true, recurses := true, apart := false, narrowed := true }
def FnExactPackSectionsUptoSaid : Prop := fnExactPackSectionsUptoRow.holds Try.pinned (OpenSpec.upto fnExactPackSectionsSpec)

/-- 'laws.FnExactApplyMoves', WHERE WHAT IT READS IS OF BULK AT MOST 1048576: true; the input reads as it did. -/
def fnExactApplyMovesUptoRow : OpenClaim := { program := "ytmmneedmhmppoaa", sum := "54e3027951c0393098afdfd302804f6bc8c834dffcc09cd4ba4f7c105362ddca", func := "loop.example/g01311/laws.FnExactApplyMoves", spec := "fnExactApplyMoves", unfollowed := true, recurses := true, apart := false, narrowed := true }
def FnExactApplyMovesUptoSaid : Prop := fnExactApplyMovesUptoRow.holds Try.pinned (OpenSpec.upto fnExactApplyMovesSpec)

/-- 'laws.FnExactChangesBetween', WHERE WHAT IT READS IS OF BULK AT MOST 1048576: true; the input reads as it did. -/
def fnExactChangesBetweenUptoRow : OpenClaim := { program := "ytmmneedmhmppoaa", sum := "54e3027951c0393098afdfd302804f6bc8c834dffcc09cd4ba4f7c105362ddca", func := "loop.example/g01311/laws.FnExactChangesBetween", spec := "fnExactChangesBetween", unfollowed := true, recurses := true, apart := false, narrowed := true }
def FnExactChangesBetweenUptoSaid : Prop := fnExactChangesBetweenUptoRow.holds Try.pinned (OpenSpec.upto fnExactChangesBetweenSpec)

/-- 'laws.FnExactCountPlays', WHERE WHAT IT READS IS OF BULK AT MOST 1048576: true; the input reads as it did. -/
def fnExactCountPlaysUptoRow : OpenClaim := { program := "ytmmneedmhmppoaa", sum := "54e3027951c0393098afdfd302804f6bc8c834dffcc09cd4ba4f7c105362ddca", func := "loop.example/g01311/laws.FnExactCountPlays", spec := "fnExactCountPlays", unfollowed := true, recurses := true, apart := false, narrowed := true }
def FnExactCountPlaysUptoSaid : Prop := fnExactCountPlaysUptoRow.holds Try.pinned (OpenSpec.upto fnExactCountPlaysSpec)

/-- 'laws.FnExactSilentQuarters', WHERE WHAT IT READS IS OF BULK AT MOST 1048576: true; the input reads as it did. -/
def fnExactSilentQuartersUptoRow : OpenClaim := { program := "ytmmneedmhmppoaa", sum := "54e3027951c0393098afdfd302804f6bc8c834dffcc09cd4ba4f7c105362ddca", func := "loop.example/g01311/laws.FnExactSilentQuarters", spec := "fnExactSilentQuarters", unfollowed := true, recurses := true, apart := false, narrowed := true }
def FnExactSilentQuartersUptoSaid : Prop := fnExactSilentQuartersUptoRow.holds Try.pinned (OpenSpec.upto fnExactSilentQuartersSpec)

/-- 'laws.FnExactCheckOrder', WHERE WHAT IT READS IS OF BULK AT MOST 1048576: true; the input reads as it did. -/
def fnExactCheckOrderUptoRow : OpenClaim := { program := "ytmmneedmhmppoaa", sum := "54e3027951c0393098afdfd302804f6bc8c834dffcc09cd4ba4f7c105362ddca", func := "loop.example/g01311/laws.FnExactCheckOrder", spec := "fnExactCheckOrder", unfollowed := true, recurses := true, apart := false, narrowed := true }
def FnExactCheckOrderUptoSaid : Prop := fnExactCheckOrderUptoRow.holds Try.pinned (OpenSpec.upto fnExactCheckOrderSpec)

/-- 'laws.FnExactOrderCost', WHERE WHAT IT READS IS OF BULK AT MOST 1048576: true; the input reads as it did. -/
def fnExactOrderCostUptoRow : OpenClaim := { program := "ytmmneedmhmppoaa", sum := "54e3027951c0393098afdfd302804f6bc8c834dffcc09cd4ba4f7c105362ddca", func := "loop.example/g01311/laws.FnExactOrderCost", spec := "fnExactOrderCost", unfollowed := true, recurses := true, apart := false, narrowed := true }
def FnExactOrderCostUptoSaid : Prop := fnExactOrderCostUptoRow.holds Try.pinned (OpenSpec.upto fnExactOrderCostSpec)

/-- 'laws.FnExactCostTable', WHERE WHAT IT READS IS OF BULK AT MOST 1048576: true; the input reads as it did. -/
def fnExactCostTableUptoRow : OpenClaim := { program := "ytmmneedmhmppoaa", sum := "54e3027951c0393098afdfd302804f6bc8c834dffcc09cd4ba4f7c105362ddca", func := "loop.example/g01311/laws.FnExactCostTable", spec := "fnExactCostTable", unfollowed := true, recurses := true, apart := false, narrowed := true }
def FnExactCostTableUptoSaid : Prop := fnExactCostTableUptoRow.holds Try.pinned (OpenSpec.upto fnExactCostTableSpec)

end Rows
end Go.Proofs.Ytmmneedmhmppoaa
