/-
  No cell of these rows narrows 'for every input' (looked for: loops, veiled, ifaces, maps, wideKeys, modest, calm, conditions, laid).
  DERIVED. THE GIVEN ROWS OF THIS SEAT. 6 by the template 'for every input the law returns true; each argument reads behind the call as it read before'; 0 by the template 'total and deterministic' (their statements: YtpfjmoodfodfhaaTotals.lean).
  GIVEN WITH THE SEED: the statements are not yours to turn. If you find one false, say at which input.
  Laid BY PROGRAM, IN A SANDBOX (cutbox-rows.mjs): the forced cells as the released guide's own fill.sh prints them over the translation b66fbe7a290c0008… (all of the seat's roots in one cut). By AI agents, Wed Nov 11 2026. No macro, syntax, notation, axiom, sorry.
-/
import Derived.Test.YtpfjmoodfodfhaaChecked
import GoSem.Claim
import GoSem.ClaimJoined
import GoSem.ClaimMapViews
import Derived.JoinedTies
import Derived.KernelRfl
namespace Go.Proofs.Ytpfjmoodfodfhaa
/- THE CELL 'sum', in the pinned program and in every row, IS THE sha256 OF THE DUMP (.gsa) THAT YtpfjmoodfodfhaaProg.lean LOADS. Nothing in Lean hashes anything: it is a label: what it is worth is what the hold of that sum in a sandbox is worth. -/
noncomputable def Try.pinned : Pinned := { name := "ytpfjmoodfodfhaa", sum := "b66fbe7a290c00089069a6bec7481da2c2ae42f0b04b1649775962eb189e0fa1", checked := Try.checked }
namespace Rows
def none {H : Type} : Left H := { results := [], args := [] }

/-- 'laws.FnExactFrameFor': WHATEVER THE INPUT: true; the input reads as it did. -/
def fnExactFrameForSpec : ChangeSpec := { name := "fnExactFrameFor", fn := fun _ => fun
  | [d1, d2, d3] => { results := [.lit (.bool true)], args := [d1, d2, d3] }
  | _ => none }
def fnExactFrameForRow : OpenClaim := { program := "ytpfjmoodfodfhaa", sum := "b66fbe7a290c00089069a6bec7481da2c2ae42f0b04b1649775962eb189e0fa1", func := "loop.example/g01311/laws.FnExactFrameFor", spec := "fnExactFrameFor", unfollowed := true, recurses := true, apart := false }
def FnExactFrameForSaid : Prop := fnExactFrameForRow.holds Try.pinned (OpenSpec.ofChange fnExactFrameForSpec)

/-- ITS FALSE NEIGHBOUR: 'it returns false'. Refute it at one input. -/
def fnExactFrameForWrong : ChangeSpec := { name := "fnExactFrameFor", fn := fun _ => fun
  | [d1, d2, d3] => { results := [.lit (.bool false)], args := [d1, d2, d3] }
  | _ => none }
def FnExactFrameForWrongFalsely : Prop := fnExactFrameForRow.holds Try.pinned (OpenSpec.ofChange fnExactFrameForWrong)

/-- 'laws.FnExactShareGroups': WHATEVER THE INPUT: true; the input reads as it did. -/
def fnExactShareGroupsSpec : ChangeSpec := { name := "fnExactShareGroups", fn := fun _ => fun
  | [d1, d2] => { results := [.lit (.bool true)], args := [d1, d2] }
  | _ => none }
def fnExactShareGroupsRow : OpenClaim := { program := "ytpfjmoodfodfhaa", sum := "b66fbe7a290c00089069a6bec7481da2c2ae42f0b04b1649775962eb189e0fa1", func := "loop.example/g01311/laws.FnExactShareGroups", spec := "fnExactShareGroups", unfollowed := true, recurses := true, apart := false }
def FnExactShareGroupsSaid : Prop := fnExactShareGroupsRow.holds Try.pinned (OpenSpec.ofChange fnExactShareGroupsSpec)

/-- ITS FALSE NEIGHBOUR: 'it returns false'. Refute it at one input. -/
def fnExactShareGroupsWrong : ChangeSpec := { name := "fnExactShareGroups", fn := fun _ => fun
  | [d1, d2] => { results := [.lit (.bool false)], args := [d1, d2] }
  | _ => none }
def FnExactShareGroupsWrongFalsely : Prop := fnExactShareGroupsRow.holds Try.pinned (OpenSpec.ofChange fnExactShareGroupsWrong)

/-- 'laws.FnExactLeastStepsOrder': WHATEVER THE INPUT: true; the input reads as it did. -/
def fnExactLeastStepsOrderSpec : ChangeSpec := { name := "fnExactLeastStepsOrder", fn := fun _ => fun
  | [d1, d2] => { results := [.lit (.bool true)], args := [d1, d2] }
  | _ => none }
def fnExactLeastStepsOrderRow : OpenClaim := { program := "ytpfjmoodfodfhaa", sum := "b66fbe7a290c00089069a6bec7481da2c2ae42f0b04b1649775962eb189e0fa1", func := "loop.example/g01311/laws.FnExactLeastStepsOrder", spec := "fnExactLeastStepsOrder", unfollowed := true, recurses := true, apart := false }
def FnExactLeastStepsOrderSaid : Prop := fnExactLeastStepsOrderRow.holds Try.pinned (OpenSpec.ofChange fnExactLeastStepsOrderSpec)

/-- ITS FALSE NEIGHBOUR: 'it returns false'. Refute it at one input. -/
def fnExactLeastStepsOrderWrong : ChangeSpec := { name := "fnExactLeastStepsOrder", fn := fun _ => fun
  | [d1, d2] => { results := [.lit (.bool false)], args := [d1, d2] }
  | _ => none }
def FnExactLeastStepsOrderWrongFalsely : Prop := fnExactLeastStepsOrderRow.holds Try.pinned (OpenSpec.ofChange fnExactLeastStepsOrderWrong)

/-- 'laws.FnExactPinTune': WHATEVER THE INPUT: true; the input reads as it did. -/
def fnExactPinTuneSpec : ChangeSpec := { name := "fnExactPinTune", fn := fun _ => fun
  | [d1, d2, d3] => { results := [.lit (.bool true)], args := [d1, d2, d3] }
  | _ => none }
def fnExactPinTuneRow : OpenClaim := { program := "ytpfjmoodfodfhaa", sum := "b66fbe7a290c00089069a6bec7481da2c2ae42f0b04b1649775962eb189e0fa1", func := "loop.example/g01311/laws.FnExactPinTune", spec := "fnExactPinTune", unfollowed := true, recurses := true, apart := false }
def FnExactPinTuneSaid : Prop := fnExactPinTuneRow.holds Try.pinned (OpenSpec.ofChange fnExactPinTuneSpec)

/-- ITS FALSE NEIGHBOUR: 'it returns false'. Refute it at one input. -/
def fnExactPinTuneWrong : ChangeSpec := { name := "fnExactPinTune", fn := fun _ => fun
  | [d1, d2, d3] => { results := [.lit (.bool false)], args := [d1, d2, d3] }
  | _ => none }
def FnExactPinTuneWrongFalsely : Prop := fnExactPinTuneRow.holds Try.pinned (OpenSpec.ofChange fnExactPinTuneWrong)

/-- 'laws.FnExactLayTunes': WHATEVER THE INPUT: true; the input reads as it did. -/
def fnExactLayTunesSpec : ChangeSpec := { name := "fnExactLayTunes", fn := fun _ => fun
  | [d1, d2, d3] => { results := [.lit (.bool true)], args := [d1, d2, d3] }
  | _ => none }
def fnExactLayTunesRow : OpenClaim := { program := "ytpfjmoodfodfhaa", sum := "b66fbe7a290c00089069a6bec7481da2c2ae42f0b04b1649775962eb189e0fa1", func := "loop.example/g01311/laws.FnExactLayTunes", spec := "fnExactLayTunes", unfollowed := true, recurses := true, apart := false }
def FnExactLayTunesSaid : Prop := fnExactLayTunesRow.holds Try.pinned (OpenSpec.ofChange fnExactLayTunesSpec)

/-- ITS FALSE NEIGHBOUR: 'it returns false'. Refute it at one input. -/
def fnExactLayTunesWrong : ChangeSpec := { name := "fnExactLayTunes", fn := fun _ => fun
  | [d1, d2, d3] => { results := [.lit (.bool false)], args := [d1, d2, d3] }
  | _ => none }
def FnExactLayTunesWrongFalsely : Prop := fnExactLayTunesRow.holds Try.pinned (OpenSpec.ofChange fnExactLayTunesWrong)

/-- 'laws.FnExactPinLike': WHATEVER THE INPUT: true; the input reads as it did. -/
def fnExactPinLikeSpec : ChangeSpec := { name := "fnExactPinLike", fn := fun _ => fun
  | [d1, d2, d3, d4] => { results := [.lit (.bool true)], args := [d1, d2, d3, d4] }
  | _ => none }
def fnExactPinLikeRow : OpenClaim := { program := "ytpfjmoodfodfhaa", sum := "b66fbe7a290c00089069a6bec7481da2c2ae42f0b04b1649775962eb189e0fa1", func := "loop.example/g01311/laws.FnExactPinLike", spec := "fnExactPinLike", unfollowed := true, recurses := true, apart := false }
def FnExactPinLikeSaid : Prop := fnExactPinLikeRow.holds Try.pinned (OpenSpec.ofChange fnExactPinLikeSpec)

/-- ITS FALSE NEIGHBOUR: 'it returns false'. Refute it at one input. -/
def fnExactPinLikeWrong : ChangeSpec := { name := "fnExactPinLike", fn := fun _ => fun
  | [d1, d2, d3, d4] => { results := [.lit (.bool false)], args := [d1, d2, d3, d4] }
  | _ => none }
def FnExactPinLikeWrongFalsely : Prop := fnExactPinLikeRow.holds Try.pinned (OpenSpec.ofChange fnExactPinLikeWrong)

/- THE SECOND FORM. 'bulk': how many values and letters a reading holds, each counted each time it is reached (what is shared counts as often as it is met; a slice's spare places count too). A statement '..UptoSaid' is the law's where the arguments, and the package variables that the reading takes, are together of bulk at most 1048576: NARROWER than '..Said'. Prove '..Said' where nothing that the law and all that it calls make is longer than what came in: it says more and counts as full. Else prove '..UptoSaid'. A law counts once. -/
mutual
def uptoBulk {H : Type} : DataW H → Nat
  | .lit (.string bytes) => bytes.length + 1
  | .lit _ => 1
  | .nil => 1
  | .ptr d => uptoBulk d + 1
  | .slice elems spare => uptoBulkAll elems + uptoBulkAll spare + 1
  | .agg parts => uptoBulkAll parts + 1
  | .iface _ d => uptoBulk d + 1
  | .map entries => uptoBulkEntries entries + 1
  | .held _ => 1
def uptoBulkAll {H : Type} : List (DataW H) → Nat
  | [] => 0
  | d :: r => uptoBulk d + uptoBulkAll r
def uptoBulkEntries {H : Type} : List (Lit × DataW H) → Nat
  | [] => 0
  | x :: r => uptoBulkEntry x + uptoBulkEntries r
def uptoBulkEntry {H : Type} : Lit × DataW H → Nat
  | (.string bytes, d) => bytes.length + uptoBulk d + 1
  | (_, d) => uptoBulk d + 1
 end
def uptoSmall : (H : Type) → List (DataW H) → Bool := fun _ ds => decide (uptoBulkAll ds ≤ 1048576)
def OpenSpec.upto (s : _root_.Go.ChangeSpec) : _root_.Go.OpenSpec := { _root_.Go.OpenSpec.ofChange s with cond := some uptoSmall }

/-- 'laws.FnExactFrameFor', WHERE WHAT IT READS IS OF BULK AT MOST 1048576: true; the input reads as it did. -/
def fnExactFrameForUptoRow : OpenClaim := { program := "ytpfjmoodfodfhaa", sum := "b66fbe7a290c00089069a6bec7481da2c2ae42f0b04b1649775962eb189e0fa1", func := "loop.example/g01311/laws.FnExactFrameFor", spec := "fnExactFrameFor", unfollowed := true, recurses := true, apart := false, narrowed := true }
def FnExactFrameForUptoSaid : Prop := fnExactFrameForUptoRow.holds Try.pinned (OpenSpec.upto fnExactFrameForSpec)

/-- 'laws.FnExactShareGroups', WHERE WHAT IT READS IS OF BULK AT MOST 1048576: true; the input reads as it did. -/
def fnExactShareGroupsUptoRow : OpenClaim := { program := "ytpfjmoodfodfhaa", sum := "b66fbe7a290c00089069a6bec7481da2c2ae42f0b04b1649775962eb189e0fa1", func := "loop.example/g01311/laws.FnExactShareGroups", spec := "fnExactShareGroups", unfollowed := true, recurses := true, apart := false, narrowed := true }
def FnExactShareGroupsUptoSaid : Prop := fnExactShareGroupsUptoRow.holds Try.pinned (OpenSpec.upto fnExactShareGroupsSpec)

/-- 'laws.FnExactLeastStepsOrder', WHERE WHAT IT READS IS OF BULK AT MOST 1048576: true; the input reads as it did. -/
def fnExactLeastStepsOrderUptoRow : OpenClaim := { program := "ytpfjmoodfodfhaa", sum := "b66fbe7a290c00089069a6bec7481da2c2ae42f0b04b1649775962eb189e0fa1", func := "loop.example/g01311/laws.FnExactLeastStepsOrder", spec := "fnExactLeastStepsOrder", unfollowed := true, recurses := true, apart := false, narrowed := true }
def FnExactLeastStepsOrderUptoSaid : Prop := fnExactLeastStepsOrderUptoRow.holds Try.pinned (OpenSpec.upto fnExactLeastStepsOrderSpec)

/-- 'laws.FnExactPinTune', WHERE WHAT IT READS IS OF BULK AT MOST 1048576: true; the input reads as it did. -/
def fnExactPinTuneUptoRow : OpenClaim := { program := "ytpfjmoodfodfhaa", sum := "b66fbe7a290c00089069a6bec7481da2c2ae42f0b04b1649775962eb189e0fa1", func := "loop.example/g01311/laws.FnExactPinTune", spec := "fnExactPinTune", unfollowed := true, recurses := true, apart := false, narrowed := true }
def FnExactPinTuneUptoSaid : Prop := fnExactPinTuneUptoRow.holds Try.pinned (OpenSpec.upto fnExactPinTuneSpec)

/-- 'laws.FnExactLayTunes', WHERE WHAT IT READS IS OF BULK AT MOST 1048576: true; the input reads as it did. -/
def fnExactLayTunesUptoRow : OpenClaim := { program := "ytpfjmoodfodfhaa", sum := "b66fbe7a290c00089069a6bec7481da2c2ae42f0b04b1649775962eb189e0fa1", func := "loop.example/g01311/laws.FnExactLayTunes", spec := "fnExactLayTunes", unfollowed := true, recurses := true, apart := false, narrowed := true }
def FnExactLayTunesUptoSaid : Prop := fnExactLayTunesUptoRow.holds Try.pinned (OpenSpec.upto fnExactLayTunesSpec)

/-- 'laws.FnExactPinLike', WHERE WHAT IT READS IS OF BULK AT MOST 1048576: true; the input reads as it did. -/
def fnExactPinLikeUptoRow : OpenClaim := { program := "ytpfjmoodfodfhaa", sum := "b66fbe7a290c00089069a6bec7481da2c2ae42f0b04b1649775962eb189e0fa1", func := "loop.example/g01311/laws.FnExactPinLike", spec := "fnExactPinLike", unfollowed := true, recurses := true, apart := false, narrowed := true }
def FnExactPinLikeUptoSaid : Prop := fnExactPinLikeUptoRow.holds Try.pinned (OpenSpec.upto fnExactPinLikeSpec)

end Rows
end Go.Proofs.Ytpfjmoodfodfhaa
