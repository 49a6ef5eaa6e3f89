/-
  No cell of these rows narrows 'for every input' (looked for: loops, veiled, ifaces, maps, wideKeys, modest, calm, conditions, laid).
  DERIVED. THE GIVEN ROWS OF THIS SEAT. 4 by the template 'for every input the law returns true; each argument reads behind the call as it read before'; 0 by the template 'total and deterministic' (their statements: YteffaghcjpeblaaGreatTotals.lean).
  GIVEN WITH THE SEED: the statements are not yours to turn. If you find one false, say at which input.
  Laid BY PROGRAM, IN A SANDBOX (cutbox-rows.mjs): the forced cells as the released guide's own fill.sh prints them over the translation b9f93eca4d8f02ba… (all of the seat's roots in one cut). By AI agents, Wed Nov 11 2026. No macro, syntax, notation, axiom, sorry.
-/
import Derived.Test.YteffaghcjpeblaaGreatChecked
import GoSem.Claim
import GoSem.ClaimJoined
import GoSem.ClaimMapViews
import Derived.JoinedTies
import Derived.KernelRfl
namespace Go.Proofs.YteffaghcjpeblaaGreat
/- THE CELL 'sum', in the pinned program and in every row, IS THE sha256 OF THE DUMP (.gsa) THAT YteffaghcjpeblaaGreatProg.lean LOADS. Nothing in Lean hashes anything: it is a label: what it is worth is what the hold of that sum in a sandbox is worth. -/
noncomputable def Tryz.pinned : Pinned := { name := "yteffaghcjpeblaagreat", sum := "b9f93eca4d8f02ba11d381f63166f4c70f1e12f365aae01e22c99b6f573f0067", checked := Tryz.checked }
namespace Rows
def none {H : Type} : Left H := { results := [], args := [] }

/-- 'laws.FnExactTracksOf': WHATEVER THE INPUT: true; the input reads as it did. -/
def fnExactTracksOfSpec : ChangeSpec := { name := "fnExactTracksOf", fn := fun _ => fun
  | [d1, d2, d3] => { results := [.lit (.bool true)], args := [d1, d2, d3] }
  | _ => none }
def fnExactTracksOfRow : OpenClaim := { program := "yteffaghcjpeblaagreat", sum := "b9f93eca4d8f02ba11d381f63166f4c70f1e12f365aae01e22c99b6f573f0067", func := "loop.example/g01311/laws.FnExactTracksOf", spec := "fnExactTracksOf", unfollowed := true, recurses := true, apart := false }
def FnExactTracksOfSaid : Prop := fnExactTracksOfRow.holds Tryz.pinned (OpenSpec.ofChange fnExactTracksOfSpec)

/-- ITS FALSE NEIGHBOUR: 'it returns false'. Refute it at one input. -/
def fnExactTracksOfWrong : ChangeSpec := { name := "fnExactTracksOf", fn := fun _ => fun
  | [d1, d2, d3] => { results := [.lit (.bool false)], args := [d1, d2, d3] }
  | _ => none }
def FnExactTracksOfWrongFalsely : Prop := fnExactTracksOfRow.holds Tryz.pinned (OpenSpec.ofChange fnExactTracksOfWrong)

/-- 'laws.FnExactSectionTune': WHATEVER THE INPUT: true; the input reads as it did. -/
def fnExactSectionTuneSpec : ChangeSpec := { name := "fnExactSectionTune", fn := fun _ => fun
  | [d1, d2, d3, d4] => { results := [.lit (.bool true)], args := [d1, d2, d3, d4] }
  | _ => none }
def fnExactSectionTuneRow : OpenClaim := { program := "yteffaghcjpeblaagreat", sum := "b9f93eca4d8f02ba11d381f63166f4c70f1e12f365aae01e22c99b6f573f0067", func := "loop.example/g01311/laws.FnExactSectionTune", spec := "fnExactSectionTune", unfollowed := true, recurses := true, apart := false }
def FnExactSectionTuneSaid : Prop := fnExactSectionTuneRow.holds Tryz.pinned (OpenSpec.ofChange fnExactSectionTuneSpec)

/-- ITS FALSE NEIGHBOUR: 'it returns false'. Refute it at one input. -/
def fnExactSectionTuneWrong : ChangeSpec := { name := "fnExactSectionTune", fn := fun _ => fun
  | [d1, d2, d3, d4] => { results := [.lit (.bool false)], args := [d1, d2, d3, d4] }
  | _ => none }
def FnExactSectionTuneWrongFalsely : Prop := fnExactSectionTuneRow.holds Tryz.pinned (OpenSpec.ofChange fnExactSectionTuneWrong)

/-- 'laws.FnExactChimeAt': WHATEVER THE INPUT: true; the input reads as it did. -/
def fnExactChimeAtSpec : ChangeSpec := { name := "fnExactChimeAt", fn := fun _ => fun
  | [d1, d2, d3, d4] => { results := [.lit (.bool true)], args := [d1, d2, d3, d4] }
  | _ => none }
def fnExactChimeAtRow : OpenClaim := { program := "yteffaghcjpeblaagreat", sum := "b9f93eca4d8f02ba11d381f63166f4c70f1e12f365aae01e22c99b6f573f0067", func := "loop.example/g01311/laws.FnExactChimeAt", spec := "fnExactChimeAt", unfollowed := true, recurses := true, apart := false }
def FnExactChimeAtSaid : Prop := fnExactChimeAtRow.holds Tryz.pinned (OpenSpec.ofChange fnExactChimeAtSpec)

/-- ITS FALSE NEIGHBOUR: 'it returns false'. Refute it at one input. -/
def fnExactChimeAtWrong : ChangeSpec := { name := "fnExactChimeAt", fn := fun _ => fun
  | [d1, d2, d3, d4] => { results := [.lit (.bool false)], args := [d1, d2, d3, d4] }
  | _ => none }
def FnExactChimeAtWrongFalsely : Prop := fnExactChimeAtRow.holds Tryz.pinned (OpenSpec.ofChange fnExactChimeAtWrong)

/-- 'laws.FnExactWholeChime': WHATEVER THE INPUT: true; the input reads as it did. -/
def fnExactWholeChimeSpec : ChangeSpec := { name := "fnExactWholeChime", fn := fun _ => fun
  | [d1, d2, d3, d4, d5, d6] => { results := [.lit (.bool true)], args := [d1, d2, d3, d4, d5, d6] }
  | _ => none }
def fnExactWholeChimeRow : OpenClaim := { program := "yteffaghcjpeblaagreat", sum := "b9f93eca4d8f02ba11d381f63166f4c70f1e12f365aae01e22c99b6f573f0067", func := "loop.example/g01311/laws.FnExactWholeChime", spec := "fnExactWholeChime", unfollowed := true, recurses := true, apart := false }
def FnExactWholeChimeSaid : Prop := fnExactWholeChimeRow.holds Tryz.pinned (OpenSpec.ofChange fnExactWholeChimeSpec)

/-- ITS FALSE NEIGHBOUR: 'it returns false'. Refute it at one input. -/
def fnExactWholeChimeWrong : ChangeSpec := { name := "fnExactWholeChime", fn := fun _ => fun
  | [d1, d2, d3, d4, d5, d6] => { results := [.lit (.bool false)], args := [d1, d2, d3, d4, d5, d6] }
  | _ => none }
def FnExactWholeChimeWrongFalsely : Prop := fnExactWholeChimeRow.holds Tryz.pinned (OpenSpec.ofChange fnExactWholeChimeWrong)

/- THE SECOND FORM. 'bulk': how many values and letters a reading holds, each counted each time it is reached (what is shared counts as often as it is met; a slice's spare places count too). A statement '..UptoSaid' is the law's where the arguments, and the package variables that the reading takes, are together of bulk at most 1048576: NARROWER than '..Said'. Prove '..Said' where nothing that the law and all that it calls make is longer than what came in: it says more and counts as full. Else prove '..UptoSaid'. A law counts once. -/
mutual
def uptoBulk {H : Type} : DataW H → Nat
  | .lit (.string bytes) => bytes.length + 1
  | .lit _ => 1
  | .nil => 1
  | .ptr d => uptoBulk d + 1
  | .slice elems spare => uptoBulkAll elems + uptoBulkAll spare + 1
  | .agg parts => uptoBulkAll parts + 1
  | .iface _ d => uptoBulk d + 1
  | .map entries => uptoBulkEntries entries + 1
  | .held _ => 1
def uptoBulkAll {H : Type} : List (DataW H) → Nat
  | [] => 0
  | d :: r => uptoBulk d + uptoBulkAll r
def uptoBulkEntries {H : Type} : List (Lit × DataW H) → Nat
  | [] => 0
  | x :: r => uptoBulkEntry x + uptoBulkEntries r
def uptoBulkEntry {H : Type} : Lit × DataW H → Nat
  | (.string bytes, d) => bytes.length + uptoBulk d + 1
  | (_, d) => uptoBulk d + 1
 end
def uptoSmall : (H : Type) → List (DataW H) → Bool := fun _ ds => decide (uptoBulkAll ds ≤ 1048576)
def OpenSpec.upto (s : _root_.Go.ChangeSpec) : _root_.Go.OpenSpec := { _root_.Go.OpenSpec.ofChange s with cond := some uptoSmall }

/-- 'laws.FnExactTracksOf', WHERE WHAT IT READS IS OF BULK AT MOST 1048576: true; the input reads as it did. -/
def fnExactTracksOfUptoRow : OpenClaim := { program := "yteffaghcjpeblaagreat", sum := "b9f93eca4d8f02ba11d381f63166f4c70f1e12f365aae01e22c99b6f573f0067", func := "loop.example/g01311/laws.FnExactTracksOf", spec := "fnExactTracksOf", unfollowed := true, recurses := true, apart := false, narrowed := true }
def FnExactTracksOfUptoSaid : Prop := fnExactTracksOfUptoRow.holds Tryz.pinned (OpenSpec.upto fnExactTracksOfSpec)

/-- 'laws.FnExactSectionTune', WHERE WHAT IT READS IS OF BULK AT MOST 1048576: true; the input reads as it did. -/
def fnExactSectionTuneUptoRow : OpenClaim := { program := "yteffaghcjpeblaagreat", sum := "b9f93eca4d8f02ba11d381f63166f4c70f1e12f365aae01e22c99b6f573f0067", func := "loop.example/g01311/laws.FnExactSectionTune", spec := "fnExactSectionTune", unfollowed := true, recurses := true, apart := false, narrowed := true }
def FnExactSectionTuneUptoSaid : Prop := fnExactSectionTuneUptoRow.holds Tryz.pinned (OpenSpec.upto fnExactSectionTuneSpec)

/-- 'laws.FnExactChimeAt', WHERE WHAT IT READS IS OF BULK AT MOST 1048576: true; the input reads as it did. -/
def fnExactChimeAtUptoRow : OpenClaim := { program := "yteffaghcjpeblaagreat", sum := "b9f93eca4d8f02ba11d381f63166f4c70f1e12f365aae01e22c99b6f573f0067", func := "loop.example/g01311/laws.FnExactChimeAt", spec := "fnExactChimeAt", unfollowed := true, recurses := true, apart := false, narrowed := true }
def FnExactChimeAtUptoSaid : Prop := fnExactChimeAtUptoRow.holds Tryz.pinned (OpenSpec.upto fnExactChimeAtSpec)

/-- 'laws.FnExactWholeChime', WHERE WHAT IT READS IS OF BULK AT MOST 1048576: true; the input reads as it did. -/
def fnExactWholeChimeUptoRow : OpenClaim := { program := "yteffaghcjpeblaagreat", sum := "b9f93eca4d8f02ba11d381f63166f4c70f1e12f365aae01e22c99b6f573f0067", func := "loop.example/g01311/laws.FnExactWholeChime", spec := "fnExactWholeChime", unfollowed := true, recurses := true, apart := false, narrowed := true }
def FnExactWholeChimeUptoSaid : Prop := fnExactWholeChimeUptoRow.holds Tryz.pinned (OpenSpec.upto fnExactWholeChimeSpec)

end Rows
end Go.Proofs.YteffaghcjpeblaaGreat
