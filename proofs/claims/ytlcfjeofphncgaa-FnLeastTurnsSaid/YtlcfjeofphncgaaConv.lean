/- The statements' own conversions of frames and drums: sizes, copies, equality. No conditions. -/
import Derived.Test.YtlcfjeofphncgaaDrum
import Derived.Outline
namespace Go.Proofs.Ytlcfjeofphncgaa
open Go.RowKit
set_option linter.unusedVariables false
set_option linter.unusedSimpArgs false

/-- what is left of l when n is taken, -1 if that is too much -/
def szOf (l n : Int) : Int := if l < n then -1 else l - n
theorem szOf_lt {l n : Int} (h : l < n) : szOf l n = -1 := by unfold szOf; rw [if_pos h]
theorem szOf_ge {l n : Int} (h : n ≤ l) : szOf l n = l - n := by unfold szOf; rw [if_neg (by omega)]
attribute [irreducible] szOf
end Go.Proofs.Ytlcfjeofphncgaa
