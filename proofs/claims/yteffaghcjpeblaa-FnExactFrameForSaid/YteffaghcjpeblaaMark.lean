/- Slices of numbers that a function hands back: compared, marked, looked at again by the statements. No conditions. -/
import Derived.Test.YteffaghcjpeblaaAp
import Derived.Outline
namespace Go.Proofs.Yteffaghcjpeblaa
open Go.RowKit
set_option linter.unusedVariables false
set_option linter.unusedSimpArgs false

end Go.Proofs.Yteffaghcjpeblaa
