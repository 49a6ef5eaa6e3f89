/- What the statements write over, and look for again: pairs. No conditions. -/
import Derived.Test.YteffaghcjpeblaaGreatMk1
namespace Go.Proofs.YteffaghcjpeblaaGreat
open Go.RowKit
set_option linter.unusedVariables false
set_option linter.unusedSimpArgs false

end Go.Proofs.YteffaghcjpeblaaGreat
