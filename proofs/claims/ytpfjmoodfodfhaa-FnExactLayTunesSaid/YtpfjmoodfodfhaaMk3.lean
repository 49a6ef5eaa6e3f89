/- What the statements write over, and look for again: pairs. No conditions. -/
import Derived.Test.YtpfjmoodfodfhaaMk1
namespace Go.Proofs.Ytpfjmoodfodfhaa
open Go.RowKit
set_option linter.unusedVariables false
set_option linter.unusedSimpArgs false

end Go.Proofs.Ytpfjmoodfodfhaa
