/- What the statements write over, and look for again: pairs. No conditions. -/
import Derived.Test.YtkefjgbcpoggiaaMk1
namespace Go.Proofs.Ytkefjgbcpoggiaa
open Go.RowKit
set_option linter.unusedVariables false
set_option linter.unusedSimpArgs false

end Go.Proofs.Ytkefjgbcpoggiaa
