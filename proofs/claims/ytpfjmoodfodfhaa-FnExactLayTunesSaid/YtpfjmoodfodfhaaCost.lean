/- Costs of drums behind each other, by the reference and by the program. No conditions. -/
import Derived.Test.YtpfjmoodfodfhaaArr
import Derived.Test.YtpfjmoodfodfhaaCount
import Derived.Outline
namespace Go.Proofs.Ytpfjmoodfodfhaa
open Go.RowKit
set_option linter.unusedVariables false
set_option linter.unusedSimpArgs false

end Go.Proofs.Ytpfjmoodfodfhaa
