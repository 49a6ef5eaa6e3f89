/- Costs of drums behind each other, by the reference and by the program. No conditions. -/
import Derived.Test.YtfefclngfeihiaaArr
import Derived.Test.YtfefclngfeihiaaCount
import Derived.Outline
namespace Go.Proofs.Ytfefclngfeihiaa
open Go.RowKit
set_option linter.unusedVariables false
set_option linter.unusedSimpArgs false

end Go.Proofs.Ytfefclngfeihiaa
