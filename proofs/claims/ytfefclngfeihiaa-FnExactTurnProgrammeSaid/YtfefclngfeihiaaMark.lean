/- Slices of numbers that a function hands back: compared, marked, looked at again by the statements. No conditions. -/
import Derived.Test.YtfefclngfeihiaaAp
import Derived.Outline
namespace Go.Proofs.Ytfefclngfeihiaa
open Go.RowKit
set_option linter.unusedVariables false
set_option linter.unusedSimpArgs false

end Go.Proofs.Ytfefclngfeihiaa
