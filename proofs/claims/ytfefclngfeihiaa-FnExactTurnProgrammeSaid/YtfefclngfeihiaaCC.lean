/- ChangeCost by the reference and by the program: both hand back one number and one code. No conditions. -/
import Derived.Test.YtfefclngfeihiaaDrum
import Derived.Test.YtfefclngfeihiaaCost
import Derived.Outline
namespace Go.Proofs.Ytfefclngfeihiaa
open Go.RowKit
set_option linter.unusedVariables false
set_option linter.unusedSimpArgs false

end Go.Proofs.Ytfefclngfeihiaa
