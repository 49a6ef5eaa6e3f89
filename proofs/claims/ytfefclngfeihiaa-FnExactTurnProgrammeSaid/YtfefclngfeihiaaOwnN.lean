/- Lists of notes in a slice of one's own. Printed by owngen.py. No conditions. -/
import Derived.Test.YtfefclngfeihiaaOwnL
import Derived.Test.YtfefclngfeihiaaNote
import Derived.Outline
namespace Go.Proofs.Ytfefclngfeihiaa
open Go.RowKit
set_option linter.unusedVariables false
set_option linter.unusedSimpArgs false

end Go.Proofs.Ytfefclngfeihiaa
