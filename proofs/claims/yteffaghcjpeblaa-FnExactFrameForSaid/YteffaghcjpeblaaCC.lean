/- ChangeCost by the reference and by the program: both hand back one number and one code. No conditions. -/
import Derived.Test.YteffaghcjpeblaaDrum
import Derived.Test.YteffaghcjpeblaaCost
import Derived.Outline
namespace Go.Proofs.Yteffaghcjpeblaa
open Go.RowKit
set_option linter.unusedVariables false
set_option linter.unusedSimpArgs false

end Go.Proofs.Yteffaghcjpeblaa
