/- What the statements write over, and look for again: slices of structs. Printed by markgen.py. No conditions. -/
import Derived.Test.YteboefffkpcnaaaDoorOwn
namespace Go.Proofs.YteboefffkpcnaaaDoor
open Go.RowKit
set_option linter.unusedVariables false
set_option linter.unusedSimpArgs false

end Go.Proofs.YteboefffkpcnaaaDoor
