/- Lemmas. -/
import Derived.Test.YtgpolmomghejoaaDoorE17
set_option linter.unusedVariables false
set_option linter.unusedSimpArgs false
set_option linter.unusedSectionVars false
namespace Go.Proofs.YtgpolmomghejoaaDoor
open Go.Abs
set_option maxRecDepth 20000
end Go.Proofs.YtgpolmomghejoaaDoor
