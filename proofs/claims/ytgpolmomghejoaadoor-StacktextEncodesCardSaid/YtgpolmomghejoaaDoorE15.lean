/- Lemmas. -/
import Derived.Test.YtgpolmomghejoaaDoorE14
set_option linter.unusedVariables false
set_option linter.unusedSimpArgs false
set_option linter.unusedSectionVars false
namespace Go.Proofs.YtgpolmomghejoaaDoor
open Go.Abs
set_option maxRecDepth 20000
theorem BC{l m:List Nat}(h:l.length=m.length):l=m↔∀j,j<l.length→l.getD j 0=m.getD j 0:=by
 grind[List.ext_getElem]
end Go.Proofs.YtgpolmomghejoaaDoor
