/- Lemmas. -/
import Derived.Test.YtgpolmomghejoaaDoorM14
set_option linter.unusedVariables false
set_option linter.unusedSimpArgs false
set_option linter.unusedSectionVars false
namespace Go.Proofs.YtgpolmomghejoaaDoor
open Go.Abs
set_option maxRecDepth 20000
theorem eq_take{l m:List Nat}(h:l.length=m.length):l=m↔∀j,j<l.length→l.getD j 0=m.getD j 0:=by
 constructor
 ·rintro rfl j _;rfl
 ·intro h2
  refine List.ext_getElem h fun j h3 h4=>?_
  have:=h2 j h3
  rwa [List.getD_eq_getElem?_getD,List.getD_eq_getElem?_getD,List.getElem?_eq_getElem h3,List.getElem?_eq_getElem h4]at this
end Go.Proofs.YtgpolmomghejoaaDoor
