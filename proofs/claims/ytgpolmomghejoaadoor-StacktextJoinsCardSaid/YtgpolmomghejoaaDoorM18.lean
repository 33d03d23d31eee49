/- Lemmas. -/
import Derived.Test.YtgpolmomghejoaaDoorM17
set_option linter.unusedVariables false
set_option linter.unusedSimpArgs false
set_option linter.unusedSectionVars false
namespace Go.Proofs.YtgpolmomghejoaaDoor
open Go.Abs
set_option maxRecDepth 20000
theorem sl_int{H:Heap}{v:Value}{l:List Nat}(h:SlN H v l):SlI H v (l.map Int.ofNat):=by
 rcases h with ⟨rfl,rfl⟩|⟨b,o,sp,cap,xs,rfl,h2,h3,h4,h5,h6⟩
 ·exact .inl ⟨rfl,rfl⟩
 ·refine .inr ⟨b,o,sp,cap,xs,by rw[List.length_map],h2,?_,by rw[List.length_map];exact h4,h5,by rw[List.length_map];exact h6⟩
  rw[List.length_map,h3,List.map_map]
  rfl
end Go.Proofs.YtgpolmomghejoaaDoor
