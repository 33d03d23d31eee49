/- Netpbm: Write. -/
import Derived.Test.YtpbiaeiebhgmgaaDoorQ13
set_option linter.unusedVariables false
set_option linter.unusedSimpArgs false
set_option linter.unusedSectionVars false
namespace Go.Proofs.YtpbiaeiebhgmgaaDoor
open Go.Abs
set_option linter.unusedSimpArgs false
set_option linter.unusedVariables false
set_option maxRecDepth 20000
section
variable {lo:Nat}{G H:Heap}
theorem fmtOk{f:Nat}(hf:f=1∨f=2∨f=4∨f=5):(if ((dig f).toNat:Int)=49 then kindV 1 false false true else if ((dig f).toNat:Int)=50 then kindV 2 true false true else if ((dig f).toNat:Int)=52 then kindV 4 false true true else if ((dig f).toNat:Int)=53 then kindV 5 true true true else kindV 0 false false false)=.tuple #[kindF f,.bool true]:=by
 rcases hf with rfl|rfl|rfl|rfl<;>rfl
end
end Go.Proofs.YtpbiaeiebhgmgaaDoor
