/- Lemmas. -/
import Derived.Test.YtgiojnobcjnibaaGreatDoorP17
import Derived.KernelRfl
set_option linter.unusedVariables false
set_option linter.unusedSimpArgs false
set_option linter.unusedSectionVars false
namespace Go.Proofs.YtgiojnobcjnibaaGreatDoor
open Go.Abs
set_option maxHeartbeats 0 in
theorem tA:frun cpO scS 1100 100000 0 9 [] (.mk 0 .e) (answ0 (.bool true))=true:=by kernel_rfl
end Go.Proofs.YtgiojnobcjnibaaGreatDoor
