/- Lemmas. -/
import Derived.Test.YtgiojnobcjnibaaGreatDoorH16
set_option linter.all false
namespace Go.Proofs.YtgiojnobcjnibaaGreatDoor
open Go.Abs
set_option maxHeartbeats 0 in
theorem tA:nz cpO scG 1100 100000 0 9 [] (.mk 0 .e) (CG (.bool true))=true:=Wf
end Go.Proofs.YtgiojnobcjnibaaGreatDoor
