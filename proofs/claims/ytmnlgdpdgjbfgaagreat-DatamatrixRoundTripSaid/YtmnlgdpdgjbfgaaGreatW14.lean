/- Lemmas. -/
import Derived.Test.YtmnlgdpdgjbfgaaGreatW13
set_option linter.all false
namespace Go.Proofs.YtmnlgdpdgjbfgaaGreat
open Go.Abs
set_option maxHeartbeats 0 in
theorem exR:zV cp scC 2300 100000 0 12 [] (.mk 0 .e) (KR (.bool true))=true:=by kernel_rfl
theorem Ab{lo:Nat}{H:Heap}(hlo:lo<=H.length):Ev cp lo 12 [] H (fun v H'=>Ext H H'/\v=.bool true):=Eh (args:=[]) mQ O2 exR rfl rfl hlo
end Go.Proofs.YtmnlgdpdgjbfgaaGreat
