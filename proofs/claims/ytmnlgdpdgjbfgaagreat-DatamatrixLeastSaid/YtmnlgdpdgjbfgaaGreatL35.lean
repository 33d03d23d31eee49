/- Lemmas. -/
import Derived.Test.YtmnlgdpdgjbfgaaGreatL21
set_option linter.all false
set_option maxRecDepth 1000000
namespace Go.Proofs.YtmnlgdpdgjbfgaaGreat
theorem Mt:dA 96 96 1152=true:=by kernel_rfl
theorem Ms:dA 88 88 968=true:=by kernel_rfl
theorem Mp:dA 64 64 512=true:=by kernel_rfl
theorem Mj:dA 32 32 128=true:=by kernel_rfl
theorem Mg:dA 22 22 60=true:=by kernel_rfl
theorem M8:dA 10 32 40=true:=by kernel_rfl
theorem PF:dA 6 28 21=true:=by kernel_rfl
theorem M6:dA 10 10 12=true:=by kernel_rfl
end Go.Proofs.YtmnlgdpdgjbfgaaGreat
