/- Lemmas. -/
import Derived.Test.YtmnlgdpdgjbfgaaGreatL21
set_option linter.all false
set_option maxRecDepth 1000000
namespace Go.Proofs.YtmnlgdpdgjbfgaaGreat
theorem E2:dA 108 108 1458=true:=by kernel_rfl
theorem Mr:dA 80 80 800=true:=by kernel_rfl
theorem Mn:dA 48 48 288=true:=by kernel_rfl
theorem Ml:dA 40 40 200=true:=by kernel_rfl
theorem Mh:dA 24 24 72=true:=by kernel_rfl
theorem Me:dA 18 18 40=true:=by kernel_rfl
theorem M7:dA 10 24 30=true:=by kernel_rfl
end Go.Proofs.YtmnlgdpdgjbfgaaGreat
