/- Lemmas. -/
import Derived.Test.YtmnlgdpdgjbfgaaGreatL21
set_option linter.all false
set_option maxRecDepth 1000000
namespace Go.Proofs.YtmnlgdpdgjbfgaaGreat
theorem E4:dA 132 132 2178=true:=by kernel_rfl
theorem Mo:dA 56 56 392=true:=by kernel_rfl
theorem Mk:dA 36 36 162=true:=by kernel_rfl
theorem Mc:dA 14 44 77=true:=by kernel_rfl
theorem Mf:dA 20 20 50=true:=by kernel_rfl
theorem Ma:dA 14 14 24=true:=by kernel_rfl
theorem PE:dA 6 16 12=true:=by kernel_rfl
end Go.Proofs.YtmnlgdpdgjbfgaaGreat
