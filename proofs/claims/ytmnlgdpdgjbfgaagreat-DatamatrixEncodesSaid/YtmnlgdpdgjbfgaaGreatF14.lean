/- Lemmas. -/
import Derived.Test.YtmnlgdpdgjbfgaaGreatF13
set_option linter.all false
set_option maxRecDepth 1000000
namespace Go.Proofs.YtmnlgdpdgjbfgaaGreat
theorem GW:dG 132 132 2178=true:=by kernel_rfl
theorem Oo:dG 56 56 392=true:=by kernel_rfl
theorem Oj:dG 36 36 162=true:=by kernel_rfl
theorem Ob:dG 14 44 77=true:=by kernel_rfl
theorem Oe:dG 20 20 50=true:=by kernel_rfl
theorem O9:dG 14 14 24=true:=by kernel_rfl
theorem Ri:dG 6 16 12=true:=by kernel_rfl
end Go.Proofs.YtmnlgdpdgjbfgaaGreat
