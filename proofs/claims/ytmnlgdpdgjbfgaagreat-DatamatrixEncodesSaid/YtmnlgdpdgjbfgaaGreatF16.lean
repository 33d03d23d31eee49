/- Lemmas. -/
import Derived.Test.YtmnlgdpdgjbfgaaGreatF13
set_option linter.all false
set_option maxRecDepth 1000000
namespace Go.Proofs.YtmnlgdpdgjbfgaaGreat
theorem GU:dG 108 108 1458=true:=by kernel_rfl
theorem Ou:dG 80 80 800=true:=by kernel_rfl
theorem On:dG 48 48 288=true:=by kernel_rfl
theorem Ol:dG 40 40 200=true:=by kernel_rfl
theorem Og:dG 24 24 72=true:=by kernel_rfl
theorem Od:dG 18 18 40=true:=by kernel_rfl
theorem O6:dG 10 24 30=true:=by kernel_rfl
end Go.Proofs.YtmnlgdpdgjbfgaaGreat
