/- Lemmas. -/
import Derived.Test.YtmnlgdpdgjbfgaaGreatF13
set_option linter.all false
set_option maxRecDepth 1000000
namespace Go.Proofs.YtmnlgdpdgjbfgaaGreat
theorem GV:dG 120 120 1800=true:=by kernel_rfl
theorem Ot:dG 72 72 648=true:=by kernel_rfl
theorem Om:dG 44 44 242=true:=by kernel_rfl
theorem Oh:dG 28 28 98=true:=by kernel_rfl
theorem Oa:dG 14 32 56=true:=by kernel_rfl
theorem Oc:dG 16 16 32=true:=by kernel_rfl
theorem O8:dG 12 12 18=true:=by kernel_rfl
end Go.Proofs.YtmnlgdpdgjbfgaaGreat
