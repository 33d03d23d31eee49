/- Lemmas. -/
import Derived.Test.YtmnlgdpdgjbfgaaGreatD30
set_option linter.all false
set_option maxRecDepth 1000000
namespace Go.Proofs.YtmnlgdpdgjbfgaaGreat
theorem Dl:dE 108 108 1458=true:=by kernel_rfl
theorem Lv:dE 80 80 800=true:=by kernel_rfl
theorem Lr:dE 48 48 288=true:=by kernel_rfl
theorem Lp:dE 40 40 200=true:=by kernel_rfl
theorem Ll:dE 24 24 72=true:=by kernel_rfl
theorem Li:dE 18 18 40=true:=by kernel_rfl
theorem Lb:dE 10 24 30=true:=by kernel_rfl
end Go.Proofs.YtmnlgdpdgjbfgaaGreat
