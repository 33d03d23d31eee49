/- Lemmas. -/
import Derived.Test.YtmnlgdpdgjbfgaaGreatW29
set_option linter.all false
set_option maxRecDepth 1000000
namespace Go.Proofs.YtmnlgdpdgjbfgaaGreat
theorem Fy:dH 108 108 1458=true:=by kernel_rfl
theorem OJ:dH 80 80 800=true:=by kernel_rfl
theorem OF:dH 48 48 288=true:=by kernel_rfl
theorem OD:dH 40 40 200=true:=by kernel_rfl
theorem Nz:dH 24 24 72=true:=by kernel_rfl
theorem Nw:dH 18 18 40=true:=by kernel_rfl
theorem Np:dH 10 24 30=true:=by kernel_rfl
end Go.Proofs.YtmnlgdpdgjbfgaaGreat
