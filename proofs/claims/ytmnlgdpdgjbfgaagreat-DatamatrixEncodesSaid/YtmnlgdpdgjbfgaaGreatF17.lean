/- Lemmas. -/
import Derived.Test.YtmnlgdpdgjbfgaaGreatF13
set_option linter.all false
set_option maxRecDepth 1000000
namespace Go.Proofs.YtmnlgdpdgjbfgaaGreat
theorem Ow:dG 96 96 1152=true:=by kernel_rfl
theorem Ov:dG 88 88 968=true:=by kernel_rfl
theorem Oq:dG 64 64 512=true:=by kernel_rfl
theorem Oi:dG 32 32 128=true:=by kernel_rfl
theorem Of:dG 22 22 60=true:=by kernel_rfl
theorem O7:dG 10 32 40=true:=by kernel_rfl
theorem Rj:dG 6 28 21=true:=by kernel_rfl
theorem O5:dG 10 10 12=true:=by kernel_rfl
end Go.Proofs.YtmnlgdpdgjbfgaaGreat
