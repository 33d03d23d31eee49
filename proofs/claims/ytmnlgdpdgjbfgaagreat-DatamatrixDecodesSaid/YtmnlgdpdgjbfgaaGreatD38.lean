/- Lemmas. -/
import Derived.Test.YtmnlgdpdgjbfgaaGreatD30
set_option linter.all false
set_option maxRecDepth 1000000
namespace Go.Proofs.YtmnlgdpdgjbfgaaGreat
theorem Lx:dE 96 96 1152=true:=by kernel_rfl
theorem Lw:dE 88 88 968=true:=by kernel_rfl
theorem Lt:dE 64 64 512=true:=by kernel_rfl
theorem Ln:dE 32 32 128=true:=by kernel_rfl
theorem Lk:dE 22 22 60=true:=by kernel_rfl
theorem Lc:dE 10 32 40=true:=by kernel_rfl
theorem O0:dE 6 28 21=true:=by kernel_rfl
theorem La:dE 10 10 12=true:=by kernel_rfl
end Go.Proofs.YtmnlgdpdgjbfgaaGreat
