/- Lemmas. -/
import Derived.Test.YtmnlgdpdgjbfgaaGreatD30
set_option linter.all false
set_option maxRecDepth 1000000
namespace Go.Proofs.YtmnlgdpdgjbfgaaGreat
theorem Dn:dE 132 132 2178=true:=by kernel_rfl
theorem Ls:dE 56 56 392=true:=by kernel_rfl
theorem Lo:dE 36 36 162=true:=by kernel_rfl
theorem Lg:dE 14 44 77=true:=by kernel_rfl
theorem Lj:dE 20 20 50=true:=by kernel_rfl
theorem Le:dE 14 14 24=true:=by kernel_rfl
theorem OZ:dE 6 16 12=true:=by kernel_rfl
end Go.Proofs.YtmnlgdpdgjbfgaaGreat
