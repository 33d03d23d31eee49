/- Lemmas. -/
import Derived.Test.YtmnlgdpdgjbfgaaGreatW29
set_option linter.all false
set_option maxRecDepth 1000000
namespace Go.Proofs.YtmnlgdpdgjbfgaaGreat
theorem GA:dH 132 132 2178=true:=by kernel_rfl
theorem OG:dH 56 56 392=true:=by kernel_rfl
theorem OC:dH 36 36 162=true:=by kernel_rfl
theorem Nu:dH 14 44 77=true:=by kernel_rfl
theorem Nx:dH 20 20 50=true:=by kernel_rfl
theorem Ns:dH 14 14 24=true:=by kernel_rfl
theorem Q2:dH 6 16 12=true:=by kernel_rfl
end Go.Proofs.YtmnlgdpdgjbfgaaGreat
