/- Lemmas. -/
import Derived.Test.YtmnlgdpdgjbfgaaGreatW29
set_option linter.all false
set_option maxRecDepth 1000000
namespace Go.Proofs.YtmnlgdpdgjbfgaaGreat
theorem OM:dH 96 96 1152=true:=by kernel_rfl
theorem OK:dH 88 88 968=true:=by kernel_rfl
theorem OH:dH 64 64 512=true:=by kernel_rfl
theorem OB:dH 32 32 128=true:=by kernel_rfl
theorem Ny:dH 22 22 60=true:=by kernel_rfl
theorem Nq:dH 10 32 40=true:=by kernel_rfl
theorem Q3:dH 6 28 21=true:=by kernel_rfl
theorem No:dH 10 10 12=true:=by kernel_rfl
end Go.Proofs.YtmnlgdpdgjbfgaaGreat
