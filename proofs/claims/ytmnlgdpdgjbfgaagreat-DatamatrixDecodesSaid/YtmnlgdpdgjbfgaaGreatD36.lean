/- Lemmas. -/
import Derived.Test.YtmnlgdpdgjbfgaaGreatD30
set_option linter.all false
set_option maxRecDepth 1000000
namespace Go.Proofs.YtmnlgdpdgjbfgaaGreat
theorem Dm:dE 120 120 1800=true:=by kernel_rfl
theorem Lu:dE 72 72 648=true:=by kernel_rfl
theorem Lq:dE 44 44 242=true:=by kernel_rfl
theorem Lm:dE 28 28 98=true:=by kernel_rfl
theorem Lf:dE 14 32 56=true:=by kernel_rfl
theorem Lh:dE 16 16 32=true:=by kernel_rfl
theorem Ld:dE 12 12 18=true:=by kernel_rfl
end Go.Proofs.YtmnlgdpdgjbfgaaGreat
