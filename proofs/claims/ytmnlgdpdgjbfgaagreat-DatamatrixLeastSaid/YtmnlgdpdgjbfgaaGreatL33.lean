/- Lemmas. -/
import Derived.Test.YtmnlgdpdgjbfgaaGreatL21
set_option linter.all false
set_option maxRecDepth 1000000
namespace Go.Proofs.YtmnlgdpdgjbfgaaGreat
theorem E3:dA 120 120 1800=true:=by kernel_rfl
theorem Mq:dA 72 72 648=true:=by kernel_rfl
theorem Mm:dA 44 44 242=true:=by kernel_rfl
theorem Mi:dA 28 28 98=true:=by kernel_rfl
theorem Mb:dA 14 32 56=true:=by kernel_rfl
theorem Md:dA 16 16 32=true:=by kernel_rfl
theorem M9:dA 12 12 18=true:=by kernel_rfl
end Go.Proofs.YtmnlgdpdgjbfgaaGreat
