/- Lemmas. -/
import Derived.Test.YtmnlgdpdgjbfgaaGreatW29
set_option linter.all false
set_option maxRecDepth 1000000
namespace Go.Proofs.YtmnlgdpdgjbfgaaGreat
theorem Fz:dH 120 120 1800=true:=by kernel_rfl
theorem OI:dH 72 72 648=true:=by kernel_rfl
theorem OE:dH 44 44 242=true:=by kernel_rfl
theorem OA:dH 28 28 98=true:=by kernel_rfl
theorem Nt:dH 14 32 56=true:=by kernel_rfl
theorem Nv:dH 16 16 32=true:=by kernel_rfl
theorem Nr:dH 12 12 18=true:=by kernel_rfl
end Go.Proofs.YtmnlgdpdgjbfgaaGreat
