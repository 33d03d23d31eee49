/- Lemmas. -/
import Derived.Test.YtmnlgdpdgjbfgaaGreatW10
import Derived.Test.YtmnlgdpdgjbfgaaGreatW15
import Derived.Test.YtmnlgdpdgjbfgaaGreatW16
set_option linter.all false
namespace Go.Proofs.YtmnlgdpdgjbfgaaGreat
open Go.Abs Go.RS
set_option maxRecDepth 20000
open XGd
section
variable {f:FD}[OkC f]
end
section
variable {f:FD}[OkC f]
def fvC(f:FD):List Value:=[.int .i64 (FD.ch f:Nat),.int .i64 (f.q:Nat),.int .i64 (f.poly:Nat)]
end
end Go.Proofs.YtmnlgdpdgjbfgaaGreat
namespace Go.Proofs.YtmnlgdpdgjbfgaaGreat
open Go.Abs Go.RS
section
variable {f:FD}[OkC f]
namespace XHd
def xtr:=zzi @Int.cast_ofNat_Int (zzi @fv.eq_1 (zzi @fvf.eq_1 (zzi @fvC.eq_1 (zzi @cdC.eq_1 (zzi @lK (zzi @dQ (zzi @gU @jV)))))))
end XHd
open XHd
end
open Go.Abs Go.RS
section
variable {f:FD}[OkC f]
namespace XHe
def xtr:=zzi @Int.cast_ofNat_Int (zzi @fv.eq_1 (zzi @fvf.eq_1 (zzi @fvC.eq_1 (zzi @cdC.eq_1 (zzi @lK (zzi @dQ (zzi @gU (zzi @jV @ite_self.{1}))))))))
end XHe
open XHe
end
open Go.Abs Go.RS
section
variable {f:FD}[OkC f]
open XHe
end
end Go.Proofs.YtmnlgdpdgjbfgaaGreat
