/- Lemmas. -/
import Derived.Test.YtmnlgdpdgjbfgaaGreatL15
set_option linter.all false
namespace Go.Proofs.YtmnlgdpdgjbfgaaGreat
open Go.Abs Go.RS
set_option maxRecDepth 20000
section
variable {f:FD}[OkC f]
namespace XGi
def xtr:=zzi @Int.cast_ofNat_Int (zzi @arC.eq_1 (zzi @kt (zzi @eg (zzi @gH (zzi @jN @ite_self.{1})))))
end XGi
open XGi
end
open Go.Abs Go.RS
open XGd
section
variable {f:FD}[OkC f]
end
section
variable {f:FD}[OkC f]
def fvC(f:FD):List Value:=[.int .i64 (FD.ch f:Nat),.int .i64 (f.q:Nat),.int .i64 (f.poly:Nat)]
end
end Go.Proofs.YtmnlgdpdgjbfgaaGreat
