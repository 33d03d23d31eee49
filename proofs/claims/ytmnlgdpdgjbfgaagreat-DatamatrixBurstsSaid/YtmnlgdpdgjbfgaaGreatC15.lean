/- Fields in the reference: what its functions answer. Fields in the reference: the test, sums, products. Fields in the reference: powers, inverses, the generator. Reed-Solomon codes in the reference: roots, values, syndromes, reductions. Reed-Solomon codes in the reference: locators, products, the generator polynomial. Reed-Solomon codes in the reference: products, the generator polynomial. -/
import Derived.Test.YtmnlgdpdgjbfgaaGreatC10
import Derived.Test.YtmnlgdpdgjbfgaaGreatC12
import Derived.Test.YtmnlgdpdgjbfgaaGreatC13
set_option linter.unusedVariables false
set_option linter.unusedSimpArgs false
set_option linter.unusedSectionVars false
namespace Go.Proofs.YtmnlgdpdgjbfgaaGreat
open Go.Abs Go.RS
set_option linter.unusedSimpArgs false
set_option linter.unusedVariables false
set_option maxRecDepth 20000
end Go.Proofs.YtmnlgdpdgjbfgaaGreat
namespace Go.Proofs.YtmnlgdpdgjbfgaaGreat
open Go.Abs Go.RS
set_option linter.unusedSimpArgs false
set_option linter.unusedVariables false
set_option maxRecDepth 20000
section
variable {f:FD}[OkC f]
end
end Go.Proofs.YtmnlgdpdgjbfgaaGreat
namespace Go.Proofs.YtmnlgdpdgjbfgaaGreat
open Go.Abs Go.RS
set_option linter.unusedSimpArgs false
set_option linter.unusedVariables false
set_option maxRecDepth 20000
section
variable {f:FD}[OkC f]
end
end Go.Proofs.YtmnlgdpdgjbfgaaGreat
namespace Go.Proofs.YtmnlgdpdgjbfgaaGreat
open Go.Abs Go.RS
set_option linter.unusedSimpArgs false
set_option linter.unusedVariables false
set_option maxRecDepth 20000
section
variable {f:FD}[OkC f]
end
end Go.Proofs.YtmnlgdpdgjbfgaaGreat
namespace Go.Proofs.YtmnlgdpdgjbfgaaGreat
open Go.Abs Go.RS
set_option linter.unusedSimpArgs false
set_option linter.unusedVariables false
set_option maxRecDepth 20000
section
variable {f:FD}[OkC f]
end
end Go.Proofs.YtmnlgdpdgjbfgaaGreat
namespace Go.Proofs.YtmnlgdpdgjbfgaaGreat
open Go.Abs Go.RS
set_option linter.unusedSimpArgs false
set_option linter.unusedVariables false
set_option maxRecDepth 20000
section
variable {f:FD}[OkC f]
end
end Go.Proofs.YtmnlgdpdgjbfgaaGreat
