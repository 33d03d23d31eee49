/- Reed-Solomon codes in the reference: repair, from the test of the locator on. Reed-Solomon codes in the reference: repair, from the locator on. Reed-Solomon codes in the reference: repair and Decode. Reed-Solomon codes in the reference: Decode. -/
import Derived.Test.YtkeagffmmhllcaaGreatP18
set_option linter.unusedVariables false
set_option linter.unusedSimpArgs false
set_option linter.unusedSectionVars false
namespace Go.Proofs.YtkeagffmmhllcaaGreat
open Go.Abs Go.RS
set_option linter.unusedSimpArgs false
set_option linter.unusedVariables false
set_option maxRecDepth 20000
section
variable {f:FD}[OkC f]
end
end Go.Proofs.YtkeagffmmhllcaaGreat
namespace Go.Proofs.YtkeagffmmhllcaaGreat
open Go.Abs Go.RS
set_option linter.unusedSimpArgs false
set_option linter.unusedVariables false
set_option maxRecDepth 20000
section
variable {f:FD}[OkC f]
end
end Go.Proofs.YtkeagffmmhllcaaGreat
namespace Go.Proofs.YtkeagffmmhllcaaGreat
open Go.Abs Go.RS
set_option linter.unusedSimpArgs false
set_option linter.unusedVariables false
set_option maxRecDepth 20000
section
variable {f:FD}[OkC f]
end
end Go.Proofs.YtkeagffmmhllcaaGreat
namespace Go.Proofs.YtkeagffmmhllcaaGreat
open Go.Abs Go.RS
set_option linter.unusedSimpArgs false
set_option linter.unusedVariables false
set_option maxRecDepth 20000
section
variable {ch sz po r b:Int}{v ve:Value}{l:List Int}{lo:Nat}{H:Heap}
end
section
variable {f:FD}[OkC f]
end
end Go.Proofs.YtkeagffmmhllcaaGreat
