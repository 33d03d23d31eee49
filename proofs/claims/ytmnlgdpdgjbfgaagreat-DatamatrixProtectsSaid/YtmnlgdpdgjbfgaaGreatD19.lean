/- Reed-Solomon codes in the reference: repair, from the test of the locator on. Reed-Solomon codes in the reference: repair, from the locator on. Reed-Solomon codes in the reference: repair and Decode. Reed-Solomon codes in the reference: Decode. -/
import Derived.Test.YtmnlgdpdgjbfgaaGreatD18
set_option linter.unusedVariables false
set_option linter.unusedSimpArgs false
set_option linter.unusedSectionVars false
namespace Go.Proofs.YtmnlgdpdgjbfgaaGreat
open Go.Abs Go.RS
set_option linter.unusedSimpArgs false
set_option linter.unusedVariables false
set_option maxRecDepth 20000
section
variable {f:FD}[OkC f]
def RepOK(g:El f)(r b:Nat)(w:List (El f))(er:Nat→Bool)(N:Nat)(v:Value)(H':Heap):Prop:=∃vw vc,v=.tuple #[.agg #[vw,vc],.int .i64 0]∧SlE H' vw (fixW g r b w er)∧Sl encN H' vc (sel (fun i=>decide (co (fixW g r b w er) i≠co w i)) w.length)∧NewV N vw
theorem RepOK.le{g:El f}{r b:Nat}{w:List (El f)}{er:Nat→Bool}{N M:Nat}{v:Value}{H:Heap}(h:RepOK g r b w er N v H)(hm:M≤N):RepOK g r b w er M v H:=by
 obtain⟨a,c,h1,h2,h3,h4⟩:=h
 exact⟨a,c,h1,h2,h3,fun b o sp k c e=>Nat.le_trans hm (h4 b o sp k c e)⟩
end
end Go.Proofs.YtmnlgdpdgjbfgaaGreat
namespace Go.Proofs.YtmnlgdpdgjbfgaaGreat
open Go.Abs Go.RS
set_option linter.unusedSimpArgs false
set_option linter.unusedVariables false
set_option maxRecDepth 20000
section
variable {f:FD}[OkC f]
end
end Go.Proofs.YtmnlgdpdgjbfgaaGreat
namespace Go.Proofs.YtmnlgdpdgjbfgaaGreat
open Go.Abs Go.RS
set_option linter.unusedSimpArgs false
set_option linter.unusedVariables false
set_option maxRecDepth 20000
section
variable {f:FD}[OkC f]
end
end Go.Proofs.YtmnlgdpdgjbfgaaGreat
namespace Go.Proofs.YtmnlgdpdgjbfgaaGreat
open Go.Abs Go.RS
set_option linter.unusedSimpArgs false
set_option linter.unusedVariables false
set_option maxRecDepth 20000
section
variable {ch sz po r b:Int}{v ve:Value}{l:List Int}{lo:Nat}{H:Heap}
end
section
variable {f:FD}[OkC f]
end
end Go.Proofs.YtmnlgdpdgjbfgaaGreat
