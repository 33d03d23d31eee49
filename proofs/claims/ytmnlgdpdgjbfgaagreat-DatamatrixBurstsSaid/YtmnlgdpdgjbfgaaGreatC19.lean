/- What every law of this seat needs of the program, and the arguments of the laws. -/
import Derived.Test.YtmnlgdpdgjbfgaaGreatC18
import Derived.Test.YtmnlgdpdgjbfgaaGreatRows
set_option linter.unusedVariables false
set_option linter.unusedSimpArgs false
set_option linter.unusedSectionVars false
namespace Go.Proofs.YtmnlgdpdgjbfgaaGreat
open Go.Abs
theorem own:ownKnob Tryz.prog.godebug=none:=by kernel_rfl
theorem laidOut:laidOutB Tryz.prog=true:=by kernel_rfl
theorem noGlobals:Tryz.prog.globals.size=0:=by kernel_rfl
theorem all_cons{B:Nat}{H:Heap}{t:Ty}{r:List Ty}{vs:List Value}(h:HasAll B H (t::r) vs):∃a b,vs=a++b∧Has B H t a∧HasAll B H r b:=by simpa only[HasAll]using h
theorem all_nil{B:Nat}{H:Heap}{vs:List Value}(h:HasAll B H [] vs):vs=[]:=by simpa only[HasAll]using h
end Go.Proofs.YtmnlgdpdgjbfgaaGreat
