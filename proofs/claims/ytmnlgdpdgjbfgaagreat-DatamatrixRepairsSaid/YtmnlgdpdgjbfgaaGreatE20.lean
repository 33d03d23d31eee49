/- Lemmas. -/
import Derived.Test.YtmnlgdpdgjbfgaaGreatE18
import Derived.Test.YtmnlgdpdgjbfgaaGreatRows
set_option linter.unusedVariables false
set_option linter.unusedSimpArgs false
set_option linter.unusedSectionVars false
namespace Go.Proofs.YtmnlgdpdgjbfgaaGreat
open Go.Abs
theorem own:ownKnob Tryz.prog.godebug=none:=by kernel_rfl
theorem laidOut:laidOutB Tryz.prog=true:=by kernel_rfl
theorem BU:Tryz.prog.globals.size=0:=by kernel_rfl
theorem jv{B:Nat}{H:Heap}{vs:List Value}(h:Has B H (.int .i64) vs):∃n:Int,vs=[.int .i64 n]∧-9223372036854775808≤n∧n≤9223372036854775807:=by
 simp only[Has]at h
 exact h
theorem all_cons{B:Nat}{H:Heap}{t:Ty}{r:List Ty}{vs:List Value}(h:HasAll B H (t::r) vs):∃a b,vs=a++b∧Has B H t a∧HasAll B H r b:=by simpa only[HasAll]using h
theorem all_nil{B:Nat}{H:Heap}{vs:List Value}(h:HasAll B H [] vs):vs=[]:=by simpa only[HasAll]using h
theorem MV{B:Nat}{H:Heap}{vs:List Value}(h:Has B H (.sl (.int .i64)) vs):∃v l,vs=[v]∧SlI H v l∧l.length≤B:=by
 obtain⟨v,rfl,h⟩:=A6 h (by intro l e;cases e) (by intro n l e;cases e)
 obtain⟨l,h1,h2,_⟩:=IB h
 exact⟨v,l,rfl,h1,h2⟩
end Go.Proofs.YtmnlgdpdgjbfgaaGreat
