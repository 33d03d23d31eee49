/- Lemmas. -/
import Derived.Test.YtgiojnobcjnibaaGreatDoorP10
import Derived.Test.YtgiojnobcjnibaaGreatDoorP11
import Derived.Test.YtgiojnobcjnibaaGreatDoorP12
import Derived.KernelRfl
set_option linter.unusedVariables false
set_option linter.unusedSimpArgs false
set_option linter.unusedSectionVars false
namespace Go.Proofs.YtgiojnobcjnibaaGreatDoor
open Go.Abs
def eq91:E:=.node (.bin .eql) (.cons (.node (.fld 0 1 false) (.cons (.node (.ext 0) (.cons (.var 3) .nil)) .nil)) (.cons (.node (.ld 1 false) (.cons (.var 1) .nil)) .nil))
def cf91':CF:=⟨2,4,[.var 2],.seq (.sets [(3,.node (.tas 153 [.int .i64 0,.int .i64 0,.int .i64 0,.slice none 0 0]) (.cons (.var 0) .nil))] []) (.sets [(2,.pick (.node (.ext 1) (.cons (.var 3) .nil)) (.pick (.node (.bin .eql) (.cons (.node (.fld 0 1 false) (.cons (.node (.ext 0) (.cons (.var 3) .nil)) .nil)) (.cons (.cst (.int .i64 0)) .nil))) eq91 eq91) (.node .len (.cons (.var 3) .nil)))] []),.plain⟩
def cf23':CF:=⟨0,1,[.var 0],.seq (.hv [] [] [] (some 0) (.alloc (tabL.map fun n=>.int .i64 (.ofNat n))) .nil) (.hv [] [] [] none (.st 1) (.cons (.var 0) (.cons (.cst (.int .i64 0)) .nil))),.plain⟩
def cpS(f:FuncId):Option CF:=if f=91 then some cf91' else cp f
def cpO(f:FuncId):Option CF:=if f=23 then some cf23' else if f=238∨f=246∨f=247∨f=273 then none else cpS f
theorem primeY(lo:Nat)(H:Heap):run (fun f=>if f=109 then some cf109 else none) 100 lo 109 [.int .i64 929] H=some (.inl (.bool true),H):=by kernel_rfl
end Go.Proofs.YtgiojnobcjnibaaGreatDoor
