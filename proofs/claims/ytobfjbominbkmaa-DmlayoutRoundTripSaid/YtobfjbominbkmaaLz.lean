/-
  What every law of this seat needs of the program.
-/
import Derived.Test.YtobfjbominbkmaaWj
import Derived.Test.YtobfjbominbkmaaRows
namespace Go.Proofs.Ytobfjbominbkmaa
theorem own : ownKnob Try.prog.godebug = none := by kernel_rfl
theorem laidOut : laidOutB Try.prog = true := by kernel_rfl
theorem noGlobals : Try.prog.globals.size = 0 := by kernel_rfl
end Go.Proofs.Ytobfjbominbkmaa
