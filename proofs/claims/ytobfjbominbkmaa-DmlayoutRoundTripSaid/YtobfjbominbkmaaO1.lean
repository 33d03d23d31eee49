/-
  The orders of some sizes, reckoned.
-/
import Derived.Test.YtobfjbominbkmaaWb
namespace Go.Proofs.Ytobfjbominbkmaa
set_option maxRecDepth 1000000 in
theorem o120x120 : okOrd 120 120 1800 = true := by kernel_rfl
set_option maxRecDepth 1000000 in
theorem o72x72 : okOrd 72 72 648 = true := by kernel_rfl
set_option maxRecDepth 1000000 in
theorem o44x44 : okOrd 44 44 242 = true := by kernel_rfl
set_option maxRecDepth 1000000 in
theorem o28x28 : okOrd 28 28 98 = true := by kernel_rfl
set_option maxRecDepth 1000000 in
theorem o14x32 : okOrd 14 32 56 = true := by kernel_rfl
set_option maxRecDepth 1000000 in
theorem o16x16 : okOrd 16 16 32 = true := by kernel_rfl
set_option maxRecDepth 1000000 in
theorem o12x12 : okOrd 12 12 18 = true := by kernel_rfl
end Go.Proofs.Ytobfjbominbkmaa
