/-
  The orders of some sizes, reckoned.
-/
import Derived.Test.YtobfjbominbkmaaWb
namespace Go.Proofs.Ytobfjbominbkmaa
set_option maxRecDepth 1000000 in
theorem o132x132 : okOrd 132 132 2178 = true := by kernel_rfl
set_option maxRecDepth 1000000 in
theorem o56x56 : okOrd 56 56 392 = true := by kernel_rfl
set_option maxRecDepth 1000000 in
theorem o36x36 : okOrd 36 36 162 = true := by kernel_rfl
set_option maxRecDepth 1000000 in
theorem o14x44 : okOrd 14 44 77 = true := by kernel_rfl
set_option maxRecDepth 1000000 in
theorem o20x20 : okOrd 20 20 50 = true := by kernel_rfl
set_option maxRecDepth 1000000 in
theorem o14x14 : okOrd 14 14 24 = true := by kernel_rfl
set_option maxRecDepth 1000000 in
theorem o6x16 : okOrd 6 16 12 = true := by kernel_rfl
end Go.Proofs.Ytobfjbominbkmaa
