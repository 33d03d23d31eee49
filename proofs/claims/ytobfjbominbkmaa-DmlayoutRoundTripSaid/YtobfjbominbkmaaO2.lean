/-
  The orders of some sizes, reckoned.
-/
import Derived.Test.YtobfjbominbkmaaWb
namespace Go.Proofs.Ytobfjbominbkmaa
set_option maxRecDepth 1000000 in
theorem o108x108 : okOrd 108 108 1458 = true := by kernel_rfl
set_option maxRecDepth 1000000 in
theorem o80x80 : okOrd 80 80 800 = true := by kernel_rfl
set_option maxRecDepth 1000000 in
theorem o48x48 : okOrd 48 48 288 = true := by kernel_rfl
set_option maxRecDepth 1000000 in
theorem o40x40 : okOrd 40 40 200 = true := by kernel_rfl
set_option maxRecDepth 1000000 in
theorem o24x24 : okOrd 24 24 72 = true := by kernel_rfl
set_option maxRecDepth 1000000 in
theorem o18x18 : okOrd 18 18 40 = true := by kernel_rfl
set_option maxRecDepth 1000000 in
theorem o10x24 : okOrd 10 24 30 = true := by kernel_rfl
end Go.Proofs.Ytobfjbominbkmaa
