/-
  The orders of some sizes, reckoned.
-/
import Derived.Test.YtobfjbominbkmaaWb
namespace Go.Proofs.Ytobfjbominbkmaa
set_option maxRecDepth 1000000 in
theorem o96x96 : okOrd 96 96 1152 = true := by kernel_rfl
set_option maxRecDepth 1000000 in
theorem o88x88 : okOrd 88 88 968 = true := by kernel_rfl
set_option maxRecDepth 1000000 in
theorem o64x64 : okOrd 64 64 512 = true := by kernel_rfl
set_option maxRecDepth 1000000 in
theorem o32x32 : okOrd 32 32 128 = true := by kernel_rfl
set_option maxRecDepth 1000000 in
theorem o22x22 : okOrd 22 22 60 = true := by kernel_rfl
set_option maxRecDepth 1000000 in
theorem o10x32 : okOrd 10 32 40 = true := by kernel_rfl
set_option maxRecDepth 1000000 in
theorem o6x28 : okOrd 6 28 21 = true := by kernel_rfl
set_option maxRecDepth 1000000 in
theorem o10x10 : okOrd 10 10 12 = true := by kernel_rfl
end Go.Proofs.Ytobfjbominbkmaa
