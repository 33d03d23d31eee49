/- QrblocksCorrects returns true for every version, level, data and damage: what is within the capacity of each block is corrected. No conditions. -/
import Derived.Test.YtkeagffmmhllcaaP27
import Derived.Test.YtkeagffmmhllcaaP29
set_option linter.unusedVariables false
set_option linter.unusedSimpArgs false
set_option linter.unusedSectionVars false
namespace Go.Proofs.Ytkeagffmmhllcaa
open Go.Abs
namespace qrblocksCorrects
open Go.ChangeShapes Go.WideShapes Go.ChangeAt Go.RowKit
theorem fnE (X : Type) (ds : List (DataW X)) (h : ds.length = 1) : Rows.qrblocksCorrectsSpec.fn X ds = ⟨[.lit (.bool true)], ds, []⟩ := by
 match ds, h with
 | [d1], _ => rfl
theorem lawAll (H : Heap) (vs : List Value) (h : HasArgs maxLen H [.rcd [.int .i64, .int .i64, .sl (.int .u8), .sl (.int .u16), .sl (.int .u8), .sl .bool]] vs) : Ev cp H.length 5 vs H (fun v _ => v = .bool true) := by
 simp only [HasArgs] at h
 obtain ⟨a1, r1, rfl, h1, rfl⟩ := h
 obtain ⟨V, L, aD, lD, cD, aA, la, cA, aY, lb, cY, aE, le, cE, rfl, h2, h3, h4, h5, h6, h7, h8, h9, h10, h11, h12⟩ := dmg_of h1
 exact lawCor h2 h3 h4 h5 h6 h7 h8 h9 h10 h11 h12
set_option maxRecDepth 100000 in
theorem lifted (os : Os) (started : os.Started) (H : Type) (enc : TypeId × Value → H) :
  ReturnsInHanded {} Try.checked os 5 .any (Rows.qrblocksCorrectsSpec.pre6 enc Try.prog Try.f5 Rows.qrblocksCorrectsRow.domain false) (Rows.qrblocksCorrectsSpec.post enc Try.prog Try.f5 false true false false) := by
 refine returnsInHanded_of_change (C := Try.checked) own started (by kernel_rfl) Try.func5
  (ChangeSpec.witness6 (enc := enc) (C := Try.checked) false ⟨#[], #[.agg #[.int .i64 0, .int .i64 0, .slice none 0 0, .slice none 0 0, .slice none 0 0, .slice none 0 0]], []⟩ 8 (by kernel_rfl) (by kernel_rfl) (by kernel_rfl) (by kernel_rfl)) ?_
 intro W base args ds gs before hval hW _ _
 exact law_contract (P := Try.prog) (fn := Try.f5) (s := Rows.qrblocksCorrectsSpec) okAll (d := 8) (tys := [.rcd [.int .i64, .int .i64, .sl (.int .u8), .sl (.int .u16), .sl (.int .u8), .sl .bool]]) (by kernel_rfl) (by kernel_rfl) (by kernel_rfl) Try.underlying4 laidOut (by kernel_rfl) rfl fnE lawAll W (by rw [noGlobals]; omega) base args ds gs before hval hW (fun x _ => .inl (Nat.le_refl _))
theorem over : Rows.qrblocksCorrectsRow.holds Try.pinned (OpenSpec.ofChange Rows.qrblocksCorrectsSpec) :=
 OpenClaim.holds_of_wide 5 Try.f5 rfl rfl rfl rfl rfl rfl rfl ⟨rfl, rfl, rfl, rfl, rfl⟩ rfl rfl rfl rfl rfl (by kernel_rfl) Try.func5 (by kernel_rfl)
  (of_decide_eq_true (by kernel_rfl)) (by unfold Func.isWrapper; first | (rw [if_pos (by decide +kernel)]; kernel_rfl) | (rw [if_neg (by decide +kernel)]; exact ⟨rfl, rfl⟩))
  (fun os started H enc _ => lifted os started H enc)
theorem proved : Rows.QrblocksCorrectsSaid := over
#print axioms proved
end qrblocksCorrects
end Go.Proofs.Ytkeagffmmhllcaa
