/- QrblocksPlaces returns true for every version and level: Place agrees with the reference, and each block occurs with each of its indexes exactly once. No conditions. -/
import Derived.Test.YtkeagffmmhllcaaP22
import Derived.Test.YtkeagffmmhllcaaP25
set_option linter.unusedVariables false
set_option linter.unusedSimpArgs false
set_option linter.unusedSectionVars false
namespace Go.Proofs.Ytkeagffmmhllcaa
open Go.Abs
namespace qrblocksPlaces
open Go.ChangeShapes Go.WideShapes Go.ChangeAt Go.RowKit
theorem fnE (X : Type) (ds : List (DataW X)) (h : ds.length = 2) : Rows.qrblocksPlacesSpec.fn X ds = ⟨[.lit (.bool true)], ds, []⟩ := by
 match ds, h with
 | [d1, d2], _ => rfl
theorem lawAll (H : Heap) (vs : List Value) (h : HasArgs maxLen H [.int .i64, .int .i64] vs) : Ev cp H.length 4 vs H (fun v _ => v = .bool true) := by
 simp only [HasArgs] at h
 obtain ⟨a2, r2, rfl, h2, a3, r3, rfl, h3, rfl⟩ := h
 simp only [HasArg] at h2 h3
 obtain ⟨v, e2, _⟩ := has_int h2
 cases e2
 obtain ⟨l, e3, _⟩ := has_int h3
 cases e3
 exact lawPla
set_option maxRecDepth 100000 in
theorem lifted (os : Os) (started : os.Started) (H : Type) (enc : TypeId × Value → H) :
  ReturnsInHanded {} Try.checked os 4 .any (Rows.qrblocksPlacesSpec.pre6 enc Try.prog Try.f4 Rows.qrblocksPlacesRow.domain false) (Rows.qrblocksPlacesSpec.post enc Try.prog Try.f4 false true false false) := by
 refine returnsInHanded_of_change (C := Try.checked) own started (by kernel_rfl) Try.func4
  (ChangeSpec.witness6 (enc := enc) (C := Try.checked) false ⟨#[], #[.int .i64 0, .int .i64 0], []⟩ 8 (by kernel_rfl) (by kernel_rfl) (by kernel_rfl) (by kernel_rfl)) ?_
 intro W base args ds gs before hval hW _ _
 exact law_contract (P := Try.prog) (fn := Try.f4) (s := Rows.qrblocksPlacesSpec) okAll (d := 8) (tys := [.int .i64, .int .i64]) (by kernel_rfl) (by kernel_rfl) (by kernel_rfl) Try.underlying4 laidOut (by kernel_rfl) rfl fnE lawAll W (by rw [noGlobals]; omega) base args ds gs before hval hW (fun x _ => .inl (Nat.le_refl _))
theorem over : Rows.qrblocksPlacesRow.holds Try.pinned (OpenSpec.ofChange Rows.qrblocksPlacesSpec) :=
 OpenClaim.holds_of_wide 4 Try.f4 rfl rfl rfl rfl rfl rfl rfl ⟨rfl, rfl, rfl, rfl, rfl⟩ rfl rfl rfl rfl rfl (by kernel_rfl) Try.func4 (by kernel_rfl)
  (of_decide_eq_true (by kernel_rfl)) (by unfold Func.isWrapper; first | (rw [if_pos (by decide +kernel)]; kernel_rfl) | (rw [if_neg (by decide +kernel)]; exact ⟨rfl, rfl⟩))
  (fun os started H enc _ => lifted os started H enc)
theorem proved : Rows.QrblocksPlacesSaid := over
#print axioms proved
end qrblocksPlaces
end Go.Proofs.Ytkeagffmmhllcaa
