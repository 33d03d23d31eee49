/- ReedsolomonDetects returns true for every code, word and erased indexes: what Decode returns is a codeword within the capacity of the word. No conditions. -/
import Derived.Test.YthejjplggcfjcaaP17
import Derived.Test.YthejjplggcfjcaaP23
set_option linter.unusedVariables false
set_option linter.unusedSimpArgs false
set_option linter.unusedSectionVars false
namespace Go.Proofs.Ythejjplggcfjcaa
open Go.Abs
namespace reedsolomonDetects
open Go.ChangeShapes Go.WideShapes Go.ChangeAt Go.RowKit
theorem fnE (X : Type) (ds : List (DataW X)) (h : ds.length = 1) : Rows.reedsolomonDetectsSpec.fn X ds = ⟨[.lit (.bool true)], ds, []⟩ := by
 match ds, h with
 | [d1], _ => rfl
theorem lawAll (H : Heap) (vs : List Value) (h : HasArgs maxLen H [.rcd [.rcd [.rcd [.int .i64, .int .i64, .int .i64], .int .i64, .int .i64], .sl (.int .i64), .sl (.int .i64)]] vs) : Ev cp H.length 8 vs H (fun v _ => v = .bool true) := by
 simp only [HasArgs] at h
 obtain ⟨a1, r1, rfl, h1, rfl⟩ := h
 obtain ⟨ch, sz, po, r, b, vw, ve, s, e, rfl, g2, g3, g4, g5⟩ := ask_of h1
 exact lawDet g3 g2 g4 g5
set_option maxRecDepth 100000 in
theorem lifted (os : Os) (started : os.Started) (H : Type) (enc : TypeId × Value → H) :
  ReturnsInHanded {} Try.checked os 8 .any (Rows.reedsolomonDetectsSpec.pre6 enc Try.prog Try.f8 Rows.reedsolomonDetectsRow.domain false) (Rows.reedsolomonDetectsSpec.post enc Try.prog Try.f8 false true false false) := by
 refine returnsInHanded_of_change (C := Try.checked) own started (by kernel_rfl) Try.func8
  (ChangeSpec.witness6 (enc := enc) (C := Try.checked) false ⟨#[], #[.agg #[.int .i64 0, .int .i64 0, .int .i64 0, .int .i64 0, .int .i64 0, .slice none 0 0, .slice none 0 0]], []⟩ 8 (by kernel_rfl) (by kernel_rfl) (by kernel_rfl) (by kernel_rfl)) ?_
 intro W base args ds gs before hval hW _ _
 exact law_contract (P := Try.prog) (fn := Try.f8) (s := Rows.reedsolomonDetectsSpec) okAll (d := 8) (tys := [.rcd [.rcd [.rcd [.int .i64, .int .i64, .int .i64], .int .i64, .int .i64], .sl (.int .i64), .sl (.int .i64)]]) (by kernel_rfl) (by kernel_rfl) (by kernel_rfl) Try.underlying4 laidOut (by kernel_rfl) rfl fnE lawAll W (by rw [noGlobals]; omega) base args ds gs before hval hW (fun x _ => .inl (Nat.le_refl _))
theorem over : Rows.reedsolomonDetectsRow.holds Try.pinned (OpenSpec.ofChange Rows.reedsolomonDetectsSpec) :=
 OpenClaim.holds_of_wide 8 Try.f8 rfl rfl rfl rfl rfl rfl rfl ⟨rfl, rfl, rfl, rfl, rfl⟩ rfl rfl rfl rfl rfl (by kernel_rfl) Try.func8 (by kernel_rfl)
  (of_decide_eq_true (by kernel_rfl)) (by unfold Func.isWrapper; first | (rw [if_pos (by decide +kernel)]; kernel_rfl) | (rw [if_neg (by decide +kernel)]; exact ⟨rfl, rfl⟩))
  (fun os started H enc _ => lifted os started H enc)
theorem proved : Rows.ReedsolomonDetectsSaid := over
#print axioms proved
end reedsolomonDetects
end Go.Proofs.Ythejjplggcfjcaa
