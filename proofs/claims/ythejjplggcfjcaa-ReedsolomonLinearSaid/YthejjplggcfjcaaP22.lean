/- ReedsolomonLinear returns true for every code, words and factor: the sum of a codeword and a multiple of another one is a codeword. No conditions. -/
import Derived.Test.YthejjplggcfjcaaP17
import Derived.Test.YthejjplggcfjcaaP21
set_option linter.unusedVariables false
set_option linter.unusedSimpArgs false
set_option linter.unusedSectionVars false
namespace Go.Proofs.Ythejjplggcfjcaa
open Go.Abs
namespace reedsolomonLinear
open Go.ChangeShapes Go.WideShapes Go.ChangeAt Go.RowKit
theorem fnE (X : Type) (ds : List (DataW X)) (h : ds.length = 3) : Rows.reedsolomonLinearSpec.fn X ds = ⟨[.lit (.bool true)], ds, []⟩ := by
 match ds, h with
 | [d1, d2, d3], _ => rfl
theorem lawAll (H : Heap) (vs : List Value) (h : HasArgs maxLen H [.rcd [.rcd [.rcd [.int .i64, .int .i64, .int .i64], .int .i64, .int .i64], .sl (.int .i64), .sl (.int .i64)], .sl (.int .i64), .int .i64] vs) : Ev cp H.length 9 vs H (fun v _ => v = .bool true) := by
 simp only [HasArgs] at h
 obtain ⟨a1, r1, rfl, h1, a2, r2, rfl, h2, a3, r3, rfl, h3, rfl⟩ := h
 obtain ⟨ch, sz, po, r, b, vw, ve, s, e, rfl, g2, g3, g4, g5⟩ := ask_of h1
 simp only [HasArg] at h2 h3
 obtain ⟨v, o, e2, g6, _⟩ := sl_one h2
 obtain ⟨c, e3, _⟩ := has_int h3
 cases e2
 cases e3
 exact lawLin g3 g2 g4 g5 g6
set_option maxRecDepth 100000 in
theorem lifted (os : Os) (started : os.Started) (H : Type) (enc : TypeId × Value → H) :
  ReturnsInHanded {} Try.checked os 9 .any (Rows.reedsolomonLinearSpec.pre6 enc Try.prog Try.f9 Rows.reedsolomonLinearRow.domain false) (Rows.reedsolomonLinearSpec.post enc Try.prog Try.f9 false true false false) := by
 refine returnsInHanded_of_change (C := Try.checked) own started (by kernel_rfl) Try.func9
  (ChangeSpec.witness6 (enc := enc) (C := Try.checked) false ⟨#[], #[.agg #[.int .i64 0, .int .i64 0, .int .i64 0, .int .i64 0, .int .i64 0, .slice none 0 0, .slice none 0 0], .slice none 0 0, .int .i64 0], []⟩ 8 (by kernel_rfl) (by kernel_rfl) (by kernel_rfl) (by kernel_rfl)) ?_
 intro W base args ds gs before hval hW _ _
 exact law_contract (P := Try.prog) (fn := Try.f9) (s := Rows.reedsolomonLinearSpec) okAll (d := 8) (tys := [.rcd [.rcd [.rcd [.int .i64, .int .i64, .int .i64], .int .i64, .int .i64], .sl (.int .i64), .sl (.int .i64)], .sl (.int .i64), .int .i64]) (by kernel_rfl) (by kernel_rfl) (by kernel_rfl) Try.underlying4 laidOut (by kernel_rfl) rfl fnE lawAll W (by rw [noGlobals]; omega) base args ds gs before hval hW (fun x _ => .inl (Nat.le_refl _))
theorem over : Rows.reedsolomonLinearRow.holds Try.pinned (OpenSpec.ofChange Rows.reedsolomonLinearSpec) :=
 OpenClaim.holds_of_wide 9 Try.f9 rfl rfl rfl rfl rfl rfl rfl ⟨rfl, rfl, rfl, rfl, rfl⟩ rfl rfl rfl rfl rfl (by kernel_rfl) Try.func9 (by kernel_rfl)
  (of_decide_eq_true (by kernel_rfl)) (by unfold Func.isWrapper; first | (rw [if_pos (by decide +kernel)]; kernel_rfl) | (rw [if_neg (by decide +kernel)]; exact ⟨rfl, rfl⟩))
  (fun os started H enc _ => lifted os started H enc)
theorem proved : Rows.ReedsolomonLinearSaid := over
#print axioms proved
end reedsolomonLinear
end Go.Proofs.Ythejjplggcfjcaa
