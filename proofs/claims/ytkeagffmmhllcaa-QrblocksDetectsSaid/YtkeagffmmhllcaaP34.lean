/- QrblocksDetects returns true for all words, erased codewords, versions and levels: what is decoded is encoded within the capacity of what was read. No conditions. -/
import Derived.Test.YtkeagffmmhllcaaP27
import Derived.Test.YtkeagffmmhllcaaP33
set_option linter.unusedVariables false
set_option linter.unusedSimpArgs false
set_option linter.unusedSectionVars false
namespace Go.Proofs.Ytkeagffmmhllcaa
open Go.Abs
namespace qrblocksDetects
open Go.ChangeShapes Go.WideShapes Go.ChangeAt Go.RowKit
theorem fnE (X : Type) (ds : List (DataW X)) (h : ds.length = 4) : Rows.qrblocksDetectsSpec.fn X ds = ⟨[.lit (.bool true)], ds, []⟩ := by
 match ds, h with
 | [d1, d2, d3, d4], _ => rfl
theorem lawAll (H : Heap) (vs : List Value) (h : HasArgs maxLen H [.sl (.int .u8), .sl .bool, .int .u8, .int .u8] vs) : Ev cp H.length 6 vs H (fun v _ => v = .bool true) := by
 simp only [HasArgs] at h
 obtain ⟨a1, r1, rfl, h1, a2, r2, rfl, h2, a3, r3, rfl, h3, a4, r4, rfl, h4, rfl⟩ := h
 simp only [HasArg] at h1 h2 h3 h4
 obtain ⟨aw, lw, cw, e1, w1, w2, w3⟩ := sl_k h1
 cases e1
 obtain ⟨ae, le, ce, e2, s1, s2⟩ := sl_b h2
 cases e2
 obtain ⟨p, e3, hp⟩ := has_k h3
 cases e3
 obtain ⟨q, e4, hq⟩ := has_k h4
 cases e4
 exact lawDtc w1 (u8_rg w3) (ml w2) s1 (ml s2) hp hq
set_option maxRecDepth 100000 in
theorem lifted (os : Os) (started : os.Started) (H : Type) (enc : TypeId × Value → H) :
  ReturnsInHanded {} Try.checked os 6 .any (Rows.qrblocksDetectsSpec.pre6 enc Try.prog Try.f6 Rows.qrblocksDetectsRow.domain false) (Rows.qrblocksDetectsSpec.post enc Try.prog Try.f6 false true false false) := by
 refine returnsInHanded_of_change (C := Try.checked) own started (by kernel_rfl) Try.func6
  (ChangeSpec.witness6 (enc := enc) (C := Try.checked) false ⟨#[], #[.slice none 0 0, .slice none 0 0, .int .u8 0, .int .u8 0], []⟩ 8 (by kernel_rfl) (by kernel_rfl) (by kernel_rfl) (by kernel_rfl)) ?_
 intro W base args ds gs before hval hW _ _
 exact law_contract (P := Try.prog) (fn := Try.f6) (s := Rows.qrblocksDetectsSpec) okAll (d := 8) (tys := [.sl (.int .u8), .sl .bool, .int .u8, .int .u8]) (by kernel_rfl) (by kernel_rfl) (by kernel_rfl) Try.underlying4 laidOut (by kernel_rfl) rfl fnE lawAll W (by rw [noGlobals]; omega) base args ds gs before hval hW (fun x _ => .inl (Nat.le_refl _))
theorem over : Rows.qrblocksDetectsRow.holds Try.pinned (OpenSpec.ofChange Rows.qrblocksDetectsSpec) :=
 OpenClaim.holds_of_wide 6 Try.f6 rfl rfl rfl rfl rfl rfl rfl ⟨rfl, rfl, rfl, rfl, rfl⟩ rfl rfl rfl rfl rfl (by kernel_rfl) Try.func6 (by kernel_rfl)
  (of_decide_eq_true (by kernel_rfl)) (by unfold Func.isWrapper; first | (rw [if_pos (by decide +kernel)]; kernel_rfl) | (rw [if_neg (by decide +kernel)]; exact ⟨rfl, rfl⟩))
  (fun os started H enc _ => lifted os started H enc)
theorem proved : Rows.QrblocksDetectsSaid := over
#print axioms proved
end qrblocksDetects
end Go.Proofs.Ytkeagffmmhllcaa
