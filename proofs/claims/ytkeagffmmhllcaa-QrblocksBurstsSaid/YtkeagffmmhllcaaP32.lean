/- QrblocksBursts returns true for every version, level, data and stretch: as many consecutive codewords as there are blocks are corrected. No conditions. -/
import Derived.Test.YtkeagffmmhllcaaP27
import Derived.Test.YtkeagffmmhllcaaP31
set_option linter.unusedVariables false
set_option linter.unusedSimpArgs false
set_option linter.unusedSectionVars false
namespace Go.Proofs.Ytkeagffmmhllcaa
open Go.Abs
namespace qrblocksBursts
open Go.ChangeShapes Go.WideShapes Go.ChangeAt Go.RowKit
theorem fnE (X : Type) (ds : List (DataW X)) (h : ds.length = 3) : Rows.qrblocksBurstsSpec.fn X ds = ⟨[.lit (.bool true)], ds, []⟩ := by
 match ds, h with
 | [d1, d2, d3], _ => rfl
theorem lawAll (H : Heap) (vs : List Value) (h : HasArgs maxLen H [.rcd [.int .i64, .int .i64, .sl (.int .u8), .sl (.int .u16), .sl (.int .u8), .sl .bool], .int .u16, .int .u8] vs) : Ev cp H.length 7 vs H (fun v _ => v = .bool true) := by
 simp only [HasArgs] at h
 obtain ⟨a1, r1, rfl, h1, a2, r2, rfl, h2', a3, r3, rfl, h3', rfl⟩ := h
 obtain ⟨V, L, aD, lD, cD, aA, la, cA, aY, lb, cY, aE, le, cE, rfl, h2, h3, h4, -⟩ := dmg_of h1
 simp only [HasArg] at h2' h3'
 obtain ⟨p, e1, hp⟩ := has_k h2'
 cases e1
 obtain ⟨q, e2, hq⟩ := has_k h3'
 cases e2
 exact lawBur h2 h3 h4 hp hq
set_option maxRecDepth 100000 in
theorem lifted (os : Os) (started : os.Started) (H : Type) (enc : TypeId × Value → H) :
  ReturnsInHanded {} Try.checked os 7 .any (Rows.qrblocksBurstsSpec.pre6 enc Try.prog Try.f7 Rows.qrblocksBurstsRow.domain false) (Rows.qrblocksBurstsSpec.post enc Try.prog Try.f7 false true false false) := by
 refine returnsInHanded_of_change (C := Try.checked) own started (by kernel_rfl) Try.func7
  (ChangeSpec.witness6 (enc := enc) (C := Try.checked) false ⟨#[], #[.agg #[.int .i64 0, .int .i64 0, .slice none 0 0, .slice none 0 0, .slice none 0 0, .slice none 0 0], .int .u16 0, .int .u8 0], []⟩ 8 (by kernel_rfl) (by kernel_rfl) (by kernel_rfl) (by kernel_rfl)) ?_
 intro W base args ds gs before hval hW _ _
 exact law_contract (P := Try.prog) (fn := Try.f7) (s := Rows.qrblocksBurstsSpec) okAll (d := 8) (tys := [.rcd [.int .i64, .int .i64, .sl (.int .u8), .sl (.int .u16), .sl (.int .u8), .sl .bool], .int .u16, .int .u8]) (by kernel_rfl) (by kernel_rfl) (by kernel_rfl) Try.underlying4 laidOut (by kernel_rfl) rfl fnE lawAll W (by rw [noGlobals]; omega) base args ds gs before hval hW (fun x _ => .inl (Nat.le_refl _))
theorem over : Rows.qrblocksBurstsRow.holds Try.pinned (OpenSpec.ofChange Rows.qrblocksBurstsSpec) :=
 OpenClaim.holds_of_wide 7 Try.f7 rfl rfl rfl rfl rfl rfl rfl ⟨rfl, rfl, rfl, rfl, rfl⟩ rfl rfl rfl rfl rfl (by kernel_rfl) Try.func7 (by kernel_rfl)
  (of_decide_eq_true (by kernel_rfl)) (by unfold Func.isWrapper; first | (rw [if_pos (by decide +kernel)]; kernel_rfl) | (rw [if_neg (by decide +kernel)]; exact ⟨rfl, rfl⟩))
  (fun os started H enc _ => lifted os started H enc)
theorem proved : Rows.QrblocksBurstsSaid := over
#print axioms proved
end qrblocksBursts
end Go.Proofs.Ytkeagffmmhllcaa
