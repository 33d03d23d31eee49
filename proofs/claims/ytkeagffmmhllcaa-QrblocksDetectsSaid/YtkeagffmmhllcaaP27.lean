/- The arguments of the laws of QR blocks. -/
import Derived.Test.YtkeagffmmhllcaaP22
import Derived.Test.YtkeagffmmhllcaaP23
set_option linter.unusedVariables false
set_option linter.unusedSimpArgs false
set_option linter.unusedSectionVars false
namespace Go.Proofs.Ytkeagffmmhllcaa
open Go.Abs
theorem sl_k {B : Nat} {H : Heap} {k : IntKind} {vs : List Value} (h : Has B H (.sl (.int k)) vs) : ∃ a l c, vs = [.slice a l.length c] ∧ Sl (Value.int k) H (.slice a l.length c) l ∧ l.length ≤ B ∧ ∀ x ∈ l, k.min ≤ x ∧ x ≤ k.max := by
 obtain ⟨v, rfl, h⟩ := has_one h (by intro l e; cases e) (by intro n l e; cases e)
 obtain ⟨l, h1, h2, h3, _⟩ := has_slI h
 obtain ⟨a, c, rfl⟩ := h1.len
 exact ⟨a, l, c, rfl, h1, h2, h3⟩
theorem sl_b {B : Nat} {H : Heap} {vs : List Value} (h : Has B H (.sl .bool) vs) : ∃ a l c, vs = [.slice a l.length c] ∧ SlB H (.slice a l.length c) l ∧ l.length ≤ B := by
 obtain ⟨v, rfl, h⟩ := has_one h (by intro l e; cases e) (by intro n l e; cases e)
 obtain ⟨l, h1, h2⟩ := has_slB h
 obtain ⟨a, c, rfl⟩ := h1.len
 exact ⟨a, l, c, rfl, h1, h2⟩
theorem has_k {B : Nat} {H : Heap} {k : IntKind} {vs : List Value} (h : Has B H (.int k) vs) : ∃ n : Int, vs = [.int k n] ∧ k.min ≤ n ∧ n ≤ k.max := by
 simp only [Has] at h
 exact h
theorem u8_rg {l : List Int} (h : ∀ x ∈ l, IntKind.u8.min ≤ x ∧ x ≤ IntKind.u8.max) : ∀ x ∈ l, 0 ≤ x ∧ x ≤ 255 := fun x hx => h x hx
theorem u16_rg {l : List Int} (h : ∀ x ∈ l, IntKind.u16.min ≤ x ∧ x ≤ IntKind.u16.max) : ∀ x ∈ l, 0 ≤ x ∧ x ≤ 65535 := fun x hx => h x hx
theorem ml {n : Nat} (h : n ≤ maxLen) : n ≤ 9223372036854775807 := h
theorem dmg_of {H : Heap} {v : Value} (h : HasArg maxLen H (.rcd [.int .i64, .int .i64, .sl (.int .u8), .sl (.int .u16), .sl (.int .u8), .sl .bool]) v) :
  ∃ V L aD lD cD aA la cA aY lb cY aE le cE, v = .agg #[.int .i64 V, .int .i64 L, .slice aD (List.length lD) cD, .slice aA (List.length la) cA, .slice aY (List.length lb) cY, .slice aE (List.length le) cE] ∧
   SlY H (.slice aD lD.length cD) lD ∧ (∀ x ∈ lD, 0 ≤ x ∧ x ≤ 255) ∧ lD.length ≤ 9223372036854775807 ∧ Sl (Value.int .u16) H (.slice aA la.length cA) la ∧ (∀ x ∈ la, 0 ≤ x ∧ x ≤ 65535) ∧ la.length ≤ 9223372036854775807 ∧
   SlY H (.slice aY lb.length cY) lb ∧ (∀ x ∈ lb, 0 ≤ x ∧ x ≤ 255) ∧ lb.length ≤ 9223372036854775807 ∧ SlB H (.slice aE le.length cE) le ∧ le.length ≤ 9223372036854775807 := by
 simp only [HasArg] at h
 obtain ⟨cs, rfl, h⟩ := h
 obtain ⟨_, _, h0, h1, h⟩ := all_cons h
 obtain ⟨_, _, rfl, h2, h⟩ := all_cons h
 obtain ⟨_, _, rfl, h3, h⟩ := all_cons h
 obtain ⟨_, _, rfl, h4, h⟩ := all_cons h
 obtain ⟨_, _, rfl, h5, h⟩ := all_cons h
 obtain ⟨_, _, rfl, h6, h⟩ := all_cons h
 rw [all_nil h] at h0
 obtain ⟨V, rfl, _⟩ := has_int h1
 obtain ⟨L, rfl, _⟩ := has_int h2
 obtain ⟨aD, lD, cD, rfl, d1, d2, d3⟩ := sl_k h3
 obtain ⟨aA, la, cA, rfl, a1, a2, a3⟩ := sl_k h4
 obtain ⟨aY, lb, cY, rfl, y1, y2, y3⟩ := sl_k h5
 obtain ⟨aE, le, cE, rfl, e1, e2⟩ := sl_b h6
 refine ⟨V, L, aD, lD, cD, aA, la, cA, aY, lb, cY, aE, le, cE, ?_, d1, u8_rg d3, ml d2, a1, u16_rg a3, ml a2, y1, u8_rg y3, ml y2, e1, ml e2⟩
 have : cs = #[.int .i64 V, .int .i64 L, .slice aD (List.length lD) cD, .slice aA (List.length la) cA, .slice aY (List.length lb) cY, .slice aE (List.length le) cE] := Array.toList_inj.1 (by rw [h0]; rfl)
 rw [this]
end Go.Proofs.Ytkeagffmmhllcaa
