/- QR blocks: small facts for the laws. -/
import Derived.Test.YtkeagffmmhllcaaP21
set_option linter.unusedVariables false
set_option linter.unusedSimpArgs false
set_option linter.unusedSectionVars false
namespace Go.Proofs.Ytkeagffmmhllcaa
open Go.Abs Go.RS
set_option linter.unusedSimpArgs false
set_option linter.unusedVariables false
theorem ptL_at {l : List (Int × Int)} {i : Nat} (h : i < l.length) : (ptL l)[i * 2]? = some (.int .i64 (l.getD i (0, 0)).1) ∧ (ptL l)[i * 2 + 1]? = some (.int .i64 (l.getD i (0, 0)).2) := by
 have h2 := ptL_two h
 have e0 : (((ptL l).drop (i * 2)).take 2)[0]? = some (.int .i64 (l.getD i (0, 0)).1) := by rw [h2]; rfl
 have e1 : (((ptL l).drop (i * 2)).take 2)[1]? = some (.int .i64 (l.getD i (0, 0)).2) := by rw [h2]; rfl
 rw [List.getElem?_take, if_pos (by decide), List.getElem?_drop] at e0 e1
 exact ⟨e0, e1⟩
theorem own_realI {lo : Nat} {H : Heap} {v : Value} {b : Nat} {l : List Int} (h : Own lo 1 H v b (intL l)) (hl : 0 < l.length) : v = .slice (some ⟨b, 0, some 1⟩) l.length l.length ∧ H.get b = some (intL l) := by
 obtain ⟨_, ⟨_, h⟩ | ⟨n, _, h1, rfl, h2⟩⟩ := h
 ·have := congrArg List.length h; rw [intL_len] at this; simp only [List.length_nil] at this; omega
 ·rw [intL_len, Nat.mul_one] at h1
  subst h1; exact ⟨rfl, h2⟩
theorem own_realB {lo : Nat} {H : Heap} {v : Value} {b : Nat} {l : List Bool} (h : Own lo 1 H v b (boolL l)) (hl : 0 < l.length) : v = .slice (some ⟨b, 0, some 1⟩) l.length l.length ∧ H.get b = some (boolL l) := by
 obtain ⟨_, ⟨_, h⟩ | ⟨n, _, h1, rfl, h2⟩⟩ := h
 ·have := congrArg List.length h; rw [boolL_len] at this; simp only [List.length_nil] at this; omega
 ·rw [boolL_len, Nat.mul_one] at h1
  subst h1; exact ⟨rfl, h2⟩
theorem wv_congr {b : Bk} {W W' : Nat → List (El F5)} (h : ∀ x, x < b.n → W x = W' x) : b.wv W = b.wv W' := by
 unfold Bk.wv
 refine List.map_congr_left fun p hp => ?_
 rw [h p.1 (Bk.mem_pl.1 hp).1]
theorem dat_congr {b : Bk} {W W' : Nat → List (El F5)} (h : ∀ x, x < b.n → W x = W' x) : b.dat W b.n = b.dat W' b.n := by
 unfold Bk.dat
 rw [List.flatMap_def, List.flatMap_def]
 congr 1
 refine List.map_congr_left fun x hx => ?_
 rw [h x (List.mem_range.1 hx)]
theorem wv_byte {b : Bk} {W : Nat → List (El F5)} {i : Nat} (h : i < b.all) : 0 ≤ (b.wv W).getD i 0 ∧ (b.wv W).getD i 0 ≤ 255 := by
 rw [wv_at b W h]
 have : (co (W (b.at i).1) (b.at i).2).val < 256 := (co (W (b.at i).1) (b.at i).2).lt
 omega
theorem Bk.Ok.pos {b : Bk} (hb : b.Ok) : 0 < b.all ∧ b.n ≤ b.all ∧ 0 < b.cap := by
 have h1 := hb.sh
 have h3 := hb.da
 have h4 := hb.ck
 have hn : b.n * 1 ≤ b.n * b.ck := Nat.mul_le_mul_left _ h4
 have hn2 : b.n * 1 ≤ b.n * b.da := Nat.mul_le_mul_left _ h3
 have : b.sh ≤ b.n := by unfold Bk.n; omega
 unfold Bk.all Bk.cap
 omega
theorem cntX_le {b : Bk} {x : Nat} {φ ψ : Nat → Bool} (h : ∀ i, i < b.all → φ i = true → ψ i = true) : cntX b x φ ≤ cntX b x ψ := by
 unfold cntX
 rw [← List.countP_eq_length_filter, ← List.countP_eq_length_filter]
 refine List.countP_mono_left fun i hi hp => ?_
 simp only [Bool.and_eq_true] at hp ⊢
 exact ⟨hp.1, h i (List.mem_range.1 hi) hp.2⟩
end Go.Proofs.Ytkeagffmmhllcaa
