/-
  Sizes and Fit of both packages: what they answer.
-/
import Derived.Test.YtobfjbominbkmaaCf
namespace Go.Proofs.Ytobfjbominbkmaa
open Go.Abs
set_option linter.unusedSimpArgs false
theorem plainAll : ∀ f cf, cp f = some cf → plainCF cf = true := by
  intro f cf h
  unfold cp at h
  split at h
  all_goals first | (cases h; kernel_rfl) | (simp at h)
structure Sz where
  r : Int
  c : Int
  rr : Int
  rc : Int
  d : Int
  k : Int
  b : Int
  deriving DecidableEq
def Sz.cells (s : Sz) : List Value := [.int .i64 s.r, .int .i64 s.c, .int .i64 s.rr, .int .i64 s.rc, .int .i64 s.d, .int .i64 s.k, .int .i64 s.b]
def Sz.zero : Sz := ⟨0, 0, 0, 0, 0, 0, 0⟩
def Sz.val (s : Sz) : Value := .agg #[.int .i64 s.r, .int .i64 s.c, .int .i64 s.rr, .int .i64 s.rc, .int .i64 s.d, .int .i64 s.k, .int .i64 s.b]
/-- the table of sizes -/
def szs : List Sz := [⟨10, 10, 8, 8, 3, 5, 1⟩, ⟨12, 12, 10, 10, 5, 7, 1⟩, ⟨14, 14, 12, 12, 8, 10, 1⟩, ⟨16, 16, 14, 14, 12, 12, 1⟩, ⟨18, 18, 16, 16, 18, 14, 1⟩, ⟨20, 20, 18, 18, 22, 18, 1⟩, ⟨22, 22, 20, 20, 30, 20, 1⟩, ⟨24, 24, 22, 22, 36, 24, 1⟩, ⟨26, 26, 24, 24, 44, 28, 1⟩, ⟨32, 32, 14, 14, 62, 36, 1⟩, ⟨36, 36, 16, 16, 86, 42, 1⟩, ⟨40, 40, 18, 18, 114, 48, 1⟩, ⟨44, 44, 20, 20, 144, 56, 1⟩, ⟨48, 48, 22, 22, 174, 68, 1⟩, ⟨52, 52, 24, 24, 204, 84, 2⟩, ⟨64, 64, 14, 14, 280, 112, 2⟩, ⟨72, 72, 16, 16, 368, 144, 4⟩, ⟨80, 80, 18, 18, 456, 192, 4⟩, ⟨88, 88, 20, 20, 576, 224, 4⟩, ⟨96, 96, 22, 22, 696, 272, 4⟩, ⟨104, 104, 24, 24, 816, 336, 6⟩, ⟨120, 120, 18, 18, 1050, 408, 6⟩, ⟨132, 132, 20, 20, 1304, 496, 8⟩, ⟨144, 144, 22, 22, 1558, 620, 10⟩, ⟨8, 18, 6, 16, 5, 7, 1⟩, ⟨8, 32, 6, 14, 10, 11, 1⟩, ⟨12, 26, 10, 24, 16, 14, 1⟩, ⟨12, 36, 10, 16, 22, 18, 1⟩, ⟨16, 36, 14, 16, 32, 24, 1⟩, ⟨16, 48, 14, 22, 49, 28, 1⟩]
def szCells : List Value := szs.flatMap Sz.cells
set_option maxRecDepth 100000 in
theorem ex10 : (run cp 40 0 10 [] []).map (fun r => (r.1, r.2.get 1)) = some (.slice (some ⟨1, 0, none⟩) 30 30, some szCells) := by kernel_rfl
set_option maxRecDepth 100000 in
theorem ex11 : (run cp 40 0 11 [] []).map (fun r => (r.1, r.2.get 120)) = some (.slice (some ⟨120, 0, some 7⟩) 30 30, some szCells) := by kernel_rfl
theorem szPlain : szCells.all plain1 = true := by kernel_rfl
theorem sizes10 {lo : Nat} {H : Heap} (hlo : lo ≤ H.length) : Ev cp lo 10 [] H (fun v H' => ∃ j, H.length ≤ j ∧ v = .slice (some ⟨j, 0, none⟩) 30 30 ∧ H'.get j = some szCells ∧ Ext H H') :=
  ev_closed_slice plainAll rfl ex10 szPlain hlo
theorem sizes11 {lo : Nat} {H : Heap} (hlo : lo ≤ H.length) : Ev cp lo 11 [] H (fun v H' => ∃ j, H.length ≤ j ∧ v = .slice (some ⟨j, 0, some 7⟩) 30 30 ∧ H'.get j = some szCells ∧ Ext H H') :=
  ev_closed_slice plainAll rfl ex11 szPlain hlo
def szAt (i : Nat) : Sz := szs.getD i Sz.zero
theorem szs_len : szs.length = 30 := rfl
theorem szCells_len : szCells.length = 210 := by kernel_rfl
theorem cells_at (l : List Sz) : ∀ (i : Nat), i < l.length → ((l.flatMap Sz.cells).drop (i * 7)).take 7 = (l.getD i Sz.zero).cells := by
  induction l with
  | nil => intro i h; simp at h
  | cons s l ih =>
    intro i h
    cases i with
    | zero => simp [Sz.cells]
    | succ i =>
      have := ih i (by simpa using h)
      rw [Nat.succ_mul, List.flatMap_cons, List.drop_append]
      simp only [Sz.cells, List.length_cons, List.length_nil]
      rw [show i * 7 + 7 - 7 = i * 7 by omega]
      simpa [Sz.cells] using this
theorem szCells_at {i : Nat} (h : i < 30) : (szCells.drop (i * 7)).take 7 = (szAt i).cells := cells_at szs i (by rw [szs_len]; exact h)
theorem take_succ_sz {i : Nat} (h : i < 30) : szs.take (i + 1) = szs.take i ++ [szAt i] := by
  rw [List.take_add_one]
  congr 1
  unfold szAt
  rw [List.getElem?_eq_getElem (by rw [szs_len]; exact h)]
  simp [List.getD, List.getElem?_eq_getElem (show i < szs.length by rw [szs_len]; exact h)]

/- Fit -/
def fitStep (n : Int) (sq : Bool) (best s : Sz) : Sz :=
  if (sq = true ∧ s.r ≠ s.c) ∨ s.d < n then best else if best.d = 0 ∨ s.d < best.d then s else best
def fitFold (n : Int) (sq : Bool) (i : Nat) : Sz := (szs.take i).foldl (fitStep n sq) Sz.zero
theorem fitFold_succ {n : Int} {sq : Bool} {i : Nat} (h : i < 30) : fitFold n sq (i + 1) = fitStep n sq (fitFold n sq i) (szAt i) := by
  unfold fitFold; rw [take_succ_sz h, List.foldl_append]; rfl
def fitP (n : Int) (sq : Bool) : Sz × Int := if n < 1 then (Sz.zero, 3) else if 1558 < n then (Sz.zero, 16) else (fitFold n sq 30, 0)
end Go.Proofs.Ytobfjbominbkmaa
