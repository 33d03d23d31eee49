/-
  DmlayoutFits returns true for every number and both shapes: the size that Fit returns is sufficient and the least. No conditions.
-/
import Derived.Test.YtobfjbominbkmaaLz
import Derived.Test.YtobfjbominbkmaaRows
namespace Go.Proofs.Ytobfjbominbkmaa
open Go.Abs
set_option linter.unusedSimpArgs false
def qual (n : Int) (sq : Bool) (s : Sz) : Prop := ¬ ((sq = true ∧ s.r ≠ s.c) ∨ s.d < n)
def Best (n : Int) (sq : Bool) (l : List Sz) (b : Sz) : Prop := (b.d = 0 ∧ ∀ s ∈ l, ¬ qual n sq s) ∨ (b.d ≠ 0 ∧ b ∈ l ∧ qual n sq b ∧ ∀ s ∈ l, qual n sq s → b.d ≤ s.d)
theorem best_step {n : Int} {sq : Bool} {l : List Sz} {b s : Sz} (hs : 0 < s.d) (h : Best n sq l b) : Best n sq (l ++ [s]) (fitStep n sq b s) := by
  unfold fitStep
  by_cases hq : (sq = true ∧ s.r ≠ s.c) ∨ s.d < n
  · rw [if_pos hq]
    rcases h with ⟨h1, h2⟩ | ⟨h1, h2, h3, h4⟩
    · refine .inl ⟨h1, fun x hx => ?_⟩
      rcases List.mem_append.1 hx with hx | hx
      · exact h2 x hx
      · simp at hx; subst hx; exact fun hh => hh hq
    · refine .inr ⟨h1, by simp [h2], h3, fun x hx hx2 => ?_⟩
      rcases List.mem_append.1 hx with hx | hx
      · exact h4 x hx hx2
      · simp at hx; subst hx; exact absurd hq hx2
  · rw [if_neg hq]
    by_cases hb : b.d = 0 ∨ s.d < b.d
    · rw [if_pos hb]
      refine .inr ⟨by omega, by simp, hq, fun x hx hx2 => ?_⟩
      rcases List.mem_append.1 hx with hx | hx
      · rcases h with ⟨h1, h2⟩ | ⟨h1, h2, h3, h4⟩
        · exact absurd hx2 (h2 x hx)
        · have := h4 x hx hx2; omega
      · simp at hx; subst hx; omega
    · rw [if_neg hb]
      rcases h with ⟨h1, h2⟩ | ⟨h1, h2, h3, h4⟩
      · omega
      · refine .inr ⟨h1, by simp [h2], h3, fun x hx hx2 => ?_⟩
        rcases List.mem_append.1 hx with hx | hx
        · exact h4 x hx hx2
        · simp at hx; subst hx; omega
theorem best_fold {n : Int} {sq : Bool} : ∀ (l done : List Sz) (b : Sz), (∀ s ∈ l, 0 < s.d) → Best n sq done b → Best n sq (done ++ l) (l.foldl (fitStep n sq) b)
  | [], done, b, _, h => by simpa using h
  | s :: l, done, b, hl, h => by
    have := best_fold l (done ++ [s]) (fitStep n sq b s) (fun x hx => hl x (by simp [hx])) (best_step (hl s (by simp)) h)
    simpa using this
/-- what Fit answers -/
theorem fitP_cases (n : Int) (sq : Bool) : (n < 1 ∧ fitP n sq = (Sz.zero, 3)) ∨ (1558 < n ∧ fitP n sq = (Sz.zero, 16)) ∨ ((1 ≤ n ∧ n ≤ 1558) ∧ ∃ b, fitP n sq = (b, 0) ∧ b ∈ szs ∧ n ≤ b.d ∧ (sq = true → b.r = b.c) ∧ ∀ s ∈ szs, n ≤ s.d → (s.r = s.c ∨ sq = false) → b.d ≤ s.d) := by
  unfold fitP
  by_cases h1 : n < 1
  · exact .inl ⟨h1, by rw [if_pos h1]⟩
  by_cases h2 : 1558 < n
  · exact .inr (.inl ⟨h2, by rw [if_neg h1, if_pos h2]⟩)
  refine .inr (.inr ⟨by omega, fitFold n sq 30, by rw [if_neg h1, if_neg h2], ?_⟩)
  have hb := best_fold (n := n) (sq := sq) szs [] Sz.zero (fun s hs => (szs_d s hs).1) (.inl ⟨rfl, by simp⟩)
  have e : fitFold n sq 30 = szs.foldl (fitStep n sq) Sz.zero := by unfold fitFold; rw [List.take_of_length_le (by rw [szs_len]; omega)]
  rw [← e, List.nil_append] at hb
  rcases hb with ⟨_, hb⟩ | ⟨hb0, hb1, hb2, hb3⟩
  · refine absurd ?_ (hb (szAt 23) (szAt_mem (by omega)))
    have e1 : (szAt 23).r = (szAt 23).c := rfl
    have e2 : (szAt 23).d = 1558 := rfl
    intro hh
    rw [e2] at hh
    rcases hh with hh | hh
    · exact hh.2 e1
    · omega
  · have hb2' : ¬ ((sq = true ∧ (fitFold n sq 30).r ≠ (fitFold n sq 30).c) ∨ (fitFold n sq 30).d < n) := hb2
    refine ⟨hb1, by omega, fun hs => ?_, fun s hs hd hr => hb3 s hs ?_⟩
    · by_cases hrc : (fitFold n sq 30).r = (fitFold n sq 30).c
      · exact hrc
      · exact absurd (.inl ⟨hs, hrc⟩) hb2'
    · rintro (hh | hh)
      · rcases hr with hr | hr
        · exact hh.2 hr
        · rw [hr] at hh; cases hh.1
      · omega
theorem law7 (n : Int) (sq : Bool) (H : Heap) : Ev cp H.length 7 [.int .i64 n, .bool sq] H (fun v _ => v = .bool true) := by
  refine st7 ?_; unfold bd7; (try simp only [ctlB])
  repeat' (first | (refine aw_sets (by simp (disch := first | omega | (simp only [lenB]; omega)) only [evB, Sz.cells, Sz.val, *]; rfl) (by simp (disch := first | omega | (simp only [lenB]; omega)) only [evB, Sz.cells, Sz.val, *]) (by simp (disch := first | omega | (simp only [lenB]; omega)) only [evB, Sz.cells, Sz.val, *]; rfl) ?_; (try simp only [ctlB])) | (refine aw_op rfl (by simp (disch := first | omega | (simp only [lenB]; omega)) only [evB, Sz.cells, Sz.val, *]; rfl) (by simp (disch := first | omega | (simp only [lenB]; omega)) only [evB, Sz.cells, Sz.val, *]) (by simp (disch := first | omega | (simp only [lenB]; omega)) only [evB, Sz.cells, Sz.val, *]; rfl) (by simp (disch := first | omega | (simp only [lenB]; omega)) only [evB, Sz.cells, Sz.val, *]; rfl) (by simp (disch := first | omega | (simp only [lenB]; omega)) only [evB, Sz.cells, Sz.val, *]; rfl) ?_; (try simp only [ctlB])))
  refine aw_hv (by simp (disch := first | omega | (simp only [lenB]; omega)) only [evB, Sz.cells, Sz.val, *]; rfl) (by simp (disch := first | omega | (simp only [lenB]; omega)) only [evB, Sz.cells, Sz.val, *]) (by simp (disch := first | omega | (simp only [lenB]; omega)) only [evB, Sz.cells, Sz.val, *]; rfl) ?_
  refine wpH_call0 (fit12 n sq (Nat.le_refl _)) ?_
  rintro v H1 ⟨hx1, rfl⟩
  have hl1 := hx1.1
  have hfc := fitP_cases n sq
  generalize fitP n sq = f at *
  obtain ⟨b, e⟩ := f
  have hA : (decide (e = 0) && (decide (b.d < n) || (sq && decide (b.r ≠ b.c)))) = false := by
    rcases hfc with ⟨_, hf⟩ | ⟨_, hf⟩ | ⟨_, b', hf, _, h1, h2, _⟩
    · cases hf; simp
    · cases hf; simp
    · cases hf
      cases sq
      · simp; omega
      · simp [h2 rfl]; omega
  have hB : ∀ s ∈ szs, (((decide (1 ≤ n) && decide (n ≤ s.d)) && (decide (s.r = s.c) || !sq)) && (decide (e ≠ 0) || decide (s.d < b.d))) = false := by
    intro s hs
    rcases hfc with ⟨h0, hf⟩ | ⟨h0, hf⟩ | ⟨_, b', hf, _, h1, h2, h3⟩
    · have : decide (1 ≤ n) = false := by simp; omega
      rw [this]; simp
    · have := (szs_d s hs).2
      have : decide (n ≤ s.d) = false := by simp; omega
      rw [this]; simp
    · cases hf
      by_cases hd : n ≤ s.d
      · by_cases hr : s.r = s.c ∨ sq = false
        · have := h3 s hs hd hr
          have : decide (s.d < b.d) = false := by simp; omega
          rw [this]; simp
        · have : (decide (s.r = s.c) || !sq) = false := by
            cases sq <;> simp_all
          rw [this]; simp
      · simp [hd]
  have hC : ((decide (b ∈ szs) || (decide (e = 3) && decide (n < 1))) || (decide (e = 16) && decide (1558 < n))) = true := by
    rcases hfc with ⟨h0, hf⟩ | ⟨h0, hf⟩ | ⟨_, b', hf, hm, _⟩
    · cases hf; simp [h0]
    · cases hf; simp [h0]
    · cases hf; simp [hm]
  clear hfc
  (try simp only [ctlB])
  repeat' (first | (refine aw_sets (by simp (disch := first | omega | (simp only [lenB]; omega)) only [evB, Sz.cells, Sz.val, *]; rfl) (by simp (disch := first | omega | (simp only [lenB]; omega)) only [evB, Sz.cells, Sz.val, *]) (by simp (disch := first | omega | (simp only [lenB]; omega)) only [evB, Sz.cells, Sz.val, *]; rfl) ?_; (try simp only [ctlB])) | (refine aw_op rfl (by simp (disch := first | omega | (simp only [lenB]; omega)) only [evB, Sz.cells, Sz.val, *]; rfl) (by simp (disch := first | omega | (simp only [lenB]; omega)) only [evB, Sz.cells, Sz.val, *]) (by simp (disch := first | omega | (simp only [lenB]; omega)) only [evB, Sz.cells, Sz.val, *]; rfl) (by simp (disch := first | omega | (simp only [lenB]; omega)) only [evB, Sz.cells, Sz.val, *]; rfl) (by simp (disch := first | omega | (simp only [lenB]; omega)) only [evB, Sz.cells, Sz.val, *]; rfl) ?_; (try simp only [ctlB])))
  refine aw_cond (by simp (disch := first | omega | (simp only [lenB]; omega)) only [evB, Sz.cells, Sz.val, *]; rfl) (fun h => ?_) (fun h => ?_)
  · cases h
  clear h hA
  (try simp only [ctlB])
  repeat' (first | (refine aw_sets (by simp (disch := first | omega | (simp only [lenB]; omega)) only [evB, Sz.cells, Sz.val, *]; rfl) (by simp (disch := first | omega | (simp only [lenB]; omega)) only [evB, Sz.cells, Sz.val, *]) (by simp (disch := first | omega | (simp only [lenB]; omega)) only [evB, Sz.cells, Sz.val, *]; rfl) ?_; (try simp only [ctlB])) | (refine aw_op rfl (by simp (disch := first | omega | (simp only [lenB]; omega)) only [evB, Sz.cells, Sz.val, *]; rfl) (by simp (disch := first | omega | (simp only [lenB]; omega)) only [evB, Sz.cells, Sz.val, *]) (by simp (disch := first | omega | (simp only [lenB]; omega)) only [evB, Sz.cells, Sz.val, *]; rfl) (by simp (disch := first | omega | (simp only [lenB]; omega)) only [evB, Sz.cells, Sz.val, *]; rfl) (by simp (disch := first | omega | (simp only [lenB]; omega)) only [evB, Sz.cells, Sz.val, *]; rfl) ?_; (try simp only [ctlB])))
  refine aw_hv (by simp (disch := first | omega | (simp only [lenB]; omega)) only [evB, Sz.cells, Sz.val, *]; rfl) (by simp (disch := first | omega | (simp only [lenB]; omega)) only [evB, Sz.cells, Sz.val, *]) (by simp (disch := first | omega | (simp only [lenB]; omega)) only [evB, Sz.cells, Sz.val, *]; rfl) ?_
  have gb : Heap.get (H1 ++ [some b.cells]) H1.length = some b.cells := get_app0
  refine wpH_call0 (sizes10 (by simp; omega)) ?_
  rintro v H2 ⟨j, hj, rfl, hgj, hx2⟩
  have gb := hx2.get gb
  have hl2 := Heap.get_lt gb
  have hjl := Heap.get_lt hgj
  clear hx2
  generalize H1.length = p at *
  (try simp only [ctlB])
  repeat' (first | (refine aw_sets (by simp (disch := first | omega | (simp only [lenB]; omega)) only [evB, Sz.cells, Sz.val, *]; rfl) (by simp (disch := first | omega | (simp only [lenB]; omega)) only [evB, Sz.cells, Sz.val, *]) (by simp (disch := first | omega | (simp only [lenB]; omega)) only [evB, Sz.cells, Sz.val, *]; rfl) ?_; (try simp only [ctlB])) | (refine aw_op rfl (by simp (disch := first | omega | (simp only [lenB]; omega)) only [evB, Sz.cells, Sz.val, *]; rfl) (by simp (disch := first | omega | (simp only [lenB]; omega)) only [evB, Sz.cells, Sz.val, *]) (by simp (disch := first | omega | (simp only [lenB]; omega)) only [evB, Sz.cells, Sz.val, *]; rfl) (by simp (disch := first | omega | (simp only [lenB]; omega)) only [evB, Sz.cells, Sz.val, *]; rfl) (by simp (disch := first | omega | (simp only [lenB]; omega)) only [evB, Sz.cells, Sz.val, *]; rfl) ?_; (try simp only [ctlB])))
  refine aw_midXB (fun S H' => ∃ x6 x7 x8 x9 x10 x11 x12 x13 x14 : Value, S = [.int .i64 n, .bool sq, .bool false, .pointer (some ⟨p, 0, none⟩), .int .i64 e, .bool (decide (b ∈ szs)), x6, x7, x8, x9, x10, x11, x12, x13, x14, undef, undef] ∧ H.length ≤ H'.length) ?_ ?_
  · refine aw_loop' (fun m S H' => ∃ (i : Nat) (x6 x7 x8 x9 x10 x14 : Value), i ≤ 30 ∧ m = 30 - i ∧ S = [.int .i64 n, .bool sq, .bool false, .pointer (some ⟨p, 0, none⟩), .int .i64 e, .bool (decide (b ∈ szs.take i)), x6, x7, x8, x9, x10, .slice (some ⟨j, 0, none⟩) 30 30, .int .i64 30, .int .i64 i, x14, undef, undef] ∧ p < H'.length ∧ H'.get p = some b.cells ∧ H'.get j = some szCells) 30 ?_ ?_
    · exact ⟨0, _, _, _, _, _, _, by omega, by omega, rfl, hl2, gb, hgj⟩
    rintro m S H3 ⟨i, x6, x7, x8, x9, x10, x14, hi, rfl, rfl, hl3, gb, hgj⟩
    have hj3 := Heap.get_lt hgj
    (try simp only [ctlB])
    refine aw_cond (by simp (disch := first | omega | (simp only [lenB]; omega)) only [evB, Sz.cells, Sz.val, *]; rfl) (fun h => ?_) (fun h => ?_)
    · have hi2 : i < 30 := by simp at h; omega
      clear h
      have hrow := szCells_at (i := i) hi2
      have hlen := szCells_len
      have hse := sz_eq (a := szAt i) (b := b)
      simp only [Sz.cells] at hse
      have hb1 := hB _ (szAt_mem hi2)
      have htk : decide (b ∈ szs.take (i + 1)) = (decide (b ∈ szs.take i) || decide (szAt i = b)) := by
        rw [take_succ_sz hi2, Bool.eq_iff_iff]
        simp only [Bool.or_eq_true, decide_eq_true_eq, List.mem_append, List.mem_singleton]
        constructor
        · rintro (h | h)
          · exact .inl h
          · exact .inr h.symm
        · rintro (h | h)
          · exact .inl h
          · exact .inr h.symm
      have hbn : ∀ x : Bool, (x != false) = x := fun x => by cases x <;> rfl
      clear hB hC
      (try simp only [ctlB])
      repeat' (first | (refine aw_sets (by simp (disch := first | omega | (simp only [lenB]; omega)) only [evB, Sz.cells, Sz.val, *]; rfl) (by simp (disch := first | omega | (simp only [lenB]; omega)) only [evB, Sz.cells, Sz.val, *]) (by simp (disch := first | omega | (simp only [lenB]; omega)) only [evB, Sz.cells, Sz.val, *]; rfl) ?_; (try simp only [ctlB])) | (refine aw_op rfl (by simp (disch := first | omega | (simp only [lenB]; omega)) only [evB, Sz.cells, Sz.val, *]; rfl) (by simp (disch := first | omega | (simp only [lenB]; omega)) only [evB, Sz.cells, Sz.val, *]) (by simp (disch := first | omega | (simp only [lenB]; omega)) only [evB, Sz.cells, Sz.val, *]; rfl) (by simp (disch := first | omega | (simp only [lenB]; omega)) only [evB, Sz.cells, Sz.val, *]; rfl) (by simp (disch := first | omega | (simp only [lenB]; omega)) only [evB, Sz.cells, Sz.val, *]; rfl) ?_; (try simp only [ctlB])))
      refine aw_cond (by simp (disch := first | omega | (simp only [lenB]; omega)) only [evB, Sz.cells, Sz.val, *]; rfl) (fun h => ?_) (fun h => ?_)
      · cases h
      clear h hb1
      (try simp only [ctlB])
      repeat' (first | (refine aw_sets (by simp (disch := first | omega | (simp only [lenB]; omega)) only [evB, Sz.cells, Sz.val, *]; rfl) (by simp (disch := first | omega | (simp only [lenB]; omega)) only [evB, Sz.cells, Sz.val, *]) (by simp (disch := first | omega | (simp only [lenB]; omega)) only [evB, Sz.cells, Sz.val, *]; rfl) ?_; (try simp only [ctlB])) | (refine aw_op rfl (by simp (disch := first | omega | (simp only [lenB]; omega)) only [evB, Sz.cells, Sz.val, *]; rfl) (by simp (disch := first | omega | (simp only [lenB]; omega)) only [evB, Sz.cells, Sz.val, *]) (by simp (disch := first | omega | (simp only [lenB]; omega)) only [evB, Sz.cells, Sz.val, *]; rfl) (by simp (disch := first | omega | (simp only [lenB]; omega)) only [evB, Sz.cells, Sz.val, *]; rfl) (by simp (disch := first | omega | (simp only [lenB]; omega)) only [evB, Sz.cells, Sz.val, *]; rfl) ?_; (try simp only [ctlB])))
      simp only [loopQ_n]
      refine ⟨30 - (i + 1), by omega, i + 1, _, _, _, _, _, _, by omega, rfl, by rw [htk]; simp only [Int.natCast_add, Int.natCast_one]; rfl, by simp; omega, by simp (disch := first | omega | (simp only [lenB]; omega)) only [evB, Sz.cells, Sz.val, *], by simp (disch := first | omega | (simp only [lenB]; omega)) only [evB, Sz.cells, Sz.val, *]⟩
    · have hi2 : i = 30 := by simp at h; omega
      clear h
      subst hi2
      rw [List.take_of_length_le (by rw [szs_len]; omega)]
      (try simp only [ctlB])
      exact ⟨_, _, _, _, _, _, _, _, _, rfl, by omega⟩
  rintro S H3 ⟨x6, x7, x8, x9, x10, x11, x12, x13, x14, rfl, hl3⟩
  (try simp only [ctlB])
  refine aw_hv_if (t := true) (by simp (disch := first | omega | (simp only [lenB]; omega)) only [evB, Sz.cells, Sz.val, *]; rfl) (by simp (disch := first | omega | (simp only [lenB]; omega)) only [evB, Sz.cells, Sz.val, *]) (by simp (disch := first | omega | (simp only [lenB]; omega)) only [evB, Sz.cells, Sz.val, *]) (fun _ => ⟨_, by simp (disch := first | omega | (simp only [lenB]; omega)) only [evB, Sz.cells, Sz.val, *]; rfl, ?_⟩) (fun h => by cases h)
  refine wpH_call0 (examples14 hl3) ?_
  rintro v H5 ⟨hx5, rfl⟩
  (try simp only [ctlB])
  repeat' (first | (refine aw_sets (by simp (disch := first | omega | (simp only [lenB]; omega)) only [evB, Sz.cells, Sz.val, *]; rfl) (by simp (disch := first | omega | (simp only [lenB]; omega)) only [evB, Sz.cells, Sz.val, *]) (by simp (disch := first | omega | (simp only [lenB]; omega)) only [evB, Sz.cells, Sz.val, *]; rfl) ?_; (try simp only [ctlB])) | (refine aw_op rfl (by simp (disch := first | omega | (simp only [lenB]; omega)) only [evB, Sz.cells, Sz.val, *]; rfl) (by simp (disch := first | omega | (simp only [lenB]; omega)) only [evB, Sz.cells, Sz.val, *]) (by simp (disch := first | omega | (simp only [lenB]; omega)) only [evB, Sz.cells, Sz.val, *]; rfl) (by simp (disch := first | omega | (simp only [lenB]; omega)) only [evB, Sz.cells, Sz.val, *]; rfl) (by simp (disch := first | omega | (simp only [lenB]; omega)) only [evB, Sz.cells, Sz.val, *]; rfl) ?_; (try simp only [ctlB])))
  refine body_ret (by simp only [cf7]; simp (disch := first | omega | (simp only [lenB]; omega)) only [evB, Sz.cells, Sz.val, *]; rfl) ?_
  rfl
namespace dmlayoutFits
open Go.ChangeShapes Go.WideShapes Go.ChangeAt Go.RowKit
theorem fnE (X : Type) (ds : List (DataW X)) (h : ds.length = 2) : Rows.dmlayoutFitsSpec.fn X ds = ⟨[.lit (.bool true)], ds, []⟩ := by
  match ds, h with
  | [d1, d2], _ => rfl
theorem lawAll (H : Heap) (vs : List Value) (h : HasArgs maxLen H [.int .i64, .bool] vs) : Ev cp H.length 7 vs H (fun v _ => v = .bool true) := by
  simp only [HasArgs, HasArg, Has] at h
  obtain ⟨a, r, rfl, ⟨n, hn, _⟩, b, r2, rfl, ⟨sq, hsq⟩, rfl⟩ := h
  cases hn
  cases hsq
  exact law7 n sq H
set_option maxRecDepth 100000 in
theorem lifted (os : Os) (started : os.Started) (H : Type) (enc : TypeId × Value → H) :
    ReturnsInHanded {} Try.checked os 7 .any (Rows.dmlayoutFitsSpec.pre6 enc Try.prog Try.f7 Rows.dmlayoutFitsRow.domain false) (Rows.dmlayoutFitsSpec.post enc Try.prog Try.f7 false true false false) := by
  refine returnsInHanded_of_change (C := Try.checked) own started (by kernel_rfl) Try.func7
    (ChangeSpec.witness6 (enc := enc) (C := Try.checked) false ⟨#[], #[.int .i64 0, .bool false], []⟩ 8 (by kernel_rfl) (by kernel_rfl) (by kernel_rfl) (by kernel_rfl)) ?_
  intro W base args ds gs before hval hW _ _
  exact law_contract (P := Try.prog) (fn := Try.f7) (s := Rows.dmlayoutFitsSpec) okAll (d := 8) (tys := [.int .i64, .bool]) (by kernel_rfl) (by kernel_rfl) (by kernel_rfl) Try.underlying4 laidOut (by kernel_rfl) rfl fnE lawAll W (by rw [noGlobals]; omega) base args ds gs before hval hW (fun x _ => .inl (Nat.le_refl _))
theorem over : Rows.dmlayoutFitsRow.holds Try.pinned (OpenSpec.ofChange Rows.dmlayoutFitsSpec) :=
  OpenClaim.holds_of_wide 7 Try.f7 rfl rfl rfl rfl rfl rfl rfl ⟨rfl, rfl, rfl, rfl, rfl⟩ rfl rfl rfl rfl rfl (by kernel_rfl) Try.func7 (by kernel_rfl)
    (of_decide_eq_true (by kernel_rfl)) (by unfold Func.isWrapper; first | (rw [if_pos (by decide +kernel)]; kernel_rfl) | (rw [if_neg (by decide +kernel)]; exact ⟨rfl, rfl⟩))
    (fun os started H enc _ => lifted os started H enc)
theorem proved : Rows.DmlayoutFitsSaid := over
#print axioms proved
end dmlayoutFits
end Go.Proofs.Ytobfjbominbkmaa
