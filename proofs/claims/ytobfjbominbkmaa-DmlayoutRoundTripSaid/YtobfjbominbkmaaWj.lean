/-
  Fit of the reference; the two agree.
-/
import Derived.Test.YtobfjbominbkmaaWi
namespace Go.Proofs.Ytobfjbominbkmaa
open Go.Abs
set_option linter.unusedSimpArgs false
def fitStep' (n : Int) (sq : Bool) (best s : Sz) : Sz :=
  if ((decide (n ≤ s.d) && (decide (s.r = s.c) || !sq)) && (decide (best.d = 0) || decide (s.d < best.d))) = true then s else best
theorem fitStep_eq (n : Int) (sq : Bool) (best s : Sz) : fitStep' n sq best s = fitStep n sq best s := by
  unfold fitStep' fitStep
  by_cases h1 : n ≤ s.d
  · by_cases h2 : s.r = s.c <;> by_cases h3 : sq = true <;> by_cases h4 : best.d = 0 <;> by_cases h5 : s.d < best.d <;> simp [h1, h2, h3, h4, h5, Int.not_lt.2 h1]
  · simp [h1, show s.d < n by omega]
def fitR (n : Int) (sq : Bool) : Sz × Int := if n < 1 then (Sz.zero, 3) else if (fitFold n sq 30).d = 0 then (Sz.zero, 16) else (fitFold n sq 30, 0)
theorem fit13 {lo : Nat} {H : Heap} (n : Int) (sq : Bool) (hlo : lo ≤ H.length) : Ev cp lo 13 [.int .i64 n, .bool sq] H (fun v H' => Ext H H' ∧ v = .tuple #[(fitR n sq).1.val, .int .i64 (fitR n sq).2]) := by
  refine st13 ?_; unfold bd13; (try simp only [ctlB])
  repeat' (first | (refine aw_sets (by simp (disch := first | omega | (simp only [lenB]; omega)) only [evB, Sz.cells, Sz.val, *]; rfl) (by simp (disch := first | omega | (simp only [lenB]; omega)) only [evB, Sz.cells, Sz.val, *]) (by simp (disch := first | omega | (simp only [lenB]; omega)) only [evB, Sz.cells, Sz.val, *]; rfl) ?_; (try simp only [ctlB])) | (refine aw_op rfl (by simp (disch := first | omega | (simp only [lenB]; omega)) only [evB, Sz.cells, Sz.val, *]; rfl) (by simp (disch := first | omega | (simp only [lenB]; omega)) only [evB, Sz.cells, Sz.val, *]) (by simp (disch := first | omega | (simp only [lenB]; omega)) only [evB, Sz.cells, Sz.val, *]; rfl) (by simp (disch := first | omega | (simp only [lenB]; omega)) only [evB, Sz.cells, Sz.val, *]; rfl) (by simp (disch := first | omega | (simp only [lenB]; omega)) only [evB, Sz.cells, Sz.val, *]; rfl) ?_; (try simp only [ctlB])))
  refine aw_cond (by simp (disch := first | omega | (simp only [lenB]; omega)) only [evB, Sz.cells, Sz.val, *]; rfl) (fun h => ?_) (fun h => ?_)
  · simp only [decide_eq_true_eq] at h
    (try simp only [ctlB])
    repeat' (first | (refine aw_sets (by simp (disch := first | omega | (simp only [lenB]; omega)) only [evB, Sz.cells, Sz.val, *]; rfl) (by simp (disch := first | omega | (simp only [lenB]; omega)) only [evB, Sz.cells, Sz.val, *]) (by simp (disch := first | omega | (simp only [lenB]; omega)) only [evB, Sz.cells, Sz.val, *]; rfl) ?_; (try simp only [ctlB])) | (refine aw_op rfl (by simp (disch := first | omega | (simp only [lenB]; omega)) only [evB, Sz.cells, Sz.val, *]; rfl) (by simp (disch := first | omega | (simp only [lenB]; omega)) only [evB, Sz.cells, Sz.val, *]) (by simp (disch := first | omega | (simp only [lenB]; omega)) only [evB, Sz.cells, Sz.val, *]; rfl) (by simp (disch := first | omega | (simp only [lenB]; omega)) only [evB, Sz.cells, Sz.val, *]; rfl) (by simp (disch := first | omega | (simp only [lenB]; omega)) only [evB, Sz.cells, Sz.val, *]; rfl) ?_; (try simp only [ctlB])))
    refine body_ret (by simp only [cf13]; simp (disch := first | omega | (simp only [lenB]; omega)) only [evB, Sz.cells, Sz.val, *]; rfl) ?_
    exact ⟨Ext.app _ _, by simp [resultOf, fitR, h, Sz.zero, Sz.val]⟩
  have h1 : ¬ n < 1 := by simpa using h
  clear h
  (try simp only [ctlB])
  repeat' (first | (refine aw_sets (by simp (disch := first | omega | (simp only [lenB]; omega)) only [evB, Sz.cells, Sz.val, *]; rfl) (by simp (disch := first | omega | (simp only [lenB]; omega)) only [evB, Sz.cells, Sz.val, *]) (by simp (disch := first | omega | (simp only [lenB]; omega)) only [evB, Sz.cells, Sz.val, *]; rfl) ?_; (try simp only [ctlB])) | (refine aw_op rfl (by simp (disch := first | omega | (simp only [lenB]; omega)) only [evB, Sz.cells, Sz.val, *]; rfl) (by simp (disch := first | omega | (simp only [lenB]; omega)) only [evB, Sz.cells, Sz.val, *]) (by simp (disch := first | omega | (simp only [lenB]; omega)) only [evB, Sz.cells, Sz.val, *]; rfl) (by simp (disch := first | omega | (simp only [lenB]; omega)) only [evB, Sz.cells, Sz.val, *]; rfl) (by simp (disch := first | omega | (simp only [lenB]; omega)) only [evB, Sz.cells, Sz.val, *]; rfl) ?_; (try simp only [ctlB])))
  refine aw_hv (by simp (disch := first | omega | (simp only [lenB]; omega)) only [evB, Sz.cells, Sz.val, *]; rfl) (by simp (disch := first | omega | (simp only [lenB]; omega)) only [evB, Sz.cells, Sz.val, *]) (by simp (disch := first | omega | (simp only [lenB]; omega)) only [evB, Sz.cells, Sz.val, *]; rfl) ?_
  refine wpH_call0 (sizes11 (by simp; omega)) ?_
  rintro v H1 ⟨j, hj, rfl, hg, hE⟩
  have g0 : H1.get H.length = some _ := hE.get (by simp (disch := first | omega | (simp only [lenB]; omega)) only [evB, Sz.cells, Sz.val, *]; rfl)
  have g1 : H1.get (H.length + 1) = some _ := hE.get (by simp (disch := first | omega | (simp only [lenB]; omega)) only [evB, Sz.cells, Sz.val, *]; rfl)
  have hx := hE.of_app
  have hl := hE.1
  simp only [List.length_append, List.length_cons, List.length_nil] at hj hl
  clear hE
  (try simp only [ctlB])
  repeat' (first | (refine aw_sets (by simp (disch := first | omega | (simp only [lenB]; omega)) only [evB, Sz.cells, Sz.val, *]; rfl) (by simp (disch := first | omega | (simp only [lenB]; omega)) only [evB, Sz.cells, Sz.val, *]) (by simp (disch := first | omega | (simp only [lenB]; omega)) only [evB, Sz.cells, Sz.val, *]; rfl) ?_; (try simp only [ctlB])) | (refine aw_op rfl (by simp (disch := first | omega | (simp only [lenB]; omega)) only [evB, Sz.cells, Sz.val, *]; rfl) (by simp (disch := first | omega | (simp only [lenB]; omega)) only [evB, Sz.cells, Sz.val, *]) (by simp (disch := first | omega | (simp only [lenB]; omega)) only [evB, Sz.cells, Sz.val, *]; rfl) (by simp (disch := first | omega | (simp only [lenB]; omega)) only [evB, Sz.cells, Sz.val, *]; rfl) (by simp (disch := first | omega | (simp only [lenB]; omega)) only [evB, Sz.cells, Sz.val, *]; rfl) ?_; (try simp only [ctlB])))
  refine aw_midXB (fun S H' => ∃ (x6 x7 x8 x9 x10 : Value), S = [.int .i64 n, .bool sq, .pointer (some ⟨H.length, 0, none⟩), .int .i64 0, .pointer (some ⟨H.length + 1, 0, none⟩), .slice (some ⟨j, 0, some 7⟩) 30 30, x6, x7, x8, x9, x10] ∧ Ext H H' ∧ H'.get H.length = some Sz.zero.cells ∧ H'.get (H.length + 1) = some (fitFold n sq 30).cells) ?_ ?_
  · refine aw_loop' (fun m S H' => ∃ (i : Int) (x7 x8 x9 x10 : Value), 0 ≤ i ∧ i ≤ 30 ∧ m = (30 - i).toNat ∧ S = [.int .i64 n, .bool sq, .pointer (some ⟨H.length, 0, none⟩), .int .i64 0, .pointer (some ⟨H.length + 1, 0, none⟩), .slice (some ⟨j, 0, some 7⟩) 30 30, .int .i64 i, x7, x8, x9, x10] ∧ Ext H H' ∧ j < H'.length ∧ H'.get H.length = some Sz.zero.cells ∧ H'.get (H.length + 1) = some (fitFold n sq i.toNat).cells ∧ H'.get j = some szCells) 30 ?_ ?_
    · exact ⟨0, _, _, _, _, by omega, by omega, by omega, rfl, hx, Heap.get_lt hg, g0, g1, hg⟩
    rintro m S H2 ⟨i, x7, x8, x9, x10, hi0, hi1, rfl, rfl, hx2, hj2, g0, g1, hg⟩
    have hl2 := Heap.get_lt g1
    (try simp only [ctlB])
    refine aw_cond (by simp (disch := first | omega | (simp only [lenB]; omega)) only [evB, Sz.cells, Sz.val, *]; rfl) (fun h => ?_) (fun h => ?_)
    · have hi : i < 30 := by simpa using h
      clear h
      have hrow := szCells_at (i := i.toNat) (by omega)
      have hlen := szCells_len
      have hnext : fitFold n sq (i + 1).toNat = fitStep' n sq (fitFold n sq i.toNat) (szAt i.toNat) := by
        rw [show (i + 1).toNat = i.toNat + 1 by omega, fitFold_succ (by omega), fitStep_eq]
      (try simp only [ctlB])
      repeat' (first | (refine aw_sets (by simp (disch := first | omega | (simp only [lenB]; omega)) only [evB, Sz.cells, Sz.val, *]; rfl) (by simp (disch := first | omega | (simp only [lenB]; omega)) only [evB, Sz.cells, Sz.val, *]) (by simp (disch := first | omega | (simp only [lenB]; omega)) only [evB, Sz.cells, Sz.val, *]; rfl) ?_; (try simp only [ctlB])) | (refine aw_op rfl (by simp (disch := first | omega | (simp only [lenB]; omega)) only [evB, Sz.cells, Sz.val, *]; rfl) (by simp (disch := first | omega | (simp only [lenB]; omega)) only [evB, Sz.cells, Sz.val, *]) (by simp (disch := first | omega | (simp only [lenB]; omega)) only [evB, Sz.cells, Sz.val, *]; rfl) (by simp (disch := first | omega | (simp only [lenB]; omega)) only [evB, Sz.cells, Sz.val, *]; rfl) (by simp (disch := first | omega | (simp only [lenB]; omega)) only [evB, Sz.cells, Sz.val, *]; rfl) ?_; (try simp only [ctlB])))
      refine aw_cond (by simp (disch := first | omega | (simp only [lenB]; omega)) only [evB, Sz.cells, Sz.val, *]; rfl) (fun h => ?_) (fun h => ?_)
      · have hst : fitFold n sq (i + 1).toNat = szAt i.toNat := by rw [hnext]; unfold fitStep'; rw [if_pos h]
        clear hnext h
        (try simp only [ctlB])
        repeat' (first | (refine aw_sets (by simp (disch := first | omega | (simp only [lenB]; omega)) only [evB, Sz.cells, Sz.val, *]; rfl) (by simp (disch := first | omega | (simp only [lenB]; omega)) only [evB, Sz.cells, Sz.val, *]) (by simp (disch := first | omega | (simp only [lenB]; omega)) only [evB, Sz.cells, Sz.val, *]; rfl) ?_; (try simp only [ctlB])) | (refine aw_op rfl (by simp (disch := first | omega | (simp only [lenB]; omega)) only [evB, Sz.cells, Sz.val, *]; rfl) (by simp (disch := first | omega | (simp only [lenB]; omega)) only [evB, Sz.cells, Sz.val, *]) (by simp (disch := first | omega | (simp only [lenB]; omega)) only [evB, Sz.cells, Sz.val, *]; rfl) (by simp (disch := first | omega | (simp only [lenB]; omega)) only [evB, Sz.cells, Sz.val, *]; rfl) (by simp (disch := first | omega | (simp only [lenB]; omega)) only [evB, Sz.cells, Sz.val, *]; rfl) ?_; (try simp only [ctlB])))
        simp only [loopQ_n]
        refine ⟨(30 - (i + 1)).toNat, by omega, i + 1, _, _, _, _, by omega, by omega, rfl, rfl, (hx2.set (by omega)).trans (Ext.app _ _), by simp; omega, by simp (disch := first | omega | (simp only [lenB]; omega)) only [evB, Sz.cells, Sz.val, *], ?_, by simp (disch := first | omega | (simp only [lenB]; omega)) only [evB, Sz.cells, Sz.val, *]⟩
        rw [hst]
        simp (disch := first | omega | (simp only [lenB]; omega)) only [evB, Sz.cells, Sz.val, *]
      · have hst : fitFold n sq (i + 1).toNat = fitFold n sq i.toNat := by rw [hnext]; unfold fitStep'; rw [if_neg (by rw [h]; simp)]
        clear hnext h
        (try simp only [ctlB])
        repeat' (first | (refine aw_sets (by simp (disch := first | omega | (simp only [lenB]; omega)) only [evB, Sz.cells, Sz.val, *]; rfl) (by simp (disch := first | omega | (simp only [lenB]; omega)) only [evB, Sz.cells, Sz.val, *]) (by simp (disch := first | omega | (simp only [lenB]; omega)) only [evB, Sz.cells, Sz.val, *]; rfl) ?_; (try simp only [ctlB])) | (refine aw_op rfl (by simp (disch := first | omega | (simp only [lenB]; omega)) only [evB, Sz.cells, Sz.val, *]; rfl) (by simp (disch := first | omega | (simp only [lenB]; omega)) only [evB, Sz.cells, Sz.val, *]) (by simp (disch := first | omega | (simp only [lenB]; omega)) only [evB, Sz.cells, Sz.val, *]; rfl) (by simp (disch := first | omega | (simp only [lenB]; omega)) only [evB, Sz.cells, Sz.val, *]; rfl) (by simp (disch := first | omega | (simp only [lenB]; omega)) only [evB, Sz.cells, Sz.val, *]; rfl) ?_; (try simp only [ctlB])))
        simp only [loopQ_n]
        refine ⟨(30 - (i + 1)).toNat, by omega, i + 1, _, _, _, _, by omega, by omega, rfl, rfl, hx2.trans (Ext.app _ _), by simp; omega, by simp (disch := first | omega | (simp only [lenB]; omega)) only [evB, Sz.cells, Sz.val, *], ?_, by simp (disch := first | omega | (simp only [lenB]; omega)) only [evB, Sz.cells, Sz.val, *]⟩
        rw [hst]
        simp (disch := first | omega | (simp only [lenB]; omega)) only [evB, Sz.cells, Sz.val, *]
    · obtain rfl : i = 30 := by simp at h; omega
      clear h
      (try simp only [ctlB])
      exact ⟨_, _, _, _, _, rfl, hx2, g0, g1⟩
  rintro S H3 ⟨x6, x7, x8, x9, x10, rfl, hx3, g0, g1⟩
  have hl3 := Heap.get_lt g1
  (try simp only [ctlB])
  refine aw_cond (by simp (disch := first | omega | (simp only [lenB]; omega)) only [evB, Sz.cells, Sz.val, *]; rfl) (fun h => ?_) (fun h => ?_)
  · have hd : (fitFold n sq 30).d = 0 := by simpa using h
    clear h
    (try simp only [ctlB])
    repeat' (first | (refine aw_sets (by simp (disch := first | omega | (simp only [lenB]; omega)) only [evB, Sz.cells, Sz.val, *]; rfl) (by simp (disch := first | omega | (simp only [lenB]; omega)) only [evB, Sz.cells, Sz.val, *]) (by simp (disch := first | omega | (simp only [lenB]; omega)) only [evB, Sz.cells, Sz.val, *]; rfl) ?_; (try simp only [ctlB])) | (refine aw_op rfl (by simp (disch := first | omega | (simp only [lenB]; omega)) only [evB, Sz.cells, Sz.val, *]; rfl) (by simp (disch := first | omega | (simp only [lenB]; omega)) only [evB, Sz.cells, Sz.val, *]) (by simp (disch := first | omega | (simp only [lenB]; omega)) only [evB, Sz.cells, Sz.val, *]; rfl) (by simp (disch := first | omega | (simp only [lenB]; omega)) only [evB, Sz.cells, Sz.val, *]; rfl) (by simp (disch := first | omega | (simp only [lenB]; omega)) only [evB, Sz.cells, Sz.val, *]; rfl) ?_; (try simp only [ctlB])))
    refine body_ret (by simp only [cf13]; simp (disch := first | omega | (simp only [lenB]; omega)) only [evB, Sz.cells, Sz.val, *]; rfl) ?_
    exact ⟨hx3.set (by omega), by simp [resultOf, fitR, h1, hd, Sz.zero, Sz.val]⟩
  · have hd : ¬ (fitFold n sq 30).d = 0 := by simpa using h
    clear h
    (try simp only [ctlB])
    repeat' (first | (refine aw_sets (by simp (disch := first | omega | (simp only [lenB]; omega)) only [evB, Sz.cells, Sz.val, *]; rfl) (by simp (disch := first | omega | (simp only [lenB]; omega)) only [evB, Sz.cells, Sz.val, *]) (by simp (disch := first | omega | (simp only [lenB]; omega)) only [evB, Sz.cells, Sz.val, *]; rfl) ?_; (try simp only [ctlB])) | (refine aw_op rfl (by simp (disch := first | omega | (simp only [lenB]; omega)) only [evB, Sz.cells, Sz.val, *]; rfl) (by simp (disch := first | omega | (simp only [lenB]; omega)) only [evB, Sz.cells, Sz.val, *]) (by simp (disch := first | omega | (simp only [lenB]; omega)) only [evB, Sz.cells, Sz.val, *]; rfl) (by simp (disch := first | omega | (simp only [lenB]; omega)) only [evB, Sz.cells, Sz.val, *]; rfl) (by simp (disch := first | omega | (simp only [lenB]; omega)) only [evB, Sz.cells, Sz.val, *]; rfl) ?_; (try simp only [ctlB])))
    refine body_ret (by simp only [cf13]; simp (disch := first | omega | (simp only [lenB]; omega)) only [evB, Sz.cells, Sz.val, *]; rfl) ?_
    exact ⟨hx3.set (by omega), by simp [resultOf, fitR, h1, hd, Sz.val]⟩

/- the plain law -/
theorem fold_some {n : Int} {sq : Bool} : ∀ (l : List Sz) (b : Sz), (∀ s ∈ l, 0 < s.d) → 0 ≤ b.d → 0 ≤ (l.foldl (fitStep n sq) b).d ∧ (b.d ≠ 0 → (l.foldl (fitStep n sq) b).d ≠ 0) ∧ ((∃ s ∈ l, ¬ ((sq = true ∧ s.r ≠ s.c) ∨ s.d < n)) → (l.foldl (fitStep n sq) b).d ≠ 0)
  | [], b, _, hb => ⟨hb, fun h => h, fun ⟨s, hs, _⟩ => by simp at hs⟩
  | s :: l, b, hl, hb => by
    have hs := hl s (by simp)
    have hstep : 0 ≤ (fitStep n sq b s).d := by unfold fitStep; split; exact hb; split; omega; exact hb
    obtain ⟨i1, i2, i3⟩ := fold_some l (fitStep n sq b s) (fun x hx => hl x (by simp [hx])) hstep
    refine ⟨i1, fun h => i2 ?_, ?_⟩
    · unfold fitStep; split; exact h; split; omega; exact h
    · rintro ⟨x, hx, hc⟩
      rcases List.mem_cons.1 hx with rfl | hx
      · refine i2 ?_
        unfold fitStep
        rw [if_neg hc]
        split
        · omega
        · rename_i h; omega
      · exact i3 ⟨x, hx, hc⟩
theorem fold_none {n : Int} {sq : Bool} : ∀ (l : List Sz) (b : Sz), (∀ s ∈ l, s.d < n) → l.foldl (fitStep n sq) b = b
  | [], _, _ => rfl
  | s :: l, b, hl => by
    have : fitStep n sq b s = b := by unfold fitStep; rw [if_pos (.inr (hl s (by simp)))]
    rw [List.foldl_cons, this]; exact fold_none l b (fun x hx => hl x (by simp [hx]))
theorem szs_d : ∀ s ∈ szs, 0 < s.d ∧ s.d ≤ 1558 := by
  have h : szs.all (fun s => decide (0 < s.d) && decide (s.d ≤ 1558)) = true := by kernel_rfl
  intro s hs
  have := List.all_eq_true.1 h s hs
  simpa using this
theorem fit_agree (n : Int) (sq : Bool) : fitR n sq = fitP n sq := by
  unfold fitR fitP fitFold
  rw [List.take_of_length_le (by rw [szs_len]; omega)]
  split
  · rfl
  by_cases h : 1558 < n
  · rw [if_pos h, fold_none szs Sz.zero (fun s hs => by have := (szs_d s hs).2; omega)]
    rfl
  · rw [if_neg h, if_neg]
    exact (fold_some szs Sz.zero (fun s hs => (szs_d s hs).1) (by decide)).2.2 ⟨szAt 23, szAt_mem (by omega), by
      have e1 : (szAt 23).r = (szAt 23).c := rfl
      have e2 : (szAt 23).d = 1558 := rfl
      rw [e2]
      intro hh
      rcases hh with hh | hh
      · exact hh.2 e1
      · omega⟩
end Go.Proofs.Ytobfjbominbkmaa
