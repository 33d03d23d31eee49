/-
  Place of the code: what it answers.
-/
import Derived.Test.YtobfjbominbkmaaWg
namespace Go.Proofs.Ytobfjbominbkmaa
open Go.Abs
set_option linter.unusedSimpArgs false
/- a module of a symbol -/
def lr (s : Sz) (row : Int) : Int := row.tmod (s.rr + 2)
def lc (s : Sz) (col : Int) : Int := col.tmod (s.rc + 2)
def locB (s : Sz) (row col : Int) : Bool := (decide (lc s col = 0) || decide (lr s row = s.rr + 1)) || decide (lr s row = 0) || decide (lc s col = s.rc + 1)
def locD (s : Sz) (row col : Int) : Bool := if (decide (lc s col = 0) || decide (lr s row = s.rr + 1)) = true then true else if lr s row = 0 then decide ((lc s col).tmod 2 = 0) else if lc s col = s.rc + 1 then decide ((lr s row).tmod 2 = 1) else false
def locI (s : Sz) (row col : Int) : Int := if locB s row col = true then 0 else (row.tdiv (s.rr + 2) * s.rr + lr s row - 1) * mapC s + col.tdiv (s.rc + 2) * s.rc + lc s col - 1
theorem locate31 {lo : Nat} {H : Heap} {s : Sz} {row col : Int} (hs : SzOK s) (hlo : lo ≤ H.length) (h0 : 0 ≤ row) (h1 : row ≤ 200) (h2 : 0 ≤ col) (h3 : col ≤ 200) :
    Ev cp lo 31 [s.val, .int .i64 row, .int .i64 col] H (fun v H' => Ext H H' ∧ v = .agg #[.bool (locB s row col), .bool (locD s row col), .int .i64 (locI s row col)]) := by
  have hb := map_bd hs
  have hs' := hs
  obtain ⟨r0, r1, c0, c1, rr0, rr1, rc0, rc1, _⟩ := hs'
  have m1 := tmod_bd (a := row) (m := s.rr + 2) (by omega) (by omega)
  have m2 := tmod_bd (a := col) (m := s.rc + 2) (by omega) (by omega)
  have e1 : s.rr + 2 - 1 = s.rr + 1 := by omega
  have e2 : s.rc + 2 - 1 = s.rc + 1 := by omega
  have er : row.tmod (s.rr + 2) = lr s row := rfl
  have ec : col.tmod (s.rc + 2) = lc s col := rfl
  rw [er] at m1
  rw [ec] at m2
  refine st31 ?_; unfold bd31; (try simp only [ctlB])
  repeat' (first | (refine aw_sets (by simp (disch := first | omega | (simp only [lenB]; omega)) only [evB, Sz.cells, Sz.val, *]; rfl) (by simp (disch := first | omega | (simp only [lenB]; omega)) only [evB, Sz.cells, Sz.val, *]) (by simp (disch := first | omega | (simp only [lenB]; omega)) only [evB, Sz.cells, Sz.val, *]; rfl) ?_; (try simp only [ctlB])) | (refine aw_op rfl (by simp (disch := first | omega | (simp only [lenB]; omega)) only [evB, Sz.cells, Sz.val, *]; rfl) (by simp (disch := first | omega | (simp only [lenB]; omega)) only [evB, Sz.cells, Sz.val, *]) (by simp (disch := first | omega | (simp only [lenB]; omega)) only [evB, Sz.cells, Sz.val, *]; rfl) (by simp (disch := first | omega | (simp only [lenB]; omega)) only [evB, Sz.cells, Sz.val, *]; rfl) (by simp (disch := first | omega | (simp only [lenB]; omega)) only [evB, Sz.cells, Sz.val, *]; rfl) ?_; (try simp only [ctlB])))
  by_cases k1 : (decide (lc s col = 0) || decide (lr s row = s.rr + 1)) = true
  · refine aw_cond (by simp (disch := first | omega | (simp only [lenB]; omega)) only [evB, Sz.cells, Sz.val, *]; rfl) (fun h => ?_) (fun h => ?_)
    · clear h
      (try simp only [ctlB])
      repeat' (first | (refine aw_sets (by simp (disch := first | omega | (simp only [lenB]; omega)) only [evB, Sz.cells, Sz.val, *]; rfl) (by simp (disch := first | omega | (simp only [lenB]; omega)) only [evB, Sz.cells, Sz.val, *]) (by simp (disch := first | omega | (simp only [lenB]; omega)) only [evB, Sz.cells, Sz.val, *]; rfl) ?_; (try simp only [ctlB])) | (refine aw_op rfl (by simp (disch := first | omega | (simp only [lenB]; omega)) only [evB, Sz.cells, Sz.val, *]; rfl) (by simp (disch := first | omega | (simp only [lenB]; omega)) only [evB, Sz.cells, Sz.val, *]) (by simp (disch := first | omega | (simp only [lenB]; omega)) only [evB, Sz.cells, Sz.val, *]; rfl) (by simp (disch := first | omega | (simp only [lenB]; omega)) only [evB, Sz.cells, Sz.val, *]; rfl) (by simp (disch := first | omega | (simp only [lenB]; omega)) only [evB, Sz.cells, Sz.val, *]; rfl) ?_; (try simp only [ctlB])))
      refine body_ret (by simp only [cf31]; simp (disch := first | omega | (simp only [lenB]; omega)) only [evB, Sz.cells, Sz.val, *]; rfl) ?_
      refine ⟨Ext.app _ _, ?_⟩
      simp [resultOf, locB, locD, locI, k1]
    · cases h
  have k1' : (decide (lc s col = 0) || decide (lr s row = s.rr + 1)) = false := by simpa using k1
  refine aw_cond (by simp (disch := first | omega | (simp only [lenB]; omega)) only [evB, Sz.cells, Sz.val, *]; rfl) (fun h => ?_) (fun h => ?_)
  · cases h
  clear h
  have a1 : ¬ lc s col = 0 := by intro e; simp [e] at k1'
  have a2 : ¬ lr s row = s.rr + 1 := by intro e; simp [e] at k1'
  clear k1 k1'
  (try simp only [ctlB])
  refine aw_cond (by simp (disch := first | omega | (simp only [lenB]; omega)) only [evB, Sz.cells, Sz.val, *]; rfl) (fun h => ?_) (fun h => ?_)
  · have k2 : lr s row = 0 := by simpa using h
    clear h
    (try simp only [ctlB])
    repeat' (first | (refine aw_sets (by simp (disch := first | omega | (simp only [lenB]; omega)) only [evB, Sz.cells, Sz.val, *]; rfl) (by simp (disch := first | omega | (simp only [lenB]; omega)) only [evB, Sz.cells, Sz.val, *]) (by simp (disch := first | omega | (simp only [lenB]; omega)) only [evB, Sz.cells, Sz.val, *]; rfl) ?_; (try simp only [ctlB])) | (refine aw_op rfl (by simp (disch := first | omega | (simp only [lenB]; omega)) only [evB, Sz.cells, Sz.val, *]; rfl) (by simp (disch := first | omega | (simp only [lenB]; omega)) only [evB, Sz.cells, Sz.val, *]) (by simp (disch := first | omega | (simp only [lenB]; omega)) only [evB, Sz.cells, Sz.val, *]; rfl) (by simp (disch := first | omega | (simp only [lenB]; omega)) only [evB, Sz.cells, Sz.val, *]; rfl) (by simp (disch := first | omega | (simp only [lenB]; omega)) only [evB, Sz.cells, Sz.val, *]; rfl) ?_; (try simp only [ctlB])))
    refine body_ret (by simp only [cf31]; simp (disch := first | omega | (simp only [lenB]; omega)) only [evB, Sz.cells, Sz.val, *]; rfl) ?_
    refine ⟨Ext.app _ _, ?_⟩
    have a3 : ¬ (0 : Int) = s.rr + 1 := by omega
    simp [resultOf, locB, locD, locI, a1, a3, k2]
  have k2 : ¬ lr s row = 0 := by simpa using h
  clear h
  (try simp only [ctlB])
  refine aw_cond (by simp (disch := first | omega | (simp only [lenB]; omega)) only [evB, Sz.cells, Sz.val, *]; rfl) (fun h => ?_) (fun h => ?_)
  · have k3 : lc s col = s.rc + 1 := by simpa using h
    clear h
    (try simp only [ctlB])
    repeat' (first | (refine aw_sets (by simp (disch := first | omega | (simp only [lenB]; omega)) only [evB, Sz.cells, Sz.val, *]; rfl) (by simp (disch := first | omega | (simp only [lenB]; omega)) only [evB, Sz.cells, Sz.val, *]) (by simp (disch := first | omega | (simp only [lenB]; omega)) only [evB, Sz.cells, Sz.val, *]; rfl) ?_; (try simp only [ctlB])) | (refine aw_op rfl (by simp (disch := first | omega | (simp only [lenB]; omega)) only [evB, Sz.cells, Sz.val, *]; rfl) (by simp (disch := first | omega | (simp only [lenB]; omega)) only [evB, Sz.cells, Sz.val, *]) (by simp (disch := first | omega | (simp only [lenB]; omega)) only [evB, Sz.cells, Sz.val, *]; rfl) (by simp (disch := first | omega | (simp only [lenB]; omega)) only [evB, Sz.cells, Sz.val, *]; rfl) (by simp (disch := first | omega | (simp only [lenB]; omega)) only [evB, Sz.cells, Sz.val, *]; rfl) ?_; (try simp only [ctlB])))
    refine body_ret (by simp only [cf31]; simp (disch := first | omega | (simp only [lenB]; omega)) only [evB, Sz.cells, Sz.val, *]; rfl) ?_
    refine ⟨Ext.app _ _, ?_⟩
    have a3 : ¬ s.rc + 1 = 0 := by omega
    simp [resultOf, locB, locD, locI, a2, k2, k3, a3]
  have k3 : ¬ lc s col = s.rc + 1 := by simpa using h
  clear h
  (try simp only [ctlB])
  refine aw_hv (by simp (disch := first | omega | (simp only [lenB]; omega)) only [evB, Sz.cells, Sz.val, *]; rfl) (by simp (disch := first | omega | (simp only [lenB]; omega)) only [evB, Sz.cells, Sz.val, *]) (by simp (disch := first | omega | (simp only [lenB]; omega)) only [evB, Sz.cells, Sz.val, *]; rfl) ?_
  refine wpH_call0 (mapping25 (s := s) hs) ?_
  rintro v H3 ⟨hx3, rfl⟩
  have g0 : H3.get H.length = some _ := hx3.get (by simp (disch := first | omega | (simp only [lenB]; omega)) only [evB, Sz.cells, Sz.val, *]; rfl)
  have g1 : H3.get (H.length + 1) = some _ := hx3.get (by simp (disch := first | omega | (simp only [lenB]; omega)) only [evB, Sz.cells, Sz.val, *]; rfl)
  have hl3 := hx3.1
  simp only [List.length_append, List.length_cons, List.length_nil] at hl3
  have t1 := tdiv_bd (a := row) (b := s.rr + 2) (by omega) (by omega)
  have t2 := tdiv_bd (a := col) (b := s.rc + 2) (by omega) (by omega)
  have u1 := mul_bd (a := row.tdiv (s.rr + 2)) (b := s.rr) (A := 200) (B := 200) (by omega) (by omega) (by omega) (by omega) (by omega)
  have u2 := mul_bd (a := col.tdiv (s.rc + 2)) (b := s.rc) (A := 200) (B := 200) (by omega) (by omega) (by omega) (by omega) (by omega)
  have u3 := mul_bd (a := row.tdiv (s.rr + 2) * s.rr + lr s row - 1) (b := mapC s) (A := 50000) (B := 40000) (by omega) (by omega) (by omega) (by omega) (by omega)
  have hx0 := hx3.of_app
  (try simp only [ctlB])
  repeat' (first | (refine aw_sets (by simp (disch := first | omega | (simp only [lenB]; omega)) only [evB, Sz.cells, Sz.val, *]; rfl) (by simp (disch := first | omega | (simp only [lenB]; omega)) only [evB, Sz.cells, Sz.val, *]) (by simp (disch := first | omega | (simp only [lenB]; omega)) only [evB, Sz.cells, Sz.val, *]; rfl) ?_; (try simp only [ctlB])) | (refine aw_op rfl (by simp (disch := first | omega | (simp only [lenB]; omega)) only [evB, Sz.cells, Sz.val, *]; rfl) (by simp (disch := first | omega | (simp only [lenB]; omega)) only [evB, Sz.cells, Sz.val, *]) (by simp (disch := first | omega | (simp only [lenB]; omega)) only [evB, Sz.cells, Sz.val, *]; rfl) (by simp (disch := first | omega | (simp only [lenB]; omega)) only [evB, Sz.cells, Sz.val, *]; rfl) (by simp (disch := first | omega | (simp only [lenB]; omega)) only [evB, Sz.cells, Sz.val, *]; rfl) ?_; (try simp only [ctlB])))
  refine body_ret (by simp only [cf31]; simp (disch := first | omega | (simp only [lenB]; omega)) only [evB, Sz.cells, Sz.val, *]; rfl) ?_
  refine ⟨hx0.set (by omega), ?_⟩
  simp [resultOf, locB, locD, locI, a1, a2, k2, k3]

/- modules that no codeword has -/
def fixP (R C i : Int) : Bool := (decide (i.tdiv C = R - 2) && decide (i.tmod C = C - 2)) || (decide (i.tdiv C = R - 1) && decide (i.tmod C = C - 1))
theorem fixed32 {lo : Nat} {H : Heap} {R C i : Int} (hd : Dim R C) (h0 : 0 ≤ i) (h1 : i ≤ 2000000000) : Ev cp lo 32 [.int .i64 R, .int .i64 C, .int .i64 i] H (fun v H' => H' = H ∧ v = .bool (fixP R C i)) := by
  obtain ⟨r0, r1, c0, c1⟩ := hd
  have t1 := tdiv_bd (a := i) (b := C) (by omega) (by omega)
  refine st32 ?_; unfold bd32; (try simp only [ctlB])
  repeat' (first | (refine aw_sets (by simp (disch := first | omega | (simp only [lenB]; omega)) only [evB, Sz.cells, Sz.val, *]; rfl) (by simp (disch := first | omega | (simp only [lenB]; omega)) only [evB, Sz.cells, Sz.val, *]) (by simp (disch := first | omega | (simp only [lenB]; omega)) only [evB, Sz.cells, Sz.val, *]; rfl) ?_; (try simp only [ctlB])) | (refine aw_op rfl (by simp (disch := first | omega | (simp only [lenB]; omega)) only [evB, Sz.cells, Sz.val, *]; rfl) (by simp (disch := first | omega | (simp only [lenB]; omega)) only [evB, Sz.cells, Sz.val, *]) (by simp (disch := first | omega | (simp only [lenB]; omega)) only [evB, Sz.cells, Sz.val, *]; rfl) (by simp (disch := first | omega | (simp only [lenB]; omega)) only [evB, Sz.cells, Sz.val, *]; rfl) (by simp (disch := first | omega | (simp only [lenB]; omega)) only [evB, Sz.cells, Sz.val, *]; rfl) ?_; (try simp only [ctlB])))
  refine body_ret (by simp only [cf32]; simp (disch := first | omega | (simp only [lenB]; omega)) only [evB, Sz.cells, Sz.val, *]; rfl) ?_
  exact ⟨rfl, rfl⟩

/- which of the sizes -/
theorem sz_eq {a b : Sz} : cellsEq [1, 1, 1, 1, 1, 1, 1] a.cells b.cells = some (decide (a = b)) := by
  cases a; cases b
  simp [Sz.cells, cellsEq, cellEq]
  rw [Bool.eq_iff_iff]
  simp
theorem index46 {lo : Nat} {H : Heap} {j : Nat} {s : Sz} (hg : H.get j = some szCells) : Ev cp lo 46 [.slice (some ⟨j, 0, none⟩) 30 30, s.val] H (fun v H' => Ext H H' ∧ ∃ k : Int, v = .int .i64 k ∧ decide (0 ≤ k) = decide (s ∈ szs)) := by
  have hj := Heap.get_lt hg
  refine st46 ?_; unfold bd46; (try simp only [ctlB])
  repeat' (first | (refine aw_sets (by simp (disch := first | omega | (simp only [lenB]; omega)) only [evB, Sz.cells, Sz.val, *]; rfl) (by simp (disch := first | omega | (simp only [lenB]; omega)) only [evB, Sz.cells, Sz.val, *]) (by simp (disch := first | omega | (simp only [lenB]; omega)) only [evB, Sz.cells, Sz.val, *]; rfl) ?_; (try simp only [ctlB])) | (refine aw_op rfl (by simp (disch := first | omega | (simp only [lenB]; omega)) only [evB, Sz.cells, Sz.val, *]; rfl) (by simp (disch := first | omega | (simp only [lenB]; omega)) only [evB, Sz.cells, Sz.val, *]) (by simp (disch := first | omega | (simp only [lenB]; omega)) only [evB, Sz.cells, Sz.val, *]; rfl) (by simp (disch := first | omega | (simp only [lenB]; omega)) only [evB, Sz.cells, Sz.val, *]; rfl) (by simp (disch := first | omega | (simp only [lenB]; omega)) only [evB, Sz.cells, Sz.val, *]; rfl) ?_; (try simp only [ctlB])))
  refine aw_loop' (fun m S H' => ∃ (i : Int) (x4 : Value), 0 ≤ i ∧ i ≤ 30 ∧ m = (30 - i).toNat ∧ S = [.slice (some ⟨j, 0, none⟩) 30 30, s.val, .pointer (some ⟨H.length, 0, none⟩), .int .i64 0, x4, .int .i64 30, .int .i64 i] ∧ H' = H ++ [some s.cells] ∧ ¬ s ∈ szs.take i.toNat) 30 ?_ ?_
  · exact ⟨0, _, by omega, by omega, by omega, rfl, rfl, by simp⟩
  rintro m S H2 ⟨i, x4, hi0, hi1, rfl, rfl, rfl, hno⟩
  (try simp only [ctlB])
  refine aw_cond (by simp (disch := first | omega | (simp only [lenB]; omega)) only [evB, Sz.cells, Sz.val, *]; rfl) (fun h => ?_) (fun h => ?_)
  · have hi : i < 30 := by simpa using h
    clear h
    have hrow := szCells_at (i := i.toNat) (by omega)
    have hlen := szCells_len
    have hse := sz_eq (a := s) (b := szAt i.toNat)
    simp only [Sz.cells] at hse
    have hmem := szAt_mem (i := i.toNat) (by omega)
    (try simp only [ctlB])
    repeat' (first | (refine aw_sets (by simp (disch := first | omega | (simp only [lenB]; omega)) only [evB, Sz.cells, Sz.val, *]; rfl) (by simp (disch := first | omega | (simp only [lenB]; omega)) only [evB, Sz.cells, Sz.val, *]) (by simp (disch := first | omega | (simp only [lenB]; omega)) only [evB, Sz.cells, Sz.val, *]; rfl) ?_; (try simp only [ctlB])) | (refine aw_op rfl (by simp (disch := first | omega | (simp only [lenB]; omega)) only [evB, Sz.cells, Sz.val, *]; rfl) (by simp (disch := first | omega | (simp only [lenB]; omega)) only [evB, Sz.cells, Sz.val, *]) (by simp (disch := first | omega | (simp only [lenB]; omega)) only [evB, Sz.cells, Sz.val, *]; rfl) (by simp (disch := first | omega | (simp only [lenB]; omega)) only [evB, Sz.cells, Sz.val, *]; rfl) (by simp (disch := first | omega | (simp only [lenB]; omega)) only [evB, Sz.cells, Sz.val, *]; rfl) ?_; (try simp only [ctlB])))
    refine aw_cond (by simp (disch := first | omega | (simp only [lenB]; omega)) only [evB, Sz.cells, Sz.val, *]; rfl) (fun h => ?_) (fun h => ?_)
    · have he : s = szAt i.toNat := by simpa using h
      clear h
      (try simp only [ctlB])
      repeat' (first | (refine aw_sets (by simp (disch := first | omega | (simp only [lenB]; omega)) only [evB, Sz.cells, Sz.val, *]; rfl) (by simp (disch := first | omega | (simp only [lenB]; omega)) only [evB, Sz.cells, Sz.val, *]) (by simp (disch := first | omega | (simp only [lenB]; omega)) only [evB, Sz.cells, Sz.val, *]; rfl) ?_; (try simp only [ctlB])) | (refine aw_op rfl (by simp (disch := first | omega | (simp only [lenB]; omega)) only [evB, Sz.cells, Sz.val, *]; rfl) (by simp (disch := first | omega | (simp only [lenB]; omega)) only [evB, Sz.cells, Sz.val, *]) (by simp (disch := first | omega | (simp only [lenB]; omega)) only [evB, Sz.cells, Sz.val, *]; rfl) (by simp (disch := first | omega | (simp only [lenB]; omega)) only [evB, Sz.cells, Sz.val, *]; rfl) (by simp (disch := first | omega | (simp only [lenB]; omega)) only [evB, Sz.cells, Sz.val, *]; rfl) ?_; (try simp only [ctlB])))
      refine body_ret (by simp only [cf46]; simp (disch := first | omega | (simp only [lenB]; omega)) only [evB, Sz.cells, Sz.val, *]; rfl) ?_
      refine ⟨Ext.app _ _, i, rfl, ?_⟩
      rw [he]; simp [hmem, hi0]
    · have he : ¬ s = szAt i.toNat := by simpa using h
      clear h
      (try simp only [ctlB])
      repeat' (first | (refine aw_sets (by simp (disch := first | omega | (simp only [lenB]; omega)) only [evB, Sz.cells, Sz.val, *]; rfl) (by simp (disch := first | omega | (simp only [lenB]; omega)) only [evB, Sz.cells, Sz.val, *]) (by simp (disch := first | omega | (simp only [lenB]; omega)) only [evB, Sz.cells, Sz.val, *]; rfl) ?_; (try simp only [ctlB])) | (refine aw_op rfl (by simp (disch := first | omega | (simp only [lenB]; omega)) only [evB, Sz.cells, Sz.val, *]; rfl) (by simp (disch := first | omega | (simp only [lenB]; omega)) only [evB, Sz.cells, Sz.val, *]) (by simp (disch := first | omega | (simp only [lenB]; omega)) only [evB, Sz.cells, Sz.val, *]; rfl) (by simp (disch := first | omega | (simp only [lenB]; omega)) only [evB, Sz.cells, Sz.val, *]; rfl) (by simp (disch := first | omega | (simp only [lenB]; omega)) only [evB, Sz.cells, Sz.val, *]; rfl) ?_; (try simp only [ctlB])))
      simp only [loopQ_n]
      refine ⟨(30 - (i + 1)).toNat, by omega, i + 1, _, by omega, by omega, rfl, rfl, by trivial, ?_⟩
      rw [show (i + 1).toNat = i.toNat + 1 by omega, take_succ_sz (by omega)]
      intro hm
      rcases List.mem_append.1 hm with hm | hm
      · exact hno hm
      · simp at hm; exact he hm
  · obtain rfl : i = 30 := by simp at h; omega
    clear h
    (try simp only [ctlB])
    repeat' (first | (refine aw_sets (by simp (disch := first | omega | (simp only [lenB]; omega)) only [evB, Sz.cells, Sz.val, *]; rfl) (by simp (disch := first | omega | (simp only [lenB]; omega)) only [evB, Sz.cells, Sz.val, *]) (by simp (disch := first | omega | (simp only [lenB]; omega)) only [evB, Sz.cells, Sz.val, *]; rfl) ?_; (try simp only [ctlB])) | (refine aw_op rfl (by simp (disch := first | omega | (simp only [lenB]; omega)) only [evB, Sz.cells, Sz.val, *]; rfl) (by simp (disch := first | omega | (simp only [lenB]; omega)) only [evB, Sz.cells, Sz.val, *]) (by simp (disch := first | omega | (simp only [lenB]; omega)) only [evB, Sz.cells, Sz.val, *]; rfl) (by simp (disch := first | omega | (simp only [lenB]; omega)) only [evB, Sz.cells, Sz.val, *]; rfl) (by simp (disch := first | omega | (simp only [lenB]; omega)) only [evB, Sz.cells, Sz.val, *]; rfl) ?_; (try simp only [ctlB])))
    refine body_ret (by simp only [cf46]; simp (disch := first | omega | (simp only [lenB]; omega)) only [evB, Sz.cells, Sz.val, *]; rfl) ?_
    refine ⟨Ext.app _ _, -1, rfl, ?_⟩
    rw [List.take_of_length_le (by rw [szs_len]; omega)] at hno
    simp [hno]
theorem contains30 {lo : Nat} {H : Heap} {j : Nat} {s : Sz} (hg : H.get j = some szCells) : Ev cp lo 30 [.slice (some ⟨j, 0, none⟩) 30 30, s.val] H (fun v H' => Ext H H' ∧ v = .bool (decide (s ∈ szs))) := by
  have hj := Heap.get_lt hg
  refine st30 ?_; unfold bd30; (try simp only [ctlB])
  repeat' (first | (refine aw_sets (by simp (disch := first | omega | (simp only [lenB]; omega)) only [evB, Sz.cells, Sz.val, *]; rfl) (by simp (disch := first | omega | (simp only [lenB]; omega)) only [evB, Sz.cells, Sz.val, *]) (by simp (disch := first | omega | (simp only [lenB]; omega)) only [evB, Sz.cells, Sz.val, *]; rfl) ?_; (try simp only [ctlB])) | (refine aw_op rfl (by simp (disch := first | omega | (simp only [lenB]; omega)) only [evB, Sz.cells, Sz.val, *]; rfl) (by simp (disch := first | omega | (simp only [lenB]; omega)) only [evB, Sz.cells, Sz.val, *]) (by simp (disch := first | omega | (simp only [lenB]; omega)) only [evB, Sz.cells, Sz.val, *]; rfl) (by simp (disch := first | omega | (simp only [lenB]; omega)) only [evB, Sz.cells, Sz.val, *]; rfl) (by simp (disch := first | omega | (simp only [lenB]; omega)) only [evB, Sz.cells, Sz.val, *]; rfl) ?_; (try simp only [ctlB])))
  refine aw_hv (by simp (disch := first | omega | (simp only [lenB]; omega)) only [evB, Sz.cells, Sz.val, *]; rfl) (by simp (disch := first | omega | (simp only [lenB]; omega)) only [evB, Sz.cells, Sz.val, *]) (by simp (disch := first | omega | (simp only [lenB]; omega)) only [evB, Sz.cells, Sz.val, *]; rfl) ?_
  refine wpH_call0 (index46 (s := s) (j := j) (by simp (disch := first | omega | (simp only [lenB]; omega)) only [evB, Sz.cells, Sz.val, *])) ?_
  rintro v H1 ⟨hx, k, rfl, hk⟩
  (try simp only [ctlB])
  repeat' (first | (refine aw_sets (by simp (disch := first | omega | (simp only [lenB]; omega)) only [evB, Sz.cells, Sz.val, *]; rfl) (by simp (disch := first | omega | (simp only [lenB]; omega)) only [evB, Sz.cells, Sz.val, *]) (by simp (disch := first | omega | (simp only [lenB]; omega)) only [evB, Sz.cells, Sz.val, *]; rfl) ?_; (try simp only [ctlB])) | (refine aw_op rfl (by simp (disch := first | omega | (simp only [lenB]; omega)) only [evB, Sz.cells, Sz.val, *]; rfl) (by simp (disch := first | omega | (simp only [lenB]; omega)) only [evB, Sz.cells, Sz.val, *]) (by simp (disch := first | omega | (simp only [lenB]; omega)) only [evB, Sz.cells, Sz.val, *]; rfl) (by simp (disch := first | omega | (simp only [lenB]; omega)) only [evB, Sz.cells, Sz.val, *]; rfl) (by simp (disch := first | omega | (simp only [lenB]; omega)) only [evB, Sz.cells, Sz.val, *]; rfl) ?_; (try simp only [ctlB])))
  refine body_ret (by simp only [cf30]; simp (disch := first | omega | (simp only [lenB]; omega)) only [evB, Sz.cells, Sz.val, *]; rfl) ?_
  exact ⟨hx.of_app, by simp only [resultOf, hk]⟩

/-- a slice of integers that came in, or that was made -/
def Words (H : Heap) (v : Value) (ws : List Int) : Prop := (v = .slice none 0 0 ∧ ws = []) ∨ ∃ b cap xs, v = .slice (some ⟨b, 0, none⟩) ws.length cap ∧ H.get b = some (intL xs) ∧ (∀ i, i < ws.length → xs.getD i 0 = ws.getD i 0) ∧ ws.length ≤ xs.length
theorem Words.mono {H H' : Heap} {v : Value} {ws : List Int} (h : Words H v ws) (e : Ext H H') : Words H' v ws := by
  rcases h with h | ⟨b, cap, xs, h1, h2, h3⟩
  · exact .inl h
  · exact .inr ⟨b, cap, xs, h1, e.get h2, h3⟩
/- Place -/
def bitE (w n : Int) : Bool := decide (IntKind.i64.wrap ((BitVec.ofInt IntKind.i64.bits (w.fdiv (2 ^ (min (7 - n.tmod 8).toNat IntKind.i64.bits))) &&& BitVec.ofInt IntKind.i64.bits 1).toNat : Int) = 1)
def modBit (s : Sz) (o ws : List Int) (i : Nat) : Bool :=
  if locB s ((i : Int).tdiv s.c) ((i : Int).tmod s.c) = true then locD s ((i : Int).tdiv s.c) ((i : Int).tmod s.c)
  else if 0 ≤ o.getD (locI s ((i : Int).tdiv s.c) ((i : Int).tmod s.c)).toNat 0 then bitE (ws.getD ((o.getD (locI s ((i : Int).tdiv s.c) ((i : Int).tmod s.c)).toNat 0).tdiv 8).toNat 0) (o.getD (locI s ((i : Int).tdiv s.c) ((i : Int).tmod s.c)).toNat 0)
  else fixP (mapR s) (mapC s) (locI s ((i : Int).tdiv s.c) ((i : Int).tmod s.c))
def modBits (s : Sz) (o ws : List Int) (i : Nat) : List Bool := (List.range i).map (modBit s o ws)
/-- what is asked of a size -/
structure SizeOrd (s : Sz) (gf : G) : Prop where
  ord : ordP (mapR s) (mapC s) = some gf
  dim : Dim (mapR s) (mapC s)
  od : Ordered (mapR s * mapC s).toNat (s.d + s.k).toNat gf.cells
  loc : ∀ i : Nat, (i : Int) < s.r * s.c → locB s ((i : Int).tdiv s.c) ((i : Int).tmod s.c) = false → 0 ≤ locI s ((i : Int).tdiv s.c) ((i : Int).tmod s.c) ∧ locI s ((i : Int).tdiv s.c) ((i : Int).tmod s.c) < mapR s * mapC s
def badWord (ws : List Int) : Bool := ws.any fun w => decide (w < 0) || decide (255 < w)
theorem modBits_set {s : Sz} {o ws : List Int} {i n : Nat} {b : Bool} (hi : i < n) (hb : b = modBit s o ws i) : (modBits s o ws i ++ List.replicate (n - i) false).set i b = modBits s o ws (i + 1) ++ List.replicate (n - (i + 1)) false := by
  have hl : (modBits s o ws i).length = i := by simp [modBits]
  rw [List.set_append_right i b (by omega), hl, Nat.sub_self]
  obtain ⟨k, hk⟩ : ∃ k, n - i = k + 1 := ⟨n - i - 1, by omega⟩
  rw [hk, List.replicate_succ, List.set_cons_zero, show n - (i + 1) = k by omega, hb]
  simp [modBits, List.range_succ]
theorem any_take_succ {p : Int → Bool} {l : List Int} {i : Nat} (h : i < l.length) : (l.take (i + 1)).any p = ((l.take i).any p || p (l.getD i 0)) := by
  rw [List.take_add_one, List.getElem?_eq_getElem h, List.any_append, List.getD_eq_getElem?_getD, List.getElem?_eq_getElem h]
  simp
set_option maxHeartbeats 4000000 in
theorem place18 {lo : Nat} {H : Heap} {v : Value} {ws : List Int} {s : Sz} (hlo : lo ≤ H.length) (hw : Words H v ws) (hs : s ∈ szs → ∃ gf, SizeOrd s gf) :
    Ev cp lo 18 [v, s.val] H (fun r H' => Ext H H' ∧
      ((¬ s ∈ szs ∧ r = .tuple #[.agg #[.int .i64 0, .int .i64 0, .slice none 0 0], .int .i64 14]) ∨
       (s ∈ szs ∧ (ws.length : Int) ≠ s.d + s.k ∧ r = .tuple #[.agg #[.int .i64 0, .int .i64 0, .slice none 0 0], .int .i64 7]) ∨
       (s ∈ szs ∧ (ws.length : Int) = s.d + s.k ∧ badWord ws = true ∧ r = .tuple #[.agg #[.int .i64 0, .int .i64 0, .slice none 0 0], .int .i64 3]) ∨
       (s ∈ szs ∧ (ws.length : Int) = s.d + s.k ∧ badWord ws = false ∧ ∃ gf q, SizeOrd s gf ∧ H.length ≤ q ∧ r = .tuple #[.agg #[.int .i64 s.c, .int .i64 s.r, .slice (some ⟨q, 0, none⟩) (s.r * s.c).toNat (s.r * s.c).toNat], .int .i64 0] ∧ H'.get q = some (boolL (modBits s gf.cells ws (s.r * s.c).toNat))))) := by
  refine st18 ?_; unfold bd18; (try simp only [ctlB])
  repeat' (first | (refine aw_sets (by simp (disch := first | omega | (simp only [lenB]; omega)) only [evB, Sz.cells, Sz.val, *]; rfl) (by simp (disch := first | omega | (simp only [lenB]; omega)) only [evB, Sz.cells, Sz.val, *]) (by simp (disch := first | omega | (simp only [lenB]; omega)) only [evB, Sz.cells, Sz.val, *]; rfl) ?_; (try simp only [ctlB])) | (refine aw_op rfl (by simp (disch := first | omega | (simp only [lenB]; omega)) only [evB, Sz.cells, Sz.val, *]; rfl) (by simp (disch := first | omega | (simp only [lenB]; omega)) only [evB, Sz.cells, Sz.val, *]) (by simp (disch := first | omega | (simp only [lenB]; omega)) only [evB, Sz.cells, Sz.val, *]; rfl) (by simp (disch := first | omega | (simp only [lenB]; omega)) only [evB, Sz.cells, Sz.val, *]; rfl) (by simp (disch := first | omega | (simp only [lenB]; omega)) only [evB, Sz.cells, Sz.val, *]; rfl) ?_; (try simp only [ctlB])))
  refine aw_hv (by simp (disch := first | omega | (simp only [lenB]; omega)) only [evB, Sz.cells, Sz.val, *]; rfl) (by simp (disch := first | omega | (simp only [lenB]; omega)) only [evB, Sz.cells, Sz.val, *]) (by simp (disch := first | omega | (simp only [lenB]; omega)) only [evB, Sz.cells, Sz.val, *]; rfl) ?_
  refine wpH_call1 (sizes10 (Nat.le_refl _)) ?_
  rintro v1 H1 ⟨j, hj, rfl, hg, hE⟩
  have g0 : H1.get H.length = some _ := hE.get (by simp (disch := first | omega | (simp only [lenB]; omega)) only [evB, Sz.cells, Sz.val, *]; rfl)
  have g1 : H1.get (H.length + 1) = some _ := hE.get (by simp (disch := first | omega | (simp only [lenB]; omega)) only [evB, Sz.cells, Sz.val, *]; rfl)
  have hx1 := hE.of_app
  have hl1 := hE.1
  simp only [List.length_append, List.length_cons, List.length_nil] at hj hl1
  clear hE
  (try simp only [ctlB])
  refine aw_hv (by simp (disch := first | omega | (simp only [lenB]; omega)) only [evB, Sz.cells, Sz.val, *]; rfl) (by simp (disch := first | omega | (simp only [lenB]; omega)) only [evB, Sz.cells, Sz.val, *]) (by simp (disch := first | omega | (simp only [lenB]; omega)) only [evB, Sz.cells, Sz.val, *]; rfl) ?_
  refine wpH_call0 (contains30 (s := s) (j := j) hg) ?_
  rintro v2 H2 ⟨hx2, rfl⟩
  have g0 := hx2.get g0
  have g1 := hx2.get g1
  have hx2 := hx1.trans hx2
  have hl2 := Heap.get_lt g1
  clear hx1 hl1 hg
  (try simp only [ctlB])
  refine aw_cond (by simp (disch := first | omega | (simp only [lenB]; omega)) only [evB, Sz.cells, Sz.val, *]; rfl) (fun h => ?_) (fun h => ?_)
  · have hsm : ¬ s ∈ szs := by simpa using h
    clear h
    (try simp only [ctlB])
    repeat' (first | (refine aw_sets (by simp (disch := first | omega | (simp only [lenB]; omega)) only [evB, Sz.cells, Sz.val, *]; rfl) (by simp (disch := first | omega | (simp only [lenB]; omega)) only [evB, Sz.cells, Sz.val, *]) (by simp (disch := first | omega | (simp only [lenB]; omega)) only [evB, Sz.cells, Sz.val, *]; rfl) ?_; (try simp only [ctlB])) | (refine aw_op rfl (by simp (disch := first | omega | (simp only [lenB]; omega)) only [evB, Sz.cells, Sz.val, *]; rfl) (by simp (disch := first | omega | (simp only [lenB]; omega)) only [evB, Sz.cells, Sz.val, *]) (by simp (disch := first | omega | (simp only [lenB]; omega)) only [evB, Sz.cells, Sz.val, *]; rfl) (by simp (disch := first | omega | (simp only [lenB]; omega)) only [evB, Sz.cells, Sz.val, *]; rfl) (by simp (disch := first | omega | (simp only [lenB]; omega)) only [evB, Sz.cells, Sz.val, *]; rfl) ?_; (try simp only [ctlB])))
    refine body_ret (by simp only [cf18]; simp (disch := first | omega | (simp only [lenB]; omega)) only [evB, Sz.cells, Sz.val, *]; rfl) ?_
    exact ⟨hx2.set (by omega), .inl ⟨hsm, rfl⟩⟩
  have hsm : s ∈ szs := by simpa using h
  clear h
  obtain ⟨gf, hso⟩ := hs hsm
  have hok := szs_ok s hsm
  have hok' := hok
  obtain ⟨r0, r1, c0, c1, rr0, rr1, rc0, rc1, d0, d1, k0, k1⟩ := hok'
  (try simp only [ctlB])
  rcases hw with ⟨rfl, rfl⟩ | ⟨b, cap, xs, rfl, hb, hws, hwl⟩
  · refine aw_cond (by simp (disch := first | omega | (simp only [lenB]; omega)) only [evB, Sz.cells, Sz.val, *]; rfl) (fun h => ?_) (fun h => ?_)
    · clear h
      (try simp only [ctlB])
      repeat' (first | (refine aw_sets (by simp (disch := first | omega | (simp only [lenB]; omega)) only [evB, Sz.cells, Sz.val, *]; rfl) (by simp (disch := first | omega | (simp only [lenB]; omega)) only [evB, Sz.cells, Sz.val, *]) (by simp (disch := first | omega | (simp only [lenB]; omega)) only [evB, Sz.cells, Sz.val, *]; rfl) ?_; (try simp only [ctlB])) | (refine aw_op rfl (by simp (disch := first | omega | (simp only [lenB]; omega)) only [evB, Sz.cells, Sz.val, *]; rfl) (by simp (disch := first | omega | (simp only [lenB]; omega)) only [evB, Sz.cells, Sz.val, *]) (by simp (disch := first | omega | (simp only [lenB]; omega)) only [evB, Sz.cells, Sz.val, *]; rfl) (by simp (disch := first | omega | (simp only [lenB]; omega)) only [evB, Sz.cells, Sz.val, *]; rfl) (by simp (disch := first | omega | (simp only [lenB]; omega)) only [evB, Sz.cells, Sz.val, *]; rfl) ?_; (try simp only [ctlB])))
      refine body_ret (by simp only [cf18]; simp (disch := first | omega | (simp only [lenB]; omega)) only [evB, Sz.cells, Sz.val, *]; rfl) ?_
      exact ⟨hx2.set (by omega), .inr (.inl ⟨hsm, by simp; omega, rfl⟩)⟩
    · simp at h; omega
  have hbl := Heap.get_lt hb
  refine aw_cond (by simp (disch := first | omega | (simp only [lenB]; omega)) only [evB, Sz.cells, Sz.val, *]; rfl) (fun h => ?_) (fun h => ?_)
  · have hlen : ¬ (ws.length : Int) = s.d + s.k := by simpa using h
    clear h
    (try simp only [ctlB])
    repeat' (first | (refine aw_sets (by simp (disch := first | omega | (simp only [lenB]; omega)) only [evB, Sz.cells, Sz.val, *]; rfl) (by simp (disch := first | omega | (simp only [lenB]; omega)) only [evB, Sz.cells, Sz.val, *]) (by simp (disch := first | omega | (simp only [lenB]; omega)) only [evB, Sz.cells, Sz.val, *]; rfl) ?_; (try simp only [ctlB])) | (refine aw_op rfl (by simp (disch := first | omega | (simp only [lenB]; omega)) only [evB, Sz.cells, Sz.val, *]; rfl) (by simp (disch := first | omega | (simp only [lenB]; omega)) only [evB, Sz.cells, Sz.val, *]) (by simp (disch := first | omega | (simp only [lenB]; omega)) only [evB, Sz.cells, Sz.val, *]; rfl) (by simp (disch := first | omega | (simp only [lenB]; omega)) only [evB, Sz.cells, Sz.val, *]; rfl) (by simp (disch := first | omega | (simp only [lenB]; omega)) only [evB, Sz.cells, Sz.val, *]; rfl) ?_; (try simp only [ctlB])))
    refine body_ret (by simp only [cf18]; simp (disch := first | omega | (simp only [lenB]; omega)) only [evB, Sz.cells, Sz.val, *]; rfl) ?_
    exact ⟨hx2.set (by omega), .inr (.inl ⟨hsm, hlen, rfl⟩)⟩
  have hlen : (ws.length : Int) = s.d + s.k := by simpa using h
  clear h
  have hb2 := hx2.get hb
  have hsl : ws.length ≤ 3200 := by omega
  (try simp only [ctlB])
  repeat' (first | (refine aw_sets (by simp (disch := first | omega | (simp only [lenB]; omega)) only [evB, Sz.cells, Sz.val, *]; rfl) (by simp (disch := first | omega | (simp only [lenB]; omega)) only [evB, Sz.cells, Sz.val, *]) (by simp (disch := first | omega | (simp only [lenB]; omega)) only [evB, Sz.cells, Sz.val, *]; rfl) ?_; (try simp only [ctlB])) | (refine aw_op rfl (by simp (disch := first | omega | (simp only [lenB]; omega)) only [evB, Sz.cells, Sz.val, *]; rfl) (by simp (disch := first | omega | (simp only [lenB]; omega)) only [evB, Sz.cells, Sz.val, *]) (by simp (disch := first | omega | (simp only [lenB]; omega)) only [evB, Sz.cells, Sz.val, *]; rfl) (by simp (disch := first | omega | (simp only [lenB]; omega)) only [evB, Sz.cells, Sz.val, *]; rfl) (by simp (disch := first | omega | (simp only [lenB]; omega)) only [evB, Sz.cells, Sz.val, *]; rfl) ?_; (try simp only [ctlB])))
  refine aw_midXB (fun S' H' => ∃ x1 x5 x13 x14 x15 x18 : Value, badWord ws = false ∧ S' = [.slice (some ⟨b, 0, none⟩) ws.length cap, x1, .pointer (some ⟨H.length, 0, none⟩), .pointer (some ⟨H.length + 1, 0, none⟩), .int .i64 0, x5, undef, undef, undef, undef, undef, undef, undef, x13, x14, x15, .slice (some ⟨b, 0, none⟩) ws.length cap, .int .i64 (s.d + s.k), x18, undef, undef, undef, undef, undef, undef, undef, undef, undef, undef, undef, undef] ∧ H' = H2) ?_ ?_
  · refine aw_loop' (fun m S' H' => ∃ (x1 x5 x13 x14 x15 : Value) (i : Nat), i ≤ ws.length ∧ m = ws.length - i ∧ badWord (ws.take i) = false ∧ S' = [.slice (some ⟨b, 0, none⟩) ws.length cap, x1, .pointer (some ⟨H.length, 0, none⟩), .pointer (some ⟨H.length + 1, 0, none⟩), .int .i64 0, x5, undef, undef, undef, undef, undef, undef, undef, x13, x14, x15, .slice (some ⟨b, 0, none⟩) ws.length cap, .int .i64 (s.d + s.k), .int .i64 i, undef, undef, undef, undef, undef, undef, undef, undef, undef, undef, undef, undef] ∧ H' = H2) ws.length ?_ ?_
    · exact ⟨_, _, _, _, _, 0, by omega, by omega, by simp [badWord], rfl, rfl⟩
    rintro m S' H' ⟨x1, x5, x13, x14, x15, i, hi, rfl, hbw, rfl, rfl⟩
    (try simp only [ctlB])
    refine aw_cond (by simp (disch := first | omega | (simp only [lenB]; omega)) only [evB, Sz.cells, Sz.val, *]; rfl) (fun h => ?_) (fun h => ?_)
    · have hi2 : i < ws.length := by simp at h; omega
      clear h
      have hne : (i : Int) < ws.length := by omega
      (try simp only [ctlB])
      repeat' (first | (refine aw_sets (by simp (disch := first | omega | (simp only [lenB]; omega)) only [evB, Sz.cells, Sz.val, *]; rfl) (by simp (disch := first | omega | (simp only [lenB]; omega)) only [evB, Sz.cells, Sz.val, *]) (by simp (disch := first | omega | (simp only [lenB]; omega)) only [evB, Sz.cells, Sz.val, *]; rfl) ?_; (try simp only [ctlB])) | (refine aw_op rfl (by simp (disch := first | omega | (simp only [lenB]; omega)) only [evB, Sz.cells, Sz.val, *]; rfl) (by simp (disch := first | omega | (simp only [lenB]; omega)) only [evB, Sz.cells, Sz.val, *]) (by simp (disch := first | omega | (simp only [lenB]; omega)) only [evB, Sz.cells, Sz.val, *]; rfl) (by simp (disch := first | omega | (simp only [lenB]; omega)) only [evB, Sz.cells, Sz.val, *]; rfl) (by simp (disch := first | omega | (simp only [lenB]; omega)) only [evB, Sz.cells, Sz.val, *]; rfl) ?_; (try simp only [ctlB])))
      refine aw_cond (by simp (disch := first | omega | (simp only [lenB]; omega)) only [evB, Sz.cells, Sz.val, *]; rfl) (fun h => ?_) (fun h => ?_)
      · have hbad : badWord ws = true := by
          have := any_take_succ (p := fun w => decide (w < 0) || decide (255 < w)) hi2
          have h2 : (ws.take (i + 1)).any (fun w => decide (w < 0) || decide (255 < w)) = true := by rw [this, h]; simp
          unfold badWord
          obtain ⟨w, hw1, hw2⟩ := List.any_eq_true.1 h2
          exact List.any_eq_true.2 ⟨w, List.mem_of_mem_take hw1, hw2⟩
        clear h
        (try simp only [ctlB])
        repeat' (first | (refine aw_sets (by simp (disch := first | omega | (simp only [lenB]; omega)) only [evB, Sz.cells, Sz.val, *]; rfl) (by simp (disch := first | omega | (simp only [lenB]; omega)) only [evB, Sz.cells, Sz.val, *]) (by simp (disch := first | omega | (simp only [lenB]; omega)) only [evB, Sz.cells, Sz.val, *]; rfl) ?_; (try simp only [ctlB])) | (refine aw_op rfl (by simp (disch := first | omega | (simp only [lenB]; omega)) only [evB, Sz.cells, Sz.val, *]; rfl) (by simp (disch := first | omega | (simp only [lenB]; omega)) only [evB, Sz.cells, Sz.val, *]) (by simp (disch := first | omega | (simp only [lenB]; omega)) only [evB, Sz.cells, Sz.val, *]; rfl) (by simp (disch := first | omega | (simp only [lenB]; omega)) only [evB, Sz.cells, Sz.val, *]; rfl) (by simp (disch := first | omega | (simp only [lenB]; omega)) only [evB, Sz.cells, Sz.val, *]; rfl) ?_; (try simp only [ctlB])))
        refine body_ret (by simp only [cf18]; simp (disch := first | omega | (simp only [lenB]; omega)) only [evB, Sz.cells, Sz.val, *]; rfl) ?_
        exact ⟨hx2.set (by omega), .inr (.inr (.inl ⟨hsm, hlen, hbad, rfl⟩))⟩
      · (try simp only [ctlB])
        repeat' (first | (refine aw_sets (by simp (disch := first | omega | (simp only [lenB]; omega)) only [evB, Sz.cells, Sz.val, *]; rfl) (by simp (disch := first | omega | (simp only [lenB]; omega)) only [evB, Sz.cells, Sz.val, *]) (by simp (disch := first | omega | (simp only [lenB]; omega)) only [evB, Sz.cells, Sz.val, *]; rfl) ?_; (try simp only [ctlB])) | (refine aw_op rfl (by simp (disch := first | omega | (simp only [lenB]; omega)) only [evB, Sz.cells, Sz.val, *]; rfl) (by simp (disch := first | omega | (simp only [lenB]; omega)) only [evB, Sz.cells, Sz.val, *]) (by simp (disch := first | omega | (simp only [lenB]; omega)) only [evB, Sz.cells, Sz.val, *]; rfl) (by simp (disch := first | omega | (simp only [lenB]; omega)) only [evB, Sz.cells, Sz.val, *]; rfl) (by simp (disch := first | omega | (simp only [lenB]; omega)) only [evB, Sz.cells, Sz.val, *]; rfl) ?_; (try simp only [ctlB])))
        simp only [loopQ_n]
        refine ⟨ws.length - (i + 1), by omega, _, _, _, _, _, i + 1, by omega, rfl, ?_, by simp only [Int.natCast_add, Int.natCast_one]; rfl, by trivial⟩
        unfold badWord at hbw ⊢
        rw [any_take_succ hi2, hbw, h]; rfl
    · have hi2 : i = ws.length := by simp at h; omega
      clear h
      subst hi2
      rw [List.take_of_length_le (Nat.le_refl _)] at hbw
      (try simp only [ctlB])
      exact ⟨_, _, _, _, _, _, hbw, rfl, by trivial⟩
  rintro S' H' ⟨x1, x5, x13, x14, x15, x18, hbw, rfl, rfl⟩
  (try simp only [ctlB])
  refine aw_hv (by simp (disch := first | omega | (simp only [lenB]; omega)) only [evB, Sz.cells, Sz.val, *]; rfl) (by simp (disch := first | omega | (simp only [lenB]; omega)) only [evB, Sz.cells, Sz.val, *]) (by simp (disch := first | omega | (simp only [lenB]; omega)) only [evB, Sz.cells, Sz.val, *]; rfl) ?_
  refine wpH_call0 (mapping25 (s := s) hok) ?_
  rintro v H3 ⟨hx3, rfl⟩
  have g0 := hx3.get g0
  have g1 := hx3.get g1
  have hb3 := hx3.get hb2
  have hx3 := hx2.trans hx3
  (try simp only [ctlB])
  repeat' (first | (refine aw_sets (by simp (disch := first | omega | (simp only [lenB]; omega)) only [evB, Sz.cells, Sz.val, *]; rfl) (by simp (disch := first | omega | (simp only [lenB]; omega)) only [evB, Sz.cells, Sz.val, *]) (by simp (disch := first | omega | (simp only [lenB]; omega)) only [evB, Sz.cells, Sz.val, *]; rfl) ?_; (try simp only [ctlB])) | (refine aw_op rfl (by simp (disch := first | omega | (simp only [lenB]; omega)) only [evB, Sz.cells, Sz.val, *]; rfl) (by simp (disch := first | omega | (simp only [lenB]; omega)) only [evB, Sz.cells, Sz.val, *]) (by simp (disch := first | omega | (simp only [lenB]; omega)) only [evB, Sz.cells, Sz.val, *]; rfl) (by simp (disch := first | omega | (simp only [lenB]; omega)) only [evB, Sz.cells, Sz.val, *]; rfl) (by simp (disch := first | omega | (simp only [lenB]; omega)) only [evB, Sz.cells, Sz.val, *]; rfl) ?_; (try simp only [ctlB])))
  refine aw_hv (by simp (disch := first | omega | (simp only [lenB]; omega)) only [evB, Sz.cells, Sz.val, *]; rfl) (by simp (disch := first | omega | (simp only [lenB]; omega)) only [evB, Sz.cells, Sz.val, *]) (by simp (disch := first | omega | (simp only [lenB]; omega)) only [evB, Sz.cells, Sz.val, *]; rfl) ?_
  refine wpH_call0 (order26 hso.dim (by have := hx3.1; omega) hso.ord) ?_
  rintro v H4 ⟨hx4, q, hq, rfl, hgq⟩
  have g0 := hx4.get g0
  have g1 := hx4.get g1
  have hb4 := hx4.get hb3
  have hl4 := Heap.get_lt g1
  have hql := Heap.get_lt hgq
  have hl3 := hx3.1
  have hx4 := hx3.trans hx4
  have hm := mul_bd (a := s.r) (b := s.c) (A := 200) (B := 200) (by omega) (by omega) (by omega) (by omega) (by omega)
  have hm0 : 0 ≤ s.r * s.c := Int.mul_nonneg (by omega) (by omega)
  (try simp only [ctlB])
  repeat' (first | (refine aw_sets (by simp (disch := first | omega | (simp only [lenB]; omega)) only [evB, Sz.cells, Sz.val, *]; rfl) (by simp (disch := first | omega | (simp only [lenB]; omega)) only [evB, Sz.cells, Sz.val, *]) (by simp (disch := first | omega | (simp only [lenB]; omega)) only [evB, Sz.cells, Sz.val, *]; rfl) ?_; (try simp only [ctlB])) | (refine aw_op rfl (by simp (disch := first | omega | (simp only [lenB]; omega)) only [evB, Sz.cells, Sz.val, *]; rfl) (by simp (disch := first | omega | (simp only [lenB]; omega)) only [evB, Sz.cells, Sz.val, *]) (by simp (disch := first | omega | (simp only [lenB]; omega)) only [evB, Sz.cells, Sz.val, *]; rfl) (by simp (disch := first | omega | (simp only [lenB]; omega)) only [evB, Sz.cells, Sz.val, *]; rfl) (by simp (disch := first | omega | (simp only [lenB]; omega)) only [evB, Sz.cells, Sz.val, *]; rfl) ?_; (try simp only [ctlB])))
  have hgl : gf.cells.length ≤ (mapR s * mapC s).toNat ∧ (mapR s * mapC s).toNat ≤ gf.cells.length := by rw [hso.od.len]; omega
  have hmb := map_bd hok
  have hrc0 : 0 ≤ mapR s * mapC s := Int.mul_nonneg (by omega) (by omega)
  generalize hM : H4.length = M at *
  generalize hN : (s.r * s.c).toNat = N at *
  have hNi : (N : Int) ≤ s.r * s.c ∧ s.r * s.c ≤ N := by omega
  clear hN
  refine aw_loop' (fun m S' H' => ∃ (x1 x5 x13 x14 x15 x18 x19 x20 x21 x22 x23 x24 y10 y11 y12 y27 y28 y29 y30 : Value) (i : Nat), i ≤ N ∧ m = N - i ∧ S' = [.slice (some ⟨b, 0, none⟩) ws.length cap, x1, .pointer (some ⟨H.length, 0, none⟩), .pointer (some ⟨H.length + 1, 0, none⟩), .int .i64 0, x5, .int .i64 (mapR s), .int .i64 (mapC s), .slice (some ⟨q, 0, none⟩) gf.cells.length gf.cells.length, .pointer (some ⟨M + 1, 0, none⟩), y10, y11, y12, x13, x14, x15, .slice (some ⟨b, 0, none⟩) ws.length cap, .int .i64 (s.d + s.k), x18, x19, x20, x21, x22, x23, x24, .int .i64 N, .int .i64 i, y27, y28, y29, y30] ∧ Ext H H' ∧ M + 1 < H'.length ∧ H'.get H.length = some s.cells ∧ H'.get (H.length + 1) = some [.int .i64 0, .int .i64 0, .slice none 0 0] ∧ H'.get b = some (intL xs) ∧ H'.get q = some (intL gf.cells) ∧ H'.get (M + 1) = some [.int .i64 s.c, .int .i64 s.r, .slice (some ⟨M, 0, none⟩) N N] ∧ H'.get M = some (boolL (modBits s gf.cells ws i ++ List.replicate (N - i) false))) N ?_ ?_
  · refine ⟨_, _, _, _, _, _, _, _, _, _, _, _, _, _, _, _, _, _, _, 0, by omega, by omega, rfl, hx4.trans (Ext.app _ _), ?_, ?_, ?_, ?_, ?_, ?_, ?_⟩
    · simp; omega
    · rw [get_app_lt (by omega)]; exact g0
    · rw [get_app_lt (by omega)]; exact g1
    · rw [get_app_lt (by omega)]; exact hb4
    · rw [get_app_lt (by omega)]; exact hgq
    · rw [← hM]; exact get_appS
    · rw [← hM, get_app0]; simp [modBits]
  rintro m S' H5 ⟨x1, x5, x13, x14, x15, x18, x19, x20, x21, x22, x23, x24, y10, y11, y12, y27, y28, y29, y30, i, hi, rfl, rfl, hx5, hl5, f0, f1, fb, fq, fm1, fm⟩
  clear g0 g1 hb4 hgq hb3 hb2 hx2 hx3 hx4 hb
  (try simp only [ctlB])
  refine aw_cond (by simp (disch := first | omega | (simp only [lenB]; omega)) only [evB, Sz.cells, Sz.val, *]; rfl) (fun h => ?_) (fun h => ?_)
  · have hi2 : i < N := by simp at h; omega
    clear h
    have hiN : (i : Int) < s.r * s.c := by omega
    have tb := tdiv_bd (a := i) (b := s.c) (by omega) (by omega)
    have tm := tmod_bd (a := i) (m := s.c) (by omega) (by omega)
    have trow : (i : Int).tdiv s.c ≤ 200 := by
      have : (i : Int).tdiv s.c < s.r := by
        rw [Int.tdiv_eq_ediv_of_nonneg (by omega)]
        exact Int.ediv_lt_of_lt_mul (by omega) hiN
      omega
    have hloc := hso.loc i hiN
    have hset : ∀ {d : Bool}, d = modBit s gf.cells ws i → (modBits s gf.cells ws i ++ List.replicate (N - i) false).set i d = modBits s gf.cells ws (i + 1) ++ List.replicate (N - (i + 1)) false := fun h => modBits_set hi2 h
    have hml : (modBits s gf.cells ws i ++ List.replicate (N - i) false).length = N := by simp [modBits]; omega
    have hdef := modBit.eq_1 s gf.cells ws i
    generalize hrow : (i : Int).tdiv s.c = row at *
    generalize hcol : (i : Int).tmod s.c = col at *
    (try simp only [ctlB])
    repeat' (first | (refine aw_sets (by simp (disch := first | omega | (simp only [lenB]; omega)) only [evB, Sz.cells, Sz.val, *]; rfl) (by simp (disch := first | omega | (simp only [lenB]; omega)) only [evB, Sz.cells, Sz.val, *]) (by simp (disch := first | omega | (simp only [lenB]; omega)) only [evB, Sz.cells, Sz.val, *]; rfl) ?_; (try simp only [ctlB])) | (refine aw_op rfl (by simp (disch := first | omega | (simp only [lenB]; omega)) only [evB, Sz.cells, Sz.val, *]; rfl) (by simp (disch := first | omega | (simp only [lenB]; omega)) only [evB, Sz.cells, Sz.val, *]) (by simp (disch := first | omega | (simp only [lenB]; omega)) only [evB, Sz.cells, Sz.val, *]; rfl) (by simp (disch := first | omega | (simp only [lenB]; omega)) only [evB, Sz.cells, Sz.val, *]; rfl) (by simp (disch := first | omega | (simp only [lenB]; omega)) only [evB, Sz.cells, Sz.val, *]; rfl) ?_; (try simp only [ctlB])))
    refine aw_hv (by simp (disch := first | omega | (simp only [lenB]; omega)) only [evB, Sz.cells, Sz.val, *]; rfl) (by simp (disch := first | omega | (simp only [lenB]; omega)) only [evB, Sz.cells, Sz.val, *]) (by simp (disch := first | omega | (simp only [lenB]; omega)) only [evB, Sz.cells, Sz.val, *]; rfl) ?_
    refine wpH_call0 (locate31 (s := s) (row := row) (col := col) hok (by have := hx5.1; omega) (by omega) (by omega) (by omega) (by omega)) ?_
    rintro v H6 ⟨hx6, rfl⟩
    have f0 := hx6.get f0
    have f1 := hx6.get f1
    have fb := hx6.get fb
    have fq := hx6.get fq
    have fm1 := hx6.get fm1
    have fm := hx6.get fm
    have hl6 := Heap.get_lt fm1
    have hx6 := hx5.trans hx6
    have hl06 := hx6.1
    (try simp only [ctlB])
    repeat' (first | (refine aw_sets (by simp (disch := first | omega | (simp only [lenB]; omega)) only [evB, Sz.cells, Sz.val, *]; rfl) (by simp (disch := first | omega | (simp only [lenB]; omega)) only [evB, Sz.cells, Sz.val, *]) (by simp (disch := first | omega | (simp only [lenB]; omega)) only [evB, Sz.cells, Sz.val, *]; rfl) ?_; (try simp only [ctlB])) | (refine aw_op rfl (by simp (disch := first | omega | (simp only [lenB]; omega)) only [evB, Sz.cells, Sz.val, *]; rfl) (by simp (disch := first | omega | (simp only [lenB]; omega)) only [evB, Sz.cells, Sz.val, *]) (by simp (disch := first | omega | (simp only [lenB]; omega)) only [evB, Sz.cells, Sz.val, *]; rfl) (by simp (disch := first | omega | (simp only [lenB]; omega)) only [evB, Sz.cells, Sz.val, *]; rfl) (by simp (disch := first | omega | (simp only [lenB]; omega)) only [evB, Sz.cells, Sz.val, *]; rfl) ?_; (try simp only [ctlB])))
    have hMl := Heap.get_lt fm
    refine aw_cond (by simp (disch := first | omega | (simp only [lenB]; omega)) only [evB, Sz.cells, Sz.val, *]; rfl) (fun h => ?_) (fun h => ?_)
    · have hB := h
      clear hloc h
      (try simp only [ctlB])
      repeat' (first | (refine aw_sets (by simp (disch := first | omega | (simp only [lenB]; omega)) only [evB, Sz.cells, Sz.val, *]; rfl) (by simp (disch := first | omega | (simp only [lenB]; omega)) only [evB, Sz.cells, Sz.val, *]) (by simp (disch := first | omega | (simp only [lenB]; omega)) only [evB, Sz.cells, Sz.val, *]; rfl) ?_; (try simp only [ctlB])) | (refine aw_op rfl (by simp (disch := first | omega | (simp only [lenB]; omega)) only [evB, Sz.cells, Sz.val, *]; rfl) (by simp (disch := first | omega | (simp only [lenB]; omega)) only [evB, Sz.cells, Sz.val, *]) (by simp (disch := first | omega | (simp only [lenB]; omega)) only [evB, Sz.cells, Sz.val, *]; rfl) (by simp (disch := first | omega | (simp only [lenB]; omega)) only [evB, Sz.cells, Sz.val, *]; rfl) (by simp (disch := first | omega | (simp only [lenB]; omega)) only [evB, Sz.cells, Sz.val, *]; rfl) ?_; (try simp only [ctlB])))
      have hd : locD s row col = modBit s gf.cells ws i := by rw [hdef, if_pos hB]
      simp only [loopQ_n]
      refine ⟨N - (i + 1), by omega, _, _, _, _, _, _, _, _, _, _, _, _, _, _, _, _, _, _, _, i + 1, by omega, rfl, by simp only [Int.natCast_add, Int.natCast_one]; rfl, (hx6.set (by omega)).trans (Ext.app _ _), by simp; omega, by rw [get_app_lt (by simp; omega), get_set_ne (by omega)]; exact f0, by rw [get_app_lt (by simp; omega), get_set_ne (by omega)]; exact f1, by rw [get_app_lt (by simp; omega), get_set_ne (by omega)]; exact fb, by rw [get_app_lt (by simp; omega), get_set_ne (by omega)]; exact fq, by rw [get_app_lt (by simp; omega), get_set_ne (by omega)]; exact fm1, ?_⟩
      rw [get_app_lt (by simp; omega), get_set_self (by omega), hset hd]
    have hB := h
    have hloc := hloc hB
    clear h
    have hnb : ¬ locB s row col = true := by rw [hB]; simp
    rw [if_neg hnb] at hdef
    have hltI : (locI s row col).toNat < (mapR s * mapC s).toNat := by omega
    have hlt8 := hso.od.lt (locI s row col).toNat hltI
    have hgd : gf.cells.getD (locI s row col).toNat 0 = gf.cells.getD (locI s row col).toNat (-1) := by
      simp [List.getD_eq_getElem?_getD, List.getElem?_eq_getElem (show (locI s row col).toNat < gf.cells.length by omega)]
    rw [← hgd] at hlt8
    clear hgd
    have hnI : (locI s row col).toNat < gf.cells.length := by omega
    have hlocb : locI s row col ≤ 40000 * 40000 := by
      have := mul_bd (a := mapR s) (b := mapC s) (A := 40000) (B := 40000) (by omega) (by omega) (by omega) (by omega) (by omega)
      omega
    (try simp only [ctlB])
    repeat' (first | (refine aw_sets (by simp (disch := first | omega | (simp only [lenB]; omega)) only [evB, Sz.cells, Sz.val, *]; rfl) (by simp (disch := first | omega | (simp only [lenB]; omega)) only [evB, Sz.cells, Sz.val, *]) (by simp (disch := first | omega | (simp only [lenB]; omega)) only [evB, Sz.cells, Sz.val, *]; rfl) ?_; (try simp only [ctlB])) | (refine aw_op rfl (by simp (disch := first | omega | (simp only [lenB]; omega)) only [evB, Sz.cells, Sz.val, *]; rfl) (by simp (disch := first | omega | (simp only [lenB]; omega)) only [evB, Sz.cells, Sz.val, *]) (by simp (disch := first | omega | (simp only [lenB]; omega)) only [evB, Sz.cells, Sz.val, *]; rfl) (by simp (disch := first | omega | (simp only [lenB]; omega)) only [evB, Sz.cells, Sz.val, *]; rfl) (by simp (disch := first | omega | (simp only [lenB]; omega)) only [evB, Sz.cells, Sz.val, *]; rfl) ?_; (try simp only [ctlB])))
    generalize hn : gf.cells.getD (locI s row col).toNat 0 = n at *
    refine aw_cond (by simp (disch := first | omega | (simp only [lenB]; omega)) only [evB, Sz.cells, Sz.val, *]; rfl) (fun h => ?_) (fun h => ?_)
    · have hn0 : 0 ≤ n := by simpa using h
      clear h
      rw [if_pos hn0] at hdef
      have t8 := tdiv_bd (a := n) (b := 8) hn0 (by omega)
      have m8 := tmod_bd (a := n) (m := 8) hn0 (by omega)
      have q8 : n.tdiv 8 < ws.length := by
        rw [Int.tdiv_eq_ediv_of_nonneg hn0]
        omega
      have q8' : (n.tdiv 8).toNat < ws.length := by omega
      have hbe : ∀ w : Int, decide (IntKind.i64.wrap ((BitVec.ofInt IntKind.i64.bits (w.fdiv (2 ^ (min (7 - n.tmod 8).toNat IntKind.i64.bits))) &&& BitVec.ofInt IntKind.i64.bits 1).toNat : Int) = 1) = bitE w n := fun _ => rfl
      (try simp only [ctlB])
      repeat' (first | (refine aw_sets (by simp (disch := first | omega | (simp only [lenB]; omega)) only [evB, Sz.cells, Sz.val, *]; rfl) (by simp (disch := first | omega | (simp only [lenB]; omega)) only [evB, Sz.cells, Sz.val, *]) (by simp (disch := first | omega | (simp only [lenB]; omega)) only [evB, Sz.cells, Sz.val, *]; rfl) ?_; (try simp only [ctlB])) | (refine aw_op rfl (by simp (disch := first | omega | (simp only [lenB]; omega)) only [evB, Sz.cells, Sz.val, *]; rfl) (by simp (disch := first | omega | (simp only [lenB]; omega)) only [evB, Sz.cells, Sz.val, *]) (by simp (disch := first | omega | (simp only [lenB]; omega)) only [evB, Sz.cells, Sz.val, *]; rfl) (by simp (disch := first | omega | (simp only [lenB]; omega)) only [evB, Sz.cells, Sz.val, *]; rfl) (by simp (disch := first | omega | (simp only [lenB]; omega)) only [evB, Sz.cells, Sz.val, *]; rfl) ?_; (try simp only [ctlB])))
      have hd : bitE (ws.getD (n.tdiv 8).toNat 0) n = modBit s gf.cells ws i := hdef.symm
      simp only [loopQ_n]
      refine ⟨N - (i + 1), by omega, _, _, _, _, _, _, _, _, _, _, _, _, _, _, _, _, _, _, _, i + 1, by omega, rfl, by simp only [Int.natCast_add, Int.natCast_one]; rfl, (hx6.set (by omega)).trans (Ext.app _ _), by simp; omega, by rw [get_app_lt (by simp; omega), get_set_ne (by omega)]; exact f0, by rw [get_app_lt (by simp; omega), get_set_ne (by omega)]; exact f1, by rw [get_app_lt (by simp; omega), get_set_ne (by omega)]; exact fb, by rw [get_app_lt (by simp; omega), get_set_ne (by omega)]; exact fq, by rw [get_app_lt (by simp; omega), get_set_ne (by omega)]; exact fm1, ?_⟩
      rw [get_app_lt (by simp; omega), get_set_self (by omega), hset hd]
    · have hn0 : ¬ 0 ≤ n := by simpa using h
      clear h
      rw [if_neg hn0] at hdef
      (try simp only [ctlB])
      refine aw_hv (by simp (disch := first | omega | (simp only [lenB]; omega)) only [evB, Sz.cells, Sz.val, *]; rfl) (by simp (disch := first | omega | (simp only [lenB]; omega)) only [evB, Sz.cells, Sz.val, *]) (by simp (disch := first | omega | (simp only [lenB]; omega)) only [evB, Sz.cells, Sz.val, *]; rfl) ?_
      refine wpH_call1 (fixed32 (i := locI s row col) hso.dim (by omega) (by omega)) ?_
      rintro v H7 ⟨rfl, rfl⟩
      (try simp only [ctlB])
      repeat' (first | (refine aw_sets (by simp (disch := first | omega | (simp only [lenB]; omega)) only [evB, Sz.cells, Sz.val, *]; rfl) (by simp (disch := first | omega | (simp only [lenB]; omega)) only [evB, Sz.cells, Sz.val, *]) (by simp (disch := first | omega | (simp only [lenB]; omega)) only [evB, Sz.cells, Sz.val, *]; rfl) ?_; (try simp only [ctlB])) | (refine aw_op rfl (by simp (disch := first | omega | (simp only [lenB]; omega)) only [evB, Sz.cells, Sz.val, *]; rfl) (by simp (disch := first | omega | (simp only [lenB]; omega)) only [evB, Sz.cells, Sz.val, *]) (by simp (disch := first | omega | (simp only [lenB]; omega)) only [evB, Sz.cells, Sz.val, *]; rfl) (by simp (disch := first | omega | (simp only [lenB]; omega)) only [evB, Sz.cells, Sz.val, *]; rfl) (by simp (disch := first | omega | (simp only [lenB]; omega)) only [evB, Sz.cells, Sz.val, *]; rfl) ?_; (try simp only [ctlB])))
      have hd : fixP (mapR s) (mapC s) (locI s row col) = modBit s gf.cells ws i := hdef.symm
      simp only [loopQ_n]
      refine ⟨N - (i + 1), by omega, _, _, _, _, _, _, _, _, _, _, _, _, _, _, _, _, _, _, _, i + 1, by omega, rfl, by simp only [Int.natCast_add, Int.natCast_one]; rfl, (hx6.set (by omega)).trans (Ext.app _ _), by simp; omega, by rw [get_app_lt (by simp; omega), get_set_ne (by omega)]; exact f0, by rw [get_app_lt (by simp; omega), get_set_ne (by omega)]; exact f1, by rw [get_app_lt (by simp; omega), get_set_ne (by omega)]; exact fb, by rw [get_app_lt (by simp; omega), get_set_ne (by omega)]; exact fq, by rw [get_app_lt (by simp; omega), get_set_ne (by omega)]; exact fm1, ?_⟩
      rw [get_app_lt (by simp; omega), get_set_self (by omega), hset hd]
  · have hi2 : i = N := by simp at h; omega
    clear h
    subst hi2
    have hMl := Heap.get_lt fm
    (try simp only [ctlB])
    repeat' (first | (refine aw_sets (by simp (disch := first | omega | (simp only [lenB]; omega)) only [evB, Sz.cells, Sz.val, *]; rfl) (by simp (disch := first | omega | (simp only [lenB]; omega)) only [evB, Sz.cells, Sz.val, *]) (by simp (disch := first | omega | (simp only [lenB]; omega)) only [evB, Sz.cells, Sz.val, *]; rfl) ?_; (try simp only [ctlB])) | (refine aw_op rfl (by simp (disch := first | omega | (simp only [lenB]; omega)) only [evB, Sz.cells, Sz.val, *]; rfl) (by simp (disch := first | omega | (simp only [lenB]; omega)) only [evB, Sz.cells, Sz.val, *]) (by simp (disch := first | omega | (simp only [lenB]; omega)) only [evB, Sz.cells, Sz.val, *]; rfl) (by simp (disch := first | omega | (simp only [lenB]; omega)) only [evB, Sz.cells, Sz.val, *]; rfl) (by simp (disch := first | omega | (simp only [lenB]; omega)) only [evB, Sz.cells, Sz.val, *]; rfl) ?_; (try simp only [ctlB])))
    refine body_ret (by simp only [cf18]; simp (disch := first | omega | (simp only [lenB]; omega)) only [evB, Sz.cells, Sz.val, *]; rfl) ?_
    refine ⟨hx5.set (by omega), .inr (.inr (.inr ⟨hsm, hlen, hbw, gf, M, hso, by omega, rfl, ?_⟩))⟩
    rw [get_set_ne (by omega), fm]; simp
end Go.Proofs.Ytobfjbominbkmaa
