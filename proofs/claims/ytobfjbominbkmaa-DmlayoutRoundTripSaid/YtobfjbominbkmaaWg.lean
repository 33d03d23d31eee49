/-
  Mapping, Order and Place of the code: what they answer.
-/
import Derived.Test.YtobfjbominbkmaaWe
namespace Go.Proofs.Ytobfjbominbkmaa
open Go.Abs
set_option linter.unusedSimpArgs false
def mapR (s : Sz) : Int := s.r.tdiv (s.rr + 2) * s.rr
def mapC (s : Sz) : Int := s.c.tdiv (s.rc + 2) * s.rc
structure SzOK (s : Sz) : Prop where
  r0 : 8 ≤ s.r
  r1 : s.r ≤ 200
  c0 : 8 ≤ s.c
  c1 : s.c ≤ 200
  rr0 : 6 ≤ s.rr
  rr1 : s.rr ≤ 200
  rc0 : 6 ≤ s.rc
  rc1 : s.rc ≤ 200
  d0 : 1 ≤ s.d
  d1 : s.d ≤ 1600
  k0 : 1 ≤ s.k
  k1 : s.k ≤ 1600
def szOKb (s : Sz) : Bool := decide (8 ≤ s.r) && decide (s.r ≤ 200) && decide (8 ≤ s.c) && decide (s.c ≤ 200) && decide (6 ≤ s.rr) && decide (s.rr ≤ 200) && decide (6 ≤ s.rc) && decide (s.rc ≤ 200) && decide (1 ≤ s.d) && decide (s.d ≤ 1600) && decide (1 ≤ s.k) && decide (s.k ≤ 1600)
theorem szok_of {s : Sz} (h : szOKb s = true) : SzOK s := by
  simp only [szOKb, Bool.and_eq_true, decide_eq_true_eq] at h
  obtain ⟨⟨⟨⟨⟨⟨⟨⟨⟨⟨⟨a, b⟩, c⟩, d⟩, e⟩, f⟩, g⟩, i⟩, j⟩, k⟩, l⟩, m⟩ := h
  exact ⟨a, b, c, d, e, f, g, i, j, k, l, m⟩
theorem szs_ok : ∀ s ∈ szs, SzOK s := fun s hs => szok_of (List.all_eq_true.1 (show szs.all szOKb = true by kernel_rfl) s hs)
theorem szAt_mem {i : Nat} (h : i < 30) : szAt i ∈ szs := by
  unfold szAt
  rw [List.getD_eq_getElem?_getD, List.getElem?_eq_getElem (by rw [szs_len]; exact h)]
  exact List.getElem_mem _
theorem tdiv_bd {a b : Int} (h : 0 ≤ a) (hb : 0 < b) : 0 ≤ a.tdiv b ∧ a.tdiv b ≤ a := ⟨Int.tdiv_nonneg h (by omega), Int.tdiv_le_self b h⟩
theorem map_bd {s : Sz} (h : SzOK s) : 0 ≤ mapR s ∧ mapR s ≤ 40000 ∧ 0 ≤ mapC s ∧ mapC s ≤ 40000 ∧ 0 ≤ s.r.tdiv (s.rr + 2) ∧ s.r.tdiv (s.rr + 2) ≤ 200 ∧ 0 ≤ s.c.tdiv (s.rc + 2) ∧ s.c.tdiv (s.rc + 2) ≤ 200 := by
  obtain ⟨r0, r1, c0, c1, rr0, rr1, rc0, rc1, _⟩ := h
  have d1 := tdiv_bd (a := s.r) (b := s.rr + 2) (by omega) (by omega)
  have d2 := tdiv_bd (a := s.c) (b := s.rc + 2) (by omega) (by omega)
  have m1 := mul_bd (a := s.r.tdiv (s.rr + 2)) (b := s.rr) (A := 200) (B := 200) (by omega) (by omega) (by omega) (by omega) (by omega)
  have m2 := mul_bd (a := s.c.tdiv (s.rc + 2)) (b := s.rc) (A := 200) (B := 200) (by omega) (by omega) (by omega) (by omega) (by omega)
  have n1 : 0 ≤ s.r.tdiv (s.rr + 2) * s.rr := Int.mul_nonneg d1.1 (by omega)
  have n2 : 0 ≤ s.c.tdiv (s.rc + 2) * s.rc := Int.mul_nonneg d2.1 (by omega)
  unfold mapR mapC
  omega
theorem mapping25 {lo : Nat} {H : Heap} {s : Sz} (hs : SzOK s) : Ev cp lo 25 [s.val] H (fun v H' => Ext H H' ∧ v = .tuple #[.int .i64 (mapR s), .int .i64 (mapC s)]) := by
  have hb := map_bd hs
  obtain ⟨r0, r1, c0, c1, rr0, rr1, rc0, rc1, _⟩ := hs
  unfold mapR mapC at hb
  refine st25 ?_; unfold bd25; (try simp only [ctlB])
  repeat' (first | (refine aw_sets (by simp (disch := first | omega | (simp only [lenB]; omega)) only [evB, Sz.cells, Sz.val, *]; rfl) (by simp (disch := first | omega | (simp only [lenB]; omega)) only [evB, Sz.cells, Sz.val, *]) (by simp (disch := first | omega | (simp only [lenB]; omega)) only [evB, Sz.cells, Sz.val, *]; rfl) ?_; (try simp only [ctlB])) | (refine aw_op rfl (by simp (disch := first | omega | (simp only [lenB]; omega)) only [evB, Sz.cells, Sz.val, *]; rfl) (by simp (disch := first | omega | (simp only [lenB]; omega)) only [evB, Sz.cells, Sz.val, *]) (by simp (disch := first | omega | (simp only [lenB]; omega)) only [evB, Sz.cells, Sz.val, *]; rfl) (by simp (disch := first | omega | (simp only [lenB]; omega)) only [evB, Sz.cells, Sz.val, *]; rfl) (by simp (disch := first | omega | (simp only [lenB]; omega)) only [evB, Sz.cells, Sz.val, *]; rfl) ?_; (try simp only [ctlB])))
  refine body_ret (by simp only [cf25]; simp (disch := first | omega | (simp only [lenB]; omega)) only [evB, Sz.cells, Sz.val, *]; rfl) ?_
  exact ⟨Ext.app _ _, rfl⟩

/- Order -/
def isMap (R C : Int) : Prop := ∃ s ∈ szs, mapR s = R ∧ mapC s = C
def hasMap (R C : Int) (i : Nat) : Prop := ∃ s ∈ szs.take i, mapR s = R ∧ mapC s = C
theorem order15 {lo : Nat} {H : Heap} {R C : Int} (hlo : lo ≤ H.length) (h : isMap R C → Dim R C ∧ ∃ gf, ordP R C = some gf) :
    Ev cp lo 15 [.int .i64 R, .int .i64 C] H (fun v H' => Ext H H' ∧ ((isMap R C ∧ ∃ gf q, ordP R C = some gf ∧ H.length ≤ q ∧ v = .tuple #[.slice (some ⟨q, 0, none⟩) gf.cells.length gf.cells.length, .int .i64 0] ∧ H'.get q = some (intL gf.cells)) ∨ (¬ isMap R C ∧ v = .tuple #[.slice none 0 0, .int .i64 14]))) := by
  have hmain := h
  clear h
  refine st15 ?_; unfold bd15; (try simp only [ctlB])
  repeat' (first | (refine aw_sets (by simp (disch := first | omega | (simp only [lenB]; omega)) only [evB, Sz.cells, Sz.val, *]; rfl) (by simp (disch := first | omega | (simp only [lenB]; omega)) only [evB, Sz.cells, Sz.val, *]) (by simp (disch := first | omega | (simp only [lenB]; omega)) only [evB, Sz.cells, Sz.val, *]; rfl) ?_; (try simp only [ctlB])) | (refine aw_op rfl (by simp (disch := first | omega | (simp only [lenB]; omega)) only [evB, Sz.cells, Sz.val, *]; rfl) (by simp (disch := first | omega | (simp only [lenB]; omega)) only [evB, Sz.cells, Sz.val, *]) (by simp (disch := first | omega | (simp only [lenB]; omega)) only [evB, Sz.cells, Sz.val, *]; rfl) (by simp (disch := first | omega | (simp only [lenB]; omega)) only [evB, Sz.cells, Sz.val, *]; rfl) (by simp (disch := first | omega | (simp only [lenB]; omega)) only [evB, Sz.cells, Sz.val, *]; rfl) ?_; (try simp only [ctlB])))
  refine aw_hv (by simp (disch := first | omega | (simp only [lenB]; omega)) only [evB, Sz.cells, Sz.val, *]; rfl) (by simp (disch := first | omega | (simp only [lenB]; omega)) only [evB, Sz.cells, Sz.val, *]) (by simp (disch := first | omega | (simp only [lenB]; omega)) only [evB, Sz.cells, Sz.val, *]; rfl) ?_
  refine wpH_call0 (sizes10 hlo) ?_
  rintro v H1 ⟨j, hj, rfl, hg, hE⟩
  have hl := hE.1
  (try simp only [ctlB])
  repeat' (first | (refine aw_sets (by simp (disch := first | omega | (simp only [lenB]; omega)) only [evB, Sz.cells, Sz.val, *]; rfl) (by simp (disch := first | omega | (simp only [lenB]; omega)) only [evB, Sz.cells, Sz.val, *]) (by simp (disch := first | omega | (simp only [lenB]; omega)) only [evB, Sz.cells, Sz.val, *]; rfl) ?_; (try simp only [ctlB])) | (refine aw_op rfl (by simp (disch := first | omega | (simp only [lenB]; omega)) only [evB, Sz.cells, Sz.val, *]; rfl) (by simp (disch := first | omega | (simp only [lenB]; omega)) only [evB, Sz.cells, Sz.val, *]) (by simp (disch := first | omega | (simp only [lenB]; omega)) only [evB, Sz.cells, Sz.val, *]; rfl) (by simp (disch := first | omega | (simp only [lenB]; omega)) only [evB, Sz.cells, Sz.val, *]; rfl) (by simp (disch := first | omega | (simp only [lenB]; omega)) only [evB, Sz.cells, Sz.val, *]; rfl) ?_; (try simp only [ctlB])))
  refine aw_loop' (fun m S H' => ∃ (i : Int) (x4 x5 x6 x10 x11 x12 : Value), 0 ≤ i ∧ i ≤ 30 ∧ m = (30 - i).toNat ∧ S = [.int .i64 R, .int .i64 C, .slice none 0 0, .int .i64 0, x4, x5, x6, .slice (some ⟨j, 0, none⟩) 30 30, .int .i64 30, .int .i64 i, x10, x11, x12] ∧ Ext H H' ∧ H'.get j = some szCells ∧ ¬ hasMap R C i.toNat) 30 ?_ ?_
  · exact ⟨0, _, _, _, _, _, _, by omega, by omega, by omega, rfl, hE, hg, by rintro ⟨s, hs, _⟩; simp at hs⟩
  rintro m S H2 ⟨i, x4, x5, x6, x10, x11, x12, hi0, hi1, rfl, rfl, hx2, hg2, hno⟩
  have hj2 := Heap.get_lt hg2
  have hl2 := hx2.1
  (try simp only [ctlB])
  refine aw_cond (by simp (disch := first | omega | (simp only [lenB]; omega)) only [evB, Sz.cells, Sz.val, *]; rfl) (fun h => ?_) (fun h => ?_)
  · have hi : i < 30 := by simpa using h
    clear h
    have hrow := szCells_at (i := i.toNat) (by omega)
    have hlen := szCells_len
    have hok := szs_ok _ (szAt_mem (i := i.toNat) (by omega))
    (try simp only [ctlB])
    repeat' (first | (refine aw_sets (by simp (disch := first | omega | (simp only [lenB]; omega)) only [evB, Sz.cells, Sz.val, *]; rfl) (by simp (disch := first | omega | (simp only [lenB]; omega)) only [evB, Sz.cells, Sz.val, *]) (by simp (disch := first | omega | (simp only [lenB]; omega)) only [evB, Sz.cells, Sz.val, *]; rfl) ?_; (try simp only [ctlB])) | (refine aw_op rfl (by simp (disch := first | omega | (simp only [lenB]; omega)) only [evB, Sz.cells, Sz.val, *]; rfl) (by simp (disch := first | omega | (simp only [lenB]; omega)) only [evB, Sz.cells, Sz.val, *]) (by simp (disch := first | omega | (simp only [lenB]; omega)) only [evB, Sz.cells, Sz.val, *]; rfl) (by simp (disch := first | omega | (simp only [lenB]; omega)) only [evB, Sz.cells, Sz.val, *]; rfl) (by simp (disch := first | omega | (simp only [lenB]; omega)) only [evB, Sz.cells, Sz.val, *]; rfl) ?_; (try simp only [ctlB])))
    refine aw_hv (by simp (disch := first | omega | (simp only [lenB]; omega)) only [evB, Sz.cells, Sz.val, *]; rfl) (by simp (disch := first | omega | (simp only [lenB]; omega)) only [evB, Sz.cells, Sz.val, *]) (by simp (disch := first | omega | (simp only [lenB]; omega)) only [evB, Sz.cells, Sz.val, *]; rfl) ?_
    refine wpH_call0 (mapping25 (s := szAt i.toNat) hok) ?_
    rintro v H3 ⟨hx3, rfl⟩
    have hg3 : H3.get j = some szCells := hx3.of_app.get hg2
    have hl3 := hx3.1
    simp only [List.length_append, List.length_cons, List.length_nil] at hl3
    (try simp only [ctlB])
    repeat' (first | (refine aw_sets (by simp (disch := first | omega | (simp only [lenB]; omega)) only [evB, Sz.cells, Sz.val, *]; rfl) (by simp (disch := first | omega | (simp only [lenB]; omega)) only [evB, Sz.cells, Sz.val, *]) (by simp (disch := first | omega | (simp only [lenB]; omega)) only [evB, Sz.cells, Sz.val, *]; rfl) ?_; (try simp only [ctlB])) | (refine aw_op rfl (by simp (disch := first | omega | (simp only [lenB]; omega)) only [evB, Sz.cells, Sz.val, *]; rfl) (by simp (disch := first | omega | (simp only [lenB]; omega)) only [evB, Sz.cells, Sz.val, *]) (by simp (disch := first | omega | (simp only [lenB]; omega)) only [evB, Sz.cells, Sz.val, *]; rfl) (by simp (disch := first | omega | (simp only [lenB]; omega)) only [evB, Sz.cells, Sz.val, *]; rfl) (by simp (disch := first | omega | (simp only [lenB]; omega)) only [evB, Sz.cells, Sz.val, *]; rfl) ?_; (try simp only [ctlB])))
    refine aw_cond (by simp (disch := first | omega | (simp only [lenB]; omega)) only [evB, Sz.cells, Sz.val, *]; rfl) (fun h => ?_) (fun h => ?_)
    · simp only [Bool.and_eq_true, decide_eq_true_eq] at h
      have him : isMap R C := ⟨_, szAt_mem (i := i.toNat) (by omega), h⟩
      obtain ⟨hd, gf, hgf⟩ := hmain him
      (try simp only [ctlB])
      refine aw_hv (by simp (disch := first | omega | (simp only [lenB]; omega)) only [evB, Sz.cells, Sz.val, *]; rfl) (by simp (disch := first | omega | (simp only [lenB]; omega)) only [evB, Sz.cells, Sz.val, *]) (by simp (disch := first | omega | (simp only [lenB]; omega)) only [evB, Sz.cells, Sz.val, *]; rfl) ?_
      refine wpH_call0 (order26 hd (by omega) hgf) ?_
      rintro v H4 ⟨hx4, q, hq, rfl, hgq⟩
      (try simp only [ctlB])
      repeat' (first | (refine aw_sets (by simp (disch := first | omega | (simp only [lenB]; omega)) only [evB, Sz.cells, Sz.val, *]; rfl) (by simp (disch := first | omega | (simp only [lenB]; omega)) only [evB, Sz.cells, Sz.val, *]) (by simp (disch := first | omega | (simp only [lenB]; omega)) only [evB, Sz.cells, Sz.val, *]; rfl) ?_; (try simp only [ctlB])) | (refine aw_op rfl (by simp (disch := first | omega | (simp only [lenB]; omega)) only [evB, Sz.cells, Sz.val, *]; rfl) (by simp (disch := first | omega | (simp only [lenB]; omega)) only [evB, Sz.cells, Sz.val, *]) (by simp (disch := first | omega | (simp only [lenB]; omega)) only [evB, Sz.cells, Sz.val, *]; rfl) (by simp (disch := first | omega | (simp only [lenB]; omega)) only [evB, Sz.cells, Sz.val, *]; rfl) (by simp (disch := first | omega | (simp only [lenB]; omega)) only [evB, Sz.cells, Sz.val, *]; rfl) ?_; (try simp only [ctlB])))
      refine body_ret (by simp only [cf15]; simp (disch := first | omega | (simp only [lenB]; omega)) only [evB, Sz.cells, Sz.val, *]; rfl) ?_
      exact ⟨(hx2.trans hx3.of_app).trans hx4, .inl ⟨him, gf, q, hgf, by omega, rfl, hgq⟩⟩
    · (try simp only [ctlB])
      repeat' (first | (refine aw_sets (by simp (disch := first | omega | (simp only [lenB]; omega)) only [evB, Sz.cells, Sz.val, *]; rfl) (by simp (disch := first | omega | (simp only [lenB]; omega)) only [evB, Sz.cells, Sz.val, *]) (by simp (disch := first | omega | (simp only [lenB]; omega)) only [evB, Sz.cells, Sz.val, *]; rfl) ?_; (try simp only [ctlB])) | (refine aw_op rfl (by simp (disch := first | omega | (simp only [lenB]; omega)) only [evB, Sz.cells, Sz.val, *]; rfl) (by simp (disch := first | omega | (simp only [lenB]; omega)) only [evB, Sz.cells, Sz.val, *]) (by simp (disch := first | omega | (simp only [lenB]; omega)) only [evB, Sz.cells, Sz.val, *]; rfl) (by simp (disch := first | omega | (simp only [lenB]; omega)) only [evB, Sz.cells, Sz.val, *]; rfl) (by simp (disch := first | omega | (simp only [lenB]; omega)) only [evB, Sz.cells, Sz.val, *]; rfl) ?_; (try simp only [ctlB])))
      simp only [loopQ_n]
      refine ⟨(30 - (i + 1)).toNat, by omega, i + 1, _, _, _, _, _, _, by omega, by omega, rfl, rfl, hx2.trans hx3.of_app, hg3, ?_⟩
      rintro ⟨s, hs, hm⟩
      rw [show (i + 1).toNat = i.toNat + 1 by omega, take_succ_sz (by omega)] at hs
      rcases List.mem_append.1 hs with hs | hs
      · exact hno ⟨s, hs, hm⟩
      · simp at hs
        subst hs
        simp [hm] at h
  · obtain rfl : i = 30 := by simp at h; omega
    (try simp only [ctlB])
    repeat' (first | (refine aw_sets (by simp (disch := first | omega | (simp only [lenB]; omega)) only [evB, Sz.cells, Sz.val, *]; rfl) (by simp (disch := first | omega | (simp only [lenB]; omega)) only [evB, Sz.cells, Sz.val, *]) (by simp (disch := first | omega | (simp only [lenB]; omega)) only [evB, Sz.cells, Sz.val, *]; rfl) ?_; (try simp only [ctlB])) | (refine aw_op rfl (by simp (disch := first | omega | (simp only [lenB]; omega)) only [evB, Sz.cells, Sz.val, *]; rfl) (by simp (disch := first | omega | (simp only [lenB]; omega)) only [evB, Sz.cells, Sz.val, *]) (by simp (disch := first | omega | (simp only [lenB]; omega)) only [evB, Sz.cells, Sz.val, *]; rfl) (by simp (disch := first | omega | (simp only [lenB]; omega)) only [evB, Sz.cells, Sz.val, *]; rfl) (by simp (disch := first | omega | (simp only [lenB]; omega)) only [evB, Sz.cells, Sz.val, *]; rfl) ?_; (try simp only [ctlB])))
    refine body_ret (by simp only [cf15]; simp (disch := first | omega | (simp only [lenB]; omega)) only [evB, Sz.cells, Sz.val, *]; rfl) ?_
    refine ⟨hx2, .inr ⟨?_, rfl⟩⟩
    rintro ⟨s, hs, hm⟩
    exact hno ⟨s, by rw [List.take_of_length_le (by rw [szs_len]; omega)]; exact hs, hm⟩
end Go.Proofs.Ytobfjbominbkmaa
