/-
  Every size has its order; Order and Mapping of the reference.
-/
import Derived.Test.YtobfjbominbkmaaWi
import Derived.Test.YtobfjbominbkmaaWk
import Derived.Test.YtobfjbominbkmaaO0
import Derived.Test.YtobfjbominbkmaaO1
import Derived.Test.YtobfjbominbkmaaO2
import Derived.Test.YtobfjbominbkmaaO3
namespace Go.Proofs.Ytobfjbominbkmaa
open Go.Abs
set_option linter.unusedSimpArgs false
theorem so_0 : ∃ gf, SizeOrd (szAt 0) gf := sizeOrd_of (szAt_mem (by omega)) (R := 8) (C := 8) (w := 8) rfl rfl rfl (by omega) o8x8
theorem so_1 : ∃ gf, SizeOrd (szAt 1) gf := sizeOrd_of (szAt_mem (by omega)) (R := 10) (C := 10) (w := 12) rfl rfl rfl (by omega) o10x10
theorem so_2 : ∃ gf, SizeOrd (szAt 2) gf := sizeOrd_of (szAt_mem (by omega)) (R := 12) (C := 12) (w := 18) rfl rfl rfl (by omega) o12x12
theorem so_3 : ∃ gf, SizeOrd (szAt 3) gf := sizeOrd_of (szAt_mem (by omega)) (R := 14) (C := 14) (w := 24) rfl rfl rfl (by omega) o14x14
theorem so_4 : ∃ gf, SizeOrd (szAt 4) gf := sizeOrd_of (szAt_mem (by omega)) (R := 16) (C := 16) (w := 32) rfl rfl rfl (by omega) o16x16
theorem so_5 : ∃ gf, SizeOrd (szAt 5) gf := sizeOrd_of (szAt_mem (by omega)) (R := 18) (C := 18) (w := 40) rfl rfl rfl (by omega) o18x18
theorem so_6 : ∃ gf, SizeOrd (szAt 6) gf := sizeOrd_of (szAt_mem (by omega)) (R := 20) (C := 20) (w := 50) rfl rfl rfl (by omega) o20x20
theorem so_7 : ∃ gf, SizeOrd (szAt 7) gf := sizeOrd_of (szAt_mem (by omega)) (R := 22) (C := 22) (w := 60) rfl rfl rfl (by omega) o22x22
theorem so_8 : ∃ gf, SizeOrd (szAt 8) gf := sizeOrd_of (szAt_mem (by omega)) (R := 24) (C := 24) (w := 72) rfl rfl rfl (by omega) o24x24
theorem so_9 : ∃ gf, SizeOrd (szAt 9) gf := sizeOrd_of (szAt_mem (by omega)) (R := 28) (C := 28) (w := 98) rfl rfl rfl (by omega) o28x28
theorem so_10 : ∃ gf, SizeOrd (szAt 10) gf := sizeOrd_of (szAt_mem (by omega)) (R := 32) (C := 32) (w := 128) rfl rfl rfl (by omega) o32x32
theorem so_11 : ∃ gf, SizeOrd (szAt 11) gf := sizeOrd_of (szAt_mem (by omega)) (R := 36) (C := 36) (w := 162) rfl rfl rfl (by omega) o36x36
theorem so_12 : ∃ gf, SizeOrd (szAt 12) gf := sizeOrd_of (szAt_mem (by omega)) (R := 40) (C := 40) (w := 200) rfl rfl rfl (by omega) o40x40
theorem so_13 : ∃ gf, SizeOrd (szAt 13) gf := sizeOrd_of (szAt_mem (by omega)) (R := 44) (C := 44) (w := 242) rfl rfl rfl (by omega) o44x44
theorem so_14 : ∃ gf, SizeOrd (szAt 14) gf := sizeOrd_of (szAt_mem (by omega)) (R := 48) (C := 48) (w := 288) rfl rfl rfl (by omega) o48x48
theorem so_15 : ∃ gf, SizeOrd (szAt 15) gf := sizeOrd_of (szAt_mem (by omega)) (R := 56) (C := 56) (w := 392) rfl rfl rfl (by omega) o56x56
theorem so_16 : ∃ gf, SizeOrd (szAt 16) gf := sizeOrd_of (szAt_mem (by omega)) (R := 64) (C := 64) (w := 512) rfl rfl rfl (by omega) o64x64
theorem so_17 : ∃ gf, SizeOrd (szAt 17) gf := sizeOrd_of (szAt_mem (by omega)) (R := 72) (C := 72) (w := 648) rfl rfl rfl (by omega) o72x72
theorem so_18 : ∃ gf, SizeOrd (szAt 18) gf := sizeOrd_of (szAt_mem (by omega)) (R := 80) (C := 80) (w := 800) rfl rfl rfl (by omega) o80x80
theorem so_19 : ∃ gf, SizeOrd (szAt 19) gf := sizeOrd_of (szAt_mem (by omega)) (R := 88) (C := 88) (w := 968) rfl rfl rfl (by omega) o88x88
theorem so_20 : ∃ gf, SizeOrd (szAt 20) gf := sizeOrd_of (szAt_mem (by omega)) (R := 96) (C := 96) (w := 1152) rfl rfl rfl (by omega) o96x96
theorem so_21 : ∃ gf, SizeOrd (szAt 21) gf := sizeOrd_of (szAt_mem (by omega)) (R := 108) (C := 108) (w := 1458) rfl rfl rfl (by omega) o108x108
theorem so_22 : ∃ gf, SizeOrd (szAt 22) gf := sizeOrd_of (szAt_mem (by omega)) (R := 120) (C := 120) (w := 1800) rfl rfl rfl (by omega) o120x120
theorem so_23 : ∃ gf, SizeOrd (szAt 23) gf := sizeOrd_of (szAt_mem (by omega)) (R := 132) (C := 132) (w := 2178) rfl rfl rfl (by omega) o132x132
theorem so_24 : ∃ gf, SizeOrd (szAt 24) gf := sizeOrd_of (szAt_mem (by omega)) (R := 6) (C := 16) (w := 12) rfl rfl rfl (by omega) o6x16
theorem so_25 : ∃ gf, SizeOrd (szAt 25) gf := sizeOrd_of (szAt_mem (by omega)) (R := 6) (C := 28) (w := 21) rfl rfl rfl (by omega) o6x28
theorem so_26 : ∃ gf, SizeOrd (szAt 26) gf := sizeOrd_of (szAt_mem (by omega)) (R := 10) (C := 24) (w := 30) rfl rfl rfl (by omega) o10x24
theorem so_27 : ∃ gf, SizeOrd (szAt 27) gf := sizeOrd_of (szAt_mem (by omega)) (R := 10) (C := 32) (w := 40) rfl rfl rfl (by omega) o10x32
theorem so_28 : ∃ gf, SizeOrd (szAt 28) gf := sizeOrd_of (szAt_mem (by omega)) (R := 14) (C := 32) (w := 56) rfl rfl rfl (by omega) o14x32
theorem so_29 : ∃ gf, SizeOrd (szAt 29) gf := sizeOrd_of (szAt_mem (by omega)) (R := 14) (C := 44) (w := 77) rfl rfl rfl (by omega) o14x44
theorem so_all : ∀ s ∈ szs, ∃ gf, SizeOrd s gf := by
  intro s hs
  have key : ∀ i, i < 30 → ∃ gf, SizeOrd (szAt i) gf := by
    intro i hi
    match i, hi with
    | 0, _ => exact so_0
    | 1, _ => exact so_1
    | 2, _ => exact so_2
    | 3, _ => exact so_3
    | 4, _ => exact so_4
    | 5, _ => exact so_5
    | 6, _ => exact so_6
    | 7, _ => exact so_7
    | 8, _ => exact so_8
    | 9, _ => exact so_9
    | 10, _ => exact so_10
    | 11, _ => exact so_11
    | 12, _ => exact so_12
    | 13, _ => exact so_13
    | 14, _ => exact so_14
    | 15, _ => exact so_15
    | 16, _ => exact so_16
    | 17, _ => exact so_17
    | 18, _ => exact so_18
    | 19, _ => exact so_19
    | 20, _ => exact so_20
    | 21, _ => exact so_21
    | 22, _ => exact so_22
    | 23, _ => exact so_23
    | 24, _ => exact so_24
    | 25, _ => exact so_25
    | 26, _ => exact so_26
    | 27, _ => exact so_27
    | 28, _ => exact so_28
    | 29, _ => exact so_29
    | n + 30, h => omega
  obtain ⟨i, hi, rfl⟩ := List.getElem_of_mem hs
  have e : szs[i] = szAt i := by
    unfold szAt
    rw [List.getD_eq_getElem?_getD, List.getElem?_eq_getElem hi]; rfl
  rw [e]
  exact key i (by rw [szs_len] at hi; exact hi)
theorem map_some {R C : Int} (h : isMap R C) : Dim R C ∧ ∃ gf, ordP R C = some gf := by
  obtain ⟨s, hs, rfl, rfl⟩ := h
  obtain ⟨gf, h⟩ := so_all s hs
  exact ⟨h.dim, gf, h.ord⟩
theorem mapping27 {lo : Nat} {H : Heap} {s : Sz} (hs : SzOK s) : Ev cp lo 27 [s.val] H (fun v H' => Ext H H' ∧ v = .tuple #[.int .i64 (mapR s), .int .i64 (mapC s)]) := by
  have hb := map_bd hs
  obtain ⟨r0, r1, c0, c1, rr0, rr1, rc0, rc1, _⟩ := hs
  unfold mapR mapC at hb
  refine st27 ?_; unfold bd27; (try simp only [ctlB])
  repeat' (first | (refine aw_sets (by simp (disch := first | omega | (simp only [lenB]; omega)) only [evB, Sz.cells, Sz.val, *]; rfl) (by simp (disch := first | omega | (simp only [lenB]; omega)) only [evB, Sz.cells, Sz.val, *]) (by simp (disch := first | omega | (simp only [lenB]; omega)) only [evB, Sz.cells, Sz.val, *]; rfl) ?_; (try simp only [ctlB])) | (refine aw_op rfl (by simp (disch := first | omega | (simp only [lenB]; omega)) only [evB, Sz.cells, Sz.val, *]; rfl) (by simp (disch := first | omega | (simp only [lenB]; omega)) only [evB, Sz.cells, Sz.val, *]) (by simp (disch := first | omega | (simp only [lenB]; omega)) only [evB, Sz.cells, Sz.val, *]; rfl) (by simp (disch := first | omega | (simp only [lenB]; omega)) only [evB, Sz.cells, Sz.val, *]; rfl) (by simp (disch := first | omega | (simp only [lenB]; omega)) only [evB, Sz.cells, Sz.val, *]; rfl) ?_; (try simp only [ctlB])))
  refine body_ret (by simp only [cf27]; simp (disch := first | omega | (simp only [lenB]; omega)) only [evB, Sz.cells, Sz.val, *]; rfl) ?_
  exact ⟨Ext.app _ _, rfl⟩
theorem order16 {lo : Nat} {H : Heap} {R C : Int} (hlo : lo ≤ H.length) (h : isMap R C → Dim R C ∧ ∃ gf, ordP R C = some gf) :
    Ev cp lo 16 [.int .i64 R, .int .i64 C] H (fun v H' => Ext H H' ∧ ((isMap R C ∧ ∃ gf q, ordP R C = some gf ∧ H.length ≤ q ∧ v = .tuple #[.slice (some ⟨q, 0, some 1⟩) gf.cells.length gf.cells.length, .int .i64 0] ∧ H'.get q = some (intL gf.cells)) ∨ (¬ isMap R C ∧ v = .tuple #[.slice none 0 0, .int .i64 14]))) := by
  have hmain := h
  clear h
  refine st16 ?_; unfold bd16; (try simp only [ctlB])
  repeat' (first | (refine aw_sets (by simp (disch := first | omega | (simp only [lenB]; omega)) only [evB, Sz.cells, Sz.val, *]; rfl) (by simp (disch := first | omega | (simp only [lenB]; omega)) only [evB, Sz.cells, Sz.val, *]) (by simp (disch := first | omega | (simp only [lenB]; omega)) only [evB, Sz.cells, Sz.val, *]; rfl) ?_; (try simp only [ctlB])) | (refine aw_op rfl (by simp (disch := first | omega | (simp only [lenB]; omega)) only [evB, Sz.cells, Sz.val, *]; rfl) (by simp (disch := first | omega | (simp only [lenB]; omega)) only [evB, Sz.cells, Sz.val, *]) (by simp (disch := first | omega | (simp only [lenB]; omega)) only [evB, Sz.cells, Sz.val, *]; rfl) (by simp (disch := first | omega | (simp only [lenB]; omega)) only [evB, Sz.cells, Sz.val, *]; rfl) (by simp (disch := first | omega | (simp only [lenB]; omega)) only [evB, Sz.cells, Sz.val, *]; rfl) ?_; (try simp only [ctlB])))
  refine aw_hv (by simp (disch := first | omega | (simp only [lenB]; omega)) only [evB, Sz.cells, Sz.val, *]; rfl) (by simp (disch := first | omega | (simp only [lenB]; omega)) only [evB, Sz.cells, Sz.val, *]) (by simp (disch := first | omega | (simp only [lenB]; omega)) only [evB, Sz.cells, Sz.val, *]; rfl) ?_
  refine wpH_call0 (sizes11 hlo) ?_
  rintro v H1 ⟨j, hj, rfl, hg, hE⟩
  have hl := hE.1
  (try simp only [ctlB])
  repeat' (first | (refine aw_sets (by simp (disch := first | omega | (simp only [lenB]; omega)) only [evB, Sz.cells, Sz.val, *]; rfl) (by simp (disch := first | omega | (simp only [lenB]; omega)) only [evB, Sz.cells, Sz.val, *]) (by simp (disch := first | omega | (simp only [lenB]; omega)) only [evB, Sz.cells, Sz.val, *]; rfl) ?_; (try simp only [ctlB])) | (refine aw_op rfl (by simp (disch := first | omega | (simp only [lenB]; omega)) only [evB, Sz.cells, Sz.val, *]; rfl) (by simp (disch := first | omega | (simp only [lenB]; omega)) only [evB, Sz.cells, Sz.val, *]) (by simp (disch := first | omega | (simp only [lenB]; omega)) only [evB, Sz.cells, Sz.val, *]; rfl) (by simp (disch := first | omega | (simp only [lenB]; omega)) only [evB, Sz.cells, Sz.val, *]; rfl) (by simp (disch := first | omega | (simp only [lenB]; omega)) only [evB, Sz.cells, Sz.val, *]; rfl) ?_; (try simp only [ctlB])))
  refine aw_loop' (fun m S H' => ∃ (i : Int) (x6 x7 x8 x9 x10 : Value), 0 ≤ i ∧ i ≤ 30 ∧ m = (30 - i).toNat ∧ S = [.int .i64 R, .int .i64 C, .slice none 0 0, .int .i64 0, .slice (some ⟨j, 0, some 7⟩) 30 30, .int .i64 i, x6, x7, x8, x9, x10] ∧ Ext H H' ∧ H'.get j = some szCells ∧ ¬ hasMap R C i.toNat) 30 ?_ ?_
  · exact ⟨0, _, _, _, _, _, by omega, by omega, by omega, rfl, hE, hg, by rintro ⟨s, hs, _⟩; simp at hs⟩
  rintro m S H2 ⟨i, x6, x7, x8, x9, x10, hi0, hi1, rfl, rfl, hx2, hg2, hno⟩
  have hj2 := Heap.get_lt hg2
  have hl2 := hx2.1
  (try simp only [ctlB])
  refine aw_cond (by simp (disch := first | omega | (simp only [lenB]; omega)) only [evB, Sz.cells, Sz.val, *]; rfl) (fun h => ?_) (fun h => ?_)
  · have hi : i < 30 := by simpa using h
    clear h
    have hrow := szCells_at (i := i.toNat) (by omega)
    have hlen := szCells_len
    have hok := szs_ok _ (szAt_mem (i := i.toNat) (by omega))
    (try simp only [ctlB])
    repeat' (first | (refine aw_sets (by simp (disch := first | omega | (simp only [lenB]; omega)) only [evB, Sz.cells, Sz.val, *]; rfl) (by simp (disch := first | omega | (simp only [lenB]; omega)) only [evB, Sz.cells, Sz.val, *]) (by simp (disch := first | omega | (simp only [lenB]; omega)) only [evB, Sz.cells, Sz.val, *]; rfl) ?_; (try simp only [ctlB])) | (refine aw_op rfl (by simp (disch := first | omega | (simp only [lenB]; omega)) only [evB, Sz.cells, Sz.val, *]; rfl) (by simp (disch := first | omega | (simp only [lenB]; omega)) only [evB, Sz.cells, Sz.val, *]) (by simp (disch := first | omega | (simp only [lenB]; omega)) only [evB, Sz.cells, Sz.val, *]; rfl) (by simp (disch := first | omega | (simp only [lenB]; omega)) only [evB, Sz.cells, Sz.val, *]; rfl) (by simp (disch := first | omega | (simp only [lenB]; omega)) only [evB, Sz.cells, Sz.val, *]; rfl) ?_; (try simp only [ctlB])))
    refine aw_hv (by simp (disch := first | omega | (simp only [lenB]; omega)) only [evB, Sz.cells, Sz.val, *]; rfl) (by simp (disch := first | omega | (simp only [lenB]; omega)) only [evB, Sz.cells, Sz.val, *]) (by simp (disch := first | omega | (simp only [lenB]; omega)) only [evB, Sz.cells, Sz.val, *]; rfl) ?_
    refine wpH_call0 (mapping27 (s := szAt i.toNat) hok) ?_
    rintro v H3 ⟨hx3, rfl⟩
    have hg3 : H3.get j = some szCells := hx3.get hg2
    have hl3 := hx3.1
    (try simp only [ctlB])
    repeat' (first | (refine aw_sets (by simp (disch := first | omega | (simp only [lenB]; omega)) only [evB, Sz.cells, Sz.val, *]; rfl) (by simp (disch := first | omega | (simp only [lenB]; omega)) only [evB, Sz.cells, Sz.val, *]) (by simp (disch := first | omega | (simp only [lenB]; omega)) only [evB, Sz.cells, Sz.val, *]; rfl) ?_; (try simp only [ctlB])) | (refine aw_op rfl (by simp (disch := first | omega | (simp only [lenB]; omega)) only [evB, Sz.cells, Sz.val, *]; rfl) (by simp (disch := first | omega | (simp only [lenB]; omega)) only [evB, Sz.cells, Sz.val, *]) (by simp (disch := first | omega | (simp only [lenB]; omega)) only [evB, Sz.cells, Sz.val, *]; rfl) (by simp (disch := first | omega | (simp only [lenB]; omega)) only [evB, Sz.cells, Sz.val, *]; rfl) (by simp (disch := first | omega | (simp only [lenB]; omega)) only [evB, Sz.cells, Sz.val, *]; rfl) ?_; (try simp only [ctlB])))
    refine aw_cond (by simp (disch := first | omega | (simp only [lenB]; omega)) only [evB, Sz.cells, Sz.val, *]; rfl) (fun h => ?_) (fun h => ?_)
    · simp only [Bool.and_eq_true, decide_eq_true_eq] at h
      have him : isMap R C := ⟨_, szAt_mem (i := i.toNat) (by omega), h⟩
      obtain ⟨hd, gf, hgf⟩ := hmain him
      (try simp only [ctlB])
      refine aw_hv (by simp (disch := first | omega | (simp only [lenB]; omega)) only [evB, Sz.cells, Sz.val, *]; rfl) (by simp (disch := first | omega | (simp only [lenB]; omega)) only [evB, Sz.cells, Sz.val, *]) (by simp (disch := first | omega | (simp only [lenB]; omega)) only [evB, Sz.cells, Sz.val, *]; rfl) ?_
      refine wpH_call0 (order28 hd (by omega) hgf) ?_
      rintro v H4 ⟨hx4, q, hq, rfl, hgq⟩
      (try simp only [ctlB])
      repeat' (first | (refine aw_sets (by simp (disch := first | omega | (simp only [lenB]; omega)) only [evB, Sz.cells, Sz.val, *]; rfl) (by simp (disch := first | omega | (simp only [lenB]; omega)) only [evB, Sz.cells, Sz.val, *]) (by simp (disch := first | omega | (simp only [lenB]; omega)) only [evB, Sz.cells, Sz.val, *]; rfl) ?_; (try simp only [ctlB])) | (refine aw_op rfl (by simp (disch := first | omega | (simp only [lenB]; omega)) only [evB, Sz.cells, Sz.val, *]; rfl) (by simp (disch := first | omega | (simp only [lenB]; omega)) only [evB, Sz.cells, Sz.val, *]) (by simp (disch := first | omega | (simp only [lenB]; omega)) only [evB, Sz.cells, Sz.val, *]; rfl) (by simp (disch := first | omega | (simp only [lenB]; omega)) only [evB, Sz.cells, Sz.val, *]; rfl) (by simp (disch := first | omega | (simp only [lenB]; omega)) only [evB, Sz.cells, Sz.val, *]; rfl) ?_; (try simp only [ctlB])))
      refine body_ret (by simp only [cf16]; simp (disch := first | omega | (simp only [lenB]; omega)) only [evB, Sz.cells, Sz.val, *]; rfl) ?_
      exact ⟨(hx2.trans hx3).trans hx4, .inl ⟨him, gf, q, hgf, by omega, rfl, hgq⟩⟩
    · (try simp only [ctlB])
      repeat' (first | (refine aw_sets (by simp (disch := first | omega | (simp only [lenB]; omega)) only [evB, Sz.cells, Sz.val, *]; rfl) (by simp (disch := first | omega | (simp only [lenB]; omega)) only [evB, Sz.cells, Sz.val, *]) (by simp (disch := first | omega | (simp only [lenB]; omega)) only [evB, Sz.cells, Sz.val, *]; rfl) ?_; (try simp only [ctlB])) | (refine aw_op rfl (by simp (disch := first | omega | (simp only [lenB]; omega)) only [evB, Sz.cells, Sz.val, *]; rfl) (by simp (disch := first | omega | (simp only [lenB]; omega)) only [evB, Sz.cells, Sz.val, *]) (by simp (disch := first | omega | (simp only [lenB]; omega)) only [evB, Sz.cells, Sz.val, *]; rfl) (by simp (disch := first | omega | (simp only [lenB]; omega)) only [evB, Sz.cells, Sz.val, *]; rfl) (by simp (disch := first | omega | (simp only [lenB]; omega)) only [evB, Sz.cells, Sz.val, *]; rfl) ?_; (try simp only [ctlB])))
      simp only [loopQ_n]
      refine ⟨(30 - (i + 1)).toNat, by omega, i + 1, _, _, _, _, _, by omega, by omega, rfl, rfl, hx2.trans hx3, hg3, ?_⟩
      rintro ⟨s, hs, hm⟩
      rw [show (i + 1).toNat = i.toNat + 1 by omega, take_succ_sz (by omega)] at hs
      rcases List.mem_append.1 hs with hs | hs
      · exact hno ⟨s, hs, hm⟩
      · simp at hs
        subst hs
        simp [hm] at h
  · obtain rfl : i = 30 := by simp at h; omega
    (try simp only [ctlB])
    repeat' (first | (refine aw_sets (by simp (disch := first | omega | (simp only [lenB]; omega)) only [evB, Sz.cells, Sz.val, *]; rfl) (by simp (disch := first | omega | (simp only [lenB]; omega)) only [evB, Sz.cells, Sz.val, *]) (by simp (disch := first | omega | (simp only [lenB]; omega)) only [evB, Sz.cells, Sz.val, *]; rfl) ?_; (try simp only [ctlB])) | (refine aw_op rfl (by simp (disch := first | omega | (simp only [lenB]; omega)) only [evB, Sz.cells, Sz.val, *]; rfl) (by simp (disch := first | omega | (simp only [lenB]; omega)) only [evB, Sz.cells, Sz.val, *]) (by simp (disch := first | omega | (simp only [lenB]; omega)) only [evB, Sz.cells, Sz.val, *]; rfl) (by simp (disch := first | omega | (simp only [lenB]; omega)) only [evB, Sz.cells, Sz.val, *]; rfl) (by simp (disch := first | omega | (simp only [lenB]; omega)) only [evB, Sz.cells, Sz.val, *]; rfl) ?_; (try simp only [ctlB])))
    refine body_ret (by simp only [cf16]; simp (disch := first | omega | (simp only [lenB]; omega)) only [evB, Sz.cells, Sz.val, *]; rfl) ?_
    refine ⟨hx2, .inr ⟨?_, rfl⟩⟩
    rintro ⟨s, hs, hm⟩
    exact hno ⟨s, by rw [List.take_of_length_le (by rw [szs_len]; omega)]; exact hs, hm⟩
end Go.Proofs.Ytobfjbominbkmaa
