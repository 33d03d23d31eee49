/-
  Extract of the reference: what it answers.
-/
import Derived.Test.YtobfjbominbkmaaWp
namespace Go.Proofs.Ytobfjbominbkmaa
open Go.Abs
set_option linter.unusedSimpArgs false
set_option linter.unusedVariables false
set_option maxRecDepth 20000
theorem szCells_el {i k : Nat} (hi : i < 30) (hk : k < 7) : szCells[i * 7 + k]? = (szAt i).cells[k]? := by
  rw [← szCells_at hi, List.getElem?_take, if_pos hk, List.getElem?_drop]
def lastSz (w u : Int) (i : Nat) : Sz := (szs.take i).foldl (fun a s => if isSz w u s = true then s else a) Sz.zero
theorem lastSz_succ {w u : Int} {i : Nat} (h : i < 30) : lastSz w u (i + 1) = if isSz w u (szAt i) = true then szAt i else lastSz w u i := by
  unfold lastSz; rw [take_succ_sz h, List.foldl_append]; rfl
theorem szs_uniq : ∀ s ∈ szs, ∀ t ∈ szs, s.r = t.r → s.c = t.c → s = t := by
  have h : (szs.all fun s => szs.all fun t => !(decide (s.r = t.r) && decide (s.c = t.c)) || decide (s = t)) = true := by kernel_rfl
  intro s hs t ht h1 h2
  have := List.all_eq_true.1 (List.all_eq_true.1 h s hs) t ht
  simpa [h1, h2] using this
theorem lastSz_none {w u : Int} (h : findSz w u = none) : ∀ i, i ≤ 30 → lastSz w u i = Sz.zero
  | 0, _ => rfl
  | i + 1, hi => by
    have : isSz w u (szAt i) = false := by
      have := List.find?_eq_none.1 h (szAt i) (szAt_mem (by omega))
      simpa using this
    rw [lastSz_succ (by omega), this, if_neg (by simp), lastSz_none h i (by omega)]
theorem lastSz_some {w u : Int} {s : Sz} (h : findSz w u = some s) : ∀ i, i ≤ 30 → (szs.take i).any (isSz w u) = true → lastSz w u i = s
  | 0, _, h => by simp at h
  | i + 1, hi, ha => by
    rw [lastSz_succ (by omega)]
    split
    · rename_i hy
      obtain ⟨h1, h2, h3⟩ := find_some h
      simp only [isSz, Bool.and_eq_true, decide_eq_true_eq] at hy
      exact szs_uniq _ (szAt_mem (by omega)) _ h1 (by omega) (by omega)
    · rename_i hy
      rw [any_szs_succ (by omega), Bool.eq_false_iff.2 hy, Bool.or_false] at ha
      exact lastSz_some h i (by omega) ha
theorem lastSz_all {w u : Int} {s : Sz} (h : findSz w u = some s) : lastSz w u 30 = s := by
  refine lastSz_some h 30 (by omega) ?_
  rw [List.take_of_length_le (by rw [szs_len]; omega)]
  exact List.any_eq_true.2 ⟨s, List.mem_of_find?_eq_some h, List.find?_some h⟩
set_option maxHeartbeats 8000000 in
theorem extract23 {lo : Nat} {H : Heap} {vd : Value} {dk : List Bool} {w u : Int} (hlo : lo ≤ H.length) (hd : SlB H vd dk) : Ev cp lo 23 [.agg #[.int .i64 w, .int .i64 u, vd]] H (fun r H' => Ext H H' ∧ ExtOut w u dk H' r) := by
  have hd0 := hd
  obtain ⟨ad, cd, rfl⟩ := hd.len
  refine st23 ?_; unfold bd23; (try simp only [ctlB])
  repeat' (first | (refine aw_sets (by simp (disch := first | omega | (simp only [lenB]; omega)) only [evB, Sz.cells, Sz.val, Int.cast_ofNat_Int, *]; rfl) (by simp (disch := first | omega | (simp only [lenB]; omega)) only [evB, Sz.cells, Sz.val, Int.cast_ofNat_Int, *]) (by simp (disch := first | omega | (simp only [lenB]; omega)) only [evB, Sz.cells, Sz.val, Int.cast_ofNat_Int, *]; rfl) ?_; (try simp only [ctlB])) | (refine aw_op rfl (by simp (disch := first | omega | (simp only [lenB]; omega)) only [evB, Sz.cells, Sz.val, Int.cast_ofNat_Int, *]; rfl) (by simp (disch := first | omega | (simp only [lenB]; omega)) only [evB, Sz.cells, Sz.val, Int.cast_ofNat_Int, *]) (by simp (disch := first | omega | (simp only [lenB]; omega)) only [evB, Sz.cells, Sz.val, Int.cast_ofNat_Int, *]; rfl) (by simp (disch := first | omega | (simp only [lenB]; omega)) only [evB, Sz.cells, Sz.val, Int.cast_ofNat_Int, *]; rfl) (by simp (disch := first | omega | (simp only [lenB]; omega)) only [evB, Sz.cells, Sz.val, Int.cast_ofNat_Int, *]; rfl) ?_; (try simp only [ctlB])))
  refine aw_hv (by simp (disch := first | omega | (simp only [lenB]; omega)) only [evB, Sz.cells, Sz.val, Int.cast_ofNat_Int, *]; rfl) (by simp (disch := first | omega | (simp only [lenB]; omega)) only [evB, Sz.cells, Sz.val, Int.cast_ofNat_Int, *]) (by simp (disch := first | omega | (simp only [lenB]; omega)) only [evB, Sz.cells, Sz.val, Int.cast_ofNat_Int, *]; rfl) ?_
  refine wpH_call0 valid38 ?_
  rintro v H1 ⟨hx1, rfl⟩
  have g0 : H1.get H.length = some _ := hx1.get (by simp (disch := first | omega | (simp only [lenB]; omega)) only [evB, Sz.cells, Sz.val, Int.cast_ofNat_Int, *]; rfl)
  have g1 : H1.get (H.length + 1) = some _ := hx1.get (by simp (disch := first | omega | (simp only [lenB]; omega)) only [evB, Sz.cells, Sz.val, Int.cast_ofNat_Int, *]; rfl)
  have hl1 := Heap.get_lt g1
  have hx1 := hx1.of_app
  (try simp only [ctlB])
  refine aw_cond (by simp (disch := first | omega | (simp only [lenB]; omega)) only [evB, Sz.cells, Sz.val, Int.cast_ofNat_Int, *]; rfl) (fun h => ?_) (fun h => ?_)
  · have hv : validM w u dk.length = false := by simpa using h
    clear h
    (try simp only [ctlB])
    repeat' (first | (refine aw_sets (by simp (disch := first | omega | (simp only [lenB]; omega)) only [evB, Sz.cells, Sz.val, Int.cast_ofNat_Int, *]; rfl) (by simp (disch := first | omega | (simp only [lenB]; omega)) only [evB, Sz.cells, Sz.val, Int.cast_ofNat_Int, *]) (by simp (disch := first | omega | (simp only [lenB]; omega)) only [evB, Sz.cells, Sz.val, Int.cast_ofNat_Int, *]; rfl) ?_; (try simp only [ctlB])) | (refine aw_op rfl (by simp (disch := first | omega | (simp only [lenB]; omega)) only [evB, Sz.cells, Sz.val, Int.cast_ofNat_Int, *]; rfl) (by simp (disch := first | omega | (simp only [lenB]; omega)) only [evB, Sz.cells, Sz.val, Int.cast_ofNat_Int, *]) (by simp (disch := first | omega | (simp only [lenB]; omega)) only [evB, Sz.cells, Sz.val, Int.cast_ofNat_Int, *]; rfl) (by simp (disch := first | omega | (simp only [lenB]; omega)) only [evB, Sz.cells, Sz.val, Int.cast_ofNat_Int, *]; rfl) (by simp (disch := first | omega | (simp only [lenB]; omega)) only [evB, Sz.cells, Sz.val, Int.cast_ofNat_Int, *]; rfl) ?_; (try simp only [ctlB])))
    refine body_ret (by simp only [cf23]; simp (disch := first | omega | (simp only [lenB]; omega)) only [evB, Sz.cells, Sz.val, Int.cast_ofNat_Int, *]; rfl) ?_
    exact ⟨hx1.set (by omega), .inl ⟨hv, rfl⟩⟩
  have hv : validM w u dk.length = true := by simpa using h
  clear h
  (try simp only [ctlB])
  repeat' (first | (refine aw_sets (by simp (disch := first | omega | (simp only [lenB]; omega)) only [evB, Sz.cells, Sz.val, Int.cast_ofNat_Int, *]; rfl) (by simp (disch := first | omega | (simp only [lenB]; omega)) only [evB, Sz.cells, Sz.val, Int.cast_ofNat_Int, *]) (by simp (disch := first | omega | (simp only [lenB]; omega)) only [evB, Sz.cells, Sz.val, Int.cast_ofNat_Int, *]; rfl) ?_; (try simp only [ctlB])) | (refine aw_op rfl (by simp (disch := first | omega | (simp only [lenB]; omega)) only [evB, Sz.cells, Sz.val, Int.cast_ofNat_Int, *]; rfl) (by simp (disch := first | omega | (simp only [lenB]; omega)) only [evB, Sz.cells, Sz.val, Int.cast_ofNat_Int, *]) (by simp (disch := first | omega | (simp only [lenB]; omega)) only [evB, Sz.cells, Sz.val, Int.cast_ofNat_Int, *]; rfl) (by simp (disch := first | omega | (simp only [lenB]; omega)) only [evB, Sz.cells, Sz.val, Int.cast_ofNat_Int, *]; rfl) (by simp (disch := first | omega | (simp only [lenB]; omega)) only [evB, Sz.cells, Sz.val, Int.cast_ofNat_Int, *]; rfl) ?_; (try simp only [ctlB])))
  have g7 : Heap.get (H1 ++ [some Sz.zero.cells]) H1.length = some Sz.zero.cells := get_app0
  refine aw_hv (by simp (disch := first | omega | (simp only [lenB]; omega)) only [evB, Sz.cells, Sz.val, Int.cast_ofNat_Int, *]; rfl) (by simp (disch := first | omega | (simp only [lenB]; omega)) only [evB, Sz.cells, Sz.val, Int.cast_ofNat_Int, *]) (by simp (disch := first | omega | (simp only [lenB]; omega)) only [evB, Sz.cells, Sz.val, Int.cast_ofNat_Int, *]; rfl) ?_
  refine wpH_call0 (sizes11 (by simp; omega)) ?_
  rintro v H2 ⟨j, hj, rfl, hg, hx2⟩
  have g7 := hx2.get g7
  have hx2 := hx2.of_app
  have g0 := (hx2).get g0; have g1 := (hx2).get g1
  have hx2 := hx1.trans hx2
  have hl7 := Heap.get_lt g7
  have hjl := Heap.get_lt hg
  simp only [List.length_append, List.length_cons, List.length_nil] at hj
  generalize H1.length = p7 at *
  clear hx1
  (try simp only [ctlB])
  repeat' (first | (refine aw_sets (by simp (disch := first | omega | (simp only [lenB]; omega)) only [evB, Sz.cells, Sz.val, Int.cast_ofNat_Int, *]; rfl) (by simp (disch := first | omega | (simp only [lenB]; omega)) only [evB, Sz.cells, Sz.val, Int.cast_ofNat_Int, *]) (by simp (disch := first | omega | (simp only [lenB]; omega)) only [evB, Sz.cells, Sz.val, Int.cast_ofNat_Int, *]; rfl) ?_; (try simp only [ctlB])) | (refine aw_op rfl (by simp (disch := first | omega | (simp only [lenB]; omega)) only [evB, Sz.cells, Sz.val, Int.cast_ofNat_Int, *]; rfl) (by simp (disch := first | omega | (simp only [lenB]; omega)) only [evB, Sz.cells, Sz.val, Int.cast_ofNat_Int, *]) (by simp (disch := first | omega | (simp only [lenB]; omega)) only [evB, Sz.cells, Sz.val, Int.cast_ofNat_Int, *]; rfl) (by simp (disch := first | omega | (simp only [lenB]; omega)) only [evB, Sz.cells, Sz.val, Int.cast_ofNat_Int, *]; rfl) (by simp (disch := first | omega | (simp only [lenB]; omega)) only [evB, Sz.cells, Sz.val, Int.cast_ofNat_Int, *]; rfl) ?_; (try simp only [ctlB])))
  refine aw_for (fun i S H' => Ext H H' ∧ H'.get H.length = some [.int .i64 w, .int .i64 u, .slice ad dk.length cd] ∧ H'.get (H.length + 1) = some Sz.zero.cells ∧ H'.get p7 = some (lastSz w u i).cells ∧ H'.get j = some szCells ∧ ∃ z0 z8 z9 z10 z11 z12 z13 z14 z15 z16 z17 z18 z19 z20 z21 z22 z23 z24 z25 z26, S = [z0, .pointer (some ⟨H.length, 0, none⟩), .slice none 0 0, .pointer (some ⟨H.length + 1, 0, none⟩), .int .i64 0, .pointer (some ⟨p7, 0, none⟩), .slice (some ⟨j, 0, some 7⟩) 30 30, .int .i64 (i : Nat), z8, z9, z10, z11, z12, z13, z14, z15, z16, z17, z18, z19, z20, z21, z22, z23, z24, z25, z26]) 30 ?_ ?_ ?_ ?_
  · exact ⟨hx2, g0, g1, g7, hg, _, _, _, _, _, _, _, _, _, _, _, _, _, _, _, _, _, _, _, _,  rfl⟩
  · rintro i S H' hi ⟨hx, f0, f1, f7, fg, z0, z8, z9, z10, z11, z12, z13, z14, z15, z16, z17, z18, z19, z20, z21, z22, z23, z24, z25, z26,  rfl⟩
    exact ⟨_, by simp (disch := first | omega | (simp only [lenB]; omega)) only [evB, Sz.cells, Sz.val, Int.cast_ofNat_Int, *]; rfl, by simp; try omega⟩
  · clear g0 g1 g7 hg
    rintro i S H' hi ⟨hx, f0, f1, f7, fg, z0, z8, z9, z10, z11, z12, z13, z14, z15, z16, z17, z18, z19, z20, z21, z22, z23, z24, z25, z26,  rfl⟩
    have hrow := szCells_at hi
    have hlen := szCells_len
    have e0 := szCells_el (k := 0) hi (by omega)
    have e1 := szCells_el (k := 1) hi (by omega)
    simp only [Nat.add_zero, Sz.cells, List.getElem?_cons_zero, List.getElem?_cons_succ] at e0 e1
    have hs := lastSz_succ (w := w) (u := u) hi
    have hl7 := Heap.get_lt f7
    have hisz : (decide ((szAt i).r = u) && decide ((szAt i).c = w)) = isSz w u (szAt i) := rfl
    (try simp only [ctlB])
    refine aw_cond (by simp (disch := first | omega | (simp only [lenB]; omega)) only [evB, Sz.cells, Sz.val, Int.cast_ofNat_Int, *]; rfl) (fun h => ?_) (fun h => ?_)
    · rw [if_pos h] at hs
      clear h
      (try simp only [ctlB])
      repeat' (first | (refine aw_sets (by simp (disch := first | omega | (simp only [lenB]; omega)) only [evB, Sz.cells, Sz.val, Int.cast_ofNat_Int, *]; rfl) (by simp (disch := first | omega | (simp only [lenB]; omega)) only [evB, Sz.cells, Sz.val, Int.cast_ofNat_Int, *]) (by simp (disch := first | omega | (simp only [lenB]; omega)) only [evB, Sz.cells, Sz.val, Int.cast_ofNat_Int, *]; rfl) ?_; (try simp only [ctlB])) | (refine aw_op rfl (by simp (disch := first | omega | (simp only [lenB]; omega)) only [evB, Sz.cells, Sz.val, Int.cast_ofNat_Int, *]; rfl) (by simp (disch := first | omega | (simp only [lenB]; omega)) only [evB, Sz.cells, Sz.val, Int.cast_ofNat_Int, *]) (by simp (disch := first | omega | (simp only [lenB]; omega)) only [evB, Sz.cells, Sz.val, Int.cast_ofNat_Int, *]; rfl) (by simp (disch := first | omega | (simp only [lenB]; omega)) only [evB, Sz.cells, Sz.val, Int.cast_ofNat_Int, *]; rfl) (by simp (disch := first | omega | (simp only [lenB]; omega)) only [evB, Sz.cells, Sz.val, Int.cast_ofNat_Int, *]; rfl) ?_; (try simp only [ctlB])))
      exact ⟨hx.set (by omega), by simp (disch := first | omega | (simp only [lenB]; omega)) only [evB, Sz.cells, Sz.val, Int.cast_ofNat_Int, *], by simp (disch := first | omega | (simp only [lenB]; omega)) only [evB, Sz.cells, Sz.val, Int.cast_ofNat_Int, *], by simp (disch := first | omega | (simp only [lenB]; omega)) only [evB, Sz.cells, Sz.val, Int.cast_ofNat_Int, *], by simp (disch := first | omega | (simp only [lenB]; omega)) only [evB, Sz.cells, Sz.val, Int.cast_ofNat_Int, *], _, _, _, _, _, _, _, _, _, _, _, _, _, _, _, _, _, _, _, _,  by first | rfl | (simp only [Int.natCast_add, Int.natCast_one]; rfl) | simp only [Int.natCast_add, Int.natCast_one]⟩
    · rw [if_neg (by rw [h]; simp)] at hs
      clear h
      (try simp only [ctlB])
      repeat' (first | (refine aw_sets (by simp (disch := first | omega | (simp only [lenB]; omega)) only [evB, Sz.cells, Sz.val, Int.cast_ofNat_Int, *]; rfl) (by simp (disch := first | omega | (simp only [lenB]; omega)) only [evB, Sz.cells, Sz.val, Int.cast_ofNat_Int, *]) (by simp (disch := first | omega | (simp only [lenB]; omega)) only [evB, Sz.cells, Sz.val, Int.cast_ofNat_Int, *]; rfl) ?_; (try simp only [ctlB])) | (refine aw_op rfl (by simp (disch := first | omega | (simp only [lenB]; omega)) only [evB, Sz.cells, Sz.val, Int.cast_ofNat_Int, *]; rfl) (by simp (disch := first | omega | (simp only [lenB]; omega)) only [evB, Sz.cells, Sz.val, Int.cast_ofNat_Int, *]) (by simp (disch := first | omega | (simp only [lenB]; omega)) only [evB, Sz.cells, Sz.val, Int.cast_ofNat_Int, *]; rfl) (by simp (disch := first | omega | (simp only [lenB]; omega)) only [evB, Sz.cells, Sz.val, Int.cast_ofNat_Int, *]; rfl) (by simp (disch := first | omega | (simp only [lenB]; omega)) only [evB, Sz.cells, Sz.val, Int.cast_ofNat_Int, *]; rfl) ?_; (try simp only [ctlB])))
      exact ⟨hx, f0, f1, by rw [hs]; exact f7, fg, _, _, _, _, _, _, _, _, _, _, _, _, _, _, _, _, _, _, _, _,  by first | rfl | (simp only [Int.natCast_add, Int.natCast_one]; rfl) | simp only [Int.natCast_add, Int.natCast_one]⟩
  clear hx2 g0 g1 g7 hg
  rintro S H2 ⟨hx2, g0, g1, g7, hg, z0, z8, z9, z10, z11, z12, z13, z14, z15, z16, z17, z18, z19, z20, z21, z22, z23, z24, z25, z26,  rfl⟩
  have hl1 := Heap.get_lt g1
  have hl7 := Heap.get_lt g7
  (try simp only [ctlB])
  cases hf : findSz w u with
  | none =>
    rw [lastSz_none hf 30 (Nat.le_refl _)] at g7
    refine aw_cond (by simp (disch := first | omega | (simp only [lenB]; omega)) only [evB, Sz.cells, Sz.val, Int.cast_ofNat_Int, *]; rfl) (fun h => ?_) (fun h => ?_)
    · clear h
      (try simp only [ctlB])
      repeat' (first | (refine aw_sets (by simp (disch := first | omega | (simp only [lenB]; omega)) only [evB, Sz.cells, Sz.val, Int.cast_ofNat_Int, *]; rfl) (by simp (disch := first | omega | (simp only [lenB]; omega)) only [evB, Sz.cells, Sz.val, Int.cast_ofNat_Int, *]) (by simp (disch := first | omega | (simp only [lenB]; omega)) only [evB, Sz.cells, Sz.val, Int.cast_ofNat_Int, *]; rfl) ?_; (try simp only [ctlB])) | (refine aw_op rfl (by simp (disch := first | omega | (simp only [lenB]; omega)) only [evB, Sz.cells, Sz.val, Int.cast_ofNat_Int, *]; rfl) (by simp (disch := first | omega | (simp only [lenB]; omega)) only [evB, Sz.cells, Sz.val, Int.cast_ofNat_Int, *]) (by simp (disch := first | omega | (simp only [lenB]; omega)) only [evB, Sz.cells, Sz.val, Int.cast_ofNat_Int, *]; rfl) (by simp (disch := first | omega | (simp only [lenB]; omega)) only [evB, Sz.cells, Sz.val, Int.cast_ofNat_Int, *]; rfl) (by simp (disch := first | omega | (simp only [lenB]; omega)) only [evB, Sz.cells, Sz.val, Int.cast_ofNat_Int, *]; rfl) ?_; (try simp only [ctlB])))
      refine body_ret (by simp only [cf23]; simp (disch := first | omega | (simp only [lenB]; omega)) only [evB, Sz.cells, Sz.val, Int.cast_ofNat_Int, *]; rfl) ?_
      exact ⟨hx2.set (by omega), .inr (.inl ⟨hv, hf, rfl⟩)⟩
    · simp [Sz.zero] at h
  | some s =>
  rw [lastSz_all hf] at g7
  obtain ⟨hsm, hh, hw⟩ := find_some hf
  subst hh
  subst hw
  have hok := szs_ok s hsm
  have hok' := hok
  obtain ⟨r0, r1, c0, c1, rr0, rr1, rc0, rc1, d0, d1, k0, k1⟩ := hok'
  obtain ⟨gf, hso⟩ := so_all s hsm
  obtain ⟨hdn, -⟩ := validM_len hv
  rw [Int.mul_comm] at hdn
  have hdn' : (dk.length : Int) ≤ s.r * s.c ∧ s.r * s.c ≤ dk.length := by omega
  clear hdn
  refine aw_cond (by simp (disch := first | omega | (simp only [lenB]; omega)) only [evB, Sz.cells, Sz.val, Int.cast_ofNat_Int, *]; rfl) (fun h => ?_) (fun h => ?_)
  · exfalso; simp at h; omega
  clear h
  (try simp only [ctlB])
  refine aw_hv (by simp (disch := first | omega | (simp only [lenB]; omega)) only [evB, Sz.cells, Sz.val, Int.cast_ofNat_Int, *]; rfl) (by simp (disch := first | omega | (simp only [lenB]; omega)) only [evB, Sz.cells, Sz.val, Int.cast_ofNat_Int, *]) (by simp (disch := first | omega | (simp only [lenB]; omega)) only [evB, Sz.cells, Sz.val, Int.cast_ofNat_Int, *]; rfl) ?_
  refine wpH_call0 (mapping27 (s := s) hok) ?_
  rintro v H4 ⟨hx4, rfl⟩
  have g0 := (hx4).get g0; have g1 := (hx4).get g1; have g7 := (hx4).get g7
  have hx4 := hx2.trans hx4
  have hl7 := Heap.get_lt g7
  clear hg
  (try simp only [ctlB])
  repeat' (first | (refine aw_sets (by simp (disch := first | omega | (simp only [lenB]; omega)) only [evB, Sz.cells, Sz.val, Int.cast_ofNat_Int, *]; rfl) (by simp (disch := first | omega | (simp only [lenB]; omega)) only [evB, Sz.cells, Sz.val, Int.cast_ofNat_Int, *]) (by simp (disch := first | omega | (simp only [lenB]; omega)) only [evB, Sz.cells, Sz.val, Int.cast_ofNat_Int, *]; rfl) ?_; (try simp only [ctlB])) | (refine aw_op rfl (by simp (disch := first | omega | (simp only [lenB]; omega)) only [evB, Sz.cells, Sz.val, Int.cast_ofNat_Int, *]; rfl) (by simp (disch := first | omega | (simp only [lenB]; omega)) only [evB, Sz.cells, Sz.val, Int.cast_ofNat_Int, *]) (by simp (disch := first | omega | (simp only [lenB]; omega)) only [evB, Sz.cells, Sz.val, Int.cast_ofNat_Int, *]; rfl) (by simp (disch := first | omega | (simp only [lenB]; omega)) only [evB, Sz.cells, Sz.val, Int.cast_ofNat_Int, *]; rfl) (by simp (disch := first | omega | (simp only [lenB]; omega)) only [evB, Sz.cells, Sz.val, Int.cast_ofNat_Int, *]; rfl) ?_; (try simp only [ctlB])))
  refine aw_hv (by simp (disch := first | omega | (simp only [lenB]; omega)) only [evB, Sz.cells, Sz.val, Int.cast_ofNat_Int, *]; rfl) (by simp (disch := first | omega | (simp only [lenB]; omega)) only [evB, Sz.cells, Sz.val, Int.cast_ofNat_Int, *]) (by simp (disch := first | omega | (simp only [lenB]; omega)) only [evB, Sz.cells, Sz.val, Int.cast_ofNat_Int, *]; rfl) ?_
  refine wpH_call0 (order28 hso.dim (by have := hx4.1; omega) hso.ord) ?_
  rintro v H5 ⟨hx5, q, hq, rfl, hgq⟩
  have g0 := (hx5).get g0; have g1 := (hx5).get g1; have g7 := (hx5).get g7
  have hx5 := hx4.trans hx5
  have hql := Heap.get_lt hgq
  have hl5 := Heap.get_lt g7
  have hgl : gf.cells.length ≤ (mapR s * mapC s).toNat ∧ (mapR s * mapC s).toNat ≤ gf.cells.length := by rw [hso.od.len]; omega
  have hmb := map_bd hok
  have hrc0 : 0 ≤ mapR s * mapC s := Int.mul_nonneg (by omega) (by omega)
  have hm := mul_bd (a := s.r) (b := s.c) (A := 200) (B := 200) (by omega) (by omega) (by omega) (by omega) (by omega)
  obtain ⟨W, hW⟩ : ∃ W : Nat, (W : Int) = s.d + s.k := ⟨(s.d + s.k).toNat, by omega⟩
  have hWn : (s.d + s.k).toNat = W := by omega
  have hdpos : 0 < dk.length := by
    have : 0 < s.r * s.c := Int.mul_pos (by omega) (by omega)
    omega
  obtain ⟨bd, od, sp, cap, xs0, ed, gd, hat, hxl⟩ := hd0.els false hdpos
  cases ed
  have gd := hx5.get gd
  have hbl := Heap.get_lt gd
  have hod := hso.od
  rw [hWn] at hod
  (try simp only [ctlB])
  repeat' (first | (refine aw_sets (by simp (disch := first | omega | (simp only [lenB]; omega)) only [evB, Sz.cells, Sz.val, Int.cast_ofNat_Int, *]; rfl) (by simp (disch := first | omega | (simp only [lenB]; omega)) only [evB, Sz.cells, Sz.val, Int.cast_ofNat_Int, *]) (by simp (disch := first | omega | (simp only [lenB]; omega)) only [evB, Sz.cells, Sz.val, Int.cast_ofNat_Int, *]; rfl) ?_; (try simp only [ctlB])) | (refine aw_op rfl (by simp (disch := first | omega | (simp only [lenB]; omega)) only [evB, Sz.cells, Sz.val, Int.cast_ofNat_Int, *]; rfl) (by simp (disch := first | omega | (simp only [lenB]; omega)) only [evB, Sz.cells, Sz.val, Int.cast_ofNat_Int, *]) (by simp (disch := first | omega | (simp only [lenB]; omega)) only [evB, Sz.cells, Sz.val, Int.cast_ofNat_Int, *]; rfl) (by simp (disch := first | omega | (simp only [lenB]; omega)) only [evB, Sz.cells, Sz.val, Int.cast_ofNat_Int, *]; rfl) (by simp (disch := first | omega | (simp only [lenB]; omega)) only [evB, Sz.cells, Sz.val, Int.cast_ofNat_Int, *]; rfl) ?_; (try simp only [ctlB])))
  generalize hM : H5.length = M at *
  refine aw_for (fun i S H' => Ext H H' ∧ M < H'.length ∧ H'.get H.length = some [.int .i64 s.c, .int .i64 s.r, .slice (some ⟨bd, od, sp⟩) dk.length cd] ∧ H'.get (H.length + 1) = some Sz.zero.cells ∧ H'.get p7 = some s.cells ∧ H'.get q = some (intL gf.cells) ∧ H'.get bd = some xs0 ∧ badPat s dk i = false ∧ ∃ xs, H'.get M = some (intL xs) ∧ WB W (seen (exP s gf.cells dk) i) xs ∧ ∃ z0 z2 z4 z6 z7 z8 z9 z13 z14 z15 z16 z17 z18 z19 z20 z21 z22 z23 z24 z25 z26, S = [z0, .pointer (some ⟨H.length, 0, none⟩), z2, .pointer (some ⟨H.length + 1, 0, none⟩), z4, .pointer (some ⟨p7, 0, none⟩), z6, z7, z8, z9, .slice (some ⟨q, 0, some 1⟩) gf.cells.length gf.cells.length, .slice (some ⟨M, 0, none⟩) W W, .int .i64 (i : Nat), z13, z14, z15, z16, z17, z18, z19, z20, z21, z22, z23, z24, z25, z26]) dk.length ?_ ?_ ?_ ?_
  · refine ⟨hx5.trans (Ext.app _ _), by simp [hM], by simp (disch := first | omega | (simp only [lenB]; omega)) only [evB, Sz.cells, Sz.val, Int.cast_ofNat_Int, *], by simp (disch := first | omega | (simp only [lenB]; omega)) only [evB, Sz.cells, Sz.val, Int.cast_ofNat_Int, *], by simp (disch := first | omega | (simp only [lenB]; omega)) only [evB, Sz.cells, Sz.val, Int.cast_ofNat_Int, *], by simp (disch := first | omega | (simp only [lenB]; omega)) only [evB, Sz.cells, Sz.val, Int.cast_ofNat_Int, *], by simp (disch := first | omega | (simp only [lenB]; omega)) only [evB, Sz.cells, Sz.val, Int.cast_ofNat_Int, *], rfl, List.replicate W 0, by rw [← hM, get_app0], (WB.zero W).congr (fun v _ => rfl), _, _, _, _, _, _, _, _, _, _, _, _, _, _, _, _, _, _, _, _, _,  rfl⟩
  · rintro i S H' hi ⟨hx, hlM, f0, f1, f7, fq, fd, hbp, xs, fm, hwb, z0, z2, z4, z6, z7, z8, z9, z13, z14, z15, z16, z17, z18, z19, z20, z21, z22, z23, z24, z25, z26,  rfl⟩
    exact ⟨_, by simp (disch := first | omega | (simp only [lenB]; omega)) only [evB, Sz.cells, Sz.val, Int.cast_ofNat_Int, *]; rfl, by simp⟩
  · rintro i S H6 hi ⟨hx6, hlM, f0, f1, f7, fq, fd, hbp, xs, fm, hwb, z0, z2, z4, z6, z7, z8, z9, z13, z14, z15, z16, z17, z18, z19, z20, z21, z22, z23, z24, z25, z26,  rfl⟩
    have hati := hat i hi
    clear hat
    have hiN : (i : Int) < s.r * s.c := by omega
    have hrc := rowcol_bd hok hiN
    have hloc := hso.loc i hiN
    have hinj := fun k v => exP_inj (gf := gf) hsm hso (dk := dk) (i := i) (j := k) (v := v) hiN
    have hsucc := badPat_succ (s := s) (dk := dk) (i := i)
    rw [hbp, Bool.false_or] at hsucc
    have hex := exP.eq_1 s gf.cells dk i
    have hxl2 := hwb.1
    generalize hrow : (i : Int).tdiv s.c = row at *
    generalize hcol : (i : Int).tmod s.c = col at *
    generalize hdi : dk.getD i false = di at *
    have hl6 := hx6.1
    clear g0 g1 g7 hgq gd
    (try simp only [ctlB])
    repeat' (first | (refine aw_sets (by simp (disch := first | omega | (simp only [lenB]; omega)) only [evB, Sz.cells, Sz.val, Int.cast_ofNat_Int, *]; rfl) (by simp (disch := first | omega | (simp only [lenB]; omega)) only [evB, Sz.cells, Sz.val, Int.cast_ofNat_Int, *]) (by simp (disch := first | omega | (simp only [lenB]; omega)) only [evB, Sz.cells, Sz.val, Int.cast_ofNat_Int, *]; rfl) ?_; (try simp only [ctlB])) | (refine aw_op rfl (by simp (disch := first | omega | (simp only [lenB]; omega)) only [evB, Sz.cells, Sz.val, Int.cast_ofNat_Int, *]; rfl) (by simp (disch := first | omega | (simp only [lenB]; omega)) only [evB, Sz.cells, Sz.val, Int.cast_ofNat_Int, *]) (by simp (disch := first | omega | (simp only [lenB]; omega)) only [evB, Sz.cells, Sz.val, Int.cast_ofNat_Int, *]; rfl) (by simp (disch := first | omega | (simp only [lenB]; omega)) only [evB, Sz.cells, Sz.val, Int.cast_ofNat_Int, *]; rfl) (by simp (disch := first | omega | (simp only [lenB]; omega)) only [evB, Sz.cells, Sz.val, Int.cast_ofNat_Int, *]; rfl) ?_; (try simp only [ctlB])))
    refine aw_hv (by simp (disch := first | omega | (simp only [lenB]; omega)) only [evB, Sz.cells, Sz.val, Int.cast_ofNat_Int, *]; rfl) (by simp (disch := first | omega | (simp only [lenB]; omega)) only [evB, Sz.cells, Sz.val, Int.cast_ofNat_Int, *]) (by simp (disch := first | omega | (simp only [lenB]; omega)) only [evB, Sz.cells, Sz.val, Int.cast_ofNat_Int, *]; rfl) ?_
    refine wpH_call0 (border33 (s := s) (row := row) (col := col) hok (by omega) (by omega) (by omega) (by omega)) ?_
    rintro v H7 ⟨hx7, rfl⟩
    have f0 := (hx7).get f0; have f1 := (hx7).get f1; have f7 := (hx7).get f7; have fq := (hx7).get fq; have fd := (hx7).get fd; have fm := (hx7).get fm
    have hlM := Nat.lt_of_lt_of_le hlM hx7.1
    have hx7 := hx6.trans hx7
    have hl7 := hx7.1
    have hfd := Heap.get_lt fd
    clear hrow hcol hdi hxl2
    (try simp only [ctlB])
    repeat' (first | (refine aw_sets (by simp (disch := first | omega | (simp only [lenB]; omega)) only [evB, Sz.cells, Sz.val, Int.cast_ofNat_Int, *]; rfl) (by simp (disch := first | omega | (simp only [lenB]; omega)) only [evB, Sz.cells, Sz.val, Int.cast_ofNat_Int, *]) (by simp (disch := first | omega | (simp only [lenB]; omega)) only [evB, Sz.cells, Sz.val, Int.cast_ofNat_Int, *]; rfl) ?_; (try simp only [ctlB])) | (refine aw_op rfl (by simp (disch := first | omega | (simp only [lenB]; omega)) only [evB, Sz.cells, Sz.val, Int.cast_ofNat_Int, *]; rfl) (by simp (disch := first | omega | (simp only [lenB]; omega)) only [evB, Sz.cells, Sz.val, Int.cast_ofNat_Int, *]) (by simp (disch := first | omega | (simp only [lenB]; omega)) only [evB, Sz.cells, Sz.val, Int.cast_ofNat_Int, *]; rfl) (by simp (disch := first | omega | (simp only [lenB]; omega)) only [evB, Sz.cells, Sz.val, Int.cast_ofNat_Int, *]; rfl) (by simp (disch := first | omega | (simp only [lenB]; omega)) only [evB, Sz.cells, Sz.val, Int.cast_ofNat_Int, *]; rfl) ?_; (try simp only [ctlB])))
    cases hB : locB s row col with
    | true =>
      rw [hB, Bool.true_and] at hsucc
      rw [if_pos hB] at hex
      have hbD := bordD_eq hB
      rw [hbD]
      clear hbD
      refine aw_cond (by simp (disch := first | omega | (simp only [lenB]; omega)) only [evB, Sz.cells, Sz.val, Int.cast_ofNat_Int, *]; rfl) (fun h => ?_) (fun h => ?_)
      · have hbad : badPat s dk dk.length = true := badPat_mono (i := i + 1) (by rw [hsucc]; revert h; cases di <;> cases locD s row col <;> simp) (by omega)
        clear h hsucc
        (try simp only [ctlB])
        repeat' (first | (refine aw_sets (by simp (disch := first | omega | (simp only [lenB]; omega)) only [evB, Sz.cells, Sz.val, Int.cast_ofNat_Int, *]; rfl) (by simp (disch := first | omega | (simp only [lenB]; omega)) only [evB, Sz.cells, Sz.val, Int.cast_ofNat_Int, *]) (by simp (disch := first | omega | (simp only [lenB]; omega)) only [evB, Sz.cells, Sz.val, Int.cast_ofNat_Int, *]; rfl) ?_; (try simp only [ctlB])) | (refine aw_op rfl (by simp (disch := first | omega | (simp only [lenB]; omega)) only [evB, Sz.cells, Sz.val, Int.cast_ofNat_Int, *]; rfl) (by simp (disch := first | omega | (simp only [lenB]; omega)) only [evB, Sz.cells, Sz.val, Int.cast_ofNat_Int, *]) (by simp (disch := first | omega | (simp only [lenB]; omega)) only [evB, Sz.cells, Sz.val, Int.cast_ofNat_Int, *]; rfl) (by simp (disch := first | omega | (simp only [lenB]; omega)) only [evB, Sz.cells, Sz.val, Int.cast_ofNat_Int, *]; rfl) (by simp (disch := first | omega | (simp only [lenB]; omega)) only [evB, Sz.cells, Sz.val, Int.cast_ofNat_Int, *]; rfl) ?_; (try simp only [ctlB])))
        refine body_ret (by simp only [cf23]; simp (disch := first | omega | (simp only [lenB]; omega)) only [evB, Sz.cells, Sz.val, Int.cast_ofNat_Int, *]; rfl) ?_
        exact ⟨hx7.set (by omega), .inr (.inr (.inl ⟨hv, s, hf, hbad, rfl⟩))⟩
      · have hgood : badPat s dk (i + 1) = false := by rw [hsucc]; revert h; cases di <;> cases locD s row col <;> simp
        clear h hsucc
        (try simp only [ctlB])
        refine aw_cond (by simp (disch := first | omega | (simp only [lenB]; omega)) only [evB, Sz.cells, Sz.val, Int.cast_ofNat_Int, *]; rfl) (fun h => ?_) (fun h => ?_)
        · simp at h
        clear h
        (try simp only [ctlB])
        repeat' (first | (refine aw_sets (by simp (disch := first | omega | (simp only [lenB]; omega)) only [evB, Sz.cells, Sz.val, Int.cast_ofNat_Int, *]; rfl) (by simp (disch := first | omega | (simp only [lenB]; omega)) only [evB, Sz.cells, Sz.val, Int.cast_ofNat_Int, *]) (by simp (disch := first | omega | (simp only [lenB]; omega)) only [evB, Sz.cells, Sz.val, Int.cast_ofNat_Int, *]; rfl) ?_; (try simp only [ctlB])) | (refine aw_op rfl (by simp (disch := first | omega | (simp only [lenB]; omega)) only [evB, Sz.cells, Sz.val, Int.cast_ofNat_Int, *]; rfl) (by simp (disch := first | omega | (simp only [lenB]; omega)) only [evB, Sz.cells, Sz.val, Int.cast_ofNat_Int, *]) (by simp (disch := first | omega | (simp only [lenB]; omega)) only [evB, Sz.cells, Sz.val, Int.cast_ofNat_Int, *]; rfl) (by simp (disch := first | omega | (simp only [lenB]; omega)) only [evB, Sz.cells, Sz.val, Int.cast_ofNat_Int, *]; rfl) (by simp (disch := first | omega | (simp only [lenB]; omega)) only [evB, Sz.cells, Sz.val, Int.cast_ofNat_Int, *]; rfl) ?_; (try simp only [ctlB])))
        exact ⟨hx7, hlM, f0, f1, f7, fq, fd, hgood, xs, fm, hwb.congr (fun v _ => by rw [seen_succ, hex]; simp), _, _, _, _, _, _, _, _, _, _, _, _, _, _, _, _, _, _, _, _, _,  by first | rfl | (simp only [Int.natCast_add, Int.natCast_one]; rfl) | simp only [Int.natCast_add, Int.natCast_one]⟩
    | false =>
    have hloc := hloc hB
    rw [hB, Bool.false_and] at hsucc
    have hnb : ¬ locB s row col = true := by rw [hB]; simp
    rw [if_neg hnb] at hex
    have hltI : (locI s row col).toNat < (mapR s * mapC s).toNat := by omega
    have hlt8 := hod.lt (locI s row col).toNat hltI
    have hgd : gf.cells.getD (locI s row col).toNat 0 = gf.cells.getD (locI s row col).toNat (-1) := by
      simp [List.getD_eq_getElem?_getD, List.getElem?_eq_getElem (show (locI s row col).toNat < gf.cells.length by omega)]
    rw [← hgd] at hlt8
    clear hgd hnb
    have hnI : (locI s row col).toNat < gf.cells.length := by omega
    have hlocb := mul_bd (a := mapR s) (b := mapC s) (A := 40000) (B := 40000) (by omega) (by omega) (by omega) (by omega) (by omega)
    refine aw_cond (by simp (disch := first | omega | (simp only [lenB]; omega)) only [evB, Sz.cells, Sz.val, Int.cast_ofNat_Int, *]; rfl) (fun h => ?_) (fun h => ?_)
    · simp at h
    clear h
    (try simp only [ctlB])
    refine aw_cond (by simp (disch := first | omega | (simp only [lenB]; omega)) only [evB, Sz.cells, Sz.val, Int.cast_ofNat_Int, *]; rfl) (fun h => ?_) (fun h => ?_)
    · have hdt : di = true := by simpa using h
      clear h
      subst hdt
      (try simp only [ctlB])
      repeat' (first | (refine aw_sets (by simp (disch := first | omega | (simp only [lenB]; omega)) only [evB, Sz.cells, Sz.val, Int.cast_ofNat_Int, *]; rfl) (by simp (disch := first | omega | (simp only [lenB]; omega)) only [evB, Sz.cells, Sz.val, Int.cast_ofNat_Int, *]) (by simp (disch := first | omega | (simp only [lenB]; omega)) only [evB, Sz.cells, Sz.val, Int.cast_ofNat_Int, *]; rfl) ?_; (try simp only [ctlB])) | (refine aw_op rfl (by simp (disch := first | omega | (simp only [lenB]; omega)) only [evB, Sz.cells, Sz.val, Int.cast_ofNat_Int, *]; rfl) (by simp (disch := first | omega | (simp only [lenB]; omega)) only [evB, Sz.cells, Sz.val, Int.cast_ofNat_Int, *]) (by simp (disch := first | omega | (simp only [lenB]; omega)) only [evB, Sz.cells, Sz.val, Int.cast_ofNat_Int, *]; rfl) (by simp (disch := first | omega | (simp only [lenB]; omega)) only [evB, Sz.cells, Sz.val, Int.cast_ofNat_Int, *]; rfl) (by simp (disch := first | omega | (simp only [lenB]; omega)) only [evB, Sz.cells, Sz.val, Int.cast_ofNat_Int, *]; rfl) ?_; (try simp only [ctlB])))
      refine aw_hv (by simp (disch := first | omega | (simp only [lenB]; omega)) only [evB, Sz.cells, Sz.val, Int.cast_ofNat_Int, *]; rfl) (by simp (disch := first | omega | (simp only [lenB]; omega)) only [evB, Sz.cells, Sz.val, Int.cast_ofNat_Int, *]) (by simp (disch := first | omega | (simp only [lenB]; omega)) only [evB, Sz.cells, Sz.val, Int.cast_ofNat_Int, *]; rfl) ?_
      refine wpH_call0 (cell34 (s := s) (row := row) (col := col) hok (by omega) (by omega) (by omega) (by omega) (by omega) hB) ?_
      rintro v H8 ⟨hx8, rfl⟩
      have f0 := (hx8).get f0; have f1 := (hx8).get f1; have f7 := (hx8).get f7; have fq := (hx8).get fq; have fd := (hx8).get fd; have fm := (hx8).get fm
      have hlM := Nat.lt_of_lt_of_le hlM hx8.1
      have hx8 := hx7.trans hx8
      have hl8 := hx8.1
      (try simp only [ctlB])
      repeat' (first | (refine aw_sets (by simp (disch := first | omega | (simp only [lenB]; omega)) only [evB, Sz.cells, Sz.val, Int.cast_ofNat_Int, *]; rfl) (by simp (disch := first | omega | (simp only [lenB]; omega)) only [evB, Sz.cells, Sz.val, Int.cast_ofNat_Int, *]) (by simp (disch := first | omega | (simp only [lenB]; omega)) only [evB, Sz.cells, Sz.val, Int.cast_ofNat_Int, *]; rfl) ?_; (try simp only [ctlB])) | (refine aw_op rfl (by simp (disch := first | omega | (simp only [lenB]; omega)) only [evB, Sz.cells, Sz.val, Int.cast_ofNat_Int, *]; rfl) (by simp (disch := first | omega | (simp only [lenB]; omega)) only [evB, Sz.cells, Sz.val, Int.cast_ofNat_Int, *]) (by simp (disch := first | omega | (simp only [lenB]; omega)) only [evB, Sz.cells, Sz.val, Int.cast_ofNat_Int, *]; rfl) (by simp (disch := first | omega | (simp only [lenB]; omega)) only [evB, Sz.cells, Sz.val, Int.cast_ofNat_Int, *]; rfl) (by simp (disch := first | omega | (simp only [lenB]; omega)) only [evB, Sz.cells, Sz.val, Int.cast_ofNat_Int, *]; rfl) ?_; (try simp only [ctlB])))
      generalize hn : gf.cells.getD (locI s row col).toNat 0 = n at *
      refine aw_cond (by simp (disch := first | omega | (simp only [lenB]; omega)) only [evB, Sz.cells, Sz.val, Int.cast_ofNat_Int, *]; rfl) (fun h => ?_) (fun h => ?_)
      · have hn0 : 0 ≤ n := by simpa using h
        clear h
        rw [if_pos ⟨hn0, rfl⟩] at hex
        obtain ⟨m, rfl⟩ := Int.eq_ofNat_of_zero_le hn0
        simp only [Int.toNat_natCast] at hex
        have hm8 : m < 8 * W := by omega
        have hdiv : (m : Int).tdiv 8 = ((m / 8 : Nat) : Int) := by rw [Int.tdiv_eq_ediv_of_nonneg (by omega)]; rfl
        have m8 := tmod_bd (a := (m : Int)) (m := 8) hn0 (by omega)
        have hxl := hwb.1
        have hxl2 : xs.length ≤ W ∧ W ≤ xs.length := by omega
        clear hxl
        have hnew : seen (exP s gf.cells dk) i m = false := by
          rw [Bool.eq_false_iff]
          intro hs
          obtain ⟨k, hk, hk2⟩ := seen_true.1 hs
          have := hinj k m (by omega) hex hk2
          omega
        have hstep := hwb.step hm8 (y := IntKind.i64.wrap (xs.getD (m / 8) 0 + IntKind.i64.wrap (1 * 2 ^ (min (7 - (m : Int).tmod 8).toNat IntKind.i64.bits)))) (fun x' h1 h2 h3 => by rw [h2]; exact add_ref h1 (by rw [h3, hnew]))
        have hwb2 := hstep.congr (g := seen (exP s gf.cells dk) (i + 1)) (fun v _ => by rw [seen_succ, hex]; congr 1; rw [Bool.eq_iff_iff]; simp [eq_comm])
        have hyy : ∃ y, IntKind.i64.wrap (xs.getD (m / 8) 0 + IntKind.i64.wrap (1 * 2 ^ (min (7 - (m : Int).tmod 8).toNat IntKind.i64.bits))) = y := ⟨_, rfl⟩
        obtain ⟨y, hy⟩ := hyy
        rw [hy] at hwb2
        clear hex hinj hnew hstep
        (try simp only [ctlB])
        repeat' (first | (refine aw_sets (by simp (disch := first | omega | (simp only [lenB]; omega)) only [evB, Sz.cells, Sz.val, Int.cast_ofNat_Int, *]; rfl) (by simp (disch := first | omega | (simp only [lenB]; omega)) only [evB, Sz.cells, Sz.val, Int.cast_ofNat_Int, *]) (by simp (disch := first | omega | (simp only [lenB]; omega)) only [evB, Sz.cells, Sz.val, Int.cast_ofNat_Int, *]; rfl) ?_; (try simp only [ctlB])) | (refine aw_op rfl (by simp (disch := first | omega | (simp only [lenB]; omega)) only [evB, Sz.cells, Sz.val, Int.cast_ofNat_Int, *]; rfl) (by simp (disch := first | omega | (simp only [lenB]; omega)) only [evB, Sz.cells, Sz.val, Int.cast_ofNat_Int, *]) (by simp (disch := first | omega | (simp only [lenB]; omega)) only [evB, Sz.cells, Sz.val, Int.cast_ofNat_Int, *]; rfl) (by simp (disch := first | omega | (simp only [lenB]; omega)) only [evB, Sz.cells, Sz.val, Int.cast_ofNat_Int, *]; rfl) (by simp (disch := first | omega | (simp only [lenB]; omega)) only [evB, Sz.cells, Sz.val, Int.cast_ofNat_Int, *]; rfl) ?_; (try simp only [ctlB])))
        exact ⟨hx8.set (by omega), by simp; omega, by simp (disch := first | omega | (simp only [lenB]; omega)) only [evB, Sz.cells, Sz.val, Int.cast_ofNat_Int, *], by simp (disch := first | omega | (simp only [lenB]; omega)) only [evB, Sz.cells, Sz.val, Int.cast_ofNat_Int, *], by simp (disch := first | omega | (simp only [lenB]; omega)) only [evB, Sz.cells, Sz.val, Int.cast_ofNat_Int, *], by simp (disch := first | omega | (simp only [lenB]; omega)) only [evB, Sz.cells, Sz.val, Int.cast_ofNat_Int, *], by simp (disch := first | omega | (simp only [lenB]; omega)) only [evB, Sz.cells, Sz.val, Int.cast_ofNat_Int, *], hsucc, xs.set (m / 8) y, by simp (disch := first | omega | (simp only [lenB]; omega)) only [evB, Sz.cells, Sz.val, Int.cast_ofNat_Int, *], hwb2, _, _, _, _, _, _, _, _, _, _, _, _, _, _, _, _, _, _, _, _, _,  by first | rfl | (simp only [Int.natCast_add, Int.natCast_one]; rfl) | simp only [Int.natCast_add, Int.natCast_one]⟩
      · have hc : ¬ (0 ≤ n ∧ true = true) := by simpa using h
        clear h
        rw [if_neg hc] at hex
        (try simp only [ctlB])
        repeat' (first | (refine aw_sets (by simp (disch := first | omega | (simp only [lenB]; omega)) only [evB, Sz.cells, Sz.val, Int.cast_ofNat_Int, *]; rfl) (by simp (disch := first | omega | (simp only [lenB]; omega)) only [evB, Sz.cells, Sz.val, Int.cast_ofNat_Int, *]) (by simp (disch := first | omega | (simp only [lenB]; omega)) only [evB, Sz.cells, Sz.val, Int.cast_ofNat_Int, *]; rfl) ?_; (try simp only [ctlB])) | (refine aw_op rfl (by simp (disch := first | omega | (simp only [lenB]; omega)) only [evB, Sz.cells, Sz.val, Int.cast_ofNat_Int, *]; rfl) (by simp (disch := first | omega | (simp only [lenB]; omega)) only [evB, Sz.cells, Sz.val, Int.cast_ofNat_Int, *]) (by simp (disch := first | omega | (simp only [lenB]; omega)) only [evB, Sz.cells, Sz.val, Int.cast_ofNat_Int, *]; rfl) (by simp (disch := first | omega | (simp only [lenB]; omega)) only [evB, Sz.cells, Sz.val, Int.cast_ofNat_Int, *]; rfl) (by simp (disch := first | omega | (simp only [lenB]; omega)) only [evB, Sz.cells, Sz.val, Int.cast_ofNat_Int, *]; rfl) ?_; (try simp only [ctlB])))
        exact ⟨hx8, hlM, f0, f1, f7, fq, fd, hsucc, xs, fm, hwb.congr (fun v _ => by rw [seen_succ, hex]; simp), _, _, _, _, _, _, _, _, _, _, _, _, _, _, _, _, _, _, _, _, _,  by first | rfl | (simp only [Int.natCast_add, Int.natCast_one]; rfl) | simp only [Int.natCast_add, Int.natCast_one]⟩
    · have hdt : di = false := by simpa using h
      clear h
      subst hdt
      rw [if_neg (by simp)] at hex
      (try simp only [ctlB])
      repeat' (first | (refine aw_sets (by simp (disch := first | omega | (simp only [lenB]; omega)) only [evB, Sz.cells, Sz.val, Int.cast_ofNat_Int, *]; rfl) (by simp (disch := first | omega | (simp only [lenB]; omega)) only [evB, Sz.cells, Sz.val, Int.cast_ofNat_Int, *]) (by simp (disch := first | omega | (simp only [lenB]; omega)) only [evB, Sz.cells, Sz.val, Int.cast_ofNat_Int, *]; rfl) ?_; (try simp only [ctlB])) | (refine aw_op rfl (by simp (disch := first | omega | (simp only [lenB]; omega)) only [evB, Sz.cells, Sz.val, Int.cast_ofNat_Int, *]; rfl) (by simp (disch := first | omega | (simp only [lenB]; omega)) only [evB, Sz.cells, Sz.val, Int.cast_ofNat_Int, *]) (by simp (disch := first | omega | (simp only [lenB]; omega)) only [evB, Sz.cells, Sz.val, Int.cast_ofNat_Int, *]; rfl) (by simp (disch := first | omega | (simp only [lenB]; omega)) only [evB, Sz.cells, Sz.val, Int.cast_ofNat_Int, *]; rfl) (by simp (disch := first | omega | (simp only [lenB]; omega)) only [evB, Sz.cells, Sz.val, Int.cast_ofNat_Int, *]; rfl) ?_; (try simp only [ctlB])))
      exact ⟨hx7, hlM, f0, f1, f7, fq, fd, hsucc, xs, fm, hwb.congr (fun v _ => by rw [seen_succ, hex]; simp), _, _, _, _, _, _, _, _, _, _, _, _, _, _, _, _, _, _, _, _, _,  by first | rfl | (simp only [Int.natCast_add, Int.natCast_one]; rfl) | simp only [Int.natCast_add, Int.natCast_one]⟩
  · rintro S H6 ⟨hx6, hlM, f0, f1, f7, fq, fd, hbp, xs, fm, hwb, z0, z2, z4, z6, z7, z8, z9, z13, z14, z15, z16, z17, z18, z19, z20, z21, z22, z23, z24, z25, z26,  rfl⟩
    have hxl := hwb.1
    have hl6 := hx6.1
    (try simp only [ctlB])
    repeat' (first | (refine aw_sets (by simp (disch := first | omega | (simp only [lenB]; omega)) only [evB, Sz.cells, Sz.val, Int.cast_ofNat_Int, *]; rfl) (by simp (disch := first | omega | (simp only [lenB]; omega)) only [evB, Sz.cells, Sz.val, Int.cast_ofNat_Int, *]) (by simp (disch := first | omega | (simp only [lenB]; omega)) only [evB, Sz.cells, Sz.val, Int.cast_ofNat_Int, *]; rfl) ?_; (try simp only [ctlB])) | (refine aw_op rfl (by simp (disch := first | omega | (simp only [lenB]; omega)) only [evB, Sz.cells, Sz.val, Int.cast_ofNat_Int, *]; rfl) (by simp (disch := first | omega | (simp only [lenB]; omega)) only [evB, Sz.cells, Sz.val, Int.cast_ofNat_Int, *]) (by simp (disch := first | omega | (simp only [lenB]; omega)) only [evB, Sz.cells, Sz.val, Int.cast_ofNat_Int, *]; rfl) (by simp (disch := first | omega | (simp only [lenB]; omega)) only [evB, Sz.cells, Sz.val, Int.cast_ofNat_Int, *]; rfl) (by simp (disch := first | omega | (simp only [lenB]; omega)) only [evB, Sz.cells, Sz.val, Int.cast_ofNat_Int, *]; rfl) ?_; (try simp only [ctlB])))
    refine body_ret (by simp only [cf23]; simp (disch := first | omega | (simp only [lenB]; omega)) only [evB, Sz.cells, Sz.val, Int.cast_ofNat_Int, *]; rfl) ?_
    refine ⟨hx6.set (by omega), .inr (.inr (.inr ⟨hv, s, gf, _, xs, hf, hso, hbp, by rw [hWn]; exact hwb, rfl, ?_⟩))⟩
    rw [← hxl]
    exact .inr ⟨M, none, _, xs, rfl, by rw [get_set_ne (by omega)]; exact fm, fun _ _ => rfl, Nat.le_refl _⟩
end Go.Proofs.Ytobfjbominbkmaa
