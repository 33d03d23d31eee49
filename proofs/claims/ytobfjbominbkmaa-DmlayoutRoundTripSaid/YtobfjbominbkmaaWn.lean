/-
  Place of the reference: the walk.
-/
import Derived.Test.YtobfjbominbkmaaWm
namespace Go.Proofs.Ytobfjbominbkmaa
open Go.Abs
set_option linter.unusedSimpArgs false
set_option linter.unusedVariables false
set_option maxRecDepth 20000
theorem rc_div {C x y : Nat} (hx : x < C) : ((y * C + x : Nat) : Int).tdiv (C : Int) = y ∧ ((y * C + x : Nat) : Int).tmod (C : Int) = x := by
  rw [Int.tdiv_eq_ediv_of_nonneg (by omega), Int.tmod_eq_emod_of_nonneg (by omega)]
  have h1 : (y * C + x) / C = y := by rw [Nat.mul_comm, Nat.mul_add_div (by omega), Nat.div_eq_of_lt hx]; rfl
  have h2 : (y * C + x) % C = x := by rw [Nat.mul_comm, Nat.mul_add_mod, Nat.mod_eq_of_lt hx]
  exact ⟨by rw [← Int.natCast_ediv, h1], by rw [← Int.natCast_emod, h2]⟩
theorem modBits_succ {s : Sz} {o ws : List Int} {n : Nat} : modBits s o ws (n + 1) = modBits s o ws n ++ [modBit s o ws n] := by simp [modBits, List.range_succ]
theorem words_bad {ws : List Int} (h : badWord ws = false) {i : Nat} (hi : i < ws.length) : 0 ≤ ws.getD i 0 ∧ ws.getD i 0 ≤ 255 := by
  have : ∀ w ∈ ws, ¬ (w < 0 ∨ 255 < w) := by
    intro w hw hc
    have : badWord ws = true := List.any_eq_true.2 ⟨w, hw, by simpa using hc⟩
    rw [h] at this; cases this
  have := this (ws.getD i 0) (by rw [List.getD_eq_getElem?_getD, List.getElem?_eq_getElem hi]; exact List.getElem_mem hi)
  omega
theorem mem_take_succ {s : Sz} {i : Nat} (h : i < 30) : decide (s ∈ szs.take (i + 1)) = (decide (s ∈ szs.take i) || decide (szAt i = s)) := by
  rw [take_succ_sz h, Bool.eq_iff_iff]
  simp only [List.mem_append, List.mem_singleton, Bool.or_eq_true, decide_eq_true_eq]
  constructor
  · rintro (h | h)
    · exact .inl h
    · exact .inr h.symm
  · rintro (h | h)
    · exact .inl h
    · exact .inr h.symm
set_option maxHeartbeats 8000000 in
theorem place19 {lo : Nat} {H : Heap} {v : Value} {ws : List Int} {s : Sz} (hlo : lo ≤ H.length) (hw : SlI H v ws) :
    Ev cp lo 19 [v, s.val] H (fun r H' => Ext H H' ∧
      ((¬ s ∈ szs ∧ r = .tuple #[.agg #[.int .i64 0, .int .i64 0, .slice none 0 0], .int .i64 14]) ∨
       (s ∈ szs ∧ (ws.length : Int) ≠ s.d + s.k ∧ r = .tuple #[.agg #[.int .i64 0, .int .i64 0, .slice none 0 0], .int .i64 7]) ∨
       (s ∈ szs ∧ (ws.length : Int) = s.d + s.k ∧ badWord ws = true ∧ r = .tuple #[.agg #[.int .i64 0, .int .i64 0, .slice none 0 0], .int .i64 3]) ∨
       (s ∈ szs ∧ (ws.length : Int) = s.d + s.k ∧ badWord ws = false ∧ ∃ gf vd, SizeOrd s gf ∧ r = .tuple #[.agg #[.int .i64 s.c, .int .i64 s.r, vd], .int .i64 0] ∧ SlB H' vd (modBits s gf.cells ws (s.r * s.c).toNat)))) := by
  have hw0 := hw
  obtain ⟨adw, cw, rfl⟩ := hw.len
  refine st19 ?_; unfold bd19; (try simp only [ctlB])
  repeat' (first | (refine aw_sets (by simp (disch := first | omega | (simp only [lenB]; omega)) only [evB, Sz.cells, Sz.val, *]; rfl) (by simp (disch := first | omega | (simp only [lenB]; omega)) only [evB, Sz.cells, Sz.val, *]) (by simp (disch := first | omega | (simp only [lenB]; omega)) only [evB, Sz.cells, Sz.val, *]; rfl) ?_; (try simp only [ctlB])) | (refine aw_op rfl (by simp (disch := first | omega | (simp only [lenB]; omega)) only [evB, Sz.cells, Sz.val, *]; rfl) (by simp (disch := first | omega | (simp only [lenB]; omega)) only [evB, Sz.cells, Sz.val, *]) (by simp (disch := first | omega | (simp only [lenB]; omega)) only [evB, Sz.cells, Sz.val, *]; rfl) (by simp (disch := first | omega | (simp only [lenB]; omega)) only [evB, Sz.cells, Sz.val, *]; rfl) (by simp (disch := first | omega | (simp only [lenB]; omega)) only [evB, Sz.cells, Sz.val, *]; rfl) ?_; (try simp only [ctlB])))
  refine aw_hv (by simp (disch := first | omega | (simp only [lenB]; omega)) only [evB, Sz.cells, Sz.val, *]; rfl) (by simp (disch := first | omega | (simp only [lenB]; omega)) only [evB, Sz.cells, Sz.val, *]) (by simp (disch := first | omega | (simp only [lenB]; omega)) only [evB, Sz.cells, Sz.val, *]; rfl) ?_
  refine wpH_call0 (sizes11 (by simp; omega)) ?_
  rintro v1 H1 ⟨j, hj, rfl, hg, hE⟩
  have g0 : H1.get H.length = some _ := hE.get (by simp (disch := first | omega | (simp only [lenB]; omega)) only [evB, Sz.cells, Sz.val, *]; rfl)
  have g1 : H1.get (H.length + 1) = some _ := hE.get (by simp (disch := first | omega | (simp only [lenB]; omega)) only [evB, Sz.cells, Sz.val, *]; rfl)
  have hx1 := hE.of_app
  have hl1 := hE.1
  simp only [List.length_append, List.length_cons, List.length_nil] at hj hl1
  clear hE
  (try simp only [ctlB])
  repeat' (first | (refine aw_sets (by simp (disch := first | omega | (simp only [lenB]; omega)) only [evB, Sz.cells, Sz.val, *]; rfl) (by simp (disch := first | omega | (simp only [lenB]; omega)) only [evB, Sz.cells, Sz.val, *]) (by simp (disch := first | omega | (simp only [lenB]; omega)) only [evB, Sz.cells, Sz.val, *]; rfl) ?_; (try simp only [ctlB])) | (refine aw_op rfl (by simp (disch := first | omega | (simp only [lenB]; omega)) only [evB, Sz.cells, Sz.val, *]; rfl) (by simp (disch := first | omega | (simp only [lenB]; omega)) only [evB, Sz.cells, Sz.val, *]) (by simp (disch := first | omega | (simp only [lenB]; omega)) only [evB, Sz.cells, Sz.val, *]; rfl) (by simp (disch := first | omega | (simp only [lenB]; omega)) only [evB, Sz.cells, Sz.val, *]; rfl) (by simp (disch := first | omega | (simp only [lenB]; omega)) only [evB, Sz.cells, Sz.val, *]; rfl) ?_; (try simp only [ctlB])))
  refine aw_midXB (fun S H' => H1 = H' ∧ ∃ i z1 z8 z9 z10 z11 z12 z13 z14 z15 z16 z17 z18 z19 z20 z21 z22 z23 z24 z25 z26 z27, 30 ≤ i ∧ S = [.slice adw ws.length cw, z1, .pointer (some ⟨H.length, 0, none⟩), .pointer (some ⟨H.length + 1, 0, none⟩), .int .i64 0, .bool (decide (s ∈ szs.take i)), .slice (some ⟨j, 0, some 7⟩) 30 30, .int .i64 (i : Nat), z8, z9, z10, z11, z12, z13, z14, z15, z16, z17, z18, z19, z20, z21, z22, z23, z24, z25, z26, z27]) ?_ ?_
  · refine aw_for (fun i S H' => H1 = H' ∧ ∃ z1 z8 z9 z10 z11 z12 z13 z14 z15 z16 z17 z18 z19 z20 z21 z22 z23 z24 z25 z26 z27, S = [.slice adw ws.length cw, z1, .pointer (some ⟨H.length, 0, none⟩), .pointer (some ⟨H.length + 1, 0, none⟩), .int .i64 0, .bool (decide (s ∈ szs.take i)), .slice (some ⟨j, 0, some 7⟩) 30 30, .int .i64 (i : Nat), z8, z9, z10, z11, z12, z13, z14, z15, z16, z17, z18, z19, z20, z21, z22, z23, z24, z25, z26, z27]) 30 ?_ ?_ ?_ ?_
    · exact ⟨rfl, _, _, _, _, _, _, _, _, _, _, _, _, _, _, _, _, _, _, _, _, _,  by simp only [List.take_zero, List.not_mem_nil, decide_false]; rfl⟩
    · rintro i S H' hi ⟨rfl, z1, z8, z9, z10, z11, z12, z13, z14, z15, z16, z17, z18, z19, z20, z21, z22, z23, z24, z25, z26, z27,  rfl⟩
      exact ⟨_, by simp (disch := first | omega | (simp only [lenB]; omega)) only [evB, Sz.cells, Sz.val, *]; rfl, by simp; omega⟩
    · rintro i S H' hi ⟨rfl, z1, z8, z9, z10, z11, z12, z13, z14, z15, z16, z17, z18, z19, z20, z21, z22, z23, z24, z25, z26, z27,  rfl⟩
      have hrow := szCells_at hi
      have hlen := szCells_len
      have hse := sz_eq (a := szAt i) (b := s)
      simp only [Sz.cells] at hse
      (try simp only [ctlB])
      repeat' (first | (refine aw_sets (by simp (disch := first | omega | (simp only [lenB]; omega)) only [evB, Sz.cells, Sz.val, *]; rfl) (by simp (disch := first | omega | (simp only [lenB]; omega)) only [evB, Sz.cells, Sz.val, *]) (by simp (disch := first | omega | (simp only [lenB]; omega)) only [evB, Sz.cells, Sz.val, *]; rfl) ?_; (try simp only [ctlB])) | (refine aw_op rfl (by simp (disch := first | omega | (simp only [lenB]; omega)) only [evB, Sz.cells, Sz.val, *]; rfl) (by simp (disch := first | omega | (simp only [lenB]; omega)) only [evB, Sz.cells, Sz.val, *]) (by simp (disch := first | omega | (simp only [lenB]; omega)) only [evB, Sz.cells, Sz.val, *]; rfl) (by simp (disch := first | omega | (simp only [lenB]; omega)) only [evB, Sz.cells, Sz.val, *]; rfl) (by simp (disch := first | omega | (simp only [lenB]; omega)) only [evB, Sz.cells, Sz.val, *]; rfl) ?_; (try simp only [ctlB])))
      have e : decide (s ∈ szs.take (i + 1)) = (decide (s ∈ szs.take i) || decide (szAt i = s) != false) := by rw [mem_take_succ hi]; simp
      exact ⟨by trivial, _, _, _, _, _, _, _, _, _, _, _, _, _, _, _, _, _, _, _, _, _,  by rw [e]; first | rfl | (simp only [Int.natCast_add, Int.natCast_one]; rfl) | simp only [Int.natCast_add, Int.natCast_one]⟩
    · rintro S H' ⟨rfl, z1, z8, z9, z10, z11, z12, z13, z14, z15, z16, z17, z18, z19, z20, z21, z22, z23, z24, z25, z26, z27,  rfl⟩
      exact ⟨rfl, _, _, _, _, _, _, _, _, _, _, _, _, _, _, _, _, _, _, _, _, _, _,  Nat.le_refl _, rfl⟩
  rintro S H' ⟨rfl, i, z1, z8, z9, z10, z11, z12, z13, z14, z15, z16, z17, z18, z19, z20, z21, z22, z23, z24, z25, z26, z27,  hi, rfl⟩
  rw [List.take_of_length_le (by rw [szs_len]; omega)]
  (try simp only [ctlB])
  refine aw_cond (by simp (disch := first | omega | (simp only [lenB]; omega)) only [evB, Sz.cells, Sz.val, *]; rfl) (fun h => ?_) (fun h => ?_)
  · have hsm : ¬ s ∈ szs := by simpa using h
    clear h
    (try simp only [ctlB])
    repeat' (first | (refine aw_sets (by simp (disch := first | omega | (simp only [lenB]; omega)) only [evB, Sz.cells, Sz.val, *]; rfl) (by simp (disch := first | omega | (simp only [lenB]; omega)) only [evB, Sz.cells, Sz.val, *]) (by simp (disch := first | omega | (simp only [lenB]; omega)) only [evB, Sz.cells, Sz.val, *]; rfl) ?_; (try simp only [ctlB])) | (refine aw_op rfl (by simp (disch := first | omega | (simp only [lenB]; omega)) only [evB, Sz.cells, Sz.val, *]; rfl) (by simp (disch := first | omega | (simp only [lenB]; omega)) only [evB, Sz.cells, Sz.val, *]) (by simp (disch := first | omega | (simp only [lenB]; omega)) only [evB, Sz.cells, Sz.val, *]; rfl) (by simp (disch := first | omega | (simp only [lenB]; omega)) only [evB, Sz.cells, Sz.val, *]; rfl) (by simp (disch := first | omega | (simp only [lenB]; omega)) only [evB, Sz.cells, Sz.val, *]; rfl) ?_; (try simp only [ctlB])))
    refine body_ret (by simp only [cf19]; simp (disch := first | omega | (simp only [lenB]; omega)) only [evB, Sz.cells, Sz.val, *]; rfl) ?_
    exact ⟨hx1.set (by omega), .inl ⟨hsm, rfl⟩⟩
  have hsm : s ∈ szs := by simpa using h
  clear h hg
  obtain ⟨gf, hso⟩ := so_all s hsm
  have hok := szs_ok s hsm
  have hok' := hok
  obtain ⟨r0, r1, c0, c1, rr0, rr1, rc0, rc1, d0, d1, k0, k1⟩ := hok'
  (try simp only [ctlB])
  refine aw_cond (by simp (disch := first | omega | (simp only [lenB]; omega)) only [evB, Sz.cells, Sz.val, *]; rfl) (fun h => ?_) (fun h => ?_)
  · have hlen : ¬ (ws.length : Int) = s.d + s.k := by simpa using h
    clear h
    (try simp only [ctlB])
    repeat' (first | (refine aw_sets (by simp (disch := first | omega | (simp only [lenB]; omega)) only [evB, Sz.cells, Sz.val, *]; rfl) (by simp (disch := first | omega | (simp only [lenB]; omega)) only [evB, Sz.cells, Sz.val, *]) (by simp (disch := first | omega | (simp only [lenB]; omega)) only [evB, Sz.cells, Sz.val, *]; rfl) ?_; (try simp only [ctlB])) | (refine aw_op rfl (by simp (disch := first | omega | (simp only [lenB]; omega)) only [evB, Sz.cells, Sz.val, *]; rfl) (by simp (disch := first | omega | (simp only [lenB]; omega)) only [evB, Sz.cells, Sz.val, *]) (by simp (disch := first | omega | (simp only [lenB]; omega)) only [evB, Sz.cells, Sz.val, *]; rfl) (by simp (disch := first | omega | (simp only [lenB]; omega)) only [evB, Sz.cells, Sz.val, *]; rfl) (by simp (disch := first | omega | (simp only [lenB]; omega)) only [evB, Sz.cells, Sz.val, *]; rfl) ?_; (try simp only [ctlB])))
    refine body_ret (by simp only [cf19]; simp (disch := first | omega | (simp only [lenB]; omega)) only [evB, Sz.cells, Sz.val, *]; rfl) ?_
    exact ⟨hx1.set (by omega), .inr (.inl ⟨hsm, hlen, rfl⟩)⟩
  have hlen : (ws.length : Int) = s.d + s.k := by simpa using h
  clear h
  obtain ⟨b, o, sp, cap, xs, ew, hb, hat, hxl⟩ := hw0.els 0 (by omega)
  cases ew
  have hb := hx1.get hb
  have hsl : ws.length ≤ 3200 ∧ 0 < ws.length := by omega
  have hl2 : (ws.length : Int) ≤ s.d + s.k ∧ s.d + s.k ≤ ws.length := by omega
  (try simp only [ctlB])
  repeat' (first | (refine aw_sets (by simp (disch := first | omega | (simp only [lenB]; omega)) only [evB, Sz.cells, Sz.val, *]; rfl) (by simp (disch := first | omega | (simp only [lenB]; omega)) only [evB, Sz.cells, Sz.val, *]) (by simp (disch := first | omega | (simp only [lenB]; omega)) only [evB, Sz.cells, Sz.val, *]; rfl) ?_; (try simp only [ctlB])) | (refine aw_op rfl (by simp (disch := first | omega | (simp only [lenB]; omega)) only [evB, Sz.cells, Sz.val, *]; rfl) (by simp (disch := first | omega | (simp only [lenB]; omega)) only [evB, Sz.cells, Sz.val, *]) (by simp (disch := first | omega | (simp only [lenB]; omega)) only [evB, Sz.cells, Sz.val, *]; rfl) (by simp (disch := first | omega | (simp only [lenB]; omega)) only [evB, Sz.cells, Sz.val, *]; rfl) (by simp (disch := first | omega | (simp only [lenB]; omega)) only [evB, Sz.cells, Sz.val, *]; rfl) ?_; (try simp only [ctlB])))
  refine aw_midXB (fun S H' => H1 = H' ∧ badWord ws = false ∧ ∃ i z1 z5 z6 z7 z9 z10 z11 z12 z13 z14 z15 z16 z17 z18 z19 z20 z21 z22 z23 z24 z25 z26 z27, S = [.slice (some ⟨b, o, sp⟩) ws.length cw, z1, .pointer (some ⟨H.length, 0, none⟩), .pointer (some ⟨H.length + 1, 0, none⟩), .int .i64 0, z5, z6, z7, .int .i64 (i : Nat), z9, z10, z11, z12, z13, z14, z15, z16, z17, z18, z19, z20, z21, z22, z23, z24, z25, z26, z27]) ?_ ?_
  · refine aw_for (fun i S H' => H1 = H' ∧ badWord (ws.take i) = false ∧ ∃ z1 z5 z6 z7 z9 z10 z11 z12 z13 z14 z15 z16 z17 z18 z19 z20 z21 z22 z23 z24 z25 z26 z27, S = [.slice (some ⟨b, o, sp⟩) ws.length cw, z1, .pointer (some ⟨H.length, 0, none⟩), .pointer (some ⟨H.length + 1, 0, none⟩), .int .i64 0, z5, z6, z7, .int .i64 (i : Nat), z9, z10, z11, z12, z13, z14, z15, z16, z17, z18, z19, z20, z21, z22, z23, z24, z25, z26, z27]) ws.length ?_ ?_ ?_ ?_
    · exact ⟨rfl, rfl, _, _, _, _, _, _, _, _, _, _, _, _, _, _, _, _, _, _, _, _, _, _, _,  rfl⟩
    · rintro i S H' hi ⟨rfl, -, z1, z5, z6, z7, z9, z10, z11, z12, z13, z14, z15, z16, z17, z18, z19, z20, z21, z22, z23, z24, z25, z26, z27,  rfl⟩
      exact ⟨_, by simp (disch := first | omega | (simp only [lenB]; omega)) only [evB, Sz.cells, Sz.val, *]; rfl, by simp; omega⟩
    · rintro i S H' hi ⟨rfl, hbw, z1, z5, z6, z7, z9, z10, z11, z12, z13, z14, z15, z16, z17, z18, z19, z20, z21, z22, z23, z24, z25, z26, z27,  rfl⟩
      have hat := hat i hi
      have hsucc := any_take_succ (p := fun w => decide (w < 0) || decide (255 < w)) hi
      have hlen' : ¬ (ws.length : Int) ≠ s.d + s.k := by omega
      clear hlen hl2
      (try simp only [ctlB])
      refine aw_cond (by simp (disch := first | omega | (simp only [lenB]; omega)) only [evB, Sz.cells, Sz.val, *]; rfl) (fun h => ?_) (fun h => ?_)
      · have hbad : badWord ws = true := by
          have h2 : (ws.take (i + 1)).any (fun w => decide (w < 0) || decide (255 < w)) = true := by rw [hsucc, h]; simp
          unfold badWord
          obtain ⟨w, hw1, hw2⟩ := List.any_eq_true.1 h2
          exact List.any_eq_true.2 ⟨w, List.mem_of_mem_take hw1, hw2⟩
        clear h hsucc
        (try simp only [ctlB])
        repeat' (first | (refine aw_sets (by simp (disch := first | omega | (simp only [lenB]; omega)) only [evB, Sz.cells, Sz.val, *]; rfl) (by simp (disch := first | omega | (simp only [lenB]; omega)) only [evB, Sz.cells, Sz.val, *]) (by simp (disch := first | omega | (simp only [lenB]; omega)) only [evB, Sz.cells, Sz.val, *]; rfl) ?_; (try simp only [ctlB])) | (refine aw_op rfl (by simp (disch := first | omega | (simp only [lenB]; omega)) only [evB, Sz.cells, Sz.val, *]; rfl) (by simp (disch := first | omega | (simp only [lenB]; omega)) only [evB, Sz.cells, Sz.val, *]) (by simp (disch := first | omega | (simp only [lenB]; omega)) only [evB, Sz.cells, Sz.val, *]; rfl) (by simp (disch := first | omega | (simp only [lenB]; omega)) only [evB, Sz.cells, Sz.val, *]; rfl) (by simp (disch := first | omega | (simp only [lenB]; omega)) only [evB, Sz.cells, Sz.val, *]; rfl) ?_; (try simp only [ctlB])))
        refine body_ret (by simp only [cf19]; simp (disch := first | omega | (simp only [lenB]; omega)) only [evB, Sz.cells, Sz.val, *]; rfl) ?_
        exact ⟨hx1.set (by omega), .inr (.inr (.inl ⟨hsm, by omega, hbad, rfl⟩))⟩
      · (try simp only [ctlB])
        repeat' (first | (refine aw_sets (by simp (disch := first | omega | (simp only [lenB]; omega)) only [evB, Sz.cells, Sz.val, *]; rfl) (by simp (disch := first | omega | (simp only [lenB]; omega)) only [evB, Sz.cells, Sz.val, *]) (by simp (disch := first | omega | (simp only [lenB]; omega)) only [evB, Sz.cells, Sz.val, *]; rfl) ?_; (try simp only [ctlB])) | (refine aw_op rfl (by simp (disch := first | omega | (simp only [lenB]; omega)) only [evB, Sz.cells, Sz.val, *]; rfl) (by simp (disch := first | omega | (simp only [lenB]; omega)) only [evB, Sz.cells, Sz.val, *]) (by simp (disch := first | omega | (simp only [lenB]; omega)) only [evB, Sz.cells, Sz.val, *]; rfl) (by simp (disch := first | omega | (simp only [lenB]; omega)) only [evB, Sz.cells, Sz.val, *]; rfl) (by simp (disch := first | omega | (simp only [lenB]; omega)) only [evB, Sz.cells, Sz.val, *]; rfl) ?_; (try simp only [ctlB])))
        refine ⟨by trivial, ?_, _, _, _, _, _, _, _, _, _, _, _, _, _, _, _, _, _, _, _, _, _, _, _,  by first | rfl | (simp only [Int.natCast_add, Int.natCast_one]; rfl) | simp only [Int.natCast_add, Int.natCast_one]⟩
        unfold badWord at hbw ⊢
        rw [hsucc, hbw, h]; rfl
    · rintro S H' ⟨rfl, hbw, z1, z5, z6, z7, z9, z10, z11, z12, z13, z14, z15, z16, z17, z18, z19, z20, z21, z22, z23, z24, z25, z26, z27,  rfl⟩
      rw [List.take_of_length_le (Nat.le_refl _)] at hbw
      exact ⟨rfl, hbw, _, _, _, _, _, _, _, _, _, _, _, _, _, _, _, _, _, _, _, _, _, _, _, _,  rfl⟩
  rintro S H' ⟨rfl, hbw, i, z1, z5, z6, z7, z9, z10, z11, z12, z13, z14, z15, z16, z17, z18, z19, z20, z21, z22, z23, z24, z25, z26, z27,  rfl⟩
  clear hl1 hlen
  (try simp only [ctlB])
  refine aw_hv (by simp (disch := first | omega | (simp only [lenB]; omega)) only [evB, Sz.cells, Sz.val, *]; rfl) (by simp (disch := first | omega | (simp only [lenB]; omega)) only [evB, Sz.cells, Sz.val, *]) (by simp (disch := first | omega | (simp only [lenB]; omega)) only [evB, Sz.cells, Sz.val, *]; rfl) ?_
  refine wpH_call0 (mapping27 (s := s) hok) ?_
  rintro v H3 ⟨hx3, rfl⟩
  have g0 := (hx3).get g0; have g1 := (hx3).get g1; have hb := (hx3).get hb
  have hx3 := hx1.trans hx3
  (try simp only [ctlB])
  repeat' (first | (refine aw_sets (by simp (disch := first | omega | (simp only [lenB]; omega)) only [evB, Sz.cells, Sz.val, *]; rfl) (by simp (disch := first | omega | (simp only [lenB]; omega)) only [evB, Sz.cells, Sz.val, *]) (by simp (disch := first | omega | (simp only [lenB]; omega)) only [evB, Sz.cells, Sz.val, *]; rfl) ?_; (try simp only [ctlB])) | (refine aw_op rfl (by simp (disch := first | omega | (simp only [lenB]; omega)) only [evB, Sz.cells, Sz.val, *]; rfl) (by simp (disch := first | omega | (simp only [lenB]; omega)) only [evB, Sz.cells, Sz.val, *]) (by simp (disch := first | omega | (simp only [lenB]; omega)) only [evB, Sz.cells, Sz.val, *]; rfl) (by simp (disch := first | omega | (simp only [lenB]; omega)) only [evB, Sz.cells, Sz.val, *]; rfl) (by simp (disch := first | omega | (simp only [lenB]; omega)) only [evB, Sz.cells, Sz.val, *]; rfl) ?_; (try simp only [ctlB])))
  refine aw_hv (by simp (disch := first | omega | (simp only [lenB]; omega)) only [evB, Sz.cells, Sz.val, *]; rfl) (by simp (disch := first | omega | (simp only [lenB]; omega)) only [evB, Sz.cells, Sz.val, *]) (by simp (disch := first | omega | (simp only [lenB]; omega)) only [evB, Sz.cells, Sz.val, *]; rfl) ?_
  refine wpH_call0 (order28 hso.dim (by have := hx3.1; omega) hso.ord) ?_
  rintro v H4 ⟨hx4, q, hq, rfl, hgq⟩
  have g0 := (hx4).get g0; have g1 := (hx4).get g1; have hb := (hx4).get hb
  have hl4 := Heap.get_lt g1
  have hql := Heap.get_lt hgq
  have hbl := Heap.get_lt hb
  have hl3 := hx3.1
  have hx4 := hx3.trans hx4
  (try simp only [ctlB])
  repeat' (first | (refine aw_sets (by simp (disch := first | omega | (simp only [lenB]; omega)) only [evB, Sz.cells, Sz.val, *]; rfl) (by simp (disch := first | omega | (simp only [lenB]; omega)) only [evB, Sz.cells, Sz.val, *]) (by simp (disch := first | omega | (simp only [lenB]; omega)) only [evB, Sz.cells, Sz.val, *]; rfl) ?_; (try simp only [ctlB])) | (refine aw_op rfl (by simp (disch := first | omega | (simp only [lenB]; omega)) only [evB, Sz.cells, Sz.val, *]; rfl) (by simp (disch := first | omega | (simp only [lenB]; omega)) only [evB, Sz.cells, Sz.val, *]) (by simp (disch := first | omega | (simp only [lenB]; omega)) only [evB, Sz.cells, Sz.val, *]; rfl) (by simp (disch := first | omega | (simp only [lenB]; omega)) only [evB, Sz.cells, Sz.val, *]; rfl) (by simp (disch := first | omega | (simp only [lenB]; omega)) only [evB, Sz.cells, Sz.val, *]; rfl) ?_; (try simp only [ctlB])))
  have hgl : gf.cells.length ≤ (mapR s * mapC s).toNat ∧ (mapR s * mapC s).toNat ≤ gf.cells.length := by rw [hso.od.len]; omega
  have hmb := map_bd hok
  have hrc0 : 0 ≤ mapR s * mapC s := Int.mul_nonneg (by omega) (by omega)
  obtain ⟨R, hR⟩ : ∃ R : Nat, (R : Int) = s.r := ⟨s.r.toNat, by omega⟩
  obtain ⟨C, hC⟩ : ∃ C : Nat, (C : Int) = s.c := ⟨s.c.toNat, by omega⟩
  generalize hM : H4.length = M at *
  refine aw_midXB (fun S H' => Ext H H' ∧ H'.get H.length = some s.cells ∧ H'.get (H.length + 1) = some [.int .i64 0, .int .i64 0, .slice none 0 0] ∧ H'.get b = some xs ∧ H'.get q = some (intL gf.cells) ∧ ∃ vd bd, M < bd ∧ H'.get M = some [.int .i64 s.c, .int .i64 s.r, vd] ∧ Own lo 1 H' vd bd (boolL (modBits s gf.cells ws (R * C))) ∧ ∃ y z1 z5 z6 z7 z8 z14 z15 z16 z17 z18 z19 z20 z21 z22 z23 z24 z25 z26 z27, S = [.slice (some ⟨b, o, sp⟩) ws.length cw, z1, .pointer (some ⟨H.length, 0, none⟩), .pointer (some ⟨H.length + 1, 0, none⟩), .int .i64 0, z5, z6, z7, z8, .int .i64 (mapR s), .int .i64 (mapC s), .slice (some ⟨q, 0, some 1⟩) gf.cells.length gf.cells.length, .pointer (some ⟨M, 0, none⟩), .int .i64 (y : Nat), z14, z15, z16, z17, z18, z19, z20, z21, z22, z23, z24, z25, z26, z27]) ?_ ?_
  · refine aw_for (fun y S H' => Ext H H' ∧ H'.get H.length = some s.cells ∧ H'.get (H.length + 1) = some [.int .i64 0, .int .i64 0, .slice none 0 0] ∧ H'.get b = some xs ∧ H'.get q = some (intL gf.cells) ∧ ∃ vd bd, M < bd ∧ H'.get M = some [.int .i64 s.c, .int .i64 s.r, vd] ∧ Own lo 1 H' vd bd (boolL (modBits s gf.cells ws (y * C))) ∧ ∃ z1 z5 z6 z7 z8 z14 z15 z16 z17 z18 z19 z20 z21 z22 z23 z24 z25 z26 z27, S = [.slice (some ⟨b, o, sp⟩) ws.length cw, z1, .pointer (some ⟨H.length, 0, none⟩), .pointer (some ⟨H.length + 1, 0, none⟩), .int .i64 0, z5, z6, z7, z8, .int .i64 (mapR s), .int .i64 (mapC s), .slice (some ⟨q, 0, some 1⟩) gf.cells.length gf.cells.length, .pointer (some ⟨M, 0, none⟩), .int .i64 (y : Nat), z14, z15, z16, z17, z18, z19, z20, z21, z22, z23, z24, z25, z26, z27]) R ?_ ?_ ?_ ?_
    · refine ⟨hx4.trans (Ext.app _ _), by simp (disch := first | omega | (simp only [lenB]; omega)) only [evB, Sz.cells, Sz.val, *], by simp (disch := first | omega | (simp only [lenB]; omega)) only [evB, Sz.cells, Sz.val, *], by simp (disch := first | omega | (simp only [lenB]; omega)) only [evB, Sz.cells, Sz.val, *], by simp (disch := first | omega | (simp only [lenB]; omega)) only [evB, Sz.cells, Sz.val, *], _, M + 1, by omega, by rw [← hM, get_app0], by rw [Nat.zero_mul]; exact Own.nil (by omega), _, _, _, _, _, _, _, _, _, _, _, _, _, _, _, _, _, _, _,  rfl⟩
    · rintro y S H' hy ⟨hx, f0, f1, fb, fq, vd, bd, hbd, fm, hown, z1, z5, z6, z7, z8, z14, z15, z16, z17, z18, z19, z20, z21, z22, z23, z24, z25, z26, z27,  rfl⟩
      exact ⟨_, by simp (disch := first | omega | (simp only [lenB]; omega)) only [evB, Sz.cells, Sz.val, *]; rfl, by simp; omega⟩
    · rintro y S H5 hy ⟨hx5, f0, f1, fb, fq, vd, bd, hbd, fm, hown, z1, z5, z6, z7, z8, z14, z15, z16, z17, z18, z19, z20, z21, z22, z23, z24, z25, z26, z27,  rfl⟩
      have hl5 := hx5.1
      have hMl := Heap.get_lt fm
      (try simp only [ctlB])
      repeat' (first | (refine aw_sets (by simp (disch := first | omega | (simp only [lenB]; omega)) only [evB, Sz.cells, Sz.val, *]; rfl) (by simp (disch := first | omega | (simp only [lenB]; omega)) only [evB, Sz.cells, Sz.val, *]) (by simp (disch := first | omega | (simp only [lenB]; omega)) only [evB, Sz.cells, Sz.val, *]; rfl) ?_; (try simp only [ctlB])) | (refine aw_op rfl (by simp (disch := first | omega | (simp only [lenB]; omega)) only [evB, Sz.cells, Sz.val, *]; rfl) (by simp (disch := first | omega | (simp only [lenB]; omega)) only [evB, Sz.cells, Sz.val, *]) (by simp (disch := first | omega | (simp only [lenB]; omega)) only [evB, Sz.cells, Sz.val, *]; rfl) (by simp (disch := first | omega | (simp only [lenB]; omega)) only [evB, Sz.cells, Sz.val, *]; rfl) (by simp (disch := first | omega | (simp only [lenB]; omega)) only [evB, Sz.cells, Sz.val, *]; rfl) ?_; (try simp only [ctlB])))
      refine aw_for (fun x S H' => Ext H H' ∧ H'.get H.length = some s.cells ∧ H'.get (H.length + 1) = some [.int .i64 0, .int .i64 0, .slice none 0 0] ∧ H'.get b = some xs ∧ H'.get q = some (intL gf.cells) ∧ ∃ vd bd, M < bd ∧ H'.get M = some [.int .i64 s.c, .int .i64 s.r, vd] ∧ Own lo 1 H' vd bd (boolL (modBits s gf.cells ws (y * C + x))) ∧ ∃ z1 z5 z6 z7 z8 z15 z16 z17 z18 z19 z20 z21 z22 z23 z24 z25 z26 z27, S = [.slice (some ⟨b, o, sp⟩) ws.length cw, z1, .pointer (some ⟨H.length, 0, none⟩), .pointer (some ⟨H.length + 1, 0, none⟩), .int .i64 0, z5, z6, z7, z8, .int .i64 (mapR s), .int .i64 (mapC s), .slice (some ⟨q, 0, some 1⟩) gf.cells.length gf.cells.length, .pointer (some ⟨M, 0, none⟩), .int .i64 (y : Nat), .int .i64 (x : Nat), z15, z16, z17, z18, z19, z20, z21, z22, z23, z24, z25, z26, z27]) C ?_ ?_ ?_ ?_
      · exact ⟨hx5, f0, f1, fb, fq, vd, bd, hbd, fm, hown, _, _, _, _, _, _, _, _, _, _, _, _, _, _, _, _, _, _,  rfl⟩
      · clear hx5 f0 f1 fb fq fm hown
        rintro x S H' hx ⟨hx5, f0, f1, fb, fq, vd, bd, hbd, fm, hown, z1, z5, z6, z7, z8, z15, z16, z17, z18, z19, z20, z21, z22, z23, z24, z25, z26, z27,  rfl⟩
        exact ⟨_, by simp (disch := first | omega | (simp only [lenB]; omega)) only [evB, Sz.cells, Sz.val, *]; rfl, by simp; omega⟩
      · clear hx5 f0 f1 fb fq fm hown hl5 hMl hbd
        rintro x S H5 hx ⟨hx5, f0, f1, fb, fq, vd, bd, hbd, fm, hown, z1, z5, z6, z7, z8, z15, z16, z17, z18, z19, z20, z21, z22, z23, z24, z25, z26, z27,  rfl⟩
        have hl5 := hx5.1
        have hMl := Heap.get_lt fm
        have hdiv := rc_div (y := y) hx
        have hdef := modBit.eq_1 s gf.cells ws (y * C + x)
        have hloc := hso.loc (y * C + x)
        rw [← hC, hdiv.1, hdiv.2] at hdef hloc
        have hyx : y * C + x < R * C := by
          have : (y + 1) * C ≤ R * C := Nat.mul_le_mul_right C (by omega)
          rw [Nat.add_mul] at this; omega
        have hloc := hloc (by rw [← hR, ← Int.natCast_mul]; omega)
        have hmlen : (modBits s gf.cells ws (y * C + x)).length = y * C + x := modBits_len
        have hRC : R * C ≤ 40000 := by
          have := Nat.mul_le_mul (show R ≤ 200 by omega) (show C ≤ 200 by omega)
          omega
        (try simp only [ctlB])
        refine aw_hv (by simp (disch := first | omega | (simp only [lenB]; omega)) only [evB, Sz.cells, Sz.val, *]; rfl) (by simp (disch := first | omega | (simp only [lenB]; omega)) only [evB, Sz.cells, Sz.val, *]) (by simp (disch := first | omega | (simp only [lenB]; omega)) only [evB, Sz.cells, Sz.val, *]; rfl) ?_
        refine wpH_call0 (border33 (s := s) (row := (y : Int)) (col := (x : Int)) hok (by omega) (by omega) (by omega) (by omega)) ?_
        rintro v H6 ⟨hx6, rfl⟩
        have f0 := (hx6).get f0; have f1 := (hx6).get f1; have fb := (hx6).get fb; have fq := (hx6).get fq; have fm := (hx6).get fm
        have hown := hown.mono hx6
        have hx6 := hx5.trans hx6
        (try simp only [ctlB])
        repeat' (first | (refine aw_sets (by simp (disch := first | omega | (simp only [lenB]; omega)) only [evB, Sz.cells, Sz.val, *]; rfl) (by simp (disch := first | omega | (simp only [lenB]; omega)) only [evB, Sz.cells, Sz.val, *]) (by simp (disch := first | omega | (simp only [lenB]; omega)) only [evB, Sz.cells, Sz.val, *]; rfl) ?_; (try simp only [ctlB])) | (refine aw_op rfl (by simp (disch := first | omega | (simp only [lenB]; omega)) only [evB, Sz.cells, Sz.val, *]; rfl) (by simp (disch := first | omega | (simp only [lenB]; omega)) only [evB, Sz.cells, Sz.val, *]) (by simp (disch := first | omega | (simp only [lenB]; omega)) only [evB, Sz.cells, Sz.val, *]; rfl) (by simp (disch := first | omega | (simp only [lenB]; omega)) only [evB, Sz.cells, Sz.val, *]; rfl) (by simp (disch := first | omega | (simp only [lenB]; omega)) only [evB, Sz.cells, Sz.val, *]; rfl) ?_; (try simp only [ctlB])))
        refine aw_midX (fun S H' => Ext H6 H' ∧ ∃ z1 z5 z6 z7 z8 z15 z17 z18 z19 z20 z21 z22 z23 z24 z25 z26 z27, S = [.slice (some ⟨b, o, sp⟩) ws.length cw, z1, .pointer (some ⟨H.length, 0, none⟩), .pointer (some ⟨H.length + 1, 0, none⟩), .int .i64 0, z5, z6, z7, z8, .int .i64 (mapR s), .int .i64 (mapC s), .slice (some ⟨q, 0, some 1⟩) gf.cells.length gf.cells.length, .pointer (some ⟨M, 0, none⟩), .int .i64 (y : Nat), .int .i64 (x : Nat), z15, .bool (modBit s gf.cells ws (y * C + x)), z17, z18, z19, z20, z21, z22, z23, z24, z25, z26, z27]) ?_ ?_
        · refine aw_cond (by simp (disch := first | omega | (simp only [lenB]; omega)) only [evB, Sz.cells, Sz.val, *]; rfl) (fun h => ?_) (fun h => ?_)
          · have hB : locB s y x = false := by simpa using h
            clear h
            have hloc := hloc hB
            rw [if_neg (by rw [hB]; simp)] at hdef
            have hl6 := hx6.1
            (try simp only [ctlB])
            refine aw_hv (by simp (disch := first | omega | (simp only [lenB]; omega)) only [evB, Sz.cells, Sz.val, *]; rfl) (by simp (disch := first | omega | (simp only [lenB]; omega)) only [evB, Sz.cells, Sz.val, *]) (by simp (disch := first | omega | (simp only [lenB]; omega)) only [evB, Sz.cells, Sz.val, *]; rfl) ?_
            refine wpH_call0 (cell34 (s := s) (row := (y : Int)) (col := (x : Int)) hok (by omega) (by omega) (by omega) (by omega) (by omega) hB) ?_
            rintro v H7 ⟨hx7, rfl⟩
            have f0 := (hx7).get f0; have f1 := (hx7).get f1; have fb := (hx7).get fb; have fq := (hx7).get fq; have fm := (hx7).get fm
            have hltI : (locI s y x).toNat < (mapR s * mapC s).toNat := by omega
            have hlt8 := hso.od.lt (locI s y x).toNat hltI
            have hgd : gf.cells.getD (locI s y x).toNat 0 = gf.cells.getD (locI s y x).toNat (-1) := by
              simp [List.getD_eq_getElem?_getD, List.getElem?_eq_getElem (show (locI s y x).toNat < gf.cells.length by omega)]
            rw [← hgd] at hlt8
            clear hgd
            have hnI : (locI s y x).toNat < gf.cells.length := by omega
            have hfx := fix_at (i := locI s y x) hso.dim (by omega) (by omega)
            have hlocb := mul_bd (a := mapR s) (b := mapC s) (A := 40000) (B := 40000) (by omega) (by omega) (by omega) (by omega) (by omega)
            (try simp only [ctlB])
            repeat' (first | (refine aw_sets (by simp (disch := first | omega | (simp only [lenB]; omega)) only [evB, Sz.cells, Sz.val, *]; rfl) (by simp (disch := first | omega | (simp only [lenB]; omega)) only [evB, Sz.cells, Sz.val, *]) (by simp (disch := first | omega | (simp only [lenB]; omega)) only [evB, Sz.cells, Sz.val, *]; rfl) ?_; (try simp only [ctlB])) | (refine aw_op rfl (by simp (disch := first | omega | (simp only [lenB]; omega)) only [evB, Sz.cells, Sz.val, *]; rfl) (by simp (disch := first | omega | (simp only [lenB]; omega)) only [evB, Sz.cells, Sz.val, *]) (by simp (disch := first | omega | (simp only [lenB]; omega)) only [evB, Sz.cells, Sz.val, *]; rfl) (by simp (disch := first | omega | (simp only [lenB]; omega)) only [evB, Sz.cells, Sz.val, *]; rfl) (by simp (disch := first | omega | (simp only [lenB]; omega)) only [evB, Sz.cells, Sz.val, *]; rfl) ?_; (try simp only [ctlB])))
            generalize hn : gf.cells.getD (locI s y x).toNat 0 = n at *
            refine aw_cond (by simp (disch := first | omega | (simp only [lenB]; omega)) only [evB, Sz.cells, Sz.val, *]; rfl) (fun h => ?_) (fun h => ?_)
            · have hn0 : 0 ≤ n := by simpa using h
              clear h
              rw [if_pos hn0] at hdef
              have t8 := tdiv_bd (a := n) (b := 8) hn0 (by omega)
              have m8 := tmod_bd (a := n) (m := 8) hn0 (by omega)
              have q8 : n.tdiv 8 < ws.length := by
                rw [Int.tdiv_eq_ediv_of_nonneg hn0]
                omega
              have q8' : (n.tdiv 8).toNat < ws.length := by omega
              have hwb := words_bad hbw q8'
              have hbe := bit_mod (n := n) hwb.1 hwb.2 hn0
              have hat := hat _ q8'
              rw [hbe] at hdef
              clear hbe hlt8 hloc hfx
              (try simp only [ctlB])
              repeat' (first | (refine aw_sets (by simp (disch := first | omega | (simp only [lenB]; omega)) only [evB, Sz.cells, Sz.val, *]; rfl) (by simp (disch := first | omega | (simp only [lenB]; omega)) only [evB, Sz.cells, Sz.val, *]) (by simp (disch := first | omega | (simp only [lenB]; omega)) only [evB, Sz.cells, Sz.val, *]; rfl) ?_; (try simp only [ctlB])) | (refine aw_op rfl (by simp (disch := first | omega | (simp only [lenB]; omega)) only [evB, Sz.cells, Sz.val, *]; rfl) (by simp (disch := first | omega | (simp only [lenB]; omega)) only [evB, Sz.cells, Sz.val, *]) (by simp (disch := first | omega | (simp only [lenB]; omega)) only [evB, Sz.cells, Sz.val, *]; rfl) (by simp (disch := first | omega | (simp only [lenB]; omega)) only [evB, Sz.cells, Sz.val, *]; rfl) (by simp (disch := first | omega | (simp only [lenB]; omega)) only [evB, Sz.cells, Sz.val, *]; rfl) ?_; (try simp only [ctlB])))
              exact ⟨hx7, _, _, _, _, _, _, _, _, _, _, _, _, _, _, _, _, _,  by rw [hdef]⟩
            · have hn0 : ¬ 0 ≤ n := by simpa using h
              clear h
              rw [if_neg hn0, hfx] at hdef
              clear hfx
              (try simp only [ctlB])
              repeat' (first | (refine aw_sets (by simp (disch := first | omega | (simp only [lenB]; omega)) only [evB, Sz.cells, Sz.val, *]; rfl) (by simp (disch := first | omega | (simp only [lenB]; omega)) only [evB, Sz.cells, Sz.val, *]) (by simp (disch := first | omega | (simp only [lenB]; omega)) only [evB, Sz.cells, Sz.val, *]; rfl) ?_; (try simp only [ctlB])) | (refine aw_op rfl (by simp (disch := first | omega | (simp only [lenB]; omega)) only [evB, Sz.cells, Sz.val, *]; rfl) (by simp (disch := first | omega | (simp only [lenB]; omega)) only [evB, Sz.cells, Sz.val, *]) (by simp (disch := first | omega | (simp only [lenB]; omega)) only [evB, Sz.cells, Sz.val, *]; rfl) (by simp (disch := first | omega | (simp only [lenB]; omega)) only [evB, Sz.cells, Sz.val, *]; rfl) (by simp (disch := first | omega | (simp only [lenB]; omega)) only [evB, Sz.cells, Sz.val, *]; rfl) ?_; (try simp only [ctlB])))
              exact ⟨hx7, _, _, _, _, _, _, _, _, _, _, _, _, _, _, _, _, _,  by rw [hdef]⟩
          · have hB : locB s y x = true := by simpa using h
            clear h
            rw [if_pos hB, ← bordD_eq hB] at hdef
            (try simp only [ctlB])
            exact ⟨Ext.refl _, _, _, _, _, _, _, _, _, _, _, _, _, _, _, _, _, _,  by rw [hdef]⟩
        rintro S H7 ⟨hx7, z1, z5, z6, z7, z8, z15, z17, z18, z19, z20, z21, z22, z23, z24, z25, z26, z27,  rfl⟩
        have f0 := (hx7).get f0; have f1 := (hx7).get f1; have fb := (hx7).get fb; have fq := (hx7).get fq; have fm := (hx7).get fm
        have hown := hown.mono hx7
        have hx7 := hx6.trans hx7
        have hl7 := hx7.1
        have hMl := Heap.get_lt fm
        clear hx5 hx6 hloc hdef
        (try simp only [ctlB])
        repeat' (first | (refine aw_sets (by simp (disch := first | omega | (simp only [lenB]; omega)) only [evB, Sz.cells, Sz.val, *]; rfl) (by simp (disch := first | omega | (simp only [lenB]; omega)) only [evB, Sz.cells, Sz.val, *]) (by simp (disch := first | omega | (simp only [lenB]; omega)) only [evB, Sz.cells, Sz.val, *]; rfl) ?_; (try simp only [ctlB])) | (refine aw_op rfl (by simp (disch := first | omega | (simp only [lenB]; omega)) only [evB, Sz.cells, Sz.val, *]; rfl) (by simp (disch := first | omega | (simp only [lenB]; omega)) only [evB, Sz.cells, Sz.val, *]) (by simp (disch := first | omega | (simp only [lenB]; omega)) only [evB, Sz.cells, Sz.val, *]; rfl) (by simp (disch := first | omega | (simp only [lenB]; omega)) only [evB, Sz.cells, Sz.val, *]; rfl) (by simp (disch := first | omega | (simp only [lenB]; omega)) only [evB, Sz.cells, Sz.val, *]; rfl) ?_; (try simp only [ctlB])))
        refine aw_hv (by simp (disch := first | omega | (simp only [lenB]; omega)) only [evB, Sz.cells, Sz.val, *]; rfl) (by simp (disch := first | omega | (simp only [lenB]; omega)) only [evB, Sz.cells, Sz.val, *]) (by simp (disch := first | omega | (simp only [lenB]; omega)) only [evB, Sz.cells, Sz.val, *]; rfl) ?_
        refine wpH_app (c := [.bool (modBit s gf.cells ws (y * C + x))]) (hown.mono (Ext.app _ _)) (by simp; omega) (by omega) (by omega) (by rw [boolL_len, hmlen]; omega) get_app0 (by simp) rfl rfl ?_
        rintro v' H8 hown8 hk hl8
        have hE := Ext.app H7 [some [Value.bool (modBit s gf.cells ws (y * C + x))]]
        have hx8 := hk.ext (hx7.trans hE) (by omega)
        have f0 := hk.get (hE.get f0) (by omega)
        have f1 := hk.get (hE.get f1) (by omega)
        have fb := hk.get (hE.get fb) (by omega)
        have fq := hk.get (hE.get fq) (by omega)
        have fm := hk.get (hE.get fm) (by omega)
        have hl8 := Heap.get_lt fm
        obtain ⟨a, n, rfl, -, -⟩ := hown8.len (by omega)
        simp only [List.length_append, List.length_cons, List.length_nil] at hown8
        clear hE hk hown hx7
        (try simp only [ctlB])
        repeat' (first | (refine aw_sets (by simp (disch := first | omega | (simp only [lenB]; omega)) only [evB, Sz.cells, Sz.val, *]; rfl) (by simp (disch := first | omega | (simp only [lenB]; omega)) only [evB, Sz.cells, Sz.val, *]) (by simp (disch := first | omega | (simp only [lenB]; omega)) only [evB, Sz.cells, Sz.val, *]; rfl) ?_; (try simp only [ctlB])) | (refine aw_op rfl (by simp (disch := first | omega | (simp only [lenB]; omega)) only [evB, Sz.cells, Sz.val, *]; rfl) (by simp (disch := first | omega | (simp only [lenB]; omega)) only [evB, Sz.cells, Sz.val, *]) (by simp (disch := first | omega | (simp only [lenB]; omega)) only [evB, Sz.cells, Sz.val, *]; rfl) (by simp (disch := first | omega | (simp only [lenB]; omega)) only [evB, Sz.cells, Sz.val, *]; rfl) (by simp (disch := first | omega | (simp only [lenB]; omega)) only [evB, Sz.cells, Sz.val, *]; rfl) ?_; (try simp only [ctlB])))
        refine ⟨hx8.set (by omega), by simp (disch := first | omega | (simp only [lenB]; omega)) only [evB, Sz.cells, Sz.val, *], by simp (disch := first | omega | (simp only [lenB]; omega)) only [evB, Sz.cells, Sz.val, *], by simp (disch := first | omega | (simp only [lenB]; omega)) only [evB, Sz.cells, Sz.val, *], by simp (disch := first | omega | (simp only [lenB]; omega)) only [evB, Sz.cells, Sz.val, *], _, H7.length + (0 + 1), by omega, by simp (disch := first | omega | (simp only [lenB]; omega)) only [evB, Sz.cells, Sz.val, *]; rfl, ?_, _, _, _, _, _, _, _, _, _, _, _, _, _, _, _, _, _, _,  by first | rfl | (simp only [Int.natCast_add, Int.natCast_one]; rfl) | simp only [Int.natCast_add, Int.natCast_one]⟩
        rw [show y * C + (x + 1) = (y * C + x) + 1 by omega, modBits_succ, boolL_app]
        exact hown8.keep ⟨by simp, fun i hi hne => get_set_ne (fun e => hne e.symm)⟩ (by omega)
      · clear hx5 f0 f1 fb fq fm hown hl5 hMl hbd
        rintro S H6 ⟨hx, f0, f1, fb, fq, vd, bd, hbd, fm, hown, z1, z5, z6, z7, z8, z15, z16, z17, z18, z19, z20, z21, z22, z23, z24, z25, z26, z27,  rfl⟩
        (try simp only [ctlB])
        repeat' (first | (refine aw_sets (by simp (disch := first | omega | (simp only [lenB]; omega)) only [evB, Sz.cells, Sz.val, *]; rfl) (by simp (disch := first | omega | (simp only [lenB]; omega)) only [evB, Sz.cells, Sz.val, *]) (by simp (disch := first | omega | (simp only [lenB]; omega)) only [evB, Sz.cells, Sz.val, *]; rfl) ?_; (try simp only [ctlB])) | (refine aw_op rfl (by simp (disch := first | omega | (simp only [lenB]; omega)) only [evB, Sz.cells, Sz.val, *]; rfl) (by simp (disch := first | omega | (simp only [lenB]; omega)) only [evB, Sz.cells, Sz.val, *]) (by simp (disch := first | omega | (simp only [lenB]; omega)) only [evB, Sz.cells, Sz.val, *]; rfl) (by simp (disch := first | omega | (simp only [lenB]; omega)) only [evB, Sz.cells, Sz.val, *]; rfl) (by simp (disch := first | omega | (simp only [lenB]; omega)) only [evB, Sz.cells, Sz.val, *]; rfl) ?_; (try simp only [ctlB])))
        rw [Nat.add_mul, Nat.one_mul]
        exact ⟨hx, f0, f1, fb, fq, vd, bd, by omega, fm, hown, _, _, _, _, _, _, _, _, _, _, _, _, _, _, _, _, _, _, _,  by first | rfl | (simp only [Int.natCast_add, Int.natCast_one]; rfl) | simp only [Int.natCast_add, Int.natCast_one]⟩
    · rintro S H' ⟨hx, f0, f1, fb, fq, vd, bd, hbd, fm, hown, z1, z5, z6, z7, z8, z14, z15, z16, z17, z18, z19, z20, z21, z22, z23, z24, z25, z26, z27,  rfl⟩
      exact ⟨hx, f0, f1, fb, fq, vd, bd, hbd, fm, hown, _, _, _, _, _, _, _, _, _, _, _, _, _, _, _, _, _, _, _, _,  rfl⟩
  rintro S H' ⟨hx, f0, f1, fb, fq, vd, bd, hbd, fm, hown, y, z1, z5, z6, z7, z8, z14, z15, z16, z17, z18, z19, z20, z21, z22, z23, z24, z25, z26, z27,  rfl⟩
  have hMl := Heap.get_lt fm
  obtain ⟨a, n, rfl, -, -⟩ := hown.len (by omega)
  (try simp only [ctlB])
  repeat' (first | (refine aw_sets (by simp (disch := first | omega | (simp only [lenB]; omega)) only [evB, Sz.cells, Sz.val, *]; rfl) (by simp (disch := first | omega | (simp only [lenB]; omega)) only [evB, Sz.cells, Sz.val, *]) (by simp (disch := first | omega | (simp only [lenB]; omega)) only [evB, Sz.cells, Sz.val, *]; rfl) ?_; (try simp only [ctlB])) | (refine aw_op rfl (by simp (disch := first | omega | (simp only [lenB]; omega)) only [evB, Sz.cells, Sz.val, *]; rfl) (by simp (disch := first | omega | (simp only [lenB]; omega)) only [evB, Sz.cells, Sz.val, *]) (by simp (disch := first | omega | (simp only [lenB]; omega)) only [evB, Sz.cells, Sz.val, *]; rfl) (by simp (disch := first | omega | (simp only [lenB]; omega)) only [evB, Sz.cells, Sz.val, *]; rfl) (by simp (disch := first | omega | (simp only [lenB]; omega)) only [evB, Sz.cells, Sz.val, *]; rfl) ?_; (try simp only [ctlB])))
  refine body_ret (by simp only [cf19]; simp (disch := first | omega | (simp only [lenB]; omega)) only [evB, Sz.cells, Sz.val, *]; rfl) ?_
  have hfin : (s.r * s.c).toNat = R * C := by rw [← hR, ← hC, ← Int.natCast_mul, Int.toNat_natCast]
  refine ⟨hx.set (by omega), .inr (.inr (.inr ⟨hsm, by omega, hbw, gf, _, hso, rfl, ?_⟩))⟩
  rw [hfin]
  exact Sl.ofOwn (hown.keep ⟨by simp, fun i hi hne => get_set_ne (fun e => hne e.symm)⟩ (by omega))
end Go.Proofs.Ytobfjbominbkmaa
