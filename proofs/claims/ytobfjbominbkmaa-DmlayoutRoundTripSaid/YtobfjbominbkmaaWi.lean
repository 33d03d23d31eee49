/-
  Lists held against each other; the examples of the chapter.
-/
import Derived.Test.YtobfjbominbkmaaWh
import Derived.Test.YtobfjbominbkmaaWfit
namespace Go.Proofs.Ytobfjbominbkmaa
open Go.Abs
set_option linter.unusedSimpArgs false
/-- a slice of integers, made in any way -/
def WordsX (H : Heap) (v : Value) (ws : List Int) : Prop := (v = .slice none 0 0 ∧ ws = []) ∨ ∃ b sp cap xs, v = .slice (some ⟨b, 0, sp⟩) ws.length cap ∧ H.get b = some (intL xs) ∧ (∀ i, i < ws.length → xs.getD i 0 = ws.getD i 0) ∧ ws.length ≤ xs.length
theorem Words.x {H : Heap} {v : Value} {ws : List Int} (h : Words H v ws) : WordsX H v ws := by
  rcases h with h | ⟨b, cap, xs, h1, h2, h3⟩
  · exact .inl h
  · exact .inr ⟨b, none, cap, xs, h1, h2, h3⟩
theorem list_eq_of {a b : List Int} (hl : a.length = b.length) (h : ∀ i, i < a.length → a.getD i 0 = b.getD i 0) : a = b := by
  apply List.ext_getElem hl
  intro i h1 h2
  have := h i h1
  simpa [List.getD_eq_getElem?_getD, List.getElem?_eq_getElem h1, List.getElem?_eq_getElem h2] using this
theorem equal29 {lo : Nat} {H : Heap} {va vb : Value} {a b : List Int} (hsm : a.length ≤ 1000000000) (hb : b.length ≤ 9000000000000000000) (ha : WordsX H va a) (hbb : WordsX H vb b) : Ev cp lo 29 [va, vb] H (fun v H' => H' = H ∧ v = .bool (decide (a = b))) := by
  have hla : ∃ ad ca, va = .slice ad a.length ca := by
    rcases ha with ⟨rfl, rfl⟩ | ⟨x, sp, cap, xs, rfl, _⟩
    · exact ⟨none, 0, rfl⟩
    · exact ⟨_, _, rfl⟩
  have hlb : ∃ ad ca, vb = .slice ad b.length ca := by
    rcases hbb with ⟨rfl, rfl⟩ | ⟨x, sp, cap, xs, rfl, _⟩
    · exact ⟨none, 0, rfl⟩
    · exact ⟨_, _, rfl⟩
  obtain ⟨ada, ca, rfl⟩ := hla
  obtain ⟨adb, cb, rfl⟩ := hlb
  refine st29 ?_; unfold bd29; (try simp only [ctlB])
  repeat' (first | (refine aw_sets (by simp (disch := first | omega | (simp only [lenB]; omega)) only [evB, Sz.cells, Sz.val, *]; rfl) (by simp (disch := first | omega | (simp only [lenB]; omega)) only [evB, Sz.cells, Sz.val, *]) (by simp (disch := first | omega | (simp only [lenB]; omega)) only [evB, Sz.cells, Sz.val, *]; rfl) ?_; (try simp only [ctlB])) | (refine aw_op rfl (by simp (disch := first | omega | (simp only [lenB]; omega)) only [evB, Sz.cells, Sz.val, *]; rfl) (by simp (disch := first | omega | (simp only [lenB]; omega)) only [evB, Sz.cells, Sz.val, *]) (by simp (disch := first | omega | (simp only [lenB]; omega)) only [evB, Sz.cells, Sz.val, *]; rfl) (by simp (disch := first | omega | (simp only [lenB]; omega)) only [evB, Sz.cells, Sz.val, *]; rfl) (by simp (disch := first | omega | (simp only [lenB]; omega)) only [evB, Sz.cells, Sz.val, *]; rfl) ?_; (try simp only [ctlB])))
  refine aw_cond (by simp (disch := first | omega | (simp only [lenB]; omega)) only [evB, Sz.cells, Sz.val, *]; rfl) (fun h => ?_) (fun h => ?_)
  · have hne : ¬ a = b := by
      rintro rfl; simp at h
    clear h
    (try simp only [ctlB])
    repeat' (first | (refine aw_sets (by simp (disch := first | omega | (simp only [lenB]; omega)) only [evB, Sz.cells, Sz.val, *]; rfl) (by simp (disch := first | omega | (simp only [lenB]; omega)) only [evB, Sz.cells, Sz.val, *]) (by simp (disch := first | omega | (simp only [lenB]; omega)) only [evB, Sz.cells, Sz.val, *]; rfl) ?_; (try simp only [ctlB])) | (refine aw_op rfl (by simp (disch := first | omega | (simp only [lenB]; omega)) only [evB, Sz.cells, Sz.val, *]; rfl) (by simp (disch := first | omega | (simp only [lenB]; omega)) only [evB, Sz.cells, Sz.val, *]) (by simp (disch := first | omega | (simp only [lenB]; omega)) only [evB, Sz.cells, Sz.val, *]; rfl) (by simp (disch := first | omega | (simp only [lenB]; omega)) only [evB, Sz.cells, Sz.val, *]; rfl) (by simp (disch := first | omega | (simp only [lenB]; omega)) only [evB, Sz.cells, Sz.val, *]; rfl) ?_; (try simp only [ctlB])))
    refine body_ret (by simp only [cf29]; simp (disch := first | omega | (simp only [lenB]; omega)) only [evB, Sz.cells, Sz.val, *]; rfl) ?_
    exact ⟨rfl, by simp [resultOf, hne]⟩
  have hlen : a.length ≤ b.length ∧ b.length ≤ a.length := by simp at h; omega
  clear h
  (try simp only [ctlB])
  repeat' (first | (refine aw_sets (by simp (disch := first | omega | (simp only [lenB]; omega)) only [evB, Sz.cells, Sz.val, *]; rfl) (by simp (disch := first | omega | (simp only [lenB]; omega)) only [evB, Sz.cells, Sz.val, *]) (by simp (disch := first | omega | (simp only [lenB]; omega)) only [evB, Sz.cells, Sz.val, *]; rfl) ?_; (try simp only [ctlB])) | (refine aw_op rfl (by simp (disch := first | omega | (simp only [lenB]; omega)) only [evB, Sz.cells, Sz.val, *]; rfl) (by simp (disch := first | omega | (simp only [lenB]; omega)) only [evB, Sz.cells, Sz.val, *]) (by simp (disch := first | omega | (simp only [lenB]; omega)) only [evB, Sz.cells, Sz.val, *]; rfl) (by simp (disch := first | omega | (simp only [lenB]; omega)) only [evB, Sz.cells, Sz.val, *]; rfl) (by simp (disch := first | omega | (simp only [lenB]; omega)) only [evB, Sz.cells, Sz.val, *]; rfl) ?_; (try simp only [ctlB])))
  refine aw_loop' (fun m S H' => ∃ i : Nat, i ≤ a.length ∧ m = a.length - i ∧ S = [.slice ada a.length ca, .slice adb b.length cb, .bool false, .int .i64 i] ∧ H' = H ∧ ∀ j, j < i → a.getD j 0 = b.getD j 0) a.length ?_ ?_
  · exact ⟨0, by omega, by omega, rfl, rfl, by omega⟩
  rintro m S H' ⟨i, hi, rfl, rfl, rfl, hall⟩
  (try simp only [ctlB])
  refine aw_cond (by simp (disch := first | omega | (simp only [lenB]; omega)) only [evB, Sz.cells, Sz.val, *]; rfl) (fun h => ?_) (fun h => ?_)
  · have hi2 : i < a.length := by simp at h; omega
    clear h
    rcases ha with ⟨e, rfl⟩ | ⟨xa, spa, capa, la, e, ga, hwa, hla⟩
    · simp at hi2
    rcases hbb with ⟨e', rfl⟩ | ⟨xb, spb, capb, lb, e', gb, hwb, hlb⟩
    · have := hlen.1; simp at this; subst this; simp at hi2
    cases e
    cases e'
    have hib : i < b.length := by omega
    have ea := hwa i hi2
    have eb := hwb i hib
    clear hwa hwb hlen
    (try simp only [ctlB])
    refine aw_cond (by simp (disch := first | omega | (simp only [lenB]; omega)) only [evB, Sz.cells, Sz.val, *]; rfl) (fun h => ?_) (fun h => ?_)
    · have hne : ¬ a = b := by
        rintro rfl; simp at h
      clear h
      (try simp only [ctlB])
      repeat' (first | (refine aw_sets (by simp (disch := first | omega | (simp only [lenB]; omega)) only [evB, Sz.cells, Sz.val, *]; rfl) (by simp (disch := first | omega | (simp only [lenB]; omega)) only [evB, Sz.cells, Sz.val, *]) (by simp (disch := first | omega | (simp only [lenB]; omega)) only [evB, Sz.cells, Sz.val, *]; rfl) ?_; (try simp only [ctlB])) | (refine aw_op rfl (by simp (disch := first | omega | (simp only [lenB]; omega)) only [evB, Sz.cells, Sz.val, *]; rfl) (by simp (disch := first | omega | (simp only [lenB]; omega)) only [evB, Sz.cells, Sz.val, *]) (by simp (disch := first | omega | (simp only [lenB]; omega)) only [evB, Sz.cells, Sz.val, *]; rfl) (by simp (disch := first | omega | (simp only [lenB]; omega)) only [evB, Sz.cells, Sz.val, *]; rfl) (by simp (disch := first | omega | (simp only [lenB]; omega)) only [evB, Sz.cells, Sz.val, *]; rfl) ?_; (try simp only [ctlB])))
      refine body_ret (by simp only [cf29]; simp (disch := first | omega | (simp only [lenB]; omega)) only [evB, Sz.cells, Sz.val, *]; rfl) ?_
      exact ⟨rfl, by simp [resultOf, hne]⟩
    · have he : a.getD i 0 = b.getD i 0 := by simpa using h
      clear h ea eb
      (try simp only [ctlB])
      repeat' (first | (refine aw_sets (by simp (disch := first | omega | (simp only [lenB]; omega)) only [evB, Sz.cells, Sz.val, *]; rfl) (by simp (disch := first | omega | (simp only [lenB]; omega)) only [evB, Sz.cells, Sz.val, *]) (by simp (disch := first | omega | (simp only [lenB]; omega)) only [evB, Sz.cells, Sz.val, *]; rfl) ?_; (try simp only [ctlB])) | (refine aw_op rfl (by simp (disch := first | omega | (simp only [lenB]; omega)) only [evB, Sz.cells, Sz.val, *]; rfl) (by simp (disch := first | omega | (simp only [lenB]; omega)) only [evB, Sz.cells, Sz.val, *]) (by simp (disch := first | omega | (simp only [lenB]; omega)) only [evB, Sz.cells, Sz.val, *]; rfl) (by simp (disch := first | omega | (simp only [lenB]; omega)) only [evB, Sz.cells, Sz.val, *]; rfl) (by simp (disch := first | omega | (simp only [lenB]; omega)) only [evB, Sz.cells, Sz.val, *]; rfl) ?_; (try simp only [ctlB])))
      simp only [loopQ_n]
      refine ⟨a.length - (i + 1), by omega, i + 1, by omega, rfl, by simp only [Int.natCast_add, Int.natCast_one], by trivial, fun j hj => ?_⟩
      by_cases e : j = i
      · subst e; exact he
      · exact hall j (by omega)
  · have hi2 : i = a.length := by simp at h; omega
    clear h
    have hab : a = b := list_eq_of (by omega) (fun j hj => hall j (by omega))
    (try simp only [ctlB])
    repeat' (first | (refine aw_sets (by simp (disch := first | omega | (simp only [lenB]; omega)) only [evB, Sz.cells, Sz.val, *]; rfl) (by simp (disch := first | omega | (simp only [lenB]; omega)) only [evB, Sz.cells, Sz.val, *]) (by simp (disch := first | omega | (simp only [lenB]; omega)) only [evB, Sz.cells, Sz.val, *]; rfl) ?_; (try simp only [ctlB])) | (refine aw_op rfl (by simp (disch := first | omega | (simp only [lenB]; omega)) only [evB, Sz.cells, Sz.val, *]; rfl) (by simp (disch := first | omega | (simp only [lenB]; omega)) only [evB, Sz.cells, Sz.val, *]) (by simp (disch := first | omega | (simp only [lenB]; omega)) only [evB, Sz.cells, Sz.val, *]; rfl) (by simp (disch := first | omega | (simp only [lenB]; omega)) only [evB, Sz.cells, Sz.val, *]; rfl) (by simp (disch := first | omega | (simp only [lenB]; omega)) only [evB, Sz.cells, Sz.val, *]; rfl) ?_; (try simp only [ctlB])))
    refine body_ret (by simp only [cf29]; simp (disch := first | omega | (simp only [lenB]; omega)) only [evB, Sz.cells, Sz.val, *]; rfl) ?_
    exact ⟨rfl, by simp [resultOf, hab]⟩
theorem same17 {lo : Nat} {H : Heap} {va vb : Value} {a b : List Int} (hsm : a.length ≤ 1000000000) (hb : b.length ≤ 9000000000000000000) (ha : WordsX H va a) (hbb : WordsX H vb b) : Ev cp lo 17 [va, vb] H (fun v H' => H' = H ∧ v = .bool (decide (a = b))) := by
  refine st17 ?_; unfold bd17; (try simp only [ctlB])
  repeat' (first | (refine aw_sets (by simp (disch := first | omega | (simp only [lenB]; omega)) only [evB, Sz.cells, Sz.val, *]; rfl) (by simp (disch := first | omega | (simp only [lenB]; omega)) only [evB, Sz.cells, Sz.val, *]) (by simp (disch := first | omega | (simp only [lenB]; omega)) only [evB, Sz.cells, Sz.val, *]; rfl) ?_; (try simp only [ctlB])) | (refine aw_op rfl (by simp (disch := first | omega | (simp only [lenB]; omega)) only [evB, Sz.cells, Sz.val, *]; rfl) (by simp (disch := first | omega | (simp only [lenB]; omega)) only [evB, Sz.cells, Sz.val, *]) (by simp (disch := first | omega | (simp only [lenB]; omega)) only [evB, Sz.cells, Sz.val, *]; rfl) (by simp (disch := first | omega | (simp only [lenB]; omega)) only [evB, Sz.cells, Sz.val, *]; rfl) (by simp (disch := first | omega | (simp only [lenB]; omega)) only [evB, Sz.cells, Sz.val, *]; rfl) ?_; (try simp only [ctlB])))
  refine aw_hv (by simp (disch := first | omega | (simp only [lenB]; omega)) only [evB, Sz.cells, Sz.val, *]; rfl) (by simp (disch := first | omega | (simp only [lenB]; omega)) only [evB, Sz.cells, Sz.val, *]) (by simp (disch := first | omega | (simp only [lenB]; omega)) only [evB, Sz.cells, Sz.val, *]; rfl) ?_
  refine wpH_call0 (equal29 hsm hb ha hbb) ?_
  rintro v H1 ⟨rfl, rfl⟩
  (try simp only [ctlB])
  repeat' (first | (refine aw_sets (by simp (disch := first | omega | (simp only [lenB]; omega)) only [evB, Sz.cells, Sz.val, *]; rfl) (by simp (disch := first | omega | (simp only [lenB]; omega)) only [evB, Sz.cells, Sz.val, *]) (by simp (disch := first | omega | (simp only [lenB]; omega)) only [evB, Sz.cells, Sz.val, *]; rfl) ?_; (try simp only [ctlB])) | (refine aw_op rfl (by simp (disch := first | omega | (simp only [lenB]; omega)) only [evB, Sz.cells, Sz.val, *]; rfl) (by simp (disch := first | omega | (simp only [lenB]; omega)) only [evB, Sz.cells, Sz.val, *]) (by simp (disch := first | omega | (simp only [lenB]; omega)) only [evB, Sz.cells, Sz.val, *]; rfl) (by simp (disch := first | omega | (simp only [lenB]; omega)) only [evB, Sz.cells, Sz.val, *]; rfl) (by simp (disch := first | omega | (simp only [lenB]; omega)) only [evB, Sz.cells, Sz.val, *]; rfl) ?_; (try simp only [ctlB])))
  refine body_ret (by simp only [cf17]; simp (disch := first | omega | (simp only [lenB]; omega)) only [evB, Sz.cells, Sz.val, *]; rfl) ?_
  exact ⟨rfl, rfl⟩

/- where modules lie -/
theorem idx_bd {R h rr K x : Int} (hR : R = K * h) (hh : h = rr + 2) (hrr : 0 < rr) (h0 : 0 ≤ x) (hx : x < R) (_ : 0 ≤ K) (n0 : ¬ x.tmod h = 0) (n1 : ¬ x.tmod h = rr + 1) : 0 ≤ x.tdiv h * rr + x.tmod h - 1 ∧ x.tdiv h * rr + x.tmod h - 1 < K * rr := by
  rw [Int.tdiv_eq_ediv_of_nonneg h0] at *
  rw [Int.tmod_eq_emod_of_nonneg h0] at *
  have m0 := Int.emod_nonneg x (show h ≠ 0 by omega)
  have m1 := Int.emod_lt_of_pos x (show 0 < h by omega)
  have d0 : 0 ≤ x / h := Int.ediv_nonneg h0 (by omega)
  have d1 : x / h < K := Int.ediv_lt_of_lt_mul (by omega) (by rw [← hR]; exact hx)
  have p0 : 0 ≤ x / h * rr := Int.mul_nonneg d0 (by omega)
  have p1 : (x / h + 1) * rr ≤ K * rr := Int.mul_le_mul_of_nonneg_right (by omega) (by omega)
  rw [Int.add_mul] at p1
  omega
structure SzFit (s : Sz) : Prop where
  hr : s.r = s.r.tdiv (s.rr + 2) * (s.rr + 2)
  hc : s.c = s.c.tdiv (s.rc + 2) * (s.rc + 2)
theorem szs_fit : ∀ s ∈ szs, SzFit s := by
  have h : szs.all (fun s => decide (s.r = s.r.tdiv (s.rr + 2) * (s.rr + 2)) && decide (s.c = s.c.tdiv (s.rc + 2) * (s.rc + 2))) = true := by kernel_rfl
  intro s hs
  have := List.all_eq_true.1 h s hs
  simp only [Bool.and_eq_true, decide_eq_true_eq] at this
  exact ⟨this.1, this.2⟩
theorem loc_bd {s : Sz} (hs : SzOK s) (hf : SzFit s) (i : Nat) (hi : (i : Int) < s.r * s.c) (hB : locB s ((i : Int).tdiv s.c) ((i : Int).tmod s.c) = false) : 0 ≤ locI s ((i : Int).tdiv s.c) ((i : Int).tmod s.c) ∧ locI s ((i : Int).tdiv s.c) ((i : Int).tmod s.c) < mapR s * mapC s := by
  have hmb := map_bd hs
  obtain ⟨r0, r1, c0, c1, rr0, rr1, rc0, rc1, _⟩ := hs
  have tm := tmod_bd (a := i) (m := s.c) (by omega) (by omega)
  have tr : 0 ≤ (i : Int).tdiv s.c ∧ (i : Int).tdiv s.c < s.r := by
    rw [Int.tdiv_eq_ediv_of_nonneg (by omega)]
    exact ⟨Int.ediv_nonneg (by omega) (by omega), Int.ediv_lt_of_lt_mul (by omega) hi⟩
  generalize (i : Int).tdiv s.c = row at *
  generalize (i : Int).tmod s.c = col at *
  have hI : locI s row col = (row.tdiv (s.rr + 2) * s.rr + lr s row - 1) * mapC s + (col.tdiv (s.rc + 2) * s.rc + lc s col - 1) := by
    unfold locI; rw [hB]; simp only [Bool.false_eq_true, if_false]; omega
  simp only [locB, Bool.or_eq_false_iff, decide_eq_false_iff_not] at hB
  obtain ⟨⟨⟨b1, b2⟩, b3⟩, b4⟩ := hB
  have x1 := idx_bd (R := s.r) (h := s.rr + 2) (rr := s.rr) (K := s.r.tdiv (s.rr + 2)) (x := row) hf.hr rfl (by omega) (by omega) (by omega) (by omega) b3 b2
  have x2 := idx_bd (R := s.c) (h := s.rc + 2) (rr := s.rc) (K := s.c.tdiv (s.rc + 2)) (x := col) hf.hc rfl (by omega) (by omega) (by omega) (by omega) b1 b4
  have x1' : 0 ≤ row.tdiv (s.rr + 2) * s.rr + lr s row - 1 ∧ row.tdiv (s.rr + 2) * s.rr + lr s row - 1 < mapR s := x1
  have x2' : 0 ≤ col.tdiv (s.rc + 2) * s.rc + lc s col - 1 ∧ col.tdiv (s.rc + 2) * s.rc + lc s col - 1 < mapC s := x2
  rw [hI]
  exact idx_lt x1'.1 x1'.2 x2'.1 x2'.2
theorem sizeOrd_of {s : Sz} (hs : s ∈ szs) {R C w : Nat} (hR : mapR s = R) (hC : mapC s = C) (hw : (s.d + s.k).toNat = w) (hdim : (6 ≤ R ∧ R ≤ 200) ∧ 6 ≤ C ∧ C ≤ 200) (h : okOrd R C w = true) : ∃ gf, SizeOrd s gf := by
  obtain ⟨g, h1, h2⟩ := ordered_of h
  refine ⟨g, ?_, ?_, ?_, loc_bd (szs_ok s hs) (szs_fit s hs)⟩
  · rw [hR, hC]; exact h1
  · rw [hR, hC]; exact ⟨by omega, by omega, by omega, by omega⟩
  · rw [hR, hC, hw, ← Int.natCast_mul, Int.toNat_natCast]; exact h2
theorem so0 : ∃ gf, SizeOrd (szAt 0) gf := sizeOrd_of (szAt_mem (by omega)) (R := 8) (C := 8) (w := 8) rfl rfl rfl (by omega) o8x8
theorem isMap88 : isMap 8 8 := ⟨szAt 0, szAt_mem (by omega), rfl, rfl⟩

def ord88 : List Int := (match ordP 8 8 with | some g => g.cells | none => [])
set_option maxRecDepth 100000 in
theorem ord88_ok : (ord88.length == 64 && ord88.take 8 == [8, 9, 21, 22, 23, 26, 27, 28] && ord88.getD 32 0 == 7) = true := by kernel_rfl
theorem fitA : fitP 9 true = (⟨16, 16, 14, 14, 12, 12, 1⟩, 0) := by kernel_rfl
theorem fitB : fitP 9 false = (⟨8, 32, 6, 14, 10, 11, 1⟩, 0) := by kernel_rfl
theorem fitC : fitP 1559 false = (Sz.zero, 16) := by kernel_rfl
theorem sz0 : szAt 0 = ⟨10, 10, 8, 8, 3, 5, 1⟩ := rfl
theorem mod0 (o ws : List Int) : modBit (szAt 0) o ws 0 = true := rfl
theorem mod9 (o ws : List Int) : modBit (szAt 0) o ws 9 = false := rfl
theorem mod99 (o ws : List Int) : modBit (szAt 0) o ws 99 = true := rfl
theorem modBits_at {s : Sz} {o ws : List Int} {n i : Nat} (h : i < n) : (modBits s o ws n).getD i false = modBit s o ws i := by
  simp [modBits, List.getD_eq_getElem?_getD, h]
theorem modBits_len {s : Sz} {o ws : List Int} {n : Nat} : (modBits s o ws n).length = n := by simp [modBits]
set_option maxHeartbeats 4000000 in
theorem examples14 {lo : Nat} {H : Heap} (hlo : lo ≤ H.length) : Ev cp lo 14 [] H (fun v H' => Ext H H' ∧ v = .bool true) := by
  refine st14 ?_; unfold bd14; (try simp only [ctlB])
  repeat' (first | (refine aw_sets (by simp (disch := first | omega | (simp only [lenB]; omega)) only [evB, Sz.cells, Sz.val, *]; rfl) (by simp (disch := first | omega | (simp only [lenB]; omega)) only [evB, Sz.cells, Sz.val, *]) (by simp (disch := first | omega | (simp only [lenB]; omega)) only [evB, Sz.cells, Sz.val, *]; rfl) ?_; (try simp only [ctlB])) | (refine aw_op rfl (by simp (disch := first | omega | (simp only [lenB]; omega)) only [evB, Sz.cells, Sz.val, *]; rfl) (by simp (disch := first | omega | (simp only [lenB]; omega)) only [evB, Sz.cells, Sz.val, *]) (by simp (disch := first | omega | (simp only [lenB]; omega)) only [evB, Sz.cells, Sz.val, *]; rfl) (by simp (disch := first | omega | (simp only [lenB]; omega)) only [evB, Sz.cells, Sz.val, *]; rfl) (by simp (disch := first | omega | (simp only [lenB]; omega)) only [evB, Sz.cells, Sz.val, *]; rfl) ?_; (try simp only [ctlB])))
  refine aw_hv (by simp (disch := first | omega | (simp only [lenB]; omega)) only [evB, Sz.cells, Sz.val, *]; rfl) (by simp (disch := first | omega | (simp only [lenB]; omega)) only [evB, Sz.cells, Sz.val, *]) (by simp (disch := first | omega | (simp only [lenB]; omega)) only [evB, Sz.cells, Sz.val, *]; rfl) ?_
  obtain ⟨gf, hso⟩ := so0
  refine wpH_call0 (order15 (R := 8) (C := 8) hlo (fun _ => ⟨hso.dim, gf, hso.ord⟩)) ?_
  rintro v H1 ⟨hx1, hcase⟩
  rcases hcase with ⟨_, gf', q, ho, hq, rfl, hgq⟩ | ⟨hn, _⟩
  rotate_left
  · exact absurd isMap88 hn
  have hcells : ord88 = gf'.cells := by unfold ord88; rw [ho]
  have hok := ord88_ok
  simp only [Bool.and_eq_true, beq_iff_eq] at hok
  rw [hcells] at hok
  obtain ⟨⟨hl64, ht8⟩, h32⟩ := hok
  clear hcells ho hso
  generalize gf'.cells = oc at *
  rw [hl64]
  have hql := Heap.get_lt hgq
  (try simp only [ctlB])
  repeat' (first | (refine aw_sets (by simp (disch := first | omega | (simp only [lenB]; omega)) only [evB, Sz.cells, Sz.val, *]; rfl) (by simp (disch := first | omega | (simp only [lenB]; omega)) only [evB, Sz.cells, Sz.val, *]) (by simp (disch := first | omega | (simp only [lenB]; omega)) only [evB, Sz.cells, Sz.val, *]; rfl) ?_; (try simp only [ctlB])) | (refine aw_op rfl (by simp (disch := first | omega | (simp only [lenB]; omega)) only [evB, Sz.cells, Sz.val, *]; rfl) (by simp (disch := first | omega | (simp only [lenB]; omega)) only [evB, Sz.cells, Sz.val, *]) (by simp (disch := first | omega | (simp only [lenB]; omega)) only [evB, Sz.cells, Sz.val, *]; rfl) (by simp (disch := first | omega | (simp only [lenB]; omega)) only [evB, Sz.cells, Sz.val, *]; rfl) (by simp (disch := first | omega | (simp only [lenB]; omega)) only [evB, Sz.cells, Sz.val, *]; rfl) ?_; (try simp only [ctlB])))
  refine aw_hv (by simp (disch := first | omega | (simp only [lenB]; omega)) only [evB, Sz.cells, Sz.val, *]; rfl) (by simp (disch := first | omega | (simp only [lenB]; omega)) only [evB, Sz.cells, Sz.val, *]) (by simp (disch := first | omega | (simp only [lenB]; omega)) only [evB, Sz.cells, Sz.val, *]; rfl) ?_
  refine wpH_call0 (fit12 9 true (Nat.le_trans hlo hx1.1)) ?_
  rintro v H2 ⟨hx2, rfl⟩
  have hgq := hx2.get hgq
  have hx2 := hx1.trans hx2
  have hl2 := hx2.1
  rw [fitA]
  (try simp only [ctlB])
  repeat' (first | (refine aw_sets (by simp (disch := first | omega | (simp only [lenB]; omega)) only [evB, Sz.cells, Sz.val, *]; rfl) (by simp (disch := first | omega | (simp only [lenB]; omega)) only [evB, Sz.cells, Sz.val, *]) (by simp (disch := first | omega | (simp only [lenB]; omega)) only [evB, Sz.cells, Sz.val, *]; rfl) ?_; (try simp only [ctlB])) | (refine aw_op rfl (by simp (disch := first | omega | (simp only [lenB]; omega)) only [evB, Sz.cells, Sz.val, *]; rfl) (by simp (disch := first | omega | (simp only [lenB]; omega)) only [evB, Sz.cells, Sz.val, *]) (by simp (disch := first | omega | (simp only [lenB]; omega)) only [evB, Sz.cells, Sz.val, *]; rfl) (by simp (disch := first | omega | (simp only [lenB]; omega)) only [evB, Sz.cells, Sz.val, *]; rfl) (by simp (disch := first | omega | (simp only [lenB]; omega)) only [evB, Sz.cells, Sz.val, *]; rfl) ?_; (try simp only [ctlB])))
  have ga : Heap.get (H2 ++ [some (Sz.mk 16 16 14 14 12 12 1).cells]) H2.length = some (Sz.mk 16 16 14 14 12 12 1).cells := get_app0
  refine aw_hv (by simp (disch := first | omega | (simp only [lenB]; omega)) only [evB, Sz.cells, Sz.val, *]; rfl) (by simp (disch := first | omega | (simp only [lenB]; omega)) only [evB, Sz.cells, Sz.val, *]) (by simp (disch := first | omega | (simp only [lenB]; omega)) only [evB, Sz.cells, Sz.val, *]; rfl) ?_
  refine wpH_call0 (fit12 9 false (by simp; omega)) ?_
  rintro v H3 ⟨hx3, rfl⟩
  have ga := hx3.get ga
  have hgq := hx3.of_app.get hgq
  have hx3 := hx2.trans hx3.of_app
  have hl3 := Heap.get_lt ga
  generalize H2.length = p1 at *
  rw [fitB]
  (try simp only [ctlB])
  repeat' (first | (refine aw_sets (by simp (disch := first | omega | (simp only [lenB]; omega)) only [evB, Sz.cells, Sz.val, *]; rfl) (by simp (disch := first | omega | (simp only [lenB]; omega)) only [evB, Sz.cells, Sz.val, *]) (by simp (disch := first | omega | (simp only [lenB]; omega)) only [evB, Sz.cells, Sz.val, *]; rfl) ?_; (try simp only [ctlB])) | (refine aw_op rfl (by simp (disch := first | omega | (simp only [lenB]; omega)) only [evB, Sz.cells, Sz.val, *]; rfl) (by simp (disch := first | omega | (simp only [lenB]; omega)) only [evB, Sz.cells, Sz.val, *]) (by simp (disch := first | omega | (simp only [lenB]; omega)) only [evB, Sz.cells, Sz.val, *]; rfl) (by simp (disch := first | omega | (simp only [lenB]; omega)) only [evB, Sz.cells, Sz.val, *]; rfl) (by simp (disch := first | omega | (simp only [lenB]; omega)) only [evB, Sz.cells, Sz.val, *]; rfl) ?_; (try simp only [ctlB])))
  refine aw_hv (by simp (disch := first | omega | (simp only [lenB]; omega)) only [evB, Sz.cells, Sz.val, *]; rfl) (by simp (disch := first | omega | (simp only [lenB]; omega)) only [evB, Sz.cells, Sz.val, *]) (by simp (disch := first | omega | (simp only [lenB]; omega)) only [evB, Sz.cells, Sz.val, *]; rfl) ?_
  have gb : Heap.get (H3 ++ [some (Sz.mk 8 32 6 14 10 11 1).cells]) H3.length = some (Sz.mk 8 32 6 14 10 11 1).cells := get_app0
  refine wpH_call0 (fit12 1559 false (by have := hx3.1; simp; omega)) ?_
  rintro v H4 ⟨hx4, rfl⟩
  have gb := hx4.get gb
  have ga := hx4.of_app.get ga
  have hgq := hx4.of_app.get hgq
  have hx4 := hx3.trans hx4.of_app
  have hl4 := Heap.get_lt gb
  generalize H3.length = p2 at *
  rw [fitC]
  (try simp only [ctlB])
  repeat' (first | (refine aw_sets (by simp (disch := first | omega | (simp only [lenB]; omega)) only [evB, Sz.cells, Sz.val, *]; rfl) (by simp (disch := first | omega | (simp only [lenB]; omega)) only [evB, Sz.cells, Sz.val, *]) (by simp (disch := first | omega | (simp only [lenB]; omega)) only [evB, Sz.cells, Sz.val, *]; rfl) ?_; (try simp only [ctlB])) | (refine aw_op rfl (by simp (disch := first | omega | (simp only [lenB]; omega)) only [evB, Sz.cells, Sz.val, *]; rfl) (by simp (disch := first | omega | (simp only [lenB]; omega)) only [evB, Sz.cells, Sz.val, *]) (by simp (disch := first | omega | (simp only [lenB]; omega)) only [evB, Sz.cells, Sz.val, *]; rfl) (by simp (disch := first | omega | (simp only [lenB]; omega)) only [evB, Sz.cells, Sz.val, *]; rfl) (by simp (disch := first | omega | (simp only [lenB]; omega)) only [evB, Sz.cells, Sz.val, *]; rfl) ?_; (try simp only [ctlB])))
  refine aw_hv (by simp (disch := first | omega | (simp only [lenB]; omega)) only [evB, Sz.cells, Sz.val, *]; rfl) (by simp (disch := first | omega | (simp only [lenB]; omega)) only [evB, Sz.cells, Sz.val, *]) (by simp (disch := first | omega | (simp only [lenB]; omega)) only [evB, Sz.cells, Sz.val, *]; rfl) ?_
  refine wpH_call0 (sizes10 (by have := hx4.1; simp; omega)) ?_
  rintro v H5 ⟨j, hj, rfl, hgj, hx5⟩
  have gb := hx5.of_app.get gb
  have ga := hx5.of_app.get ga
  have hgq := hx5.of_app.get hgq
  have hx5 := hx4.trans hx5.of_app
  have hx05 := hx5.1
  (try simp only [ctlB])
  repeat' (first | (refine aw_sets (by simp (disch := first | omega | (simp only [lenB]; omega)) only [evB, Sz.cells, Sz.val, *]; rfl) (by simp (disch := first | omega | (simp only [lenB]; omega)) only [evB, Sz.cells, Sz.val, *]) (by simp (disch := first | omega | (simp only [lenB]; omega)) only [evB, Sz.cells, Sz.val, *]; rfl) ?_; (try simp only [ctlB])) | (refine aw_op rfl (by simp (disch := first | omega | (simp only [lenB]; omega)) only [evB, Sz.cells, Sz.val, *]; rfl) (by simp (disch := first | omega | (simp only [lenB]; omega)) only [evB, Sz.cells, Sz.val, *]) (by simp (disch := first | omega | (simp only [lenB]; omega)) only [evB, Sz.cells, Sz.val, *]; rfl) (by simp (disch := first | omega | (simp only [lenB]; omega)) only [evB, Sz.cells, Sz.val, *]; rfl) (by simp (disch := first | omega | (simp only [lenB]; omega)) only [evB, Sz.cells, Sz.val, *]; rfl) ?_; (try simp only [ctlB])))
  refine aw_cond (by simp (disch := first | omega | (simp only [lenB]; omega)) only [evB, Sz.cells, Sz.val, *]; rfl) (fun h => ?_) (fun h => ?_)
  · simp at h
  clear h
  have hrow := szCells_at (i := 0) (by omega)
  have hlen := szCells_len
  simp only [Nat.zero_mul, List.drop_zero] at hrow
  have hz0 := sz0
  (try simp only [ctlB])
  repeat' (first | (refine aw_sets (by simp (disch := first | omega | (simp only [lenB]; omega)) only [evB, Sz.cells, Sz.val, *]; rfl) (by simp (disch := first | omega | (simp only [lenB]; omega)) only [evB, Sz.cells, Sz.val, *]) (by simp (disch := first | omega | (simp only [lenB]; omega)) only [evB, Sz.cells, Sz.val, *]; rfl) ?_; (try simp only [ctlB])) | (refine aw_op rfl (by simp (disch := first | omega | (simp only [lenB]; omega)) only [evB, Sz.cells, Sz.val, *]; rfl) (by simp (disch := first | omega | (simp only [lenB]; omega)) only [evB, Sz.cells, Sz.val, *]) (by simp (disch := first | omega | (simp only [lenB]; omega)) only [evB, Sz.cells, Sz.val, *]; rfl) (by simp (disch := first | omega | (simp only [lenB]; omega)) only [evB, Sz.cells, Sz.val, *]; rfl) (by simp (disch := first | omega | (simp only [lenB]; omega)) only [evB, Sz.cells, Sz.val, *]; rfl) ?_; (try simp only [ctlB])))
  refine aw_hv (by simp (disch := first | omega | (simp only [lenB]; omega)) only [evB, Sz.cells, Sz.val, *]; rfl) (by simp (disch := first | omega | (simp only [lenB]; omega)) only [evB, Sz.cells, Sz.val, *]) (by simp (disch := first | omega | (simp only [lenB]; omega)) only [evB, Sz.cells, Sz.val, *]; rfl) ?_
  refine wpH_call0 (place18 (ws := List.replicate 8 0) (s := szAt 0) (by simp; omega) (.inr ⟨H5.length, 8, List.replicate 8 0, rfl, by rw [get_app0]; rfl, fun _ _ => rfl, Nat.le_refl _⟩) (fun _ => so0)) ?_
  rintro v H6 ⟨hx6, hcase⟩
  rcases hcase with ⟨hn, _⟩ | ⟨_, hn, _⟩ | ⟨_, _, hn, _⟩ | ⟨_, _, _, gf6, q6, _, hq6, rfl, hg6⟩
  · exact absurd (szAt_mem (i := 0) (by omega)) hn
  · exact absurd rfl hn
  · exact absurd hn (by decide)
  have e1 : ((szAt 0).r * (szAt 0).c).toNat = 100 := rfl
  have e2 : (szAt 0).c = 10 := rfl
  have e3 : (szAt 0).r = 10 := rfl
  rw [e1] at hg6
  rw [e1, e2, e3]
  have hq6l := Heap.get_lt hg6
  have gb := hx6.of_app.get gb
  have ga := hx6.of_app.get ga
  have hgq := hx6.of_app.get hgq
  have hx6 := hx5.trans hx6.of_app
  have hx06 := hx6.1
  clear hz0 hrow
  (try simp only [ctlB])
  repeat' (first | (refine aw_sets (by simp (disch := first | omega | (simp only [lenB]; omega)) only [evB, Sz.cells, Sz.val, *]; rfl) (by simp (disch := first | omega | (simp only [lenB]; omega)) only [evB, Sz.cells, Sz.val, *]) (by simp (disch := first | omega | (simp only [lenB]; omega)) only [evB, Sz.cells, Sz.val, *]; rfl) ?_; (try simp only [ctlB])) | (refine aw_op rfl (by simp (disch := first | omega | (simp only [lenB]; omega)) only [evB, Sz.cells, Sz.val, *]; rfl) (by simp (disch := first | omega | (simp only [lenB]; omega)) only [evB, Sz.cells, Sz.val, *]) (by simp (disch := first | omega | (simp only [lenB]; omega)) only [evB, Sz.cells, Sz.val, *]; rfl) (by simp (disch := first | omega | (simp only [lenB]; omega)) only [evB, Sz.cells, Sz.val, *]; rfl) (by simp (disch := first | omega | (simp only [lenB]; omega)) only [evB, Sz.cells, Sz.val, *]; rfl) ?_; (try simp only [ctlB])))
  refine aw_hv (by simp (disch := first | omega | (simp only [lenB]; omega)) only [evB, Sz.cells, Sz.val, *]; rfl) (by simp (disch := first | omega | (simp only [lenB]; omega)) only [evB, Sz.cells, Sz.val, *]) (by simp (disch := first | omega | (simp only [lenB]; omega)) only [evB, Sz.cells, Sz.val, *]; rfl) ?_
  refine wpH_call0 (same17 (a := oc.take 8) (b := [8, 9, 21, 22, 23, 26, 27, 28]) (by simp; omega) (by simp) (.inr ⟨q, none, 64, oc, by simp [hl64], ?_, fun i hi => ?_, by simp; omega⟩) (.inr ⟨_, none, 8, _, rfl, ?_, fun _ _ => rfl, Nat.le_refl _⟩)) ?_
  · rw [get_app_lt (Heap.get_lt hgq)]; exact hgq
  · simp at hi; simp [List.getD_eq_getElem?_getD, List.getElem?_take, show i < 8 by omega]
  · rw [get_appS]; rfl
  rintro v H7 ⟨rfl, rfl⟩
  rw [show decide (List.take 8 oc = [8, 9, 21, 22, 23, 26, 27, 28]) = true by simp [ht8]]
  have hqb := Heap.get_lt hgq
  have hp1 := Heap.get_lt ga
  have hp2 := Heap.get_lt gb
  have d0 : (modBits (szAt 0) gf6.cells (List.replicate 8 0) 100).getD 0 false = true := by rw [modBits_at (by omega)]; exact mod0 _ _
  have d9 : (modBits (szAt 0) gf6.cells (List.replicate 8 0) 100).getD 9 false = false := by rw [modBits_at (by omega)]; exact mod9 _ _
  have d99 : (modBits (szAt 0) gf6.cells (List.replicate 8 0) 100).getD 99 false = true := by rw [modBits_at (by omega)]; exact mod99 _ _
  have dl : (modBits (szAt 0) gf6.cells (List.replicate 8 0) 100).length = 100 := modBits_len
  generalize modBits (szAt 0) gf6.cells (List.replicate 8 0) 100 = db at *
  clear ht8
  (try simp only [ctlB])
  repeat' (first | (refine aw_sets (by simp (disch := first | omega | (simp only [lenB]; omega)) only [evB, Sz.cells, Sz.val, *]; rfl) (by simp (disch := first | omega | (simp only [lenB]; omega)) only [evB, Sz.cells, Sz.val, *]) (by simp (disch := first | omega | (simp only [lenB]; omega)) only [evB, Sz.cells, Sz.val, *]; rfl) ?_; (try simp only [ctlB])) | (refine aw_op rfl (by simp (disch := first | omega | (simp only [lenB]; omega)) only [evB, Sz.cells, Sz.val, *]; rfl) (by simp (disch := first | omega | (simp only [lenB]; omega)) only [evB, Sz.cells, Sz.val, *]) (by simp (disch := first | omega | (simp only [lenB]; omega)) only [evB, Sz.cells, Sz.val, *]; rfl) (by simp (disch := first | omega | (simp only [lenB]; omega)) only [evB, Sz.cells, Sz.val, *]; rfl) (by simp (disch := first | omega | (simp only [lenB]; omega)) only [evB, Sz.cells, Sz.val, *]; rfl) ?_; (try simp only [ctlB])))
  refine body_ret (by simp only [cf14]; simp (disch := first | omega | (simp only [lenB]; omega)) only [evB, Sz.cells, Sz.val, *]; rfl) ?_
  refine ⟨hx6.trans (Ext.app _ _), ?_⟩
  simp only [resultOf, show Int.toNat 32 = 32 from rfl, show Int.toNat 0 = 0 from rfl, show Int.toNat 99 = 99 from rfl, show Int.toNat 9 = 9 from rfl, h32, d0, d9, d99]
  rfl
end Go.Proofs.Ytobfjbominbkmaa
