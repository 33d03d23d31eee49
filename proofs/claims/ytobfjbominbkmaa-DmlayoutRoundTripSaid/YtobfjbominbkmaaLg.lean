/-
  DmlayoutRoundTrip returns true for all codewords and all sizes: Extract restores the codewords and the size that Place was given. No conditions.
-/
import Derived.Test.YtobfjbominbkmaaLf
namespace Go.Proofs.Ytobfjbominbkmaa
open Go.Abs
set_option linter.unusedSimpArgs false
set_option linter.unusedVariables false
theorem getD_any' {l : List Int} {i : Nat} (h : i < l.length) (a b : Int) : l.getD i a = l.getD i b := by
  simp [List.getD_eq_getElem?_getD, List.getElem?_eq_getElem h]
theorem bit_test {x n : Nat} (hx : x < 256) : bitE (x : Int) (n : Int) = x.testBit (7 - n % 8) := by
  rw [bit_mod (by omega) (by omega) (by omega), Nat.testBit_eq_decide_div_mod_eq]
  have e : (7 - (n : Int).tmod 8).toNat = 7 - n % 8 := by
    rw [Int.tmod_eq_emod_of_nonneg (by omega)]; omega
  rw [e, show IntKind.i64.bits = 64 from rfl, Nat.min_eq_left (by omega)]
  have hc : ((2 : Int) ^ (7 - n % 8)) = ((2 ^ (7 - n % 8) : Nat) : Int) := by simp
  rw [hc]
  generalize 2 ^ (7 - n % 8) = p
  rw [Int.fdiv_eq_ediv_of_nonneg _ (by omega), ← Int.natCast_ediv]
  generalize x / p = y
  rw [Int.tmod_eq_emod_of_nonneg (by omega)]
  congr 1
  rw [eq_iff_iff]
  omega
/-- each part of the mapping matrix is the part of a module -/
theorem part_sur {R rr K A : Int} (hR : R = K * (rr + 2)) (hrr : 0 < rr) (h0 : 0 ≤ A) (h1 : A < K * rr) : ∃ x : Int, 0 ≤ x ∧ x < R ∧ x.tdiv (rr + 2) * rr + x.tmod (rr + 2) - 1 = A ∧ ¬ x.tmod (rr + 2) = 0 ∧ ¬ x.tmod (rr + 2) = rr + 1 := by
  have e := Int.mul_ediv_add_emod A rr
  have m0 := Int.emod_nonneg A (show rr ≠ 0 by omega)
  have m1 := Int.emod_lt_of_pos A (show 0 < rr by omega)
  have d0 : 0 ≤ A / rr := Int.ediv_nonneg h0 (by omega)
  have d1 : A / rr < K := Int.ediv_lt_of_lt_mul (by omega) h1
  generalize A / rr = q at *
  generalize A % rr = m at *
  have p0 : 0 ≤ q * (rr + 2) := Int.mul_nonneg d0 (by omega)
  have p1 : (q + 1) * (rr + 2) ≤ K * (rr + 2) := Int.mul_le_mul_of_nonneg_right (by omega) (by omega)
  rw [Int.add_mul, Int.one_mul] at p1
  refine ⟨q * (rr + 2) + (m + 1), by omega, by omega, ?_⟩
  have hx0 : 0 ≤ q * (rr + 2) + (m + 1) := by omega
  rw [Int.tdiv_eq_ediv_of_nonneg hx0, Int.tmod_eq_emod_of_nonneg hx0]
  have hd : (q * (rr + 2) + (m + 1)) / (rr + 2) = q := by
    rw [Int.add_comm, Int.add_mul_ediv_right _ _ (by omega), Int.ediv_eq_zero_of_lt (by omega) (by omega)]; omega
  have hm : (q * (rr + 2) + (m + 1)) % (rr + 2) = m + 1 := by
    rw [Int.add_comm, Int.add_mul_emod_self_right, Int.emod_eq_of_lt (by omega) (by omega)]
  rw [hd, hm, Int.mul_comm q rr]
  omega
theorem loc_sur {s : Sz} (hs : SzOK s) (hf : SzFit s) {a : Nat} (ha : (a : Int) < mapR s * mapC s) : ∃ k : Nat, (k : Int) < s.r * s.c ∧ locB s ((k : Int).tdiv s.c) ((k : Int).tmod s.c) = false ∧ locI s ((k : Int).tdiv s.c) ((k : Int).tmod s.c) = a := by
  have hmb := map_bd hs
  obtain ⟨r0, r1, c0, c1, rr0, rr1, rc0, rc1, _⟩ := hs
  have hC : 0 < mapC s := by
    rcases Int.lt_or_eq_of_le hmb.2.2.1 with h | h
    · exact h
    · rw [← h, Int.mul_zero] at ha; omega
  have e := Int.mul_ediv_add_emod (a : Int) (mapC s)
  have m0 := Int.emod_nonneg (a : Int) (show mapC s ≠ 0 by omega)
  have m1 := Int.emod_lt_of_pos (a : Int) hC
  have d0 : 0 ≤ (a : Int) / mapC s := Int.ediv_nonneg (by omega) (by omega)
  have d1 : (a : Int) / mapC s < mapR s := Int.ediv_lt_of_lt_mul hC ha
  obtain ⟨row, x0, x1, x2, x3, x4⟩ := part_sur hf.hr (by omega) d0 d1
  obtain ⟨col, y0, y1, y2, y3, y4⟩ := part_sur hf.hc (by omega) m0 m1
  obtain ⟨y, rfl⟩ := Int.eq_ofNat_of_zero_le x0
  obtain ⟨x, rfl⟩ := Int.eq_ofNat_of_zero_le y0
  obtain ⟨C, hCC⟩ : ∃ C : Nat, (C : Int) = s.c := ⟨s.c.toNat, by omega⟩
  have hd := rc_div (C := C) (x := x) (y := y) (by omega)
  rw [hCC] at hd
  have hB : locB s (y : Int) (x : Int) = false := by
    unfold locB lr lc
    rw [decide_eq_false y3, decide_eq_false x4, decide_eq_false x3, decide_eq_false y4]; rfl
  refine ⟨y * C + x, ?_, ?_, ?_⟩
  · have : ((y : Int) + 1) * s.c ≤ s.r * s.c := Int.mul_le_mul_of_nonneg_right (by omega) (by omega)
    rw [Int.add_mul] at this
    rw [Int.natCast_add, Int.natCast_mul, hCC]; omega
  · rw [hd.1, hd.2]; exact hB
  · rw [hd.1, hd.2, locI_eq hB]
    show ((y : Int).tdiv (s.rr + 2) * s.rr + (y : Int).tmod (s.rr + 2) - 1) * mapC s + ((x : Int).tdiv (s.rc + 2) * s.rc + (x : Int).tmod (s.rc + 2) - 1) = a
    rw [x2, y2, Int.mul_comm]; exact e
theorem round {s : Sz} {gf : G} {ws : List Int} (hs : s ∈ szs) (hso : SizeOrd s gf) (hlen : (ws.length : Int) = s.d + s.k) (hbw : badWord ws = false) :
    WB (s.d + s.k).toNat (seen (exP s gf.cells (modBits s gf.cells ws (s.r * s.c).toNat)) (s.r * s.c).toNat) ws := by
  have hok := szs_ok s hs
  refine ⟨by omega, fun j hj => ?_⟩
  have hjl : j < ws.length := by omega
  have hb := words_bad hbw hjl
  obtain ⟨x, hx⟩ := Int.eq_ofNat_of_zero_le hb.1
  refine ⟨x, by omega, hx, fun b hb8 => ?_⟩
  obtain ⟨a, ha, hav⟩ := hso.od.sur (8 * j + b) (by omega)
  have hrc0 : 0 ≤ mapR s * mapC s := Int.mul_nonneg (map_bd hok).1 (map_bd hok).2.2.1
  obtain ⟨k, hk, hkB, hkI⟩ := loc_sur hok (szs_fit s hs) (a := a) (by omega)
  have hgd : gf.cells.getD a 0 = gf.cells.getD a (-1) := by
    have := hso.od.len
    simp [List.getD_eq_getElem?_getD, List.getElem?_eq_getElem (show a < gf.cells.length by omega)]
  have hmod : modBit s gf.cells ws k = x.testBit (7 - b) := by
    unfold modBit
    rw [hkB, hkI, Int.toNat_natCast, hgd, hav]
    simp only [Bool.false_eq_true, if_false]
    have hq : (((8 * j + b : Nat) : Int).tdiv 8).toNat = j := by rw [Int.tdiv_eq_ediv_of_nonneg (by omega)]; omega
    rw [if_pos (by omega), hq, hx, bit_test (by omega), show (8 * j + b) % 8 = b by omega]
  have hkN : k < (s.r * s.c).toNat := by omega
  rw [← hmod, Bool.eq_iff_iff, seen_true]
  have hdk : (modBits s gf.cells ws (s.r * s.c).toNat).getD k false = modBit s gf.cells ws k := modBits_at hkN
  have hexk : modBit s gf.cells ws k = true → exP s gf.cells (modBits s gf.cells ws (s.r * s.c).toNat) k = some (8 * j + b) := by
    intro h
    unfold exP
    rw [hkB, hkI, Int.toNat_natCast, hgd, hav, hdk, h]
    simp
    omega
  constructor
  · intro h
    exact ⟨k, hkN, hexk h⟩
  · rintro ⟨k', hk', he⟩
    have hk'2 : (k' : Int) < s.r * s.c := by omega
    have he2 := he
    unfold exP at he
    split at he
    · simp at he
    rename_i hB'
    simp only [Bool.not_eq_true] at hB'
    split at he
    · rename_i hc
      simp only [Option.some.injEq] at he
      have hl' := hso.loc k' hk'2 hB'
      have hg' : gf.cells.getD (locI s ((k' : Int).tdiv s.c) ((k' : Int).tmod s.c)).toNat 0 = gf.cells.getD (locI s ((k' : Int).tdiv s.c) ((k' : Int).tmod s.c)).toNat (-1) := by
        have := hso.od.len
        exact getD_any' (by omega) _ _
      have := hso.od.inj a (locI s ((k' : Int).tdiv s.c) ((k' : Int).tmod s.c)).toNat ha (by omega) (by omega) (by rw [← hg']; omega)
      have hkk : k = k' := loc_inj hok (szs_fit s hs) hk hk'2 hkB hB' (by omega)
      subst hkk
      rw [← hdk]; exact hc.2
    · simp at he
theorem find_self {s : Sz} (hs : s ∈ szs) : findSz s.c s.r = some s := by
  cases hf : findSz s.c s.r with
  | none =>
    have := List.find?_eq_none.1 hf s hs
    simp [isSz] at this
  | some t =>
    obtain ⟨h1, h2, h3⟩ := find_some hf
    rw [szs_uniq t h1 s hs h2 h3]
theorem valid_self {s : Sz} (hs : s ∈ szs) : validM s.c s.r (s.r * s.c).toNat = true := by
  obtain ⟨r0, r1, c0, c1, _⟩ := szs_ok s hs
  have hm := mul_bd (a := s.c) (b := s.r) (A := 200) (B := 200) (by omega) (by omega) (by omega) (by omega) (by omega)
  have hm0 : 0 ≤ s.c * s.r := Int.mul_nonneg (by omega) (by omega)
  unfold validM
  rw [wrap_i64 (by omega) (by omega), Int.mul_comm s.r s.c]
  simp only [Bool.and_eq_true, decide_eq_true_eq]
  omega
theorem pat_self {s : Sz} {o ws : List Int} {n : Nat} : badPat s (modBits s o ws n) n = false := by
  unfold badPat
  rw [List.any_eq_false]
  intro k hk
  have hk : k < n := by simpa using hk
  rw [modBits_at hk]
  unfold modBit
  split
  · simp
  · rename_i h; rw [Bool.eq_false_iff.2 h]; simp
theorem law9 (v : Value) (ws : List Int) (s : Sz) (H : Heap) (hw' : Words H v ws) : Ev cp H.length 9 [v, s.val] H (fun v _ => v = .bool true) := by
  refine st9 ?_; unfold bd9; (try simp only [ctlB])
  repeat' (first | (refine aw_sets (by simp (disch := first | omega | (simp only [lenB]; omega)) only [evB, Sz.cells, Sz.val, Int.cast_ofNat_Int, *]; rfl) (by simp (disch := first | omega | (simp only [lenB]; omega)) only [evB, Sz.cells, Sz.val, Int.cast_ofNat_Int, *]) (by simp (disch := first | omega | (simp only [lenB]; omega)) only [evB, Sz.cells, Sz.val, Int.cast_ofNat_Int, *]; rfl) ?_; (try simp only [ctlB])) | (refine aw_op rfl (by simp (disch := first | omega | (simp only [lenB]; omega)) only [evB, Sz.cells, Sz.val, Int.cast_ofNat_Int, *]; rfl) (by simp (disch := first | omega | (simp only [lenB]; omega)) only [evB, Sz.cells, Sz.val, Int.cast_ofNat_Int, *]) (by simp (disch := first | omega | (simp only [lenB]; omega)) only [evB, Sz.cells, Sz.val, Int.cast_ofNat_Int, *]; rfl) (by simp (disch := first | omega | (simp only [lenB]; omega)) only [evB, Sz.cells, Sz.val, Int.cast_ofNat_Int, *]; rfl) (by simp (disch := first | omega | (simp only [lenB]; omega)) only [evB, Sz.cells, Sz.val, Int.cast_ofNat_Int, *]; rfl) ?_; (try simp only [ctlB])))
  refine aw_hv (by simp (disch := first | omega | (simp only [lenB]; omega)) only [evB, Sz.cells, Sz.val, Int.cast_ofNat_Int, *]; rfl) (by simp (disch := first | omega | (simp only [lenB]; omega)) only [evB, Sz.cells, Sz.val, Int.cast_ofNat_Int, *]) (by simp (disch := first | omega | (simp only [lenB]; omega)) only [evB, Sz.cells, Sz.val, Int.cast_ofNat_Int, *]; rfl) ?_
  refine wpH_call0 (place18 (s := s) (ws := ws) (by simp) (hw'.mono (Ext.app _ _)) (fun h => so_all s h)) ?_
  rintro v1 H1 ⟨hx1, hc1⟩
  have g0 : H1.get H.length = some _ := hx1.get (by simp (disch := first | omega | (simp only [lenB]; omega)) only [evB, Sz.cells, Sz.val, Int.cast_ofNat_Int, *]; rfl)
  have hx1 := hx1.of_app
  have hl1 := Heap.get_lt g0
  by_cases hok4 : s ∈ szs ∧ (ws.length : Int) = s.d + s.k ∧ badWord ws = false
  · obtain ⟨hsm, hlen, hbw⟩ := hok4
    rcases hc1 with ⟨h1, rfl⟩ | ⟨h1, h2, rfl⟩ | ⟨h1, h2, h3, rfl⟩ | ⟨h1, h2, h3, gf, q, hso, hq, rfl, hgq⟩
    · exact absurd hsm h1
    · exact absurd hlen h2
    · rw [hbw] at h3; cases h3
    have hml : (modBits s gf.cells ws (s.r * s.c).toNat).length = (s.r * s.c).toNat := modBits_len
    have hsl := Sl.whole (enc := Value.bool) (sp := none) (cap := (s.r * s.c).toNat) hgq
    rw [hml] at hsl
    have hwl : ws.length ≤ 10000 := by obtain ⟨_, _, _, _, _, _, _, _, d0, d1, k0, k1⟩ := szs_ok s hsm; omega
    have hrd := round hsm hso hlen hbw
    clear hlen h2
    (try simp only [ctlB])
    repeat' (first | (refine aw_sets (by simp (disch := first | omega | (simp only [lenB]; omega)) only [evB, Sz.cells, Sz.val, Int.cast_ofNat_Int, *]; rfl) (by simp (disch := first | omega | (simp only [lenB]; omega)) only [evB, Sz.cells, Sz.val, Int.cast_ofNat_Int, *]) (by simp (disch := first | omega | (simp only [lenB]; omega)) only [evB, Sz.cells, Sz.val, Int.cast_ofNat_Int, *]; rfl) ?_; (try simp only [ctlB])) | (refine aw_op rfl (by simp (disch := first | omega | (simp only [lenB]; omega)) only [evB, Sz.cells, Sz.val, Int.cast_ofNat_Int, *]; rfl) (by simp (disch := first | omega | (simp only [lenB]; omega)) only [evB, Sz.cells, Sz.val, Int.cast_ofNat_Int, *]) (by simp (disch := first | omega | (simp only [lenB]; omega)) only [evB, Sz.cells, Sz.val, Int.cast_ofNat_Int, *]; rfl) (by simp (disch := first | omega | (simp only [lenB]; omega)) only [evB, Sz.cells, Sz.val, Int.cast_ofNat_Int, *]; rfl) (by simp (disch := first | omega | (simp only [lenB]; omega)) only [evB, Sz.cells, Sz.val, Int.cast_ofNat_Int, *]; rfl) ?_; (try simp only [ctlB])))
    refine aw_cond (by simp (disch := first | omega | (simp only [lenB]; omega)) only [evB, Sz.cells, Sz.val, Int.cast_ofNat_Int, *]; rfl) (fun h => ?_) (fun h => ?_)
    · simp at h
    clear h
    (try simp only [ctlB])
    have g4 : Heap.get (H1 ++ [some [Value.int .i64 s.c, Value.int .i64 s.r, Value.slice (some ⟨q, 0, none⟩) (s.r * s.c).toNat (s.r * s.c).toNat]]) H1.length = some [Value.int .i64 s.c, Value.int .i64 s.r, Value.slice (some ⟨q, 0, none⟩) (s.r * s.c).toNat (s.r * s.c).toNat] := get_app0
    refine aw_hv (by simp (disch := first | omega | (simp only [lenB]; omega)) only [evB, Sz.cells, Sz.val, Int.cast_ofNat_Int, *]; rfl) (by simp (disch := first | omega | (simp only [lenB]; omega)) only [evB, Sz.cells, Sz.val, Int.cast_ofNat_Int, *]) (by simp (disch := first | omega | (simp only [lenB]; omega)) only [evB, Sz.cells, Sz.val, Int.cast_ofNat_Int, *]; rfl) ?_
    refine wpH_call0 (extract22 (by simp; omega) (hsl.mono (Ext.app _ _))) ?_
    rintro r1 H2 ⟨hx2, ho⟩
    have g4 := hx2.get g4
    have g0 := hx2.of_app.get g0
    have hx2 := hx1.trans hx2.of_app
    have hl2 := hx2.1
    have hl4 := Heap.get_lt g4
    generalize H1.length = p4 at *
    rcases ho with ⟨k1, _⟩ | ⟨_, k2, _⟩ | ⟨_, t, k2, k3, _⟩ | ⟨_, t, gf', v', xs, k2, k3, k4, k5, rfl, k6⟩
    · rw [hml, valid_self hsm] at k1; cases k1
    · rw [find_self hsm] at k2; cases k2
    · rw [hml] at k3
      rw [find_self hsm] at k2; cases k2; rw [pat_self] at k3; cases k3
    rw [find_self hsm] at k2
    cases k2
    have e := hso.ord
    rw [k3.ord] at e
    cases e
    rw [hml] at k5
    have := k5.uniq hrd
    subst this
    clear hsl hml hgq
    (try simp only [ctlB])
    repeat' (first | (refine aw_sets (by simp (disch := first | omega | (simp only [lenB]; omega)) only [evB, Sz.cells, Sz.val, Int.cast_ofNat_Int, *]; rfl) (by simp (disch := first | omega | (simp only [lenB]; omega)) only [evB, Sz.cells, Sz.val, Int.cast_ofNat_Int, *]) (by simp (disch := first | omega | (simp only [lenB]; omega)) only [evB, Sz.cells, Sz.val, Int.cast_ofNat_Int, *]; rfl) ?_; (try simp only [ctlB])) | (refine aw_op rfl (by simp (disch := first | omega | (simp only [lenB]; omega)) only [evB, Sz.cells, Sz.val, Int.cast_ofNat_Int, *]; rfl) (by simp (disch := first | omega | (simp only [lenB]; omega)) only [evB, Sz.cells, Sz.val, Int.cast_ofNat_Int, *]) (by simp (disch := first | omega | (simp only [lenB]; omega)) only [evB, Sz.cells, Sz.val, Int.cast_ofNat_Int, *]; rfl) (by simp (disch := first | omega | (simp only [lenB]; omega)) only [evB, Sz.cells, Sz.val, Int.cast_ofNat_Int, *]; rfl) (by simp (disch := first | omega | (simp only [lenB]; omega)) only [evB, Sz.cells, Sz.val, Int.cast_ofNat_Int, *]; rfl) ?_; (try simp only [ctlB])))
    have hwv := (hw'.mono (hx2.trans (Ext.app H2 [some s.cells]))).x
    refine aw_hv_if (t := true) (by simp (disch := first | omega | (simp only [lenB]; omega)) only [evB, Sz.cells, Sz.val, Int.cast_ofNat_Int, *]; rfl) (by simp (disch := first | omega | (simp only [lenB]; omega)) only [evB, Sz.cells, Sz.val, Int.cast_ofNat_Int, *]) (by simp (disch := first | omega | (simp only [lenB]; omega)) only [evB, Sz.cells, Sz.val, Int.cast_ofNat_Int, *]; try rfl) (fun _ => ⟨_, by simp (disch := first | omega | (simp only [lenB]; omega)) only [evB, Sz.cells, Sz.val, Int.cast_ofNat_Int, *]; rfl, ?_⟩) (fun h => by cases h)
    refine wpH_call0 (same17 (a := xs) (b := xs) (by omega) (by omega) (k6.mono (Ext.app _ _)) hwv) ?_
    rintro v3 H3 ⟨rfl, rfl⟩
    rw [show decide (xs = xs) = true by simp]
    have hse := sz_eq (a := s) (b := s)
    simp only [Sz.cells, decide_true] at hse
    (try simp only [ctlB])
    refine aw_hv_if (t := true) (by simp (disch := first | omega | (simp only [lenB]; omega)) only [evB, Sz.cells, Sz.val, Int.cast_ofNat_Int, *]; rfl) (by simp (disch := first | omega | (simp only [lenB]; omega)) only [evB, Sz.cells, Sz.val, Int.cast_ofNat_Int, *]) (by simp (disch := first | omega | (simp only [lenB]; omega)) only [evB, Sz.cells, Sz.val, Int.cast_ofNat_Int, *]; try rfl) (fun _ => ⟨_, by simp (disch := first | omega | (simp only [lenB]; omega)) only [evB, Sz.cells, Sz.val, Int.cast_ofNat_Int, *]; rfl, ?_⟩) (fun h => by cases h)
    refine wpH_call0 (examples14 (by simp; omega)) ?_
    rintro v H5 ⟨hx5, rfl⟩
    (try simp only [ctlB])
    repeat' (first | (refine aw_sets (by simp (disch := first | omega | (simp only [lenB]; omega)) only [evB, Sz.cells, Sz.val, Int.cast_ofNat_Int, *]; rfl) (by simp (disch := first | omega | (simp only [lenB]; omega)) only [evB, Sz.cells, Sz.val, Int.cast_ofNat_Int, *]) (by simp (disch := first | omega | (simp only [lenB]; omega)) only [evB, Sz.cells, Sz.val, Int.cast_ofNat_Int, *]; rfl) ?_; (try simp only [ctlB])) | (refine aw_op rfl (by simp (disch := first | omega | (simp only [lenB]; omega)) only [evB, Sz.cells, Sz.val, Int.cast_ofNat_Int, *]; rfl) (by simp (disch := first | omega | (simp only [lenB]; omega)) only [evB, Sz.cells, Sz.val, Int.cast_ofNat_Int, *]) (by simp (disch := first | omega | (simp only [lenB]; omega)) only [evB, Sz.cells, Sz.val, Int.cast_ofNat_Int, *]; rfl) (by simp (disch := first | omega | (simp only [lenB]; omega)) only [evB, Sz.cells, Sz.val, Int.cast_ofNat_Int, *]; rfl) (by simp (disch := first | omega | (simp only [lenB]; omega)) only [evB, Sz.cells, Sz.val, Int.cast_ofNat_Int, *]; rfl) ?_; (try simp only [ctlB])))
    refine body_ret (by simp only [cf9]; simp (disch := first | omega | (simp only [lenB]; omega)) only [evB, Sz.cells, Sz.val, Int.cast_ofNat_Int, *]; rfl) ?_
    rfl
  · have hbad : ∃ e : Int, ¬ e = 0 ∧ v1 = .tuple #[.agg #[.int .i64 0, .int .i64 0, .slice none 0 0], .int .i64 e] := by
      rcases hc1 with ⟨h1, rfl⟩ | ⟨h1, h2, rfl⟩ | ⟨h1, h2, h3, rfl⟩ | ⟨h1, h2, h3, gf, q, hso, hq, rfl, hgq⟩
      · exact ⟨_, by decide, rfl⟩
      · exact ⟨_, by decide, rfl⟩
      · exact ⟨_, by decide, rfl⟩
      · exact absurd ⟨h1, h2, h3⟩ hok4
    obtain ⟨e, he, rfl⟩ := hbad
    clear hc1 hok4
    (try simp only [ctlB])
    repeat' (first | (refine aw_sets (by simp (disch := first | omega | (simp only [lenB]; omega)) only [evB, Sz.cells, Sz.val, Int.cast_ofNat_Int, *]; rfl) (by simp (disch := first | omega | (simp only [lenB]; omega)) only [evB, Sz.cells, Sz.val, Int.cast_ofNat_Int, *]) (by simp (disch := first | omega | (simp only [lenB]; omega)) only [evB, Sz.cells, Sz.val, Int.cast_ofNat_Int, *]; rfl) ?_; (try simp only [ctlB])) | (refine aw_op rfl (by simp (disch := first | omega | (simp only [lenB]; omega)) only [evB, Sz.cells, Sz.val, Int.cast_ofNat_Int, *]; rfl) (by simp (disch := first | omega | (simp only [lenB]; omega)) only [evB, Sz.cells, Sz.val, Int.cast_ofNat_Int, *]) (by simp (disch := first | omega | (simp only [lenB]; omega)) only [evB, Sz.cells, Sz.val, Int.cast_ofNat_Int, *]; rfl) (by simp (disch := first | omega | (simp only [lenB]; omega)) only [evB, Sz.cells, Sz.val, Int.cast_ofNat_Int, *]; rfl) (by simp (disch := first | omega | (simp only [lenB]; omega)) only [evB, Sz.cells, Sz.val, Int.cast_ofNat_Int, *]; rfl) ?_; (try simp only [ctlB])))
    refine aw_cond (by simp (disch := first | omega | (simp only [lenB]; omega)) only [evB, Sz.cells, Sz.val, Int.cast_ofNat_Int, *]; rfl) (fun h => ?_) (fun h => ?_)
    · clear h
      (try simp only [ctlB])
      refine aw_hv_if (t := true) (by simp (disch := first | omega | (simp only [lenB]; omega)) only [evB, Sz.cells, Sz.val, Int.cast_ofNat_Int, *]; rfl) (by simp (disch := first | omega | (simp only [lenB]; omega)) only [evB, Sz.cells, Sz.val, Int.cast_ofNat_Int, *]) (by simp (disch := first | omega | (simp only [lenB]; omega)) only [evB, Sz.cells, Sz.val, Int.cast_ofNat_Int, *]; try rfl) (fun _ => ⟨_, by simp (disch := first | omega | (simp only [lenB]; omega)) only [evB, Sz.cells, Sz.val, Int.cast_ofNat_Int, *]; rfl, ?_⟩) (fun h => by cases h)
      refine wpH_call0 (examples14 (by simp; omega)) ?_
      rintro v H5 ⟨hx5, rfl⟩
      (try simp only [ctlB])
      repeat' (first | (refine aw_sets (by simp (disch := first | omega | (simp only [lenB]; omega)) only [evB, Sz.cells, Sz.val, Int.cast_ofNat_Int, *]; rfl) (by simp (disch := first | omega | (simp only [lenB]; omega)) only [evB, Sz.cells, Sz.val, Int.cast_ofNat_Int, *]) (by simp (disch := first | omega | (simp only [lenB]; omega)) only [evB, Sz.cells, Sz.val, Int.cast_ofNat_Int, *]; rfl) ?_; (try simp only [ctlB])) | (refine aw_op rfl (by simp (disch := first | omega | (simp only [lenB]; omega)) only [evB, Sz.cells, Sz.val, Int.cast_ofNat_Int, *]; rfl) (by simp (disch := first | omega | (simp only [lenB]; omega)) only [evB, Sz.cells, Sz.val, Int.cast_ofNat_Int, *]) (by simp (disch := first | omega | (simp only [lenB]; omega)) only [evB, Sz.cells, Sz.val, Int.cast_ofNat_Int, *]; rfl) (by simp (disch := first | omega | (simp only [lenB]; omega)) only [evB, Sz.cells, Sz.val, Int.cast_ofNat_Int, *]; rfl) (by simp (disch := first | omega | (simp only [lenB]; omega)) only [evB, Sz.cells, Sz.val, Int.cast_ofNat_Int, *]; rfl) ?_; (try simp only [ctlB])))
      refine body_ret (by simp only [cf9]; simp (disch := first | omega | (simp only [lenB]; omega)) only [evB, Sz.cells, Sz.val, Int.cast_ofNat_Int, *]; rfl) ?_
      rfl
    · exact absurd h (by simp [he])
namespace dmlayoutRoundTrip
open Go.ChangeShapes Go.WideShapes Go.ChangeAt Go.RowKit
theorem fnE (X : Type) (ds : List (DataW X)) (h : ds.length = 2) : Rows.dmlayoutRoundTripSpec.fn X ds = ⟨[.lit (.bool true)], ds, []⟩ := by
  match ds, h with
  | [d1, d2], _ => rfl
theorem lawAll (H : Heap) (vs : List Value) (h : HasArgs maxLen H [.sl (.int .i64), .rcd [.int .i64, .int .i64, .int .i64, .int .i64, .int .i64, .int .i64, .int .i64]] vs) : Ev cp H.length 9 vs H (fun v _ => v = .bool true) := by
  simp only [HasArgs] at h
  obtain ⟨a, r, rfl, h1, b, r2, rfl, h2, rfl⟩ := h
  obtain ⟨l, h3, h4, _, h5⟩ := has_slI h1
  obtain ⟨s, rfl⟩ := size_of h2
  exact law9 a l s H (words_of h5)
set_option maxRecDepth 100000 in
theorem lifted (os : Os) (started : os.Started) (H : Type) (enc : TypeId × Value → H) :
    ReturnsInHanded {} Try.checked os 9 .any (Rows.dmlayoutRoundTripSpec.pre6 enc Try.prog Try.f9 Rows.dmlayoutRoundTripRow.domain false) (Rows.dmlayoutRoundTripSpec.post enc Try.prog Try.f9 false true false false) := by
  refine returnsInHanded_of_change (C := Try.checked) own started (by kernel_rfl) Try.func9
    (ChangeSpec.witness6 (enc := enc) (C := Try.checked) false ⟨#[], #[.slice none 0 0, .agg #[.int .i64 0, .int .i64 0, .int .i64 0, .int .i64 0, .int .i64 0, .int .i64 0, .int .i64 0]], []⟩ 8 (by kernel_rfl) (by kernel_rfl) (by kernel_rfl) (by kernel_rfl)) ?_
  intro W base args ds gs before hval hW _ _
  exact law_contract (P := Try.prog) (fn := Try.f9) (s := Rows.dmlayoutRoundTripSpec) okAll (d := 8) (tys := [.sl (.int .i64), .rcd [.int .i64, .int .i64, .int .i64, .int .i64, .int .i64, .int .i64, .int .i64]]) (by kernel_rfl) (by kernel_rfl) (by kernel_rfl) Try.underlying4 laidOut (by kernel_rfl) rfl fnE lawAll W (by rw [noGlobals]; omega) base args ds gs before hval hW (fun x _ => .inl (Nat.le_refl _))
theorem over : Rows.dmlayoutRoundTripRow.holds Try.pinned (OpenSpec.ofChange Rows.dmlayoutRoundTripSpec) :=
  OpenClaim.holds_of_wide 9 Try.f9 rfl rfl rfl rfl rfl rfl rfl ⟨rfl, rfl, rfl, rfl, rfl⟩ rfl rfl rfl rfl rfl (by kernel_rfl) Try.func9 (by kernel_rfl)
    (of_decide_eq_true (by kernel_rfl)) (by unfold Func.isWrapper; first | (rw [if_pos (by decide +kernel)]; kernel_rfl) | (rw [if_neg (by decide +kernel)]; exact ⟨rfl, rfl⟩))
    (fun os started H enc _ => lifted os started H enc)
theorem proved : Rows.DmlayoutRoundTripSaid := over
#print axioms proved
end dmlayoutRoundTrip
end Go.Proofs.Ytobfjbominbkmaa
