/-
  What Extract returns, in plain words: bits of codewords, and where modules lie.
-/
import Derived.Test.YtobfjbominbkmaaWn
namespace Go.Proofs.Ytobfjbominbkmaa
open Go.Abs
set_option linter.unusedSimpArgs false
set_option linter.unusedVariables false
def WB (w : Nat) (f : Nat → Bool) (xs : List Int) : Prop := xs.length = w ∧ ∀ j, j < w → ∃ x : Nat, x < 256 ∧ xs.getD j 0 = x ∧ ∀ b, b < 8 → x.testBit (7 - b) = f (8 * j + b)
theorem WB.zero (w : Nat) : WB w (fun _ => false) (List.replicate w 0) := by
  refine ⟨by simp, fun j hj => ⟨0, by omega, ?_, fun b hb => by simp⟩⟩
  simp [List.getD_eq_getElem?_getD, hj]
theorem byte_eq {x y : Nat} (hx : x < 256) (hy : y < 256) (h : ∀ b, b < 8 → x.testBit (7 - b) = y.testBit (7 - b)) : x = y := by
  apply Nat.eq_of_testBit_eq
  intro i
  by_cases hi : i < 8
  · have := h (7 - i) (by omega)
    rwa [show 7 - (7 - i) = i by omega] at this
  · rw [Nat.testBit_lt_two_pow (Nat.lt_of_lt_of_le hx (show 2 ^ 8 ≤ 2 ^ i from Nat.pow_le_pow_right (by omega) (by omega))), Nat.testBit_lt_two_pow (Nat.lt_of_lt_of_le hy (show 2 ^ 8 ≤ 2 ^ i from Nat.pow_le_pow_right (by omega) (by omega)))]
theorem WB.uniq {w : Nat} {f : Nat → Bool} {xs ys : List Int} (h : WB w f xs) (k : WB w f ys) : xs = ys := by
  refine list_eq_of (h.1.trans k.1.symm) (fun i hi => ?_)
  obtain ⟨x, x1, x2, x3⟩ := h.2 i (by rw [← h.1]; exact hi)
  obtain ⟨y, y1, y2, y3⟩ := k.2 i (by rw [← h.1]; exact hi)
  rw [x2, y2, byte_eq x1 y1 (fun b hb => by rw [x3 b hb, y3 b hb])]
theorem WB.congr {w : Nat} {f g : Nat → Bool} {xs : List Int} (h : WB w f xs) (e : ∀ v, v < 8 * w → f v = g v) : WB w g xs :=
  ⟨h.1, fun j hj => by
    obtain ⟨x, x1, x2, x3⟩ := h.2 j hj
    exact ⟨x, x1, x2, fun b hb => by rw [x3 b hb, e _ (by omega)]⟩⟩
theorem WB.at {w : Nat} {f : Nat → Bool} {xs : List Int} (h : WB w f xs) {n : Nat} (hn : n < 8 * w) : ∃ x : Nat, x < 256 ∧ xs.getD (n / 8) 0 = x ∧ x.testBit (7 - n % 8) = f n := by
  obtain ⟨x, x1, x2, x3⟩ := h.2 (n / 8) (by omega)
  refine ⟨x, x1, x2, ?_⟩
  rw [x3 _ (by omega), show 8 * (n / 8) + n % 8 = n by omega]
theorem WB.step {w : Nat} {f : Nat → Bool} {xs : List Int} (h : WB w f xs) {n : Nat} (hn : n < 8 * w) {y : Int} (hy : ∀ x : Nat, x < 256 → xs.getD (n / 8) 0 = x → x.testBit (7 - n % 8) = f n → y = (x ||| 2 ^ (7 - n % 8) : Nat)) :
    WB w (fun v => f v || decide (v = n)) (xs.set (n / 8) y) := by
  refine ⟨by simp [h.1], fun j hj => ?_⟩
  obtain ⟨x, x1, x2, x3⟩ := h.2 j hj
  by_cases e : n / 8 = j
  · subst e
    have hx := x3 (n % 8) (by omega)
    rw [show 8 * (n / 8) + n % 8 = n by omega] at hx
    refine ⟨x ||| 2 ^ (7 - n % 8), Nat.or_lt_two_pow (n := 8) x1 (Nat.pow_lt_pow_right (by omega) (by omega)), ?_, fun b hb => ?_⟩
    · have : n / 8 < xs.length := by rw [h.1]; exact hj
      rw [List.getD_eq_getElem?_getD, List.getElem?_set_self this]
      exact hy x x1 x2 hx
    · rw [Nat.testBit_or, x3 b hb, Nat.testBit_two_pow]
      congr 1
      rw [Bool.eq_iff_iff]
      simp only [decide_eq_true_eq]
      omega
  · refine ⟨x, x1, ?_, fun b hb => ?_⟩
    · rw [List.getD_eq_getElem?_getD, List.getElem?_set_ne e, ← List.getD_eq_getElem?_getD]; exact x2
    · rw [x3 b hb]
      have : decide (8 * j + b = n) = false := by simp; omega
      show _ = (f (8 * j + b) || decide (8 * j + b = n))
      rw [this, Bool.or_false]
def addTab : Bool := (List.range 256).all fun x => (List.range 8).all fun b => x.testBit (7 - b) || x ||| 2 ^ (7 - b) == x + 2 ^ (7 - b)
theorem addTab_ok : addTab = true := by kernel_rfl
theorem or_add {x b : Nat} (hx : x < 256) (hb : b < 8) (h : x.testBit (7 - b) = false) : x ||| 2 ^ (7 - b) = x + 2 ^ (7 - b) := by
  have := List.all_eq_true.1 (List.all_eq_true.1 addTab_ok x (by simpa using hx)) b (by simpa using hb)
  simpa [h] using this
/-- the code's own way to set a bit -/
theorem or_code {x : Nat} {n : Nat} (hx : x < 256) : IntKind.i64.wrap ((BitVec.ofInt IntKind.i64.bits (x : Int) ||| BitVec.ofInt IntKind.i64.bits (IntKind.i64.wrap (1 * 2 ^ (min (7 - (n : Int).tmod 8).toNat IntKind.i64.bits)))).toNat : Int) = (x ||| 2 ^ (7 - n % 8) : Nat) := by
  have e : (7 - (n : Int).tmod 8).toNat = 7 - n % 8 := by
    rw [Int.tmod_eq_emod_of_nonneg (by omega)]; omega
  have hb : 7 - n % 8 < 8 := by omega
  rw [e, show IntKind.i64.bits = 64 from rfl, Nat.min_eq_left (by omega)]
  have hp : (2 : Nat) ^ (7 - n % 8) < 2 ^ 8 := Nat.pow_lt_pow_right (by omega) (by omega)
  have hc : ((2 : Int) ^ (7 - n % 8)) = ((2 ^ (7 - n % 8) : Nat) : Int) := by simp
  rw [hc]
  generalize 2 ^ (7 - n % 8) = p at *
  rw [Int.one_mul, wrap_i64 (a := (p : Int)) (by omega) (by omega), BitVec.ofInt_natCast, BitVec.ofInt_natCast, BitVec.toNat_or, BitVec.toNat_ofNat, BitVec.toNat_ofNat, Nat.mod_eq_of_lt (by omega), Nat.mod_eq_of_lt (by omega)]
  have : x ||| p < 2 ^ 8 := Nat.or_lt_two_pow hx hp
  rw [wrap_i64 (by omega) (by omega)]
/-- and the reference's -/
theorem add_ref {x : Nat} {n : Nat} (hx : x < 256) (h : x.testBit (7 - n % 8) = false) : IntKind.i64.wrap ((x : Int) + IntKind.i64.wrap (1 * 2 ^ (min (7 - (n : Int).tmod 8).toNat IntKind.i64.bits))) = (x ||| 2 ^ (7 - n % 8) : Nat) := by
  have e : (7 - (n : Int).tmod 8).toNat = 7 - n % 8 := by
    rw [Int.tmod_eq_emod_of_nonneg (by omega)]; omega
  have hb : 7 - n % 8 < 8 := by omega
  rw [e, show IntKind.i64.bits = 64 from rfl, Nat.min_eq_left (by omega)]
  have hp : (2 : Nat) ^ (7 - n % 8) < 2 ^ 8 := Nat.pow_lt_pow_right (by omega) (by omega)
  have hc : ((2 : Int) ^ (7 - n % 8)) = ((2 ^ (7 - n % 8) : Nat) : Int) := by simp
  have ho := or_add hx (show n % 8 < 8 by omega) h
  rw [hc]
  generalize 2 ^ (7 - n % 8) = p at *
  rw [Int.one_mul, wrap_i64 (a := (p : Int)) (by omega) (by omega), wrap_i64 (by omega) (by omega), ho]
  simp

/- which bits the modules set -/
def exP (s : Sz) (o : List Int) (dk : List Bool) (k : Nat) : Option Nat :=
  if locB s ((k : Int).tdiv s.c) ((k : Int).tmod s.c) = true then none
  else if 0 ≤ o.getD (locI s ((k : Int).tdiv s.c) ((k : Int).tmod s.c)).toNat 0 ∧ dk.getD k false = true then some (o.getD (locI s ((k : Int).tdiv s.c) ((k : Int).tmod s.c)).toNat 0).toNat else none
def seen (P : Nat → Option Nat) (i v : Nat) : Bool := (List.range i).any fun k => decide (P k = some v)
theorem seen_succ {P : Nat → Option Nat} {i v : Nat} : seen P (i + 1) v = (seen P i v || decide (P i = some v)) := by
  simp [seen, List.range_succ]
theorem seen_true {P : Nat → Option Nat} {i v : Nat} : seen P i v = true ↔ ∃ k, k < i ∧ P k = some v := by
  simp [seen]
def badPat (s : Sz) (dk : List Bool) (i : Nat) : Bool := (List.range i).any fun k => locB s ((k : Int).tdiv s.c) ((k : Int).tmod s.c) && (dk.getD k false != locD s ((k : Int).tdiv s.c) ((k : Int).tmod s.c))
theorem badPat_succ {s : Sz} {dk : List Bool} {i : Nat} : badPat s dk (i + 1) = (badPat s dk i || (locB s ((i : Int).tdiv s.c) ((i : Int).tmod s.c) && (dk.getD i false != locD s ((i : Int).tdiv s.c) ((i : Int).tmod s.c)))) := by
  simp [badPat, List.range_succ]
theorem badPat_mono {s : Sz} {dk : List Bool} {i n : Nat} (h : badPat s dk i = true) (hi : i ≤ n) : badPat s dk n = true := by
  unfold badPat at h ⊢
  obtain ⟨k, h1, h2⟩ := List.any_eq_true.1 h
  exact List.any_eq_true.2 ⟨k, by simp at h1 ⊢; omega, h2⟩
/-- modules of different places have different indexes -/
theorem part_inj {h rr K x y : Int} (hh : h = rr + 2) (hrr : 0 < rr) (hx : 0 ≤ x) (hy : 0 ≤ y) (x0 : ¬ x.tmod h = 0) (x1 : ¬ x.tmod h = rr + 1) (y0 : ¬ y.tmod h = 0) (y1 : ¬ y.tmod h = rr + 1) (e : x.tdiv h * rr + x.tmod h = y.tdiv h * rr + y.tmod h) : x = y := by
  rw [Int.tdiv_eq_ediv_of_nonneg hx, Int.tmod_eq_emod_of_nonneg hx] at *
  rw [Int.tdiv_eq_ediv_of_nonneg hy, Int.tmod_eq_emod_of_nonneg hy] at *
  have ex := Int.mul_ediv_add_emod x h
  have ey := Int.mul_ediv_add_emod y h
  have a0 := Int.emod_nonneg x (show h ≠ 0 by omega)
  have a1 := Int.emod_lt_of_pos x (show 0 < h by omega)
  have b0 := Int.emod_nonneg y (show h ≠ 0 by omega)
  have b1 := Int.emod_lt_of_pos y (show 0 < h by omega)
  generalize x / h = p at *
  generalize y / h = q at *
  generalize x % h = a at *
  generalize y % h = b at *
  have key : ∀ p q : Int, p < q → p * rr + rr ≤ q * rr := by
    intro p q hpq
    have := Int.mul_le_mul_of_nonneg_right (show p + 1 ≤ q by omega) (show 0 ≤ rr by omega)
    rw [Int.add_mul] at this; omega
  have hpq : p = q := by
    rcases Int.lt_trichotomy p q with h1 | h1 | h1
    · have := key _ _ h1; omega
    · exact h1
    · have := key _ _ h1; omega
  subst hpq
  have : a = b := by omega
  subst this
  omega
theorem two_inj {C a b c d : Int} (hb0 : 0 ≤ b) (hb : b < C) (hd0 : 0 ≤ d) (hd : d < C) (e : a * C + b = c * C + d) : a = c ∧ b = d := by
  have key : ∀ p q : Int, p < q → p * C + C ≤ q * C := by
    intro p q hpq
    have := Int.mul_le_mul_of_nonneg_right (show p + 1 ≤ q by omega) (show 0 ≤ C by omega)
    rw [Int.add_mul] at this; omega
  have : a = c := by
    rcases Int.lt_trichotomy a c with h1 | h1 | h1
    · have := key _ _ h1; omega
    · exact h1
    · have := key _ _ h1; omega
  subst this
  exact ⟨rfl, by omega⟩
theorem locI_eq {s : Sz} {row col : Int} (hB : locB s row col = false) : locI s row col = (row.tdiv (s.rr + 2) * s.rr + lr s row - 1) * mapC s + (col.tdiv (s.rc + 2) * s.rc + lc s col - 1) := by
  unfold locI; rw [hB]; simp only [Bool.false_eq_true, if_false]; omega
theorem rowcol_bd {s : Sz} (hs : SzOK s) {i : Nat} (hi : (i : Int) < s.r * s.c) : 0 ≤ (i : Int).tdiv s.c ∧ (i : Int).tdiv s.c < s.r ∧ 0 ≤ (i : Int).tmod s.c ∧ (i : Int).tmod s.c < s.c := by
  obtain ⟨r0, r1, c0, c1, rr0, rr1, rc0, rc1, _⟩ := hs
  have tm := tmod_bd (a := i) (m := s.c) (by omega) (by omega)
  rw [Int.tdiv_eq_ediv_of_nonneg (by omega)]
  exact ⟨Int.ediv_nonneg (by omega) (by omega), Int.ediv_lt_of_lt_mul (by omega) hi, tm⟩
theorem col_bd {s : Sz} (hs : SzOK s) (hf : SzFit s) {row col : Int} (h0 : 0 ≤ col) (h1 : col < s.c) (hB : locB s row col = false) : 0 ≤ col.tdiv (s.rc + 2) * s.rc + lc s col - 1 ∧ col.tdiv (s.rc + 2) * s.rc + lc s col - 1 < mapC s := by
  have hmb := map_bd hs
  obtain ⟨r0, r1, c0, c1, rr0, rr1, rc0, rc1, _⟩ := hs
  simp only [locB, Bool.or_eq_false_iff, decide_eq_false_iff_not] at hB
  obtain ⟨⟨⟨b1, b2⟩, b3⟩, b4⟩ := hB
  exact idx_bd (R := s.c) (h := s.rc + 2) (rr := s.rc) (K := s.c.tdiv (s.rc + 2)) (x := col) hf.hc rfl (by omega) (by omega) (by omega) (by omega) b1 b4
theorem loc_inj {s : Sz} (hs : SzOK s) (hf : SzFit s) {i j : Nat} (hi : (i : Int) < s.r * s.c) (hj : (j : Int) < s.r * s.c) (bi : locB s ((i : Int).tdiv s.c) ((i : Int).tmod s.c) = false) (bj : locB s ((j : Int).tdiv s.c) ((j : Int).tmod s.c) = false)
    (e : locI s ((i : Int).tdiv s.c) ((i : Int).tmod s.c) = locI s ((j : Int).tdiv s.c) ((j : Int).tmod s.c)) : i = j := by
  have di := rowcol_bd hs hi
  have dj := rowcol_bd hs hj
  rw [locI_eq bi, locI_eq bj] at e
  have ci := col_bd hs hf di.2.2.1 di.2.2.2 bi
  have cj := col_bd hs hf dj.2.2.1 dj.2.2.2 bj
  obtain ⟨e1, e2⟩ := two_inj ci.1 ci.2 cj.1 cj.2 e
  obtain ⟨r0, r1, c0, c1, rr0, rr1, rc0, rc1, _⟩ := hs
  simp only [locB, Bool.or_eq_false_iff, decide_eq_false_iff_not] at bi bj
  obtain ⟨⟨⟨a1, a2⟩, a3⟩, a4⟩ := bi
  obtain ⟨⟨⟨b1, b2⟩, b3⟩, b4⟩ := bj
  have hrow := part_inj (K := 0) rfl (by omega) di.1 dj.1 a3 a2 b3 b2 (show ((i : Int).tdiv s.c).tdiv (s.rr + 2) * s.rr + lr s ((i : Int).tdiv s.c) = ((j : Int).tdiv s.c).tdiv (s.rr + 2) * s.rr + lr s ((j : Int).tdiv s.c) by omega)
  have hcol := part_inj (K := 0) rfl (by omega) di.2.2.1 dj.2.2.1 a1 a4 b1 b4 (show ((i : Int).tmod s.c).tdiv (s.rc + 2) * s.rc + lc s ((i : Int).tmod s.c) = ((j : Int).tmod s.c).tdiv (s.rc + 2) * s.rc + lc s ((j : Int).tmod s.c) by omega)
  rw [Int.tdiv_eq_ediv_of_nonneg (by omega), Int.tdiv_eq_ediv_of_nonneg (by omega)] at hrow
  rw [Int.tmod_eq_emod_of_nonneg (by omega), Int.tmod_eq_emod_of_nonneg (by omega)] at hcol
  have ei := Int.mul_ediv_add_emod i s.c
  have ej := Int.mul_ediv_add_emod j s.c
  rw [hrow, hcol] at ei
  omega
theorem exP_inj {s : Sz} {gf : G} (hs : s ∈ szs) (hso : SizeOrd s gf) {dk : List Bool} {i j v : Nat} (hi : (i : Int) < s.r * s.c) (hj : (j : Int) < s.r * s.c) (ei : exP s gf.cells dk i = some v) (ej : exP s gf.cells dk j = some v) : i = j := by
  unfold exP at ei ej
  split at ei
  · simp at ei
  · rename_i bi
    split at ej
    · simp at ej
    · rename_i bj
      simp only [Bool.not_eq_true] at bi bj
      split at ei <;> try (simp at ei; done)
      split at ej <;> try (simp at ej; done)
      rename_i ci cj
      have li := hso.loc i hi bi
      have lj := hso.loc j hj bj
      refine loc_inj (szs_ok s hs) (szs_fit s hs) hi hj bi bj ?_
      generalize locI s ((i : Int).tdiv s.c) ((i : Int).tmod s.c) = a at *
      generalize locI s ((j : Int).tdiv s.c) ((j : Int).tmod s.c) = b at *
      have hol := hso.od.len
      have ga : gf.cells.getD a.toNat 0 = gf.cells.getD a.toNat (-1) := by
        simp [List.getD_eq_getElem?_getD, List.getElem?_eq_getElem (show a.toNat < gf.cells.length by omega)]
      have gb : gf.cells.getD b.toNat 0 = gf.cells.getD b.toNat (-1) := by
        simp [List.getD_eq_getElem?_getD, List.getElem?_eq_getElem (show b.toNat < gf.cells.length by omega)]
      rw [ga] at ci ei
      rw [gb] at cj ej
      have := hso.od.inj a.toNat b.toNat (by omega) (by omega) ci.1 (by have := ci.1; have := cj.1; simp only [Option.some.injEq] at ei ej; omega)
      omega
end Go.Proofs.Ytobfjbominbkmaa
