/-
  Place of the reference: what it answers.
-/
import Derived.Test.YtobfjbominbkmaaWl
import Derived.Test.YtobfjbominbkmaaAbs9
namespace Go.Proofs.Ytobfjbominbkmaa
open Go.Abs
set_option linter.unusedSimpArgs false
set_option linter.unusedVariables false
def bordD (s : Sz) (row col : Int) : Bool := if (decide (lc s col = 0) || decide (lr s row = s.rr + 1)) = true then true else if lr s row = 0 then decide ((lc s col).tmod 2 = 0) else decide ((lr s row).tmod 2 = 1)
theorem bordD_eq {s : Sz} {row col : Int} (h : locB s row col = true) : bordD s row col = locD s row col := by
  unfold bordD locD
  split
  · rfl
  · rename_i h1
    split
    · rfl
    · rename_i h2
      have h3 : lc s col = s.rc + 1 := by
        simp only [locB, Bool.or_eq_true, decide_eq_true_eq] at h h1
        omega
      rw [if_pos h3]
theorem border33 {lo : Nat} {H : Heap} {s : Sz} {row col : Int} (hs : SzOK s) (h0 : 0 ≤ row) (h1 : row ≤ 200) (h2 : 0 ≤ col) (h3 : col ≤ 200) :
    Ev cp lo 33 [s.val, .int .i64 col, .int .i64 row] H (fun v H' => Ext H H' ∧ v = .tuple #[.bool (locB s row col), .bool (bordD s row col)]) := by
  obtain ⟨r0, r1, c0, c1, rr0, rr1, rc0, rc1, _⟩ := hs
  have m1 := tmod_bd (a := row) (m := s.rr + 2) (by omega) (by omega)
  have m2 := tmod_bd (a := col) (m := s.rc + 2) (by omega) (by omega)
  have er : row.tmod (s.rr + 2) = lr s row := rfl
  have ec : col.tmod (s.rc + 2) = lc s col := rfl
  rw [er] at m1
  rw [ec] at m2
  refine st33 ?_; unfold bd33; (try simp only [ctlB])
  repeat' (first | (refine aw_sets (by simp (disch := first | omega | (simp only [lenB]; omega)) only [evB, Sz.cells, Sz.val, *]; rfl) (by simp (disch := first | omega | (simp only [lenB]; omega)) only [evB, Sz.cells, Sz.val, *]) (by simp (disch := first | omega | (simp only [lenB]; omega)) only [evB, Sz.cells, Sz.val, *]; rfl) ?_; (try simp only [ctlB])) | (refine aw_op rfl (by simp (disch := first | omega | (simp only [lenB]; omega)) only [evB, Sz.cells, Sz.val, *]; rfl) (by simp (disch := first | omega | (simp only [lenB]; omega)) only [evB, Sz.cells, Sz.val, *]) (by simp (disch := first | omega | (simp only [lenB]; omega)) only [evB, Sz.cells, Sz.val, *]; rfl) (by simp (disch := first | omega | (simp only [lenB]; omega)) only [evB, Sz.cells, Sz.val, *]; rfl) (by simp (disch := first | omega | (simp only [lenB]; omega)) only [evB, Sz.cells, Sz.val, *]; rfl) ?_; (try simp only [ctlB])))
  refine aw_cond (by simp (disch := first | omega | (simp only [lenB]; omega)) only [evB, Sz.cells, Sz.val, *]; rfl) (fun h => ?_) (fun h => ?_)
  · have k1 := h
    clear h
    (try simp only [ctlB])
    repeat' (first | (refine aw_sets (by simp (disch := first | omega | (simp only [lenB]; omega)) only [evB, Sz.cells, Sz.val, *]; rfl) (by simp (disch := first | omega | (simp only [lenB]; omega)) only [evB, Sz.cells, Sz.val, *]) (by simp (disch := first | omega | (simp only [lenB]; omega)) only [evB, Sz.cells, Sz.val, *]; rfl) ?_; (try simp only [ctlB])) | (refine aw_op rfl (by simp (disch := first | omega | (simp only [lenB]; omega)) only [evB, Sz.cells, Sz.val, *]; rfl) (by simp (disch := first | omega | (simp only [lenB]; omega)) only [evB, Sz.cells, Sz.val, *]) (by simp (disch := first | omega | (simp only [lenB]; omega)) only [evB, Sz.cells, Sz.val, *]; rfl) (by simp (disch := first | omega | (simp only [lenB]; omega)) only [evB, Sz.cells, Sz.val, *]; rfl) (by simp (disch := first | omega | (simp only [lenB]; omega)) only [evB, Sz.cells, Sz.val, *]; rfl) ?_; (try simp only [ctlB])))
    refine body_ret (by simp only [cf33]; simp (disch := first | omega | (simp only [lenB]; omega)) only [evB, Sz.cells, Sz.val, *]; rfl) ?_
    refine ⟨Ext.app _ _, ?_⟩
    simp [resultOf, locB, bordD, k1]
  have k1 := h
  clear h
  (try simp only [ctlB])
  refine aw_cond (by simp (disch := first | omega | (simp only [lenB]; omega)) only [evB, Sz.cells, Sz.val, *]; rfl) (fun h => ?_) (fun h => ?_)
  · have k2 : lr s row = 0 := by simpa using h
    clear h
    (try simp only [ctlB])
    repeat' (first | (refine aw_sets (by simp (disch := first | omega | (simp only [lenB]; omega)) only [evB, Sz.cells, Sz.val, *]; rfl) (by simp (disch := first | omega | (simp only [lenB]; omega)) only [evB, Sz.cells, Sz.val, *]) (by simp (disch := first | omega | (simp only [lenB]; omega)) only [evB, Sz.cells, Sz.val, *]; rfl) ?_; (try simp only [ctlB])) | (refine aw_op rfl (by simp (disch := first | omega | (simp only [lenB]; omega)) only [evB, Sz.cells, Sz.val, *]; rfl) (by simp (disch := first | omega | (simp only [lenB]; omega)) only [evB, Sz.cells, Sz.val, *]) (by simp (disch := first | omega | (simp only [lenB]; omega)) only [evB, Sz.cells, Sz.val, *]; rfl) (by simp (disch := first | omega | (simp only [lenB]; omega)) only [evB, Sz.cells, Sz.val, *]; rfl) (by simp (disch := first | omega | (simp only [lenB]; omega)) only [evB, Sz.cells, Sz.val, *]; rfl) ?_; (try simp only [ctlB])))
    refine body_ret (by simp only [cf33]; simp (disch := first | omega | (simp only [lenB]; omega)) only [evB, Sz.cells, Sz.val, *]; rfl) ?_
    refine ⟨Ext.app _ _, ?_⟩
    simp only [k2] at k1
    simp [resultOf, locB, bordD, k1, k2]
  have k2 : ¬ lr s row = 0 := by simpa using h
  clear h
  (try simp only [ctlB])
  repeat' (first | (refine aw_sets (by simp (disch := first | omega | (simp only [lenB]; omega)) only [evB, Sz.cells, Sz.val, *]; rfl) (by simp (disch := first | omega | (simp only [lenB]; omega)) only [evB, Sz.cells, Sz.val, *]) (by simp (disch := first | omega | (simp only [lenB]; omega)) only [evB, Sz.cells, Sz.val, *]; rfl) ?_; (try simp only [ctlB])) | (refine aw_op rfl (by simp (disch := first | omega | (simp only [lenB]; omega)) only [evB, Sz.cells, Sz.val, *]; rfl) (by simp (disch := first | omega | (simp only [lenB]; omega)) only [evB, Sz.cells, Sz.val, *]) (by simp (disch := first | omega | (simp only [lenB]; omega)) only [evB, Sz.cells, Sz.val, *]; rfl) (by simp (disch := first | omega | (simp only [lenB]; omega)) only [evB, Sz.cells, Sz.val, *]; rfl) (by simp (disch := first | omega | (simp only [lenB]; omega)) only [evB, Sz.cells, Sz.val, *]; rfl) ?_; (try simp only [ctlB])))
  refine body_ret (by simp only [cf33]; simp (disch := first | omega | (simp only [lenB]; omega)) only [evB, Sz.cells, Sz.val, *]; rfl) ?_
  refine ⟨Ext.app _ _, ?_⟩
  simp [resultOf, locB, bordD, k1, k2]
theorem cell34 {lo : Nat} {H : Heap} {s : Sz} {row col : Int} (hs : SzOK s) (hlo : lo ≤ H.length) (h0 : 0 ≤ row) (h1 : row ≤ 200) (h2 : 0 ≤ col) (h3 : col ≤ 200) (hB : locB s row col = false) :
    Ev cp lo 34 [s.val, .int .i64 col, .int .i64 row] H (fun v H' => Ext H H' ∧ v = .int .i64 (locI s row col)) := by
  have hb := map_bd hs
  have hs' := hs
  obtain ⟨r0, r1, c0, c1, rr0, rr1, rc0, rc1, _⟩ := hs'
  have m1 := tmod_bd (a := row) (m := s.rr + 2) (by omega) (by omega)
  have m2 := tmod_bd (a := col) (m := s.rc + 2) (by omega) (by omega)
  have er : row.tmod (s.rr + 2) = lr s row := rfl
  have ec : col.tmod (s.rc + 2) = lc s col := rfl
  have hI : locI s row col = (row.tdiv (s.rr + 2) * s.rr + lr s row - 1) * mapC s + (col.tdiv (s.rc + 2) * s.rc + lc s col - 1) := by
    unfold locI; rw [hB]; simp only [Bool.false_eq_true, if_false]; omega
  rw [er] at m1
  rw [ec] at m2
  refine st34 ?_; unfold bd34; (try simp only [ctlB])
  repeat' (first | (refine aw_sets (by simp (disch := first | omega | (simp only [lenB]; omega)) only [evB, Sz.cells, Sz.val, *]; rfl) (by simp (disch := first | omega | (simp only [lenB]; omega)) only [evB, Sz.cells, Sz.val, *]) (by simp (disch := first | omega | (simp only [lenB]; omega)) only [evB, Sz.cells, Sz.val, *]; rfl) ?_; (try simp only [ctlB])) | (refine aw_op rfl (by simp (disch := first | omega | (simp only [lenB]; omega)) only [evB, Sz.cells, Sz.val, *]; rfl) (by simp (disch := first | omega | (simp only [lenB]; omega)) only [evB, Sz.cells, Sz.val, *]) (by simp (disch := first | omega | (simp only [lenB]; omega)) only [evB, Sz.cells, Sz.val, *]; rfl) (by simp (disch := first | omega | (simp only [lenB]; omega)) only [evB, Sz.cells, Sz.val, *]; rfl) (by simp (disch := first | omega | (simp only [lenB]; omega)) only [evB, Sz.cells, Sz.val, *]; rfl) ?_; (try simp only [ctlB])))
  refine aw_hv (by simp (disch := first | omega | (simp only [lenB]; omega)) only [evB, Sz.cells, Sz.val, *]; rfl) (by simp (disch := first | omega | (simp only [lenB]; omega)) only [evB, Sz.cells, Sz.val, *]) (by simp (disch := first | omega | (simp only [lenB]; omega)) only [evB, Sz.cells, Sz.val, *]; rfl) ?_
  refine wpH_call0 (mapping27 (s := s) hs) ?_
  rintro v H3 ⟨hx3, rfl⟩
  have g0 : H3.get H.length = some _ := hx3.get (by simp (disch := first | omega | (simp only [lenB]; omega)) only [evB, Sz.cells, Sz.val, *]; rfl)
  have hl3 := Heap.get_lt g0
  have t1 := tdiv_bd (a := row) (b := s.rr + 2) (by omega) (by omega)
  have t2 := tdiv_bd (a := col) (b := s.rc + 2) (by omega) (by omega)
  have u1 := mul_bd (a := row.tdiv (s.rr + 2)) (b := s.rr) (A := 200) (B := 200) (by omega) (by omega) (by omega) (by omega) (by omega)
  have u2 := mul_bd (a := col.tdiv (s.rc + 2)) (b := s.rc) (A := 200) (B := 200) (by omega) (by omega) (by omega) (by omega) (by omega)
  have u3 := mul_bd (a := row.tdiv (s.rr + 2) * s.rr + lr s row - 1) (b := mapC s) (A := 50000) (B := 40000) (by omega) (by omega) (by omega) (by omega) (by omega)
  have hx0 := hx3.of_app
  (try simp only [ctlB])
  repeat' (first | (refine aw_sets (by simp (disch := first | omega | (simp only [lenB]; omega)) only [evB, Sz.cells, Sz.val, *]; rfl) (by simp (disch := first | omega | (simp only [lenB]; omega)) only [evB, Sz.cells, Sz.val, *]) (by simp (disch := first | omega | (simp only [lenB]; omega)) only [evB, Sz.cells, Sz.val, *]; rfl) ?_; (try simp only [ctlB])) | (refine aw_op rfl (by simp (disch := first | omega | (simp only [lenB]; omega)) only [evB, Sz.cells, Sz.val, *]; rfl) (by simp (disch := first | omega | (simp only [lenB]; omega)) only [evB, Sz.cells, Sz.val, *]) (by simp (disch := first | omega | (simp only [lenB]; omega)) only [evB, Sz.cells, Sz.val, *]; rfl) (by simp (disch := first | omega | (simp only [lenB]; omega)) only [evB, Sz.cells, Sz.val, *]; rfl) (by simp (disch := first | omega | (simp only [lenB]; omega)) only [evB, Sz.cells, Sz.val, *]; rfl) ?_; (try simp only [ctlB])))
  refine body_ret (by simp only [cf34]; simp (disch := first | omega | (simp only [lenB]; omega)) only [evB, Sz.cells, Sz.val, *]; rfl) ?_
  exact ⟨hx0, by rw [hI]; rfl⟩
/-- a bit of a codeword -/
theorem bit_mod {w n : Int} (h0 : 0 ≤ w) (h1 : w ≤ 255) (hn : 0 ≤ n) : bitE w n = decide ((w.fdiv (2 ^ (min (7 - n.tmod 8).toNat IntKind.i64.bits))).tmod 2 = 1) := by
  unfold bitE
  have hp : (0 : Int) < 2 ^ (min (7 - n.tmod 8).toNat IntKind.i64.bits) := Int.pow_pos (by omega)
  rw [Int.fdiv_eq_ediv_of_nonneg _ (by omega)]
  have h3 : 0 ≤ w / 2 ^ (min (7 - n.tmod 8).toNat IntKind.i64.bits) := Int.ediv_nonneg h0 (by omega)
  have h4 : w / 2 ^ (min (7 - n.tmod 8).toNat IntKind.i64.bits) ≤ w := Int.ediv_le_self _ h0
  generalize w / 2 ^ (min (7 - n.tmod 8).toNat IntKind.i64.bits) = x at *
  obtain ⟨k, rfl⟩ := Int.eq_ofNat_of_zero_le h3
  have hk : k ≤ 255 := by omega
  rw [Int.tmod_eq_emod_of_nonneg h3]
  have e : (BitVec.ofInt IntKind.i64.bits (k : Int) &&& BitVec.ofInt IntKind.i64.bits 1).toNat = k % 2 := by
    show (BitVec.ofInt 64 (k : Int) &&& BitVec.ofInt 64 1).toNat = k % 2
    rw [BitVec.toNat_and, BitVec.ofInt_natCast, show BitVec.ofInt 64 1 = BitVec.ofNat 64 1 by rfl, BitVec.toNat_ofNat, BitVec.toNat_ofNat, Nat.mod_eq_of_lt (show k < 2 ^ 64 by omega)]
    exact Nat.and_one_is_mod k
  rw [e, wrap_i64 (by omega) (by omega)]
  congr 1
theorem fix_at {R C i : Int} (hd : Dim R C) (h0 : 0 ≤ i) (h1 : i < R * C) : fixP R C i = (decide (i = R * C - 1) || decide (i = R * C - C - 2)) := by
  obtain ⟨r0, r1, c0, c1⟩ := hd
  unfold fixP
  rw [Int.tdiv_eq_ediv_of_nonneg h0, Int.tmod_eq_emod_of_nonneg h0]
  have e := Int.mul_ediv_add_emod i C
  have m0 := Int.emod_nonneg i (show C ≠ 0 by omega)
  have m1 := Int.emod_lt_of_pos i (show 0 < C by omega)
  have d0 : 0 ≤ i / C := Int.ediv_nonneg h0 (by omega)
  have d1 : i / C < R := Int.ediv_lt_of_lt_mul (by omega) h1
  generalize i / C = q at *
  generalize i % C = m at *
  have key : ∀ k, q = k → C * q = C * k := fun k h => by rw [h]
  have hlt : ∀ k, q < k → C * q + C ≤ C * k := by
    intro k hk
    have := Int.mul_le_mul_of_nonneg_left (show q + 1 ≤ k by omega) (show 0 ≤ C by omega)
    rw [Int.mul_add] at this; omega
  have s1 : C * (R - 1) = R * C - C := by rw [Int.mul_sub, Int.mul_comm C R]; omega
  have s2 : C * (R - 2) = R * C - C - C := by rw [Int.mul_sub, Int.mul_comm C R]; omega
  rw [Bool.eq_iff_iff]
  simp only [Bool.or_eq_true, Bool.and_eq_true, decide_eq_true_eq]
  constructor
  · rintro (⟨a, b⟩ | ⟨a, b⟩)
    · have := key _ a; omega
    · have := key _ a; omega
  · rintro (a | a)
    · by_cases h : q < R - 1
      · have := hlt _ h; omega
      · have hq : q = R - 1 := by omega
        have := key _ hq
        omega
    · by_cases h : q < R - 2
      · have := hlt _ h; omega
      · by_cases h' : q = R - 2
        · have := key _ h'; omega
        · have hq : q = R - 1 := by omega
          have := key _ hq
          omega
theorem same20 {lo : Nat} {H : Heap} {va vb : Value} {a b : List Bool} {w y w' y' : Int} (hsm : a.length ≤ 1000000000) (hb : b.length ≤ 9000000000000000000) (ha : SlB H va a) (hbb : SlB H vb b) :
    Ev cp lo 20 [.agg #[.int .i64 w, .int .i64 y, va], .agg #[.int .i64 w', .int .i64 y', vb]] H (fun v H' => Ext H H' ∧ v = .bool (decide (w = w') && decide (y = y') && decide (a = b))) := by
  have ha0 := ha
  have hb0 := hbb
  obtain ⟨ada, ca, rfl⟩ := ha.len
  obtain ⟨adb, cb, rfl⟩ := hbb.len
  refine st20 ?_; unfold bd20; (try simp only [ctlB])
  repeat' (first | (refine aw_sets (by simp (disch := first | omega | (simp only [lenB]; omega)) only [evB, Sz.cells, Sz.val, *]; rfl) (by simp (disch := first | omega | (simp only [lenB]; omega)) only [evB, Sz.cells, Sz.val, *]) (by simp (disch := first | omega | (simp only [lenB]; omega)) only [evB, Sz.cells, Sz.val, *]; rfl) ?_; (try simp only [ctlB])) | (refine aw_op rfl (by simp (disch := first | omega | (simp only [lenB]; omega)) only [evB, Sz.cells, Sz.val, *]; rfl) (by simp (disch := first | omega | (simp only [lenB]; omega)) only [evB, Sz.cells, Sz.val, *]) (by simp (disch := first | omega | (simp only [lenB]; omega)) only [evB, Sz.cells, Sz.val, *]; rfl) (by simp (disch := first | omega | (simp only [lenB]; omega)) only [evB, Sz.cells, Sz.val, *]; rfl) (by simp (disch := first | omega | (simp only [lenB]; omega)) only [evB, Sz.cells, Sz.val, *]; rfl) ?_; (try simp only [ctlB])))
  refine aw_cond (by simp (disch := first | omega | (simp only [lenB]; omega)) only [evB, Sz.cells, Sz.val, *]; rfl) (fun h => ?_) (fun h => ?_)
  · have hne : ¬ (w = w' ∧ y = y' ∧ a = b) := by
      rintro ⟨rfl, rfl, rfl⟩; simp at h
    clear h
    (try simp only [ctlB])
    repeat' (first | (refine aw_sets (by simp (disch := first | omega | (simp only [lenB]; omega)) only [evB, Sz.cells, Sz.val, *]; rfl) (by simp (disch := first | omega | (simp only [lenB]; omega)) only [evB, Sz.cells, Sz.val, *]) (by simp (disch := first | omega | (simp only [lenB]; omega)) only [evB, Sz.cells, Sz.val, *]; rfl) ?_; (try simp only [ctlB])) | (refine aw_op rfl (by simp (disch := first | omega | (simp only [lenB]; omega)) only [evB, Sz.cells, Sz.val, *]; rfl) (by simp (disch := first | omega | (simp only [lenB]; omega)) only [evB, Sz.cells, Sz.val, *]) (by simp (disch := first | omega | (simp only [lenB]; omega)) only [evB, Sz.cells, Sz.val, *]; rfl) (by simp (disch := first | omega | (simp only [lenB]; omega)) only [evB, Sz.cells, Sz.val, *]; rfl) (by simp (disch := first | omega | (simp only [lenB]; omega)) only [evB, Sz.cells, Sz.val, *]; rfl) ?_; (try simp only [ctlB])))
    refine body_ret (by simp only [cf20]; simp (disch := first | omega | (simp only [lenB]; omega)) only [evB, Sz.cells, Sz.val, *]; rfl) ?_
    refine ⟨Ext.app _ _, ?_⟩
    simp only [resultOf]
    congr 1
    symm
    rw [Bool.eq_false_iff]
    simpa [Bool.and_eq_true, and_assoc] using hne
  have hc := h
  clear h
  have hwh : w = w' ∧ y = y' ∧ a.length = b.length := by simp at hc; omega
  obtain ⟨rfl, rfl, hlen⟩ := hwh
  have hlen' : a.length ≤ b.length ∧ b.length ≤ a.length := by omega
  clear hc hlen
  (try simp only [ctlB])
  repeat' (first | (refine aw_sets (by simp (disch := first | omega | (simp only [lenB]; omega)) only [evB, Sz.cells, Sz.val, *]; rfl) (by simp (disch := first | omega | (simp only [lenB]; omega)) only [evB, Sz.cells, Sz.val, *]) (by simp (disch := first | omega | (simp only [lenB]; omega)) only [evB, Sz.cells, Sz.val, *]; rfl) ?_; (try simp only [ctlB])) | (refine aw_op rfl (by simp (disch := first | omega | (simp only [lenB]; omega)) only [evB, Sz.cells, Sz.val, *]; rfl) (by simp (disch := first | omega | (simp only [lenB]; omega)) only [evB, Sz.cells, Sz.val, *]) (by simp (disch := first | omega | (simp only [lenB]; omega)) only [evB, Sz.cells, Sz.val, *]; rfl) (by simp (disch := first | omega | (simp only [lenB]; omega)) only [evB, Sz.cells, Sz.val, *]; rfl) (by simp (disch := first | omega | (simp only [lenB]; omega)) only [evB, Sz.cells, Sz.val, *]; rfl) ?_; (try simp only [ctlB])))
  refine aw_midXB (fun S H' => H' = H ++ [some [.int .i64 w, .int .i64 y, .slice ada a.length ca], some [.int .i64 w, .int .i64 y, .slice adb b.length cb]] ∧ a = b ∧ ∃ z0 z1 i, S = [z0, z1, .pointer (some ⟨H.length, 0, none⟩), .pointer (some ⟨H.length + 1, 0, none⟩), .bool false, .int .i64 (i : Nat)]) ?_ ?_
  · refine aw_for (fun i S H' => H' = H ++ [some [.int .i64 w, .int .i64 y, .slice ada a.length ca], some [.int .i64 w, .int .i64 y, .slice adb b.length cb]] ∧ (∀ j, j < i → a.getD j false = b.getD j false) ∧ ∃ z0 z1, S = [z0, z1, .pointer (some ⟨H.length, 0, none⟩), .pointer (some ⟨H.length + 1, 0, none⟩), .bool false, .int .i64 (i : Nat)]) a.length ?_ ?_ ?_ ?_
    · exact ⟨rfl, by omega, _, _,  rfl⟩
    · rintro k S H' hk ⟨rfl, -, z0, z1,  rfl⟩
      exact ⟨_, by simp (disch := first | omega | (simp only [lenB]; omega)) only [evB, Sz.cells, Sz.val, *]; rfl, by simp⟩
    · rintro i S H' hi ⟨rfl, hall, z0, z1,  rfl⟩
      obtain ⟨xb, xo, xsp, xc, xs, e1, g1, f1, l1⟩ := ha0.els false (by omega)
      obtain ⟨yb, yo, ysp, yc, ys, e2, g2, f2, l2⟩ := hb0.els false (by omega)
      cases e1
      cases e2
      have k1 := f1 i hi
      have k2 := f2 i (by omega)
      have q1 := Heap.get_lt g1
      have q2 := Heap.get_lt g2
      clear f1 f2
      (try simp only [ctlB])
      refine aw_cond (by simp (disch := first | omega | (simp only [lenB]; omega)) only [evB, Sz.cells, Sz.val, *]; rfl) (fun h => ?_) (fun h => ?_)
      · have hne : ¬ a = b := by
          rintro rfl
          rw [beq_self_eq_true] at h
          simp at h
        clear h
        (try simp only [ctlB])
        repeat' (first | (refine aw_sets (by simp (disch := first | omega | (simp only [lenB]; omega)) only [evB, Sz.cells, Sz.val, *]; rfl) (by simp (disch := first | omega | (simp only [lenB]; omega)) only [evB, Sz.cells, Sz.val, *]) (by simp (disch := first | omega | (simp only [lenB]; omega)) only [evB, Sz.cells, Sz.val, *]; rfl) ?_; (try simp only [ctlB])) | (refine aw_op rfl (by simp (disch := first | omega | (simp only [lenB]; omega)) only [evB, Sz.cells, Sz.val, *]; rfl) (by simp (disch := first | omega | (simp only [lenB]; omega)) only [evB, Sz.cells, Sz.val, *]) (by simp (disch := first | omega | (simp only [lenB]; omega)) only [evB, Sz.cells, Sz.val, *]; rfl) (by simp (disch := first | omega | (simp only [lenB]; omega)) only [evB, Sz.cells, Sz.val, *]; rfl) (by simp (disch := first | omega | (simp only [lenB]; omega)) only [evB, Sz.cells, Sz.val, *]; rfl) ?_; (try simp only [ctlB])))
        refine body_ret (by simp only [cf20]; simp (disch := first | omega | (simp only [lenB]; omega)) only [evB, Sz.cells, Sz.val, *]; rfl) ?_
        exact ⟨Ext.app _ _, by simp [resultOf, hne]⟩
      · have he : a.getD i false = b.getD i false := by simpa using h
        clear h
        (try simp only [ctlB])
        repeat' (first | (refine aw_sets (by simp (disch := first | omega | (simp only [lenB]; omega)) only [evB, Sz.cells, Sz.val, *]; rfl) (by simp (disch := first | omega | (simp only [lenB]; omega)) only [evB, Sz.cells, Sz.val, *]) (by simp (disch := first | omega | (simp only [lenB]; omega)) only [evB, Sz.cells, Sz.val, *]; rfl) ?_; (try simp only [ctlB])) | (refine aw_op rfl (by simp (disch := first | omega | (simp only [lenB]; omega)) only [evB, Sz.cells, Sz.val, *]; rfl) (by simp (disch := first | omega | (simp only [lenB]; omega)) only [evB, Sz.cells, Sz.val, *]) (by simp (disch := first | omega | (simp only [lenB]; omega)) only [evB, Sz.cells, Sz.val, *]; rfl) (by simp (disch := first | omega | (simp only [lenB]; omega)) only [evB, Sz.cells, Sz.val, *]; rfl) (by simp (disch := first | omega | (simp only [lenB]; omega)) only [evB, Sz.cells, Sz.val, *]; rfl) ?_; (try simp only [ctlB])))
        refine ⟨by trivial, fun j hj => ?_, _, _,  by first | rfl | (simp only [Int.natCast_add, Int.natCast_one]; rfl) | simp only [Int.natCast_add, Int.natCast_one]⟩
        by_cases e : j = i
        · subst e; exact he
        · exact hall j (by omega)
    · rintro S H' ⟨rfl, hall, z0, z1,  rfl⟩
      refine ⟨rfl, ?_, _, _,  _, rfl⟩
      apply List.ext_getElem (by omega)
      intro i h1 h2
      have := hall i h1
      simpa [List.getD_eq_getElem?_getD, List.getElem?_eq_getElem h1, List.getElem?_eq_getElem h2] using this
  rintro S H' ⟨rfl, rfl, z0, z1,  i, rfl⟩
  (try simp only [ctlB])
  repeat' (first | (refine aw_sets (by simp (disch := first | omega | (simp only [lenB]; omega)) only [evB, Sz.cells, Sz.val, *]; rfl) (by simp (disch := first | omega | (simp only [lenB]; omega)) only [evB, Sz.cells, Sz.val, *]) (by simp (disch := first | omega | (simp only [lenB]; omega)) only [evB, Sz.cells, Sz.val, *]; rfl) ?_; (try simp only [ctlB])) | (refine aw_op rfl (by simp (disch := first | omega | (simp only [lenB]; omega)) only [evB, Sz.cells, Sz.val, *]; rfl) (by simp (disch := first | omega | (simp only [lenB]; omega)) only [evB, Sz.cells, Sz.val, *]) (by simp (disch := first | omega | (simp only [lenB]; omega)) only [evB, Sz.cells, Sz.val, *]; rfl) (by simp (disch := first | omega | (simp only [lenB]; omega)) only [evB, Sz.cells, Sz.val, *]; rfl) (by simp (disch := first | omega | (simp only [lenB]; omega)) only [evB, Sz.cells, Sz.val, *]; rfl) ?_; (try simp only [ctlB])))
  refine body_ret (by simp only [cf20]; simp (disch := first | omega | (simp only [lenB]; omega)) only [evB, Sz.cells, Sz.val, *]; rfl) ?_
  exact ⟨Ext.app _ _, by simp [resultOf]⟩
end Go.Proofs.Ytobfjbominbkmaa
