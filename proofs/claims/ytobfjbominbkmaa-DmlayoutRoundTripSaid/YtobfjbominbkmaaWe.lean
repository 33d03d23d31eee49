/-
  slices.Repeat, and the order that the code makes.
-/
import Derived.Test.YtobfjbominbkmaaWd
namespace Go.Proofs.Ytobfjbominbkmaa
open Go.Abs
set_option linter.unusedSimpArgs false
theorem and_mask {n : Int} (h0 : 0 ≤ n) (h1 : n < 4294967296) : ((BitVec.ofInt 64 n &&& BitVec.ofInt 64 4294967295).toNat : Int) = n := by
  obtain ⟨m, rfl⟩ : ∃ m : Nat, n = m := ⟨n.toNat, by omega⟩
  have e : (BitVec.ofInt 64 (m : Int)).toNat = m := by simp [BitVec.toNat_ofInt]; omega
  rw [BitVec.toNat_and, e]
  have e2 : (BitVec.ofInt 64 4294967295).toNat = 2 ^ 32 - 1 := by decide
  rw [e2, Nat.and_two_pow_sub_one_eq_mod]
  omega
theorem mul51 {lo : Nat} {H : Heap} {n : Int} (h0 : 0 ≤ n) (h1 : n < 4294967296) : Ev cp lo 51 [.int .u64 1, .int .u64 n] H (fun v H' => H' = H ∧ v = .tuple #[.int .u64 0, .int .u64 n]) := by
  have e1 : IntKind.u64.wrap ((BitVec.ofInt IntKind.u64.bits 1 &&& BitVec.ofInt IntKind.u64.bits 4294967295).toNat : Int) = 1 := by decide
  have e2 : IntKind.u64.wrap ((BitVec.ofInt IntKind.u64.bits n &&& BitVec.ofInt IntKind.u64.bits 4294967295).toNat : Int) = n := by
    rw [show IntKind.u64.bits = 64 from rfl, and_mask h0 h1]; exact wrap_u64 h0 (by omega)
  have e3 : IntKind.u64.wrap ((BitVec.ofInt IntKind.u64.bits 0 &&& BitVec.ofInt IntKind.u64.bits 4294967295).toNat : Int) = 0 := by decide
  have e4 : Int.fdiv 1 (2 ^ (min (Int.toNat 32) IntKind.u64.bits)) = 0 := by decide
  have e5 : Int.fdiv n (2 ^ (min (Int.toNat 32) IntKind.u64.bits)) = 0 := by
    rw [show (2 : Int) ^ (min (Int.toNat 32) IntKind.u64.bits) = 4294967296 by decide, Int.fdiv_eq_ediv_of_nonneg _ (by omega)]; omega
  have e6 : Int.fdiv 0 (2 ^ (min (Int.toNat 32) IntKind.u64.bits)) = 0 := by decide
  refine st51 ?_; unfold bd51; (try simp only [ctlB])
  repeat' (first | (refine aw_sets (by simp (disch := first | omega | (simp only [lenB]; omega)) only [evB, Sz.cells, Sz.val, *]; rfl) (by simp (disch := first | omega | (simp only [lenB]; omega)) only [evB, Sz.cells, Sz.val, *]) (by simp (disch := first | omega | (simp only [lenB]; omega)) only [evB, Sz.cells, Sz.val, *]; rfl) ?_; (try simp only [ctlB])) | (refine aw_op rfl (by simp (disch := first | omega | (simp only [lenB]; omega)) only [evB, Sz.cells, Sz.val, *]; rfl) (by simp (disch := first | omega | (simp only [lenB]; omega)) only [evB, Sz.cells, Sz.val, *]) (by simp (disch := first | omega | (simp only [lenB]; omega)) only [evB, Sz.cells, Sz.val, *]; rfl) (by simp (disch := first | omega | (simp only [lenB]; omega)) only [evB, Sz.cells, Sz.val, *]; rfl) (by simp (disch := first | omega | (simp only [lenB]; omega)) only [evB, Sz.cells, Sz.val, *]; rfl) ?_; (try simp only [ctlB])))
  have e7 : IntKind.u64.wrap 0 = 0 := by decide
  simp only [e1, e2, e3, e4, e5, e6, e7, Int.zero_mul, Int.one_mul, Int.mul_zero, Int.zero_add, Int.add_zero]
  refine body_ret (by simp only [cf51]; simp (disch := first | omega | (simp only [lenB]; omega)) only [evB, Sz.cells, Sz.val, *]; rfl) ?_
  exact ⟨rfl, rfl⟩
theorem mul47 {lo : Nat} {H : Heap} {n : Int} (h0 : 0 ≤ n) (h1 : n < 4294967296) : Ev cp lo 47 [.int .u64 1, .int .u64 n] H (fun v H' => H' = H ∧ v = .tuple #[.int .u64 0, .int .u64 n]) := by
  refine st47 ?_; unfold bd47; (try simp only [ctlB])
  repeat' (first | (refine aw_sets (by simp (disch := first | omega | (simp only [lenB]; omega)) only [evB, Sz.cells, Sz.val, *]; rfl) (by simp (disch := first | omega | (simp only [lenB]; omega)) only [evB, Sz.cells, Sz.val, *]) (by simp (disch := first | omega | (simp only [lenB]; omega)) only [evB, Sz.cells, Sz.val, *]; rfl) ?_; (try simp only [ctlB])) | (refine aw_op rfl (by simp (disch := first | omega | (simp only [lenB]; omega)) only [evB, Sz.cells, Sz.val, *]; rfl) (by simp (disch := first | omega | (simp only [lenB]; omega)) only [evB, Sz.cells, Sz.val, *]) (by simp (disch := first | omega | (simp only [lenB]; omega)) only [evB, Sz.cells, Sz.val, *]; rfl) (by simp (disch := first | omega | (simp only [lenB]; omega)) only [evB, Sz.cells, Sz.val, *]; rfl) (by simp (disch := first | omega | (simp only [lenB]; omega)) only [evB, Sz.cells, Sz.val, *]; rfl) ?_; (try simp only [ctlB])))
  refine aw_cond (by simp (disch := first | omega | (simp only [lenB]; omega)) only [evB, Sz.cells, Sz.val, *]; rfl) (fun h => ?_) (fun h => ?_)
  · cases h
  (try simp only [ctlB])
  refine aw_hv (by simp (disch := first | omega | (simp only [lenB]; omega)) only [evB, Sz.cells, Sz.val, *]; rfl) (by simp (disch := first | omega | (simp only [lenB]; omega)) only [evB, Sz.cells, Sz.val, *]) (by simp (disch := first | omega | (simp only [lenB]; omega)) only [evB, Sz.cells, Sz.val, *]; rfl) ?_
  refine wpH_call0 (mul51 h0 h1) ?_
  rintro v H1 ⟨rfl, rfl⟩
  (try simp only [ctlB])
  repeat' (first | (refine aw_sets (by simp (disch := first | omega | (simp only [lenB]; omega)) only [evB, Sz.cells, Sz.val, *]; rfl) (by simp (disch := first | omega | (simp only [lenB]; omega)) only [evB, Sz.cells, Sz.val, *]) (by simp (disch := first | omega | (simp only [lenB]; omega)) only [evB, Sz.cells, Sz.val, *]; rfl) ?_; (try simp only [ctlB])) | (refine aw_op rfl (by simp (disch := first | omega | (simp only [lenB]; omega)) only [evB, Sz.cells, Sz.val, *]; rfl) (by simp (disch := first | omega | (simp only [lenB]; omega)) only [evB, Sz.cells, Sz.val, *]) (by simp (disch := first | omega | (simp only [lenB]; omega)) only [evB, Sz.cells, Sz.val, *]; rfl) (by simp (disch := first | omega | (simp only [lenB]; omega)) only [evB, Sz.cells, Sz.val, *]; rfl) (by simp (disch := first | omega | (simp only [lenB]; omega)) only [evB, Sz.cells, Sz.val, *]; rfl) ?_; (try simp only [ctlB])))
  refine body_ret (by simp only [cf47]; simp (disch := first | omega | (simp only [lenB]; omega)) only [evB, Sz.cells, Sz.val, *]; rfl) ?_
  exact ⟨rfl, rfl⟩
theorem rep_app {n a b : Nat} {v w : Int} (h : a + b = n) : (List.replicate a v ++ List.replicate b w).length = n := by simp [h]
theorem repeat39 {lo : Nat} {H : Heap} {i : Nat} {n : Int} (h0 : 1 ≤ n) (h1 : n < 1000000) (hlo : lo ≤ H.length) (hg : H.get i = some [.int .i64 (-1)]) :
    Ev cp lo 39 [.slice (some ⟨i, 0, none⟩) 1 1, .int .i64 n] H (fun v H' => Ext H H' ∧ v = .slice (some ⟨H.length, 0, none⟩) n.toNat n.toNat ∧ H'.get H.length = some (intL (List.replicate n.toNat (-1)))) := by
  have hil := Heap.get_lt hg
  have hg' : H.get i = some (intL [-1]) := hg
  clear hg
  refine st39 ?_; unfold bd39; (try simp only [ctlB])
  repeat' (first | (refine aw_sets (by simp (disch := first | omega | (simp only [lenB]; omega)) only [evB, Sz.cells, Sz.val, *]; rfl) (by simp (disch := first | omega | (simp only [lenB]; omega)) only [evB, Sz.cells, Sz.val, *]) (by simp (disch := first | omega | (simp only [lenB]; omega)) only [evB, Sz.cells, Sz.val, *]; rfl) ?_; (try simp only [ctlB])) | (refine aw_op rfl (by simp (disch := first | omega | (simp only [lenB]; omega)) only [evB, Sz.cells, Sz.val, *]; rfl) (by simp (disch := first | omega | (simp only [lenB]; omega)) only [evB, Sz.cells, Sz.val, *]) (by simp (disch := first | omega | (simp only [lenB]; omega)) only [evB, Sz.cells, Sz.val, *]; rfl) (by simp (disch := first | omega | (simp only [lenB]; omega)) only [evB, Sz.cells, Sz.val, *]; rfl) (by simp (disch := first | omega | (simp only [lenB]; omega)) only [evB, Sz.cells, Sz.val, *]; rfl) ?_; (try simp only [ctlB])))
  refine aw_cond (by simp (disch := first | omega | (simp only [lenB]; omega)) only [evB, Sz.cells, Sz.val, *]; rfl) (fun h => ?_) (fun h => ?_)
  · simp at h; omega
  clear h
  (try simp only [ctlB])
  refine aw_hv (by simp (disch := first | omega | (simp only [lenB]; omega)) only [evB, Sz.cells, Sz.val, *]; rfl) (by simp (disch := first | omega | (simp only [lenB]; omega)) only [evB, Sz.cells, Sz.val, *]) (by simp (disch := first | omega | (simp only [lenB]; omega)) only [evB, Sz.cells, Sz.val, *]; rfl) ?_
  refine wpH_call0 (mul47 (n := n) (by omega) (by omega)) ?_
  rintro v H1 ⟨rfl, rfl⟩
  (try simp only [ctlB])
  repeat' (first | (refine aw_sets (by simp (disch := first | omega | (simp only [lenB]; omega)) only [evB, Sz.cells, Sz.val, *]; rfl) (by simp (disch := first | omega | (simp only [lenB]; omega)) only [evB, Sz.cells, Sz.val, *]) (by simp (disch := first | omega | (simp only [lenB]; omega)) only [evB, Sz.cells, Sz.val, *]; rfl) ?_; (try simp only [ctlB])) | (refine aw_op rfl (by simp (disch := first | omega | (simp only [lenB]; omega)) only [evB, Sz.cells, Sz.val, *]; rfl) (by simp (disch := first | omega | (simp only [lenB]; omega)) only [evB, Sz.cells, Sz.val, *]) (by simp (disch := first | omega | (simp only [lenB]; omega)) only [evB, Sz.cells, Sz.val, *]; rfl) (by simp (disch := first | omega | (simp only [lenB]; omega)) only [evB, Sz.cells, Sz.val, *]; rfl) (by simp (disch := first | omega | (simp only [lenB]; omega)) only [evB, Sz.cells, Sz.val, *]; rfl) ?_; (try simp only [ctlB])))
  refine aw_cond (by simp (disch := first | omega | (simp only [lenB]; omega)) only [evB, Sz.cells, Sz.val, *]; rfl) (fun h => ?_) (fun h => ?_)
  · simp at h; omega
  clear h
  (try simp only [ctlB])
  obtain ⟨N, rfl⟩ : ∃ N : Nat, n = N := ⟨n.toNat, by omega⟩
  have hN : 1 ≤ N := by omega
  have hm1 : min 1 N = 1 := by omega
  have hm2 : (intL (List.replicate N 0)).length = N := by simp [intL]
  have hm3 : (List.replicate N (0 : Int)).length = N := by simp
  repeat' (first | (refine aw_sets (by simp (disch := first | omega | (simp only [lenB]; omega)) only [evB, Sz.cells, Sz.val, *]; rfl) (by simp (disch := first | omega | (simp only [lenB]; omega)) only [evB, Sz.cells, Sz.val, *]) (by simp (disch := first | omega | (simp only [lenB]; omega)) only [evB, Sz.cells, Sz.val, *]; rfl) ?_; (try simp only [ctlB])) | (refine aw_op rfl (by simp (disch := first | omega | (simp only [lenB]; omega)) only [evB, Sz.cells, Sz.val, *]; rfl) (by simp (disch := first | omega | (simp only [lenB]; omega)) only [evB, Sz.cells, Sz.val, *]) (by simp (disch := first | omega | (simp only [lenB]; omega)) only [evB, Sz.cells, Sz.val, *]; rfl) (by simp (disch := first | omega | (simp only [lenB]; omega)) only [evB, Sz.cells, Sz.val, *]; rfl) (by simp (disch := first | omega | (simp only [lenB]; omega)) only [evB, Sz.cells, Sz.val, *]; rfl) ?_; (try simp only [ctlB])))
  refine aw_loop' (fun m S H' => ∃ (k : Nat) (a b x y : Value), 1 ≤ k ∧ k ≤ N ∧ m = N - k ∧ S = [.slice (some ⟨i, 0, none⟩) 1 1, .int .i64 N, .slice none 0 0, .int .u64 0, .int .u64 N, .slice (some ⟨H1.length, 0, none⟩) N N, .int .i64 k, a, b, .int .i64 1, x, y] ∧ H' = H1 ++ [some (intL (List.replicate k (-1) ++ List.replicate (N - k) 0))]) (N - 1) ?_ ?_
  · refine ⟨1, _, _, _, _, by omega, by omega, rfl, rfl, ?_⟩
    congr 2
    rw [intL_app]
    congr 1
    simp
  rintro m S H2 ⟨k, xa, xb, x, y, hk1, hk2, rfl, rfl, rfl⟩
  (try simp only [ctlB])
  refine aw_cond (by simp (disch := first | omega | (simp only [lenB]; omega)) only [evB, Sz.cells, Sz.val, *]; rfl) (fun h => ?_) (fun h => ?_)
  · have hk : k < N := by simp at h; omega
    clear h
    have hl : (List.replicate k (-1) ++ List.replicate (N - k) (0 : Int)).length = N := by simp; omega
    generalize hmn : min k (N - k) = w
    have hw : w ≤ k ∧ w ≤ N - k ∧ 1 ≤ w := by omega
    (try simp only [ctlB])
    repeat' (first | (refine aw_sets (by simp (disch := first | omega | (simp only [lenB]; omega)) only [evB, Sz.cells, Sz.val, *]; rfl) (by simp (disch := first | omega | (simp only [lenB]; omega)) only [evB, Sz.cells, Sz.val, *]) (by simp (disch := first | omega | (simp only [lenB]; omega)) only [evB, Sz.cells, Sz.val, *]; rfl) ?_; (try simp only [ctlB])) | (refine aw_op rfl (by simp (disch := first | omega | (simp only [lenB]; omega)) only [evB, Sz.cells, Sz.val, *]; rfl) (by simp (disch := first | omega | (simp only [lenB]; omega)) only [evB, Sz.cells, Sz.val, *]) (by simp (disch := first | omega | (simp only [lenB]; omega)) only [evB, Sz.cells, Sz.val, *]; rfl) (by simp (disch := first | omega | (simp only [lenB]; omega)) only [evB, Sz.cells, Sz.val, *]; rfl) (by simp (disch := first | omega | (simp only [lenB]; omega)) only [evB, Sz.cells, Sz.val, *]; rfl) ?_; (try simp only [ctlB])))
    simp only [loopQ_n]
    refine ⟨N - (k + w), by omega, k + w, _, _, _, _, by omega, by omega, rfl, by simp only [Int.natCast_add]; rfl, ?_⟩
    congr 4
    have e1 : List.take k (List.replicate k (-1) ++ List.replicate (N - k) (0 : Int)) = List.replicate k (-1) := by simp
    have e2 : List.take w (List.replicate k (-1) ++ List.replicate (N - k) (0 : Int)) = List.replicate w (-1) := by
      rw [List.take_append_of_le_length (by simp; omega), List.take_replicate, Nat.min_eq_left hw.1]
    have e3 : List.drop (k + min w N) (List.replicate k (-1) ++ List.replicate (N - k) (0 : Int)) = List.replicate (N - (k + w)) 0 := by
      rw [Nat.min_eq_left (by omega), List.drop_append, List.drop_of_length_le (by simp)]
      simp; omega
    rw [e1, e2, e3, ← List.append_assoc, List.replicate_append_replicate]
  · have hk : k = N := by simp at h; omega
    subst hk
    clear h
    (try simp only [ctlB])
    repeat' (first | (refine aw_sets (by simp (disch := first | omega | (simp only [lenB]; omega)) only [evB, Sz.cells, Sz.val, *]; rfl) (by simp (disch := first | omega | (simp only [lenB]; omega)) only [evB, Sz.cells, Sz.val, *]) (by simp (disch := first | omega | (simp only [lenB]; omega)) only [evB, Sz.cells, Sz.val, *]; rfl) ?_; (try simp only [ctlB])) | (refine aw_op rfl (by simp (disch := first | omega | (simp only [lenB]; omega)) only [evB, Sz.cells, Sz.val, *]; rfl) (by simp (disch := first | omega | (simp only [lenB]; omega)) only [evB, Sz.cells, Sz.val, *]) (by simp (disch := first | omega | (simp only [lenB]; omega)) only [evB, Sz.cells, Sz.val, *]; rfl) (by simp (disch := first | omega | (simp only [lenB]; omega)) only [evB, Sz.cells, Sz.val, *]; rfl) (by simp (disch := first | omega | (simp only [lenB]; omega)) only [evB, Sz.cells, Sz.val, *]; rfl) ?_; (try simp only [ctlB])))
    refine body_ret (by simp only [cf39]; simp (disch := first | omega | (simp only [lenB]; omega)) only [evB, Sz.cells, Sz.val, *]; rfl) ?_
    refine ⟨Ext.app _ _, rfl, ?_⟩
    simp (disch := first | omega | (simp only [lenB]; omega)) only [evB, Sz.cells, Sz.val, *]
    simp

/-- the length of the cells stays -/
theorem each_len {R C : Int} {g g' : G} {l : List (Int × Int)} (h : eachG (listOps R C) g l = some g') : g'.cells.length = g.cells.length := by
  unfold eachG at h
  split at h
  · rename_i g1 h1; cases h; exact (go_next h1).1
  · simp at h
theorem pif_len {R C : Int} {g g' : G} {r c : Int} (h : pifG (listOps R C) g r c = some g') : g'.cells.length = g.cells.length := by
  unfold pifG at h
  split at h
  · exact each_len h
  · cases h; rfl
theorem eif_len {R C : Int} {b : Bool} {g g' : G} {l : List (Int × Int)} (h : eachIf (listOps R C) b g l = some g') : g'.cells.length = g.cells.length := by
  unfold eachIf at h
  split at h
  · exact each_len h
  · cases h; rfl
theorem corners_len {R C : Int} {g g' : G} {r c : Int} (h : cornersG (listOps R C) R C g r c = some g') : g'.cells.length = g.cells.length := by
  unfold cornersG at h
  split at h
  · simp at h
  rename_i ga ha
  split at h
  · simp at h
  rename_i gb hb
  split at h
  · simp at h
  rename_i gc hc
  rw [eif_len h, eif_len hc, eif_len hb, eif_len ha]
theorem up_len {R C : Int} : ∀ {k : Nat} {g g' : G} {r c r' c' : Int}, upG (listOps R C) C k g r c = some (g', r', c') → g'.cells.length = g.cells.length ∧ -4002 ≤ r' ∧ r' ≤ 4002 ∧ -4002 ≤ c' ∧ c' ≤ 4002
  | 0, _, _, _, _, _, _, h => by simp [upG] at h
  | k + 1, g, g', r, c, r', c', h => by
    simp only [upG, fI_eq] at h
    split at h
    · rename_i hb
      have hb := inB_some hb
      split at h
      · simp at h
      rename_i g1 h1
      split at h
      · have := up_len h; rw [pif_len h1] at this; exact this
      · cases h; exact ⟨pif_len h1, by omega, by omega, by omega, by omega⟩
    · simp at h
theorem down_len {R C : Int} : ∀ {k : Nat} {g g' : G} {r c r' c' : Int}, downG (listOps R C) R k g r c = some (g', r', c') → g'.cells.length = g.cells.length ∧ -4002 ≤ r' ∧ r' ≤ 4002 ∧ -4002 ≤ c' ∧ c' ≤ 4002
  | 0, _, _, _, _, _, _, h => by simp [downG] at h
  | k + 1, g, g', r, c, r', c', h => by
    simp only [downG, fI_eq] at h
    split at h
    · rename_i hb
      have hb := inB_some hb
      split at h
      · simp at h
      rename_i g1 h1
      split at h
      · have := down_len h; rw [pif_len h1] at this; exact this
      · cases h; exact ⟨pif_len h1, by omega, by omega, by omega, by omega⟩
    · simp at h

set_option maxHeartbeats 4000000 in
theorem order26 {lo : Nat} {H : Heap} {R C : Int} {gf : G} (hd : Dim R C) (hlo : lo ≤ H.length) (h : ordP R C = some gf) :
    Ev cp lo 26 [.int .i64 R, .int .i64 C] H (fun v H' => Ext H H' ∧ ∃ q, H.length ≤ q ∧ v = .slice (some ⟨q, 0, none⟩) gf.cells.length gf.cells.length ∧ H'.get q = some (intL gf.cells)) := by
  have hd' := hd
  obtain ⟨r0, r1, c0, c1⟩ := hd'
  have hm := mul_bd (a := R) (b := C) (A := 200) (B := 200) (by omega) (by omega) (by omega) c1 (by omega)
  have hm1 : 6 * C ≤ R * C := Int.mul_le_mul_of_nonneg_right r0 (by omega)
  refine st26 ?_; unfold bd26; (try simp only [ctlB])
  repeat' (first | (refine aw_sets (by simp (disch := first | omega | (simp only [lenB]; omega)) only [evB, Sz.cells, Sz.val, *]; rfl) (by simp (disch := first | omega | (simp only [lenB]; omega)) only [evB, Sz.cells, Sz.val, *]) (by simp (disch := first | omega | (simp only [lenB]; omega)) only [evB, Sz.cells, Sz.val, *]; rfl) ?_; (try simp only [ctlB])) | (refine aw_op rfl (by simp (disch := first | omega | (simp only [lenB]; omega)) only [evB, Sz.cells, Sz.val, *]; rfl) (by simp (disch := first | omega | (simp only [lenB]; omega)) only [evB, Sz.cells, Sz.val, *]) (by simp (disch := first | omega | (simp only [lenB]; omega)) only [evB, Sz.cells, Sz.val, *]; rfl) (by simp (disch := first | omega | (simp only [lenB]; omega)) only [evB, Sz.cells, Sz.val, *]; rfl) (by simp (disch := first | omega | (simp only [lenB]; omega)) only [evB, Sz.cells, Sz.val, *]; rfl) ?_; (try simp only [ctlB])))
  refine aw_hv (by simp (disch := first | omega | (simp only [lenB]; omega)) only [evB, Sz.cells, Sz.val, *]; rfl) (by simp (disch := first | omega | (simp only [lenB]; omega)) only [evB, Sz.cells, Sz.val, *]) (by simp (disch := first | omega | (simp only [lenB]; omega)) only [evB, Sz.cells, Sz.val, *]; rfl) ?_
  refine wpH_call0 (repeat39 (lo := lo) (H := H ++ [some [Value.int .i64 (-1)]]) (n := R * C) (i := H.length) (by omega) (by omega) (by simp; omega) (by simp (disch := first | omega | (simp only [lenB]; omega)) only [evB, Sz.cells, Sz.val, *])) ?_
  rintro v H1 ⟨hx, rfl, hq⟩
  have hx0 := hx.of_app
  have hl1 := hx.1
  simp only [List.length_append, List.length_cons, List.length_nil] at hq hl1
  generalize hqq : H.length + (0 + 1) = q at *
  have hql := Heap.get_lt hq
  (try simp only [ctlB])
  repeat' (first | (refine aw_sets (by simp (disch := first | omega | (simp only [lenB]; omega)) only [evB, Sz.cells, Sz.val, *]; rfl) (by simp (disch := first | omega | (simp only [lenB]; omega)) only [evB, Sz.cells, Sz.val, *]) (by simp (disch := first | omega | (simp only [lenB]; omega)) only [evB, Sz.cells, Sz.val, *]; rfl) ?_; (try simp only [ctlB])) | (refine aw_op rfl (by simp (disch := first | omega | (simp only [lenB]; omega)) only [evB, Sz.cells, Sz.val, *]; rfl) (by simp (disch := first | omega | (simp only [lenB]; omega)) only [evB, Sz.cells, Sz.val, *]) (by simp (disch := first | omega | (simp only [lenB]; omega)) only [evB, Sz.cells, Sz.val, *]; rfl) (by simp (disch := first | omega | (simp only [lenB]; omega)) only [evB, Sz.cells, Sz.val, *]; rfl) (by simp (disch := first | omega | (simp only [lenB]; omega)) only [evB, Sz.cells, Sz.val, *]; rfl) ?_; (try simp only [ctlB])))
  have hf : Fil (H1 ++ [some [.int .i64 R, .int .i64 C, .slice (some ⟨q, 0, none⟩) (R * C).toNat (R * C).toNat, .int .i64 0]]) H1.length q R C ⟨0, List.replicate (R * C).toNat (-1)⟩ := by
    refine ⟨?_, ?_, by omega⟩
    · rw [get_app0]; simp
    · rw [get_app_lt hql]; exact hq
  generalize hp : H1.length = p at *
  unfold ordP at h
  generalize hg0 : (⟨0, List.replicate (R * C).toNat (-1)⟩ : G) = g0 at *
  have hlen0 : (g0.cells.length : Int) = R * C := by rw [← hg0]; simp; omega
  generalize hH2 : H1 ++ [some [.int .i64 R, .int .i64 C, .slice (some ⟨q, 0, none⟩) (R * C).toNat (R * C).toNat, .int .i64 0]] = H2 at *
  have hch0 : ∀ i, i < H.length → H2.get i = H.get i := by
    intro i hi
    rw [← hH2, get_app_lt (by omega)]
    exact hx0.2 i hi
  have hl2 : H1.length ≤ H2.length := by rw [← hH2]; simp
  have hlp : lo ≤ p := by omega
  have hlq : lo ≤ q := by omega
  have hHp : H.length ≤ p := by omega
  have hHq : H.length ≤ q := by omega
  generalize hy12 : Value.slice (some ⟨H.length, 0, none⟩) 1 1 = y12
  generalize hy13 : Value.slice (some ⟨q, 0, none⟩) (R * C).toNat (R * C).toNat = y13
  refine aw_loop' (fun m S H' => ∃ (t : Bool) (r c : Int) (g : G) (a8 a9 a15 a16 : Value), S = [.int .i64 R, .int .i64 C, .slice none 0 0, .pointer (some ⟨p, 0, none⟩), .func (.func 40) #[.pointer (some ⟨p, 0, none⟩)] #[], .int .i64 r, .int .i64 c, .bool t, a8, a9, .int .i64 R, .int .i64 C, y12, y13, .pointer (some ⟨p, 0, none⟩), a15, a16] ∧ Fil H' p q R C g ∧ (g.cells.length : Int) = R * C ∧ (∀ i, i < H.length → H'.get i = H.get i) ∧ H.length ≤ H'.length ∧
    ((t = true ∧ ∃ k, m = k + 1 ∧ outG (listOps R C) R C k g r c = some gf) ∨ (t = false ∧ m = 0 ∧ g = gf))) 201 ?_ ?_
  · exact ⟨true, 4, 0, g0, _, _, _, _, rfl, hf, hlen0, hch0, by omega, .inl ⟨rfl, 200, rfl, h⟩⟩
  rintro m S H3 ⟨t, r, c, g, a8, a9, a15, a16, rfl, hf3, hlen3, hch3, hl3, hcase⟩
  (try simp only [ctlB])
  refine aw_cond (by simp (disch := first | omega | (simp only [lenB]; omega)) only [evB, Sz.cells, Sz.val, *]; rfl) (fun h => ?_) (fun h => ?_)
  · subst h
    rcases hcase with ⟨_, k, rfl, hout⟩ | ⟨e, _⟩
    rotate_left
    · cases e
    cases k with
    | zero => simp [outG] at hout
    | succ k =>
    simp only [outG, fI_eq] at hout
    split at hout
    rotate_left
    · simp at hout
    rename_i hinB
    have hb := inB_some hinB
    split at hout
    · simp at hout
    rename_i g4 hg4
    split at hout
    · simp at hout
    rename_i g5 ra ca hg5
    split at hout
    · simp at hout
    rename_i g6 rb cb hg6
    have bl5 := up_len hg5
    have bl6 := down_len hg6
    have bl4 := corners_len hg4
    (try simp only [ctlB])
    refine aw_hv (by simp (disch := first | omega | (simp only [lenB]; omega)) only [evB, Sz.cells, Sz.val, *]; rfl) (by simp (disch := first | omega | (simp only [lenB]; omega)) only [evB, Sz.cells, Sz.val, *]) (by simp (disch := first | omega | (simp only [lenB]; omega)) only [evB, Sz.cells, Sz.val, *]; rfl) ?_
    refine wpH_call0 (corners41 hd hf3 hlp hlq hg4) ?_
    rintro v H4 ⟨hf4, hc4⟩
    (try simp only [ctlB])
    repeat' (first | (refine aw_sets (by simp (disch := first | omega | (simp only [lenB]; omega)) only [evB, Sz.cells, Sz.val, *]; rfl) (by simp (disch := first | omega | (simp only [lenB]; omega)) only [evB, Sz.cells, Sz.val, *]) (by simp (disch := first | omega | (simp only [lenB]; omega)) only [evB, Sz.cells, Sz.val, *]; rfl) ?_; (try simp only [ctlB])) | (refine aw_op rfl (by simp (disch := first | omega | (simp only [lenB]; omega)) only [evB, Sz.cells, Sz.val, *]; rfl) (by simp (disch := first | omega | (simp only [lenB]; omega)) only [evB, Sz.cells, Sz.val, *]) (by simp (disch := first | omega | (simp only [lenB]; omega)) only [evB, Sz.cells, Sz.val, *]; rfl) (by simp (disch := first | omega | (simp only [lenB]; omega)) only [evB, Sz.cells, Sz.val, *]; rfl) (by simp (disch := first | omega | (simp only [lenB]; omega)) only [evB, Sz.cells, Sz.val, *]; rfl) ?_; (try simp only [ctlB])))
    have hlen4 : (g4.cells.length : Int) = R * C := by rw [bl4]; exact hlen3
    have hch4 : ∀ i, i < H.length → H4.get i = H.get i := fun i hi => by rw [hc4.get i (by omega) (by omega) (by omega)]; exact hch3 i hi
    have hl4 : H.length ≤ H4.length := Nat.le_trans hl3 hc4.len
    refine aw_midB (fun S H' => ∃ (a8 a9 a15 a16 : Value), S = [.int .i64 R, .int .i64 C, .slice none 0 0, .pointer (some ⟨p, 0, none⟩), .func (.func 40) #[.pointer (some ⟨p, 0, none⟩)] #[], .int .i64 ra, .int .i64 ca, .bool true, a8, a9, .int .i64 R, .int .i64 C, y12, y13, .pointer (some ⟨p, 0, none⟩), a15, a16] ∧ Fil H' p q R C g5 ∧ (∀ i, i < H.length → H'.get i = H.get i) ∧ H.length ≤ H'.length) ?_ ?_
    · (try simp only [ctlB])
      refine aw_loop' (fun m S H' => ∃ (t : Bool) (r c : Int) (g : G) (a9 a15 a16 : Value), S = [.int .i64 R, .int .i64 C, .slice none 0 0, .pointer (some ⟨p, 0, none⟩), .func (.func 40) #[.pointer (some ⟨p, 0, none⟩)] #[], .int .i64 r, .int .i64 c, .bool true, .bool t, a9, .int .i64 R, .int .i64 C, y12, y13, .pointer (some ⟨p, 0, none⟩), a15, a16] ∧ Fil H' p q R C g ∧ (g.cells.length : Int) = R * C ∧ (∀ i, i < H.length → H'.get i = H.get i) ∧ H.length ≤ H'.length ∧
        ((t = true ∧ ∃ k, m = k + 1 ∧ upG (listOps R C) C k g r c = some (g5, ra, ca)) ∨ (t = false ∧ m = 0 ∧ g = g5 ∧ r = ra ∧ c = ca))) 201 ?_ ?_
      · exact ⟨true, r, c, g4, _, _, _, rfl, hf4, hlen4, hch4, hl4, .inl ⟨rfl, 200, rfl, hg5⟩⟩
      rintro m S H5 ⟨t, r, c, g, a9, a15, a16, rfl, hf5, hlen5, hch5, hl5, hcase⟩
      (try simp only [ctlB])
      refine aw_cond (by simp (disch := first | omega | (simp only [lenB]; omega)) only [evB, Sz.cells, Sz.val, *]; rfl) (fun h => ?_) (fun h => ?_)
      · subst h
        rcases hcase with ⟨_, k, rfl, hup⟩ | ⟨e, _⟩
        rotate_left
        · cases e
        cases k with
        | zero => simp [upG] at hup
        | succ k =>
        simp only [upG, fI_eq] at hup
        split at hup
        rotate_left
        · simp at hup
        rename_i hinB
        have hb := inB_some hinB
        split at hup
        · simp at hup
        rename_i g7 hg7
        have hlen7 : (g7.cells.length : Int) = R * C := by rw [pif_len hg7]; exact hlen5
        (try simp only [ctlB])
        refine aw_hv (by simp (disch := first | omega | (simp only [lenB]; omega)) only [evB, Sz.cells, Sz.val, *]; rfl) (by simp (disch := first | omega | (simp only [lenB]; omega)) only [evB, Sz.cells, Sz.val, *]) (by simp (disch := first | omega | (simp only [lenB]; omega)) only [evB, Sz.cells, Sz.val, *]; rfl) ?_
        refine wpH_call0 (free42 hd hf5 hlen5) ?_
        rintro v H6 ⟨rfl, rfl⟩
        (try simp only [ctlB])
        refine aw_mid (fun S H' => ∃ (a9 a15 a16 : Value), S = [.int .i64 R, .int .i64 C, .slice none 0 0, .pointer (some ⟨p, 0, none⟩), .func (.func 40) #[.pointer (some ⟨p, 0, none⟩)] #[], .int .i64 r, .int .i64 c, .bool true, .bool true, a9, .int .i64 R, .int .i64 C, y12, y13, .pointer (some ⟨p, 0, none⟩), a15, a16] ∧ Fil H' p q R C g7 ∧ (∀ i, i < H.length → H'.get i = H.get i) ∧ H.length ≤ H'.length) ?_ ?_
        · refine aw_cond (by simp (disch := first | omega | (simp only [lenB]; omega)) only [evB, Sz.cells, Sz.val, *]; rfl) (fun h => ?_) (fun h => ?_)
          · simp only [pifG, h, if_true] at hg7
            (try simp only [ctlB])
            refine aw_hv (by simp (disch := first | omega | (simp only [lenB]; omega)) only [evB, Sz.cells, Sz.val, *]; rfl) (by simp (disch := first | omega | (simp only [lenB]; omega)) only [evB, Sz.cells, Sz.val, *]) (by simp (disch := first | omega | (simp only [lenB]; omega)) only [evB, Sz.cells, Sz.val, *]; rfl) ?_
            refine wpH_call0 (place43 hinB hd hf5 hlp hlq hg7) ?_
            rintro v H7 ⟨hf7, hc7⟩
            (try simp only [ctlB])
            exact ⟨_, _, _, rfl, hf7, fun i hi => by rw [hc7.get i (by omega) (by omega) (by omega)]; exact hch5 i hi, Nat.le_trans hl5 hc7.len⟩
          · simp only [pifG, h] at hg7
            cases hg7
            (try simp only [ctlB])
            exact ⟨_, _, _, rfl, hf5, hch5, hl5⟩
        rintro S H7 ⟨b9, b15, b16, rfl, hf7, hch7, hl7⟩
        (try simp only [ctlB])
        repeat' (first | (refine aw_sets (by simp (disch := first | omega | (simp only [lenB]; omega)) only [evB, Sz.cells, Sz.val, *]; rfl) (by simp (disch := first | omega | (simp only [lenB]; omega)) only [evB, Sz.cells, Sz.val, *]) (by simp (disch := first | omega | (simp only [lenB]; omega)) only [evB, Sz.cells, Sz.val, *]; rfl) ?_; (try simp only [ctlB])) | (refine aw_op rfl (by simp (disch := first | omega | (simp only [lenB]; omega)) only [evB, Sz.cells, Sz.val, *]; rfl) (by simp (disch := first | omega | (simp only [lenB]; omega)) only [evB, Sz.cells, Sz.val, *]) (by simp (disch := first | omega | (simp only [lenB]; omega)) only [evB, Sz.cells, Sz.val, *]; rfl) (by simp (disch := first | omega | (simp only [lenB]; omega)) only [evB, Sz.cells, Sz.val, *]; rfl) (by simp (disch := first | omega | (simp only [lenB]; omega)) only [evB, Sz.cells, Sz.val, *]; rfl) ?_; (try simp only [ctlB])))
        simp only [loopQ_n]
        split at hup
        · rename_i hcond
          refine ⟨k + 1, by omega, _, r - 2, c + 2, g7, _, _, _, rfl, hf7, hlen7, hch7, hl7, .inl ⟨by simp; omega, k, rfl, hup⟩⟩
        · rename_i hcond
          simp only [Option.some.injEq, Prod.mk.injEq] at hup
          refine ⟨0, by omega, _, r - 2, c + 2, g7, _, _, _, rfl, hf7, hlen7, hch7, hl7, .inr ⟨by simp; omega, rfl, hup.1, hup.2.1, hup.2.2⟩⟩
      · subst h
        rcases hcase with ⟨e, _⟩ | ⟨_, _, rfl, rfl, rfl⟩
        · cases e
        (try simp only [ctlB])
        exact ⟨_, _, _, _, rfl, hf5, hch5, hl5⟩
    rintro S H5 ⟨b8, b9, b15, b16, rfl, hf5, hch5, hl5⟩
    (try simp only [ctlB])
    repeat' (first | (refine aw_sets (by simp (disch := first | omega | (simp only [lenB]; omega)) only [evB, Sz.cells, Sz.val, *]; rfl) (by simp (disch := first | omega | (simp only [lenB]; omega)) only [evB, Sz.cells, Sz.val, *]) (by simp (disch := first | omega | (simp only [lenB]; omega)) only [evB, Sz.cells, Sz.val, *]; rfl) ?_; (try simp only [ctlB])) | (refine aw_op rfl (by simp (disch := first | omega | (simp only [lenB]; omega)) only [evB, Sz.cells, Sz.val, *]; rfl) (by simp (disch := first | omega | (simp only [lenB]; omega)) only [evB, Sz.cells, Sz.val, *]) (by simp (disch := first | omega | (simp only [lenB]; omega)) only [evB, Sz.cells, Sz.val, *]; rfl) (by simp (disch := first | omega | (simp only [lenB]; omega)) only [evB, Sz.cells, Sz.val, *]; rfl) (by simp (disch := first | omega | (simp only [lenB]; omega)) only [evB, Sz.cells, Sz.val, *]; rfl) ?_; (try simp only [ctlB])))
    have hlen5 : (g5.cells.length : Int) = R * C := by rw [bl5.1]; exact hlen4
    refine aw_midB (fun S H' => ∃ (a8 a9 a15 a16 : Value), S = [.int .i64 R, .int .i64 C, .slice none 0 0, .pointer (some ⟨p, 0, none⟩), .func (.func 40) #[.pointer (some ⟨p, 0, none⟩)] #[], .int .i64 rb, .int .i64 cb, .bool true, a8, a9, .int .i64 R, .int .i64 C, y12, y13, .pointer (some ⟨p, 0, none⟩), a15, a16] ∧ Fil H' p q R C g6 ∧ (∀ i, i < H.length → H'.get i = H.get i) ∧ H.length ≤ H'.length) ?_ ?_
    · (try simp only [ctlB])
      refine aw_loop' (fun m S H' => ∃ (t : Bool) (r c : Int) (g : G) (a8 a15 a16 : Value), S = [.int .i64 R, .int .i64 C, .slice none 0 0, .pointer (some ⟨p, 0, none⟩), .func (.func 40) #[.pointer (some ⟨p, 0, none⟩)] #[], .int .i64 r, .int .i64 c, .bool true, a8, .bool t, .int .i64 R, .int .i64 C, y12, y13, .pointer (some ⟨p, 0, none⟩), a15, a16] ∧ Fil H' p q R C g ∧ (g.cells.length : Int) = R * C ∧ (∀ i, i < H.length → H'.get i = H.get i) ∧ H.length ≤ H'.length ∧
        ((t = true ∧ ∃ k, m = k + 1 ∧ downG (listOps R C) R k g r c = some (g6, rb, cb)) ∨ (t = false ∧ m = 0 ∧ g = g6 ∧ r = rb ∧ c = cb))) 201 ?_ ?_
      · exact ⟨true, ra + 1, ca + 3, g5, _, _, _, rfl, hf5, hlen5, hch5, hl5, .inl ⟨rfl, 200, rfl, hg6⟩⟩
      rintro m S H6 ⟨t, r, c, g, a8, a15, a16, rfl, hf6, hlen6, hch6, hl6, hcase⟩
      (try simp only [ctlB])
      refine aw_cond (by simp (disch := first | omega | (simp only [lenB]; omega)) only [evB, Sz.cells, Sz.val, *]; rfl) (fun h => ?_) (fun h => ?_)
      · subst h
        rcases hcase with ⟨_, k, rfl, hup⟩ | ⟨e, _⟩
        rotate_left
        · cases e
        cases k with
        | zero => simp [downG] at hup
        | succ k =>
        simp only [downG, fI_eq] at hup
        split at hup
        rotate_left
        · simp at hup
        rename_i hinB
        have hb := inB_some hinB
        split at hup
        · simp at hup
        rename_i g7 hg7
        have hlen7 : (g7.cells.length : Int) = R * C := by rw [pif_len hg7]; exact hlen6
        (try simp only [ctlB])
        refine aw_hv (by simp (disch := first | omega | (simp only [lenB]; omega)) only [evB, Sz.cells, Sz.val, *]; rfl) (by simp (disch := first | omega | (simp only [lenB]; omega)) only [evB, Sz.cells, Sz.val, *]) (by simp (disch := first | omega | (simp only [lenB]; omega)) only [evB, Sz.cells, Sz.val, *]; rfl) ?_
        refine wpH_call0 (free42 hd hf6 hlen6) ?_
        rintro v H7 ⟨rfl, rfl⟩
        (try simp only [ctlB])
        refine aw_mid (fun S H' => ∃ (a8 a15 a16 : Value), S = [.int .i64 R, .int .i64 C, .slice none 0 0, .pointer (some ⟨p, 0, none⟩), .func (.func 40) #[.pointer (some ⟨p, 0, none⟩)] #[], .int .i64 r, .int .i64 c, .bool true, a8, .bool true, .int .i64 R, .int .i64 C, y12, y13, .pointer (some ⟨p, 0, none⟩), a15, a16] ∧ Fil H' p q R C g7 ∧ (∀ i, i < H.length → H'.get i = H.get i) ∧ H.length ≤ H'.length) ?_ ?_
        · refine aw_cond (by simp (disch := first | omega | (simp only [lenB]; omega)) only [evB, Sz.cells, Sz.val, *]; rfl) (fun h => ?_) (fun h => ?_)
          · simp only [pifG, h, if_true] at hg7
            (try simp only [ctlB])
            refine aw_hv (by simp (disch := first | omega | (simp only [lenB]; omega)) only [evB, Sz.cells, Sz.val, *]; rfl) (by simp (disch := first | omega | (simp only [lenB]; omega)) only [evB, Sz.cells, Sz.val, *]) (by simp (disch := first | omega | (simp only [lenB]; omega)) only [evB, Sz.cells, Sz.val, *]; rfl) ?_
            refine wpH_call0 (place43 hinB hd hf6 hlp hlq hg7) ?_
            rintro v H8 ⟨hf8, hc8⟩
            (try simp only [ctlB])
            exact ⟨_, _, _, rfl, hf8, fun i hi => by rw [hc8.get i (by omega) (by omega) (by omega)]; exact hch6 i hi, Nat.le_trans hl6 hc8.len⟩
          · simp only [pifG, h] at hg7
            cases hg7
            (try simp only [ctlB])
            exact ⟨_, _, _, rfl, hf6, hch6, hl6⟩
        rintro S H8 ⟨b9, b15, b16, rfl, hf8, hch8, hl8⟩
        (try simp only [ctlB])
        repeat' (first | (refine aw_sets (by simp (disch := first | omega | (simp only [lenB]; omega)) only [evB, Sz.cells, Sz.val, *]; rfl) (by simp (disch := first | omega | (simp only [lenB]; omega)) only [evB, Sz.cells, Sz.val, *]) (by simp (disch := first | omega | (simp only [lenB]; omega)) only [evB, Sz.cells, Sz.val, *]; rfl) ?_; (try simp only [ctlB])) | (refine aw_op rfl (by simp (disch := first | omega | (simp only [lenB]; omega)) only [evB, Sz.cells, Sz.val, *]; rfl) (by simp (disch := first | omega | (simp only [lenB]; omega)) only [evB, Sz.cells, Sz.val, *]) (by simp (disch := first | omega | (simp only [lenB]; omega)) only [evB, Sz.cells, Sz.val, *]; rfl) (by simp (disch := first | omega | (simp only [lenB]; omega)) only [evB, Sz.cells, Sz.val, *]; rfl) (by simp (disch := first | omega | (simp only [lenB]; omega)) only [evB, Sz.cells, Sz.val, *]; rfl) ?_; (try simp only [ctlB])))
        simp only [loopQ_n]
        split at hup
        · rename_i hcond
          refine ⟨k + 1, by omega, _, r + 2, c - 2, g7, _, _, _, rfl, hf8, hlen7, hch8, hl8, .inl ⟨by simp; omega, k, rfl, hup⟩⟩
        · rename_i hcond
          simp only [Option.some.injEq, Prod.mk.injEq] at hup
          refine ⟨0, by omega, _, r + 2, c - 2, g7, _, _, _, rfl, hf8, hlen7, hch8, hl8, .inr ⟨by simp; omega, rfl, hup.1, hup.2.1, hup.2.2⟩⟩
      · subst h
        rcases hcase with ⟨e, _⟩ | ⟨_, _, rfl, rfl, rfl⟩
        · cases e
        (try simp only [ctlB])
        exact ⟨_, _, _, _, rfl, hf6, hch6, hl6⟩
    rintro S H6 ⟨d8, d9, d15, d16, rfl, hf6, hch6, hl6⟩
    (try simp only [ctlB])
    repeat' (first | (refine aw_sets (by simp (disch := first | omega | (simp only [lenB]; omega)) only [evB, Sz.cells, Sz.val, *]; rfl) (by simp (disch := first | omega | (simp only [lenB]; omega)) only [evB, Sz.cells, Sz.val, *]) (by simp (disch := first | omega | (simp only [lenB]; omega)) only [evB, Sz.cells, Sz.val, *]; rfl) ?_; (try simp only [ctlB])) | (refine aw_op rfl (by simp (disch := first | omega | (simp only [lenB]; omega)) only [evB, Sz.cells, Sz.val, *]; rfl) (by simp (disch := first | omega | (simp only [lenB]; omega)) only [evB, Sz.cells, Sz.val, *]) (by simp (disch := first | omega | (simp only [lenB]; omega)) only [evB, Sz.cells, Sz.val, *]; rfl) (by simp (disch := first | omega | (simp only [lenB]; omega)) only [evB, Sz.cells, Sz.val, *]; rfl) (by simp (disch := first | omega | (simp only [lenB]; omega)) only [evB, Sz.cells, Sz.val, *]; rfl) ?_; (try simp only [ctlB])))
    simp only [loopQ_n]
    have hlen6 : (g6.cells.length : Int) = R * C := by rw [bl6.1]; exact hlen5
    split at hout
    · rename_i hcond
      refine ⟨k + 1, by omega, _, rb + 3, cb + 1, g6, _, _, _, _, rfl, hf6, hlen6, hch6, hl6, .inl ⟨by simp; omega, k, rfl, hout⟩⟩
    · rename_i hcond
      cases hout
      refine ⟨0, by omega, _, rb + 3, cb + 1, gf, _, _, _, _, rfl, hf6, hlen6, hch6, hl6, .inr ⟨by simp; omega, rfl, rfl⟩⟩
  · subst h
    rcases hcase with ⟨e, _⟩ | ⟨_, _, rfl⟩
    · cases e
    have fp := hf3.fp
    (try simp only [ctlB])
    repeat' (first | (refine aw_sets (by simp (disch := first | omega | (simp only [lenB]; omega)) only [evB, Sz.cells, Sz.val, *]; rfl) (by simp (disch := first | omega | (simp only [lenB]; omega)) only [evB, Sz.cells, Sz.val, *]) (by simp (disch := first | omega | (simp only [lenB]; omega)) only [evB, Sz.cells, Sz.val, *]; rfl) ?_; (try simp only [ctlB])) | (refine aw_op rfl (by simp (disch := first | omega | (simp only [lenB]; omega)) only [evB, Sz.cells, Sz.val, *]; rfl) (by simp (disch := first | omega | (simp only [lenB]; omega)) only [evB, Sz.cells, Sz.val, *]) (by simp (disch := first | omega | (simp only [lenB]; omega)) only [evB, Sz.cells, Sz.val, *]; rfl) (by simp (disch := first | omega | (simp only [lenB]; omega)) only [evB, Sz.cells, Sz.val, *]; rfl) (by simp (disch := first | omega | (simp only [lenB]; omega)) only [evB, Sz.cells, Sz.val, *]; rfl) ?_; (try simp only [ctlB])))
    refine body_ret (by simp only [cf26]; simp (disch := first | omega | (simp only [lenB]; omega)) only [evB, Sz.cells, Sz.val, *]; rfl) ?_
    exact ⟨⟨hl3, hch3⟩, q, hHq, rfl, hf3.fq⟩
end Go.Proofs.Ytobfjbominbkmaa
