/-
  DmlayoutBijection returns true for every number: in the order of each size every bit of every codeword occurs exactly once, and 0 or 4 modules remain. No conditions.
-/
import Derived.Test.YtobfjbominbkmaaWl
import Derived.Test.YtobfjbominbkmaaLz
import Derived.Test.YtobfjbominbkmaaAbs9
namespace Go.Proofs.Ytobfjbominbkmaa
open Go.Abs
set_option linter.unusedSimpArgs false
set_option linter.unusedVariables false
theorem mapping21 {lo : Nat} {H : Heap} {s : Sz} (hs : SzOK s) : Ev cp lo 21 [s.val] H (fun v H' => Ext H H' ∧ v = .tuple #[.int .i64 (mapR s), .int .i64 (mapC s)]) := by
  have hb := map_bd hs
  obtain ⟨r0, r1, c0, c1, rr0, rr1, rc0, rc1, _⟩ := hs
  unfold mapR mapC at hb
  have n1 : ¬ s.rr < 1 := by omega
  have n2 : ¬ 200 < s.rr := by omega
  have n3 : ¬ s.rc < 1 := by omega
  have n4 : ¬ 200 < s.rc := by omega
  have n5 : ¬ s.r < 0 := by omega
  have n6 : ¬ 200 < s.r := by omega
  have n7 : ¬ s.c < 0 := by omega
  have n8 : ¬ 200 < s.c := by omega
  refine st21 ?_; unfold bd21; (try simp only [ctlB])
  repeat' (first | (refine aw_sets (by simp (disch := first | omega | (simp only [lenB]; omega)) only [evB, Sz.cells, Sz.val, Int.cast_ofNat_Int, *]; rfl) (by simp (disch := first | omega | (simp only [lenB]; omega)) only [evB, Sz.cells, Sz.val, Int.cast_ofNat_Int, *]) (by simp (disch := first | omega | (simp only [lenB]; omega)) only [evB, Sz.cells, Sz.val, Int.cast_ofNat_Int, *]; rfl) ?_; (try simp only [ctlB])) | (refine aw_op rfl (by simp (disch := first | omega | (simp only [lenB]; omega)) only [evB, Sz.cells, Sz.val, Int.cast_ofNat_Int, *]; rfl) (by simp (disch := first | omega | (simp only [lenB]; omega)) only [evB, Sz.cells, Sz.val, Int.cast_ofNat_Int, *]) (by simp (disch := first | omega | (simp only [lenB]; omega)) only [evB, Sz.cells, Sz.val, Int.cast_ofNat_Int, *]; rfl) (by simp (disch := first | omega | (simp only [lenB]; omega)) only [evB, Sz.cells, Sz.val, Int.cast_ofNat_Int, *]; rfl) (by simp (disch := first | omega | (simp only [lenB]; omega)) only [evB, Sz.cells, Sz.val, Int.cast_ofNat_Int, *]; rfl) ?_; (try simp only [ctlB])))
  refine aw_cond (by simp (disch := first | omega | (simp only [lenB]; omega)) only [evB, Sz.cells, Sz.val, Int.cast_ofNat_Int, *]; rfl) (fun h => ?_) (fun h => ?_)
  · cases h
  clear h
  (try simp only [ctlB])
  repeat' (first | (refine aw_sets (by simp (disch := first | omega | (simp only [lenB]; omega)) only [evB, Sz.cells, Sz.val, Int.cast_ofNat_Int, *]; rfl) (by simp (disch := first | omega | (simp only [lenB]; omega)) only [evB, Sz.cells, Sz.val, Int.cast_ofNat_Int, *]) (by simp (disch := first | omega | (simp only [lenB]; omega)) only [evB, Sz.cells, Sz.val, Int.cast_ofNat_Int, *]; rfl) ?_; (try simp only [ctlB])) | (refine aw_op rfl (by simp (disch := first | omega | (simp only [lenB]; omega)) only [evB, Sz.cells, Sz.val, Int.cast_ofNat_Int, *]; rfl) (by simp (disch := first | omega | (simp only [lenB]; omega)) only [evB, Sz.cells, Sz.val, Int.cast_ofNat_Int, *]) (by simp (disch := first | omega | (simp only [lenB]; omega)) only [evB, Sz.cells, Sz.val, Int.cast_ofNat_Int, *]; rfl) (by simp (disch := first | omega | (simp only [lenB]; omega)) only [evB, Sz.cells, Sz.val, Int.cast_ofNat_Int, *]; rfl) (by simp (disch := first | omega | (simp only [lenB]; omega)) only [evB, Sz.cells, Sz.val, Int.cast_ofNat_Int, *]; rfl) ?_; (try simp only [ctlB])))
  refine body_ret (by simp only [cf21]; simp (disch := first | omega | (simp only [lenB]; omega)) only [evB, Sz.cells, Sz.val, Int.cast_ofNat_Int, *]; rfl) ?_
  exact ⟨Ext.app _ _, rfl⟩
theorem szs_rest : ∀ s ∈ szs, mapR s * mapC s - 8 * (s.d + s.k) = 0 ∨ mapR s * mapC s - 8 * (s.d + s.k) = 4 := by
  have h : szs.all (fun s => decide (mapR s * mapC s - 8 * (s.d + s.k) = 0) || decide (mapR s * mapC s - 8 * (s.d + s.k) = 4)) = true := by kernel_rfl
  intro s hs
  have := List.all_eq_true.1 h s hs
  simpa using this
def negs (l : List Int) : Nat := l.countP (fun x => decide (x < 0))
theorem negs_le (l : List Int) : negs l + l.countP (fun x => decide (0 ≤ x)) = l.length := by
  induction l with
  | nil => rfl
  | cons a l ih =>
    unfold negs at *
    by_cases h : a < 0
    · have h2 : ¬ 0 ≤ a := by omega
      simp only [List.countP_cons, h, h2, decide_true, decide_false, List.length_cons]; simp; omega
    · have h2 : 0 ≤ a := by omega
      simp only [List.countP_cons, h, h2, decide_true, decide_false, List.length_cons]; simp; omega
theorem negs_succ {l : List Int} {i : Nat} (h : i < l.length) : negs (l.take (i + 1)) = negs (l.take i) + (if l.getD i 0 < 0 then 1 else 0) := by
  unfold negs
  rw [List.take_add_one, List.getElem?_eq_getElem h, List.countP_append, List.getD_eq_getElem?_getD, List.getElem?_eq_getElem h]
  simp [List.countP_cons]

/-- which bits were met -/
def met (o : List Int) (i : Nat) (x : Nat) : Bool := (o.take i).any fun y => decide (y = (x : Int))
theorem met_succ {o : List Int} {i : Nat} (h : i < o.length) (x : Nat) : met o (i + 1) x = (met o i x || decide (o.getD i 0 = (x : Int))) := by
  unfold met
  exact any_take_succ h
theorem set_met {o : List Int} {i n : Nat} {y : Nat} (hi : i < o.length) (hy : o.getD i 0 = (y : Int)) (hn : y < n) : ((List.range n).map (met o i)).set y true = (List.range n).map (met o (i + 1)) := by
  apply List.ext_getElem?
  intro j
  rw [List.getElem?_set]
  by_cases hj : y = j
  · subst hj
    have e : met o (i + 1) y = true := by rw [met_succ hi, hy]; simp
    simp [hn, e]
  · rw [if_neg hj]
    by_cases hjn : j < n
    · simp only [List.getElem?_map, List.getElem?_range hjn, Option.map_some, met_succ hi, hy]
      have : decide ((y : Int) = (j : Int)) = false := by simp; omega
      rw [this]; simp
    · simp [hjn]
theorem same_met {o : List Int} {i n : Nat} (hi : i < o.length) (hy : o.getD i 0 < 0) : (List.range n).map (met o i) = (List.range n).map (met o (i + 1)) := by
  apply List.map_congr_left
  intro x _
  rw [met_succ hi]
  have : decide (o.getD i 0 = (x : Int)) = false := decide_eq_false (by omega)
  rw [this]; simp
theorem getD_any {l : List Int} {i : Nat} (h : i < l.length) (a b : Int) : l.getD i a = l.getD i b := by
  simp [List.getD_eq_getElem?_getD, List.getElem?_eq_getElem h]
theorem law6 (k : Int) (h0 : 0 ≤ k) (h1 : k ≤ 255) (H : Heap) : Ev cp H.length 6 [.int .u8 k] H (fun v _ => v = .bool true) := by
  refine st6 ?_; unfold bd6; (try simp only [ctlB])
  repeat' (first | (refine aw_sets (by simp (disch := first | omega | (simp only [lenB]; omega)) only [evB, Sz.cells, Sz.val, Int.cast_ofNat_Int, *]; rfl) (by simp (disch := first | omega | (simp only [lenB]; omega)) only [evB, Sz.cells, Sz.val, Int.cast_ofNat_Int, *]) (by simp (disch := first | omega | (simp only [lenB]; omega)) only [evB, Sz.cells, Sz.val, Int.cast_ofNat_Int, *]; rfl) ?_; (try simp only [ctlB])) | (refine aw_op rfl (by simp (disch := first | omega | (simp only [lenB]; omega)) only [evB, Sz.cells, Sz.val, Int.cast_ofNat_Int, *]; rfl) (by simp (disch := first | omega | (simp only [lenB]; omega)) only [evB, Sz.cells, Sz.val, Int.cast_ofNat_Int, *]) (by simp (disch := first | omega | (simp only [lenB]; omega)) only [evB, Sz.cells, Sz.val, Int.cast_ofNat_Int, *]; rfl) (by simp (disch := first | omega | (simp only [lenB]; omega)) only [evB, Sz.cells, Sz.val, Int.cast_ofNat_Int, *]; rfl) (by simp (disch := first | omega | (simp only [lenB]; omega)) only [evB, Sz.cells, Sz.val, Int.cast_ofNat_Int, *]; rfl) ?_; (try simp only [ctlB])))
  refine aw_hv (by simp (disch := first | omega | (simp only [lenB]; omega)) only [evB, Sz.cells, Sz.val, Int.cast_ofNat_Int, *]; rfl) (by simp (disch := first | omega | (simp only [lenB]; omega)) only [evB, Sz.cells, Sz.val, Int.cast_ofNat_Int, *]) (by simp (disch := first | omega | (simp only [lenB]; omega)) only [evB, Sz.cells, Sz.val, Int.cast_ofNat_Int, *]; rfl) ?_
  refine wpH_call0 (sizes10 (Nat.le_refl _)) ?_
  rintro v H1 ⟨j, hj, rfl, hgj, hx1⟩
  have hl1 := hx1.1
  have hjl := Heap.get_lt hgj
  have hm := tmod_bd (a := k) (m := 30) h0 (by omega)
  have hrow := szCells_at (i := (k.tmod 30).toNat) (by omega)
  have hlen := szCells_len
  have hmem := szAt_mem (i := (k.tmod 30).toNat) (by omega)
  generalize szAt (k.tmod 30).toNat = s at *
  have hok := szs_ok s hmem
  (try simp only [ctlB])
  repeat' (first | (refine aw_sets (by simp (disch := first | omega | (simp only [lenB]; omega)) only [evB, Sz.cells, Sz.val, Int.cast_ofNat_Int, *]; rfl) (by simp (disch := first | omega | (simp only [lenB]; omega)) only [evB, Sz.cells, Sz.val, Int.cast_ofNat_Int, *]) (by simp (disch := first | omega | (simp only [lenB]; omega)) only [evB, Sz.cells, Sz.val, Int.cast_ofNat_Int, *]; rfl) ?_; (try simp only [ctlB])) | (refine aw_op rfl (by simp (disch := first | omega | (simp only [lenB]; omega)) only [evB, Sz.cells, Sz.val, Int.cast_ofNat_Int, *]; rfl) (by simp (disch := first | omega | (simp only [lenB]; omega)) only [evB, Sz.cells, Sz.val, Int.cast_ofNat_Int, *]) (by simp (disch := first | omega | (simp only [lenB]; omega)) only [evB, Sz.cells, Sz.val, Int.cast_ofNat_Int, *]; rfl) (by simp (disch := first | omega | (simp only [lenB]; omega)) only [evB, Sz.cells, Sz.val, Int.cast_ofNat_Int, *]; rfl) (by simp (disch := first | omega | (simp only [lenB]; omega)) only [evB, Sz.cells, Sz.val, Int.cast_ofNat_Int, *]; rfl) ?_; (try simp only [ctlB])))
  refine aw_cond (by simp (disch := first | omega | (simp only [lenB]; omega)) only [evB, Sz.cells, Sz.val, Int.cast_ofNat_Int, *]; rfl) (fun h => ?_) (fun h => ?_)
  · simp at h
  clear h
  (try simp only [ctlB])
  repeat' (first | (refine aw_sets (by simp (disch := first | omega | (simp only [lenB]; omega)) only [evB, Sz.cells, Sz.val, Int.cast_ofNat_Int, *]; rfl) (by simp (disch := first | omega | (simp only [lenB]; omega)) only [evB, Sz.cells, Sz.val, Int.cast_ofNat_Int, *]) (by simp (disch := first | omega | (simp only [lenB]; omega)) only [evB, Sz.cells, Sz.val, Int.cast_ofNat_Int, *]; rfl) ?_; (try simp only [ctlB])) | (refine aw_op rfl (by simp (disch := first | omega | (simp only [lenB]; omega)) only [evB, Sz.cells, Sz.val, Int.cast_ofNat_Int, *]; rfl) (by simp (disch := first | omega | (simp only [lenB]; omega)) only [evB, Sz.cells, Sz.val, Int.cast_ofNat_Int, *]) (by simp (disch := first | omega | (simp only [lenB]; omega)) only [evB, Sz.cells, Sz.val, Int.cast_ofNat_Int, *]; rfl) (by simp (disch := first | omega | (simp only [lenB]; omega)) only [evB, Sz.cells, Sz.val, Int.cast_ofNat_Int, *]; rfl) (by simp (disch := first | omega | (simp only [lenB]; omega)) only [evB, Sz.cells, Sz.val, Int.cast_ofNat_Int, *]; rfl) ?_; (try simp only [ctlB])))
  refine aw_hv (by simp (disch := first | omega | (simp only [lenB]; omega)) only [evB, Sz.cells, Sz.val, Int.cast_ofNat_Int, *]; rfl) (by simp (disch := first | omega | (simp only [lenB]; omega)) only [evB, Sz.cells, Sz.val, Int.cast_ofNat_Int, *]) (by simp (disch := first | omega | (simp only [lenB]; omega)) only [evB, Sz.cells, Sz.val, Int.cast_ofNat_Int, *]; rfl) ?_
  refine wpH_call0 (mapping21 (s := s) hok) ?_
  rintro v H2 ⟨hx2, rfl⟩
  have gp : H2.get H1.length = some s.cells := hx2.get get_app0
  have hl2 := Heap.get_lt gp
  generalize hp : H1.length = p at *
  obtain ⟨gf, hso⟩ := so_all s hmem
  have him : isMap (mapR s) (mapC s) := ⟨s, hmem, rfl, rfl⟩
  have hok' := hok
  obtain ⟨r0, r1, c0, c1, rr0, rr1, rc0, rc1, d0, d1, k0, k1⟩ := hok'
  have hrest := szs_rest s hmem
  have hol := hso.od.len
  obtain ⟨dr0, dr1, dc0, dc1⟩ := hso.dim
  have hmm := mul_bd (a := mapR s) (b := mapC s) (A := 200) (B := 200) (by omega) (by omega) (by omega) dc1 (by omega)
  have hm0 : 0 ≤ mapR s * mapC s := Int.mul_nonneg (by omega) (by omega)
  clear hx2 hrow hlen hgj
  (try simp only [ctlB])
  repeat' (first | (refine aw_sets (by simp (disch := first | omega | (simp only [lenB]; omega)) only [evB, Sz.cells, Sz.val, Int.cast_ofNat_Int, *]; rfl) (by simp (disch := first | omega | (simp only [lenB]; omega)) only [evB, Sz.cells, Sz.val, Int.cast_ofNat_Int, *]) (by simp (disch := first | omega | (simp only [lenB]; omega)) only [evB, Sz.cells, Sz.val, Int.cast_ofNat_Int, *]; rfl) ?_; (try simp only [ctlB])) | (refine aw_op rfl (by simp (disch := first | omega | (simp only [lenB]; omega)) only [evB, Sz.cells, Sz.val, Int.cast_ofNat_Int, *]; rfl) (by simp (disch := first | omega | (simp only [lenB]; omega)) only [evB, Sz.cells, Sz.val, Int.cast_ofNat_Int, *]) (by simp (disch := first | omega | (simp only [lenB]; omega)) only [evB, Sz.cells, Sz.val, Int.cast_ofNat_Int, *]; rfl) (by simp (disch := first | omega | (simp only [lenB]; omega)) only [evB, Sz.cells, Sz.val, Int.cast_ofNat_Int, *]; rfl) (by simp (disch := first | omega | (simp only [lenB]; omega)) only [evB, Sz.cells, Sz.val, Int.cast_ofNat_Int, *]; rfl) ?_; (try simp only [ctlB])))
  refine aw_hv (by simp (disch := first | omega | (simp only [lenB]; omega)) only [evB, Sz.cells, Sz.val, Int.cast_ofNat_Int, *]; rfl) (by simp (disch := first | omega | (simp only [lenB]; omega)) only [evB, Sz.cells, Sz.val, Int.cast_ofNat_Int, *]) (by simp (disch := first | omega | (simp only [lenB]; omega)) only [evB, Sz.cells, Sz.val, Int.cast_ofNat_Int, *]; rfl) ?_
  refine wpH_call0 (order15 (R := mapR s) (C := mapC s) (by omega) map_some) ?_
  rintro v H3 ⟨hx3, hc3⟩
  rcases hc3 with ⟨_, gf', q, ho, hq, rfl, hgq⟩ | ⟨hn, _⟩
  rotate_left
  · exact absurd him hn
  have ho2 := hso.ord
  rw [ho] at ho2
  cases ho2
  have hod := hso.od
  have gp := hx3.get gp
  have hl3 := Heap.get_lt gp
  have hql := Heap.get_lt hgq
  generalize gf.cells = o at *
  clear hso ho hx3 him
  generalize hR : mapR s = R at *
  generalize hC : mapC s = C at *
  have hoI : (o.length : Int) ≤ R * C ∧ R * C ≤ o.length := by omega
  have hol' : o.length ≤ (R * C).toNat ∧ (R * C).toNat ≤ o.length := by omega
  clear hol
  have hb1 : ¬ (o.length : Int) ≠ R * C := by omega
  have hdk : ∃ n : Nat, (n : Int) = s.d + s.k := ⟨(s.d + s.k).toNat, by omega⟩
  obtain ⟨w, hw⟩ := hdk
  have hwn : (s.d + s.k).toNat = w := by omega
  have hbn : 8 * w ≤ o.length := by omega
  have hb4 : (o.length : Int) - 8 * (s.d + s.k) = 0 ∨ (o.length : Int) - 8 * (s.d + s.k) = 4 := by omega
  have hcond : (((((decide ((0 : Int) ≠ 0) || decide ((o.length : Int) ≠ R * C)) || decide (8 * (s.d + s.k) < 0)) || decide ((o.length : Int) < 8 * (s.d + s.k)))) || (decide ((o.length : Int) - 8 * (s.d + s.k) ≠ 0) && decide ((o.length : Int) - 8 * (s.d + s.k) ≠ 4))) = false := by
    simp; omega
  rw [hwn] at hod
  have hcnt := hod.cnt
  have hneg := negs_le o
  rw [hcnt] at hneg
  have hfin : (negs o : Int) = o.length - 8 * (s.d + s.k) := by omega
  (try simp only [ctlB])
  repeat' (first | (refine aw_sets (by simp (disch := first | omega | (simp only [lenB]; omega)) only [evB, Sz.cells, Sz.val, Int.cast_ofNat_Int, *]; rfl) (by simp (disch := first | omega | (simp only [lenB]; omega)) only [evB, Sz.cells, Sz.val, Int.cast_ofNat_Int, *]) (by simp (disch := first | omega | (simp only [lenB]; omega)) only [evB, Sz.cells, Sz.val, Int.cast_ofNat_Int, *]; rfl) ?_; (try simp only [ctlB])) | (refine aw_op rfl (by simp (disch := first | omega | (simp only [lenB]; omega)) only [evB, Sz.cells, Sz.val, Int.cast_ofNat_Int, *]; rfl) (by simp (disch := first | omega | (simp only [lenB]; omega)) only [evB, Sz.cells, Sz.val, Int.cast_ofNat_Int, *]) (by simp (disch := first | omega | (simp only [lenB]; omega)) only [evB, Sz.cells, Sz.val, Int.cast_ofNat_Int, *]; rfl) (by simp (disch := first | omega | (simp only [lenB]; omega)) only [evB, Sz.cells, Sz.val, Int.cast_ofNat_Int, *]; rfl) (by simp (disch := first | omega | (simp only [lenB]; omega)) only [evB, Sz.cells, Sz.val, Int.cast_ofNat_Int, *]; rfl) ?_; (try simp only [ctlB])))
  refine aw_cond (by simp (disch := first | omega | (simp only [lenB]; omega)) only [evB, Sz.cells, Sz.val, Int.cast_ofNat_Int, *]; rfl) (fun h => ?_) (fun h => ?_)
  · simp only [Bool.or_eq_true, Bool.and_eq_true, decide_eq_true_eq] at h
    omega
  clear h hcond
  have e8 : (8 * (s.d + s.k)).toNat = 8 * w := by omega
  (try simp only [ctlB])
  repeat' (first | (refine aw_sets (by simp (disch := first | omega | (simp only [lenB]; omega)) only [evB, Sz.cells, Sz.val, Int.cast_ofNat_Int, *]; rfl) (by simp (disch := first | omega | (simp only [lenB]; omega)) only [evB, Sz.cells, Sz.val, Int.cast_ofNat_Int, *]) (by simp (disch := first | omega | (simp only [lenB]; omega)) only [evB, Sz.cells, Sz.val, Int.cast_ofNat_Int, *]; rfl) ?_; (try simp only [ctlB])) | (refine aw_op rfl (by simp (disch := first | omega | (simp only [lenB]; omega)) only [evB, Sz.cells, Sz.val, Int.cast_ofNat_Int, *]; rfl) (by simp (disch := first | omega | (simp only [lenB]; omega)) only [evB, Sz.cells, Sz.val, Int.cast_ofNat_Int, *]) (by simp (disch := first | omega | (simp only [lenB]; omega)) only [evB, Sz.cells, Sz.val, Int.cast_ofNat_Int, *]; rfl) (by simp (disch := first | omega | (simp only [lenB]; omega)) only [evB, Sz.cells, Sz.val, Int.cast_ofNat_Int, *]; rfl) (by simp (disch := first | omega | (simp only [lenB]; omega)) only [evB, Sz.cells, Sz.val, Int.cast_ofNat_Int, *]; rfl) ?_; (try simp only [ctlB])))
  generalize hM : H3.length = M at *
  have hz : Heap.get (H3 ++ [some (boolL (List.replicate (8 * w) false))]) M = some (boolL ((List.range (8 * w)).map (met o 0))) := by
    rw [← hM, get_app0]
    congr 1
    congr 1
    apply List.ext_getElem
    · simp
    · intro i h1 h2
      simp [met]
  refine aw_for (fun i S H' => H'.length = M + 1 ∧ H'.get q = some (intL o) ∧ H'.get M = some (boolL ((List.range (8 * w)).map (met o i))) ∧ ∃ z0 z2 z4 z5 z8 z11 z12 z13 z14 z15 z16 z20 z21, S = [z0, .bool false, z2, .pointer (some ⟨p, 0, none⟩), z4, z5, .int .i64 (8 * (s.d + s.k)), .slice (some ⟨q, 0, none⟩) o.length o.length, z8, .slice (some ⟨M, 0, none⟩) (8 * w) (8 * w), .int .i64 (negs (o.take i) : Nat), z11, z12, z13, z14, z15, z16, .slice (some ⟨q, 0, none⟩) o.length o.length, .int .i64 (o.length : Nat), .int .i64 (i : Nat), z20, z21]) o.length ?_ ?_ ?_ ?_
  · exact ⟨by simp [hM], by rw [get_app_lt (by omega)]; exact hgq, hz, _, _, _, _, _, _, _, _, _, _, _, _, _,  rfl⟩
  · rintro i S H' hi ⟨hl, fq, fm, z0, z2, z4, z5, z8, z11, z12, z13, z14, z15, z16, z20, z21,  rfl⟩
    exact ⟨_, by simp (disch := first | omega | (simp only [lenB]; omega)) only [evB, Sz.cells, Sz.val, Int.cast_ofNat_Int, *]; rfl, by simp⟩
  · clear hz
    rintro i S H' hi ⟨hl, fq, fm, z0, z2, z4, z5, z8, z11, z12, z13, z14, z15, z16, z20, z21,  rfl⟩
    have hs1 := negs_succ hi
    have hD := getD_any hi 0 (-1)
    have hN := hod.neg i (by omega)
    have hL := hod.lt i (by omega)
    rw [← hD] at hN hL
    have hml : ((List.range (8 * w)).map (met o i)).length = 8 * w := by simp
    have hnl : negs (o.take i) ≤ i := by
      have := negs_le (o.take i)
      have h2 : (o.take i).length ≤ i := by simp; omega
      omega
    have hol2 : o.length ≤ 40000 := by omega
    have hset : ∀ y : Nat, o.getD i 0 = y → y < 8 * w → ((List.range (8 * w)).map (met o i)).set y true = (List.range (8 * w)).map (met o (i + 1)) := fun y h1 h2 => set_met hi h1 h2
    have hmet : ∀ y : Nat, o.getD i 0 = y → met o i y = false := by
      intro y hy
      unfold met
      rw [List.any_eq_false]
      intro z hz
      simp only [decide_eq_true_eq]
      intro e
      obtain ⟨j, hj, rfl⟩ := List.getElem_of_mem hz
      have hj' : j < i := by simp at hj; omega
      rw [List.getElem_take] at e
      have hj2 : j < o.length := by omega
      have := hod.inj i j (by omega) (by omega) (by rw [← hD, hy]; omega) (by rw [← hD, hy]; rw [List.getD_eq_getElem?_getD, List.getElem?_eq_getElem hj2]; exact e.symm)
      omega
    clear hD
    have hsame := same_met (o := o) (i := i) (n := 8 * w) hi
    generalize hx : o.getD i 0 = x at *
    (try simp only [ctlB])
    repeat' (first | (refine aw_sets (by simp (disch := first | omega | (simp only [lenB]; omega)) only [evB, Sz.cells, Sz.val, Int.cast_ofNat_Int, *]; rfl) (by simp (disch := first | omega | (simp only [lenB]; omega)) only [evB, Sz.cells, Sz.val, Int.cast_ofNat_Int, *]) (by simp (disch := first | omega | (simp only [lenB]; omega)) only [evB, Sz.cells, Sz.val, Int.cast_ofNat_Int, *]; rfl) ?_; (try simp only [ctlB])) | (refine aw_op rfl (by simp (disch := first | omega | (simp only [lenB]; omega)) only [evB, Sz.cells, Sz.val, Int.cast_ofNat_Int, *]; rfl) (by simp (disch := first | omega | (simp only [lenB]; omega)) only [evB, Sz.cells, Sz.val, Int.cast_ofNat_Int, *]) (by simp (disch := first | omega | (simp only [lenB]; omega)) only [evB, Sz.cells, Sz.val, Int.cast_ofNat_Int, *]; rfl) (by simp (disch := first | omega | (simp only [lenB]; omega)) only [evB, Sz.cells, Sz.val, Int.cast_ofNat_Int, *]; rfl) (by simp (disch := first | omega | (simp only [lenB]; omega)) only [evB, Sz.cells, Sz.val, Int.cast_ofNat_Int, *]; rfl) ?_; (try simp only [ctlB])))
    by_cases hneg1 : x < 0
    · have hx1 := hN hneg1
      have hs2 : (negs (o.take (i + 1)) : Int) = negs (o.take i) + 1 := by rw [hs1, if_pos hneg1]; simp
      refine aw_cond (by simp (disch := first | omega | (simp only [lenB]; omega)) only [evB, Sz.cells, Sz.val, Int.cast_ofNat_Int, *]; rfl) (fun h => ?_) (fun h => ?_)
      · clear h
        (try simp only [ctlB])
        repeat' (first | (refine aw_sets (by simp (disch := first | omega | (simp only [lenB]; omega)) only [evB, Sz.cells, Sz.val, Int.cast_ofNat_Int, *]; rfl) (by simp (disch := first | omega | (simp only [lenB]; omega)) only [evB, Sz.cells, Sz.val, Int.cast_ofNat_Int, *]) (by simp (disch := first | omega | (simp only [lenB]; omega)) only [evB, Sz.cells, Sz.val, Int.cast_ofNat_Int, *]; rfl) ?_; (try simp only [ctlB])) | (refine aw_op rfl (by simp (disch := first | omega | (simp only [lenB]; omega)) only [evB, Sz.cells, Sz.val, Int.cast_ofNat_Int, *]; rfl) (by simp (disch := first | omega | (simp only [lenB]; omega)) only [evB, Sz.cells, Sz.val, Int.cast_ofNat_Int, *]) (by simp (disch := first | omega | (simp only [lenB]; omega)) only [evB, Sz.cells, Sz.val, Int.cast_ofNat_Int, *]; rfl) (by simp (disch := first | omega | (simp only [lenB]; omega)) only [evB, Sz.cells, Sz.val, Int.cast_ofNat_Int, *]; rfl) (by simp (disch := first | omega | (simp only [lenB]; omega)) only [evB, Sz.cells, Sz.val, Int.cast_ofNat_Int, *]; rfl) ?_; (try simp only [ctlB])))
        exact ⟨hl, fq, by rw [← hsame hneg1]; exact fm, _, _, _, _, _, _, _, _, _, _, _, _, _,  by rw [hs2]; first | rfl | (simp only [Int.natCast_add, Int.natCast_one]; rfl)⟩
      · simp [hx1] at h
    · have hs2 : negs (o.take (i + 1)) = negs (o.take i) := by rw [hs1, if_neg hneg1]; rfl
      obtain ⟨y, hy⟩ := Int.eq_ofNat_of_zero_le (show 0 ≤ x by omega)
      have hyw : y < 8 * w := by omega
      have hm := hmet y hy
      have hset := hset y hy hyw
      have hmm : ((List.range (8 * w)).map (met o i)).getD y false = false := by
        rw [List.getD_eq_getElem?_getD, List.getElem?_map, List.getElem?_range hyw]
        simpa using hm
      clear hmet hsame hN
      refine aw_cond (by simp (disch := first | omega | (simp only [lenB]; omega)) only [evB, Sz.cells, Sz.val, Int.cast_ofNat_Int, *]; rfl) (fun h => ?_) (fun h => ?_)
      · exfalso; simp at h; try omega
      clear h
      subst hy
      have n1 : ¬ (y : Int) < 0 := by omega
      have n2 : ¬ 8 * (s.d + s.k) ≤ (y : Int) := by omega
      (try simp only [ctlB])
      refine aw_cond (by simp (disch := first | omega | (simp only [lenB]; omega)) only [evB, Sz.cells, Sz.val, Int.cast_ofNat_Int, *]; rfl) (fun h => ?_) (fun h => ?_)
      · exfalso; simp at h; try omega
      clear h
      (try simp only [ctlB])
      repeat' (first | (refine aw_sets (by simp (disch := first | omega | (simp only [lenB]; omega)) only [evB, Sz.cells, Sz.val, Int.cast_ofNat_Int, *]; rfl) (by simp (disch := first | omega | (simp only [lenB]; omega)) only [evB, Sz.cells, Sz.val, Int.cast_ofNat_Int, *]) (by simp (disch := first | omega | (simp only [lenB]; omega)) only [evB, Sz.cells, Sz.val, Int.cast_ofNat_Int, *]; rfl) ?_; (try simp only [ctlB])) | (refine aw_op rfl (by simp (disch := first | omega | (simp only [lenB]; omega)) only [evB, Sz.cells, Sz.val, Int.cast_ofNat_Int, *]; rfl) (by simp (disch := first | omega | (simp only [lenB]; omega)) only [evB, Sz.cells, Sz.val, Int.cast_ofNat_Int, *]) (by simp (disch := first | omega | (simp only [lenB]; omega)) only [evB, Sz.cells, Sz.val, Int.cast_ofNat_Int, *]; rfl) (by simp (disch := first | omega | (simp only [lenB]; omega)) only [evB, Sz.cells, Sz.val, Int.cast_ofNat_Int, *]; rfl) (by simp (disch := first | omega | (simp only [lenB]; omega)) only [evB, Sz.cells, Sz.val, Int.cast_ofNat_Int, *]; rfl) ?_; (try simp only [ctlB])))
      exact ⟨by simpa using hl, by simp (disch := first | omega | (simp only [lenB]; omega)) only [evB, Sz.cells, Sz.val, Int.cast_ofNat_Int, *], by rw [get_set_self (by omega)], _, _, _, _, _, _, _, _, _, _, _, _, _,  by rw [hs2]; first | rfl | (simp only [Int.natCast_add, Int.natCast_one]; rfl)⟩
  · rintro S H' ⟨hl, fq, fm, z0, z2, z4, z5, z8, z11, z12, z13, z14, z15, z16, z20, z21,  rfl⟩
    rw [List.take_of_length_le (Nat.le_refl _)]
    (try simp only [ctlB])
    refine aw_hv_if (t := true) (by simp (disch := first | omega | (simp only [lenB]; omega)) only [evB, Sz.cells, Sz.val, Int.cast_ofNat_Int, *]; rfl) (by simp (disch := first | omega | (simp only [lenB]; omega)) only [evB, Sz.cells, Sz.val, Int.cast_ofNat_Int, *]) (by simp (disch := first | omega | (simp only [lenB]; omega)) only [evB, Sz.cells, Sz.val, Int.cast_ofNat_Int, *]; try simp) (fun _ => ⟨_, by simp (disch := first | omega | (simp only [lenB]; omega)) only [evB, Sz.cells, Sz.val, Int.cast_ofNat_Int, *]; rfl, ?_⟩) (fun h => by cases h)
    refine wpH_call0 (examples14 (by omega)) ?_
    rintro v H5 ⟨hx5, rfl⟩
    (try simp only [ctlB])
    repeat' (first | (refine aw_sets (by simp (disch := first | omega | (simp only [lenB]; omega)) only [evB, Sz.cells, Sz.val, Int.cast_ofNat_Int, *]; rfl) (by simp (disch := first | omega | (simp only [lenB]; omega)) only [evB, Sz.cells, Sz.val, Int.cast_ofNat_Int, *]) (by simp (disch := first | omega | (simp only [lenB]; omega)) only [evB, Sz.cells, Sz.val, Int.cast_ofNat_Int, *]; rfl) ?_; (try simp only [ctlB])) | (refine aw_op rfl (by simp (disch := first | omega | (simp only [lenB]; omega)) only [evB, Sz.cells, Sz.val, Int.cast_ofNat_Int, *]; rfl) (by simp (disch := first | omega | (simp only [lenB]; omega)) only [evB, Sz.cells, Sz.val, Int.cast_ofNat_Int, *]) (by simp (disch := first | omega | (simp only [lenB]; omega)) only [evB, Sz.cells, Sz.val, Int.cast_ofNat_Int, *]; rfl) (by simp (disch := first | omega | (simp only [lenB]; omega)) only [evB, Sz.cells, Sz.val, Int.cast_ofNat_Int, *]; rfl) (by simp (disch := first | omega | (simp only [lenB]; omega)) only [evB, Sz.cells, Sz.val, Int.cast_ofNat_Int, *]; rfl) ?_; (try simp only [ctlB])))
    refine body_ret (by simp only [cf6]; simp (disch := first | omega | (simp only [lenB]; omega)) only [evB, Sz.cells, Sz.val, Int.cast_ofNat_Int, *]; rfl) ?_
    first | rfl | simp
namespace dmlayoutBijection
open Go.ChangeShapes Go.WideShapes Go.ChangeAt Go.RowKit
theorem fnE (X : Type) (ds : List (DataW X)) (h : ds.length = 1) : Rows.dmlayoutBijectionSpec.fn X ds = ⟨[.lit (.bool true)], ds, []⟩ := by
  match ds, h with
  | [d1], _ => rfl
theorem lawAll (H : Heap) (vs : List Value) (h : HasArgs maxLen H [.int .u8] vs) : Ev cp H.length 6 vs H (fun v _ => v = .bool true) := by
  simp only [HasArgs, HasArg, Has] at h
  obtain ⟨a, r, rfl, ⟨n, hn, h1, h2⟩, rfl⟩ := h
  cases hn
  exact law6 n h1 h2 H
set_option maxRecDepth 100000 in
theorem lifted (os : Os) (started : os.Started) (H : Type) (enc : TypeId × Value → H) :
    ReturnsInHanded {} Try.checked os 6 .any (Rows.dmlayoutBijectionSpec.pre6 enc Try.prog Try.f6 Rows.dmlayoutBijectionRow.domain false) (Rows.dmlayoutBijectionSpec.post enc Try.prog Try.f6 false true false false) := by
  refine returnsInHanded_of_change (C := Try.checked) own started (by kernel_rfl) Try.func6
    (ChangeSpec.witness6 (enc := enc) (C := Try.checked) false ⟨#[], #[.int .u8 0], []⟩ 8 (by kernel_rfl) (by kernel_rfl) (by kernel_rfl) (by kernel_rfl)) ?_
  intro W base args ds gs before hval hW _ _
  exact law_contract (P := Try.prog) (fn := Try.f6) (s := Rows.dmlayoutBijectionSpec) okAll (d := 8) (tys := [.int .u8]) (by kernel_rfl) (by kernel_rfl) (by kernel_rfl) Try.underlying4 laidOut (by kernel_rfl) rfl fnE lawAll W (by rw [noGlobals]; omega) base args ds gs before hval hW (fun x _ => .inl (Nat.le_refl _))
theorem over : Rows.dmlayoutBijectionRow.holds Try.pinned (OpenSpec.ofChange Rows.dmlayoutBijectionSpec) :=
  OpenClaim.holds_of_wide 6 Try.f6 rfl rfl rfl rfl rfl rfl rfl ⟨rfl, rfl, rfl, rfl, rfl⟩ rfl rfl rfl rfl rfl (by kernel_rfl) Try.func6 (by kernel_rfl)
    (of_decide_eq_true (by kernel_rfl)) (by unfold Func.isWrapper; first | (rw [if_pos (by decide +kernel)]; kernel_rfl) | (rw [if_neg (by decide +kernel)]; exact ⟨rfl, rfl⟩))
    (fun os started H enc _ => lifted os started H enc)
theorem proved : Rows.DmlayoutBijectionSaid := over
#print axioms proved
end dmlayoutBijection
end Go.Proofs.Ytobfjbominbkmaa
