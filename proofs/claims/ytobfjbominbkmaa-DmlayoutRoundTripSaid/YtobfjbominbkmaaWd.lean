/-
  The walks through the assignment of modules, in the code and in the reference.
-/
import Derived.Test.YtobfjbominbkmaaWb
import Derived.Test.YtobfjbominbkmaaAbs8
namespace Go.Proofs.Ytobfjbominbkmaa
open Go.Abs
set_option linter.unusedSimpArgs false
theorem mul_bd {a b A B : Int} (h1 : -A ≤ a) (h2 : a ≤ A) (h3 : 0 ≤ b) (h4 : b ≤ B) (hA : 0 ≤ A) : -(A * B) ≤ a * b ∧ a * b ≤ A * B := by
  have e1 : a * b ≤ A * b := Int.mul_le_mul_of_nonneg_right h2 h3
  have e2 : A * b ≤ A * B := Int.mul_le_mul_of_nonneg_left h4 hA
  have e3 : -A * b ≤ a * b := Int.mul_le_mul_of_nonneg_right h1 h3
  rw [Int.neg_mul] at e3
  omega

/-- the code's filler in memory -/
structure Fil (H : Heap) (p q : Nat) (R C : Int) (g : G) : Prop where
  fp : H.get p = some [.int .i64 R, .int .i64 C, .slice (some ⟨q, 0, none⟩) g.cells.length g.cells.length, .int .i64 g.next]
  fq : H.get q = some (intL g.cells)
  ne : p ≠ q
structure Dim (R C : Int) : Prop where
  r0 : 6 ≤ R
  r1 : R ≤ 200
  c0 : 6 ≤ C
  c1 : C ≤ 200
theorem asg_some {R C : Int} {g g' : G} {r c b : Int} (h : (listOps R C).asg g r c b = some g') : -4000 ≤ r ∧ r ≤ 4000 ∧ -4000 ≤ c ∧ c ≤ 4000 ∧ 0 ≤ idxOf' R C r c ∧ idxOf' R C r c < g.cells.length ∧ 0 ≤ g.next ∧ g.next ≤ 100000 ∧ g' = ⟨g.next, g.cells.set (idxOf' R C r c).toNat (8 * g.next + b)⟩ := by
  simp only [listOps] at h
  split at h
  · rename_i hc
    simp only [okAt, inB, Bool.and_eq_true, decide_eq_true_eq] at hc
    simp at h
    refine ⟨hc.1.1.1.1.1.1, hc.1.1.1.1.1.2, hc.1.1.1.1.2, hc.1.1.1.2, hc.1.1.2, hc.1.2, hc.2.1, hc.2.2, h.symm⟩
  · simp at h
theorem tmod_bd {a : Int} {m : Int} (h : 0 ≤ a) (hm : 0 < m) : 0 ≤ a.tmod m ∧ a.tmod m < m := ⟨Int.tmod_nonneg m h, Int.tmod_lt_of_pos a hm⟩

theorem assign40 {lo : Nat} {H : Heap} {p q : Nat} {R C : Int} {g g' : G} {r c b : Int} (hd : Dim R C) (hf : Fil H p q R C g) (hlo : lo ≤ q) (hb : 0 ≤ b ∧ b ≤ 7) (h : (listOps R C).asg g r c b = some g') :
    Ev cp lo 40 [.pointer (some ⟨p, 0, none⟩), .int .i64 r, .int .i64 c, .int .i64 b] H (fun _ H' => H' = H.set q (some (intL g'.cells))) := by
  obtain ⟨b1, b2, b3, b4, b5, b6, b7, b8, rfl⟩ := asg_some h
  obtain ⟨r0, r1, c0, c1⟩ := hd
  have fp := hf.fp
  have fq := hf.fq
  have m1 := tmod_bd (a := R + 4) (m := 8) (by omega) (by omega)
  have m2 := tmod_bd (a := C + 4) (m := 8) (by omega) (by omega)
  have hql := Heap.get_lt fq
  have hl := intL_len g.cells
  refine st40 ?_; unfold bd40; (try simp only [ctlB])
  refine aw_mid (fun S' H' => H' = H ∧ S' = [.pointer (some ⟨p, 0, none⟩), .int .i64 (if r < 0 then r + R else r), .int .i64 (if r < 0 then c + (4 - (R + 4).tmod 8) else c), .int .i64 b]) ?_ ?_
  · refine aw_cond (by simp (disch := first | omega | (simp only [lenB]; omega)) only [evB, Sz.cells, Sz.val, *]; rfl) (fun h => ?_) (fun h => ?_)
    · have hr : r < 0 := by simpa using h
      (try simp only [ctlB])
      repeat' (first | (refine aw_sets (by simp (disch := first | omega | (simp only [lenB]; omega)) only [evB, Sz.cells, Sz.val, *]; rfl) (by simp (disch := first | omega | (simp only [lenB]; omega)) only [evB, Sz.cells, Sz.val, *]) (by simp (disch := first | omega | (simp only [lenB]; omega)) only [evB, Sz.cells, Sz.val, *]; rfl) ?_; (try simp only [ctlB])) | (refine aw_op rfl (by simp (disch := first | omega | (simp only [lenB]; omega)) only [evB, Sz.cells, Sz.val, *]; rfl) (by simp (disch := first | omega | (simp only [lenB]; omega)) only [evB, Sz.cells, Sz.val, *]) (by simp (disch := first | omega | (simp only [lenB]; omega)) only [evB, Sz.cells, Sz.val, *]; rfl) (by simp (disch := first | omega | (simp only [lenB]; omega)) only [evB, Sz.cells, Sz.val, *]; rfl) (by simp (disch := first | omega | (simp only [lenB]; omega)) only [evB, Sz.cells, Sz.val, *]; rfl) ?_; (try simp only [ctlB])))
      exact ⟨by trivial, by simp (disch := first | omega | (simp only [lenB]; omega)) only [evB, Sz.cells, Sz.val, *]⟩
    · have hr : ¬ r < 0 := by simpa using h
      (try simp only [ctlB])
      exact ⟨by trivial, by simp only [if_neg hr]⟩
  rintro S' H' ⟨rfl, rfl⟩
  (try simp only [ctlB])
  generalize hr1 : (if r < 0 then r + R else r) = ra
  generalize hc1 : (if r < 0 then c + (4 - (R + 4).tmod 8) else c) = ca
  have bra : -4000 ≤ ra ∧ ra ≤ 4200 := by subst hr1; split <;> omega
  have bca : -4010 ≤ ca ∧ ca ≤ 4010 := by subst hc1; split <;> omega
  refine aw_mid (fun S' H'' => H'' = H' ∧ S' = [.pointer (some ⟨p, 0, none⟩), .int .i64 (if ca < 0 then ra + (4 - (C + 4).tmod 8) else ra), .int .i64 (if ca < 0 then ca + C else ca), .int .i64 b]) ?_ ?_
  · refine aw_cond (by simp (disch := first | omega | (simp only [lenB]; omega)) only [evB, Sz.cells, Sz.val, *]; rfl) (fun h => ?_) (fun h => ?_)
    · have hr : ca < 0 := by simpa using h
      (try simp only [ctlB])
      repeat' (first | (refine aw_sets (by simp (disch := first | omega | (simp only [lenB]; omega)) only [evB, Sz.cells, Sz.val, *]; rfl) (by simp (disch := first | omega | (simp only [lenB]; omega)) only [evB, Sz.cells, Sz.val, *]) (by simp (disch := first | omega | (simp only [lenB]; omega)) only [evB, Sz.cells, Sz.val, *]; rfl) ?_; (try simp only [ctlB])) | (refine aw_op rfl (by simp (disch := first | omega | (simp only [lenB]; omega)) only [evB, Sz.cells, Sz.val, *]; rfl) (by simp (disch := first | omega | (simp only [lenB]; omega)) only [evB, Sz.cells, Sz.val, *]) (by simp (disch := first | omega | (simp only [lenB]; omega)) only [evB, Sz.cells, Sz.val, *]; rfl) (by simp (disch := first | omega | (simp only [lenB]; omega)) only [evB, Sz.cells, Sz.val, *]; rfl) (by simp (disch := first | omega | (simp only [lenB]; omega)) only [evB, Sz.cells, Sz.val, *]; rfl) ?_; (try simp only [ctlB])))
      exact ⟨by trivial, by simp (disch := first | omega | (simp only [lenB]; omega)) only [evB, Sz.cells, Sz.val, *]⟩
    · have hr : ¬ ca < 0 := by simpa using h
      (try simp only [ctlB])
      exact ⟨by trivial, by simp only [if_neg hr]⟩
  rintro S' H'' ⟨rfl, rfl⟩
  have hi : (if ca < 0 then ra + (4 - (C + 4).tmod 8) else ra) * C + (if ca < 0 then ca + C else ca) = idxOf' R C r c := by subst hr1 hc1; rfl
  generalize hr2 : (if ca < 0 then ra + (4 - (C + 4).tmod 8) else ra) = rb at *
  generalize hc2 : (if ca < 0 then ca + C else ca) = cb at *
  have brb : -4010 ≤ rb ∧ rb ≤ 4210 := by subst hr2; split <;> omega
  have bcb : -4010 ≤ cb ∧ cb ≤ 4210 := by subst hc2; split <;> omega
  have hm := mul_bd (a := rb) (b := C) (A := 5000) (B := 200) (by omega) (by omega) (by omega) c1 (by omega)
  generalize idxOf' R C r c = i at *
  repeat' (first | (refine aw_sets (by simp (disch := first | omega | (simp only [lenB]; omega)) only [evB, Sz.cells, Sz.val, *]; rfl) (by simp (disch := first | omega | (simp only [lenB]; omega)) only [evB, Sz.cells, Sz.val, *]) (by simp (disch := first | omega | (simp only [lenB]; omega)) only [evB, Sz.cells, Sz.val, *]; rfl) ?_; (try simp only [ctlB])) | (refine aw_op rfl (by simp (disch := first | omega | (simp only [lenB]; omega)) only [evB, Sz.cells, Sz.val, *]; rfl) (by simp (disch := first | omega | (simp only [lenB]; omega)) only [evB, Sz.cells, Sz.val, *]) (by simp (disch := first | omega | (simp only [lenB]; omega)) only [evB, Sz.cells, Sz.val, *]; rfl) (by simp (disch := first | omega | (simp only [lenB]; omega)) only [evB, Sz.cells, Sz.val, *]; rfl) (by simp (disch := first | omega | (simp only [lenB]; omega)) only [evB, Sz.cells, Sz.val, *]; rfl) ?_; (try simp only [ctlB])))
  refine body_normal (by simp only [cf40]; simp (disch := first | omega | (simp only [lenB]; omega)) only [evB, Sz.cells, Sz.val, *]; rfl) ?_
  rfl

theorem free42 {lo : Nat} {H : Heap} {p q : Nat} {R C : Int} {g : G} {r c : Int} (hd : Dim R C) (hf : Fil H p q R C g) (hn : (g.cells.length : Int) = R * C) :
    Ev cp lo 42 [.pointer (some ⟨p, 0, none⟩), .int .i64 r, .int .i64 c] H (fun v H' => H' = H ∧ v = .bool ((listOps R C).free g r c)) := by
  obtain ⟨r0, r1, c0, c1⟩ := hd
  have fp := hf.fp
  have fq := hf.fq
  refine st42 ?_; unfold bd42; (try simp only [ctlB])
  repeat' (first | (refine aw_sets (by simp (disch := first | omega | (simp only [lenB]; omega)) only [evB, Sz.cells, Sz.val, *]; rfl) (by simp (disch := first | omega | (simp only [lenB]; omega)) only [evB, Sz.cells, Sz.val, *]) (by simp (disch := first | omega | (simp only [lenB]; omega)) only [evB, Sz.cells, Sz.val, *]; rfl) ?_; (try simp only [ctlB])) | (refine aw_op rfl (by simp (disch := first | omega | (simp only [lenB]; omega)) only [evB, Sz.cells, Sz.val, *]; rfl) (by simp (disch := first | omega | (simp only [lenB]; omega)) only [evB, Sz.cells, Sz.val, *]) (by simp (disch := first | omega | (simp only [lenB]; omega)) only [evB, Sz.cells, Sz.val, *]; rfl) (by simp (disch := first | omega | (simp only [lenB]; omega)) only [evB, Sz.cells, Sz.val, *]; rfl) (by simp (disch := first | omega | (simp only [lenB]; omega)) only [evB, Sz.cells, Sz.val, *]; rfl) ?_; (try simp only [ctlB])))
  simp only [listOps]
  by_cases h1 : 0 ≤ r
  · by_cases h2 : r < R
    · by_cases h3 : 0 ≤ c
      · by_cases h4 : c < C
        · have hi := idx_lt h1 h2 h3 h4
          have hm := mul_bd (a := r) (b := C) (A := 200) (B := 200) (by omega) (by omega) (by omega) c1 (by omega)
          have hx : (r * C + c).toNat < g.cells.length := by omega

          repeat' (first | (refine aw_sets (by simp (disch := first | omega | (simp only [lenB]; omega)) only [evB, Sz.cells, Sz.val, *]; rfl) (by simp (disch := first | omega | (simp only [lenB]; omega)) only [evB, Sz.cells, Sz.val, *]) (by simp (disch := first | omega | (simp only [lenB]; omega)) only [evB, Sz.cells, Sz.val, *]; rfl) ?_; (try simp only [ctlB])) | (refine aw_op rfl (by simp (disch := first | omega | (simp only [lenB]; omega)) only [evB, Sz.cells, Sz.val, *]; rfl) (by simp (disch := first | omega | (simp only [lenB]; omega)) only [evB, Sz.cells, Sz.val, *]) (by simp (disch := first | omega | (simp only [lenB]; omega)) only [evB, Sz.cells, Sz.val, *]; rfl) (by simp (disch := first | omega | (simp only [lenB]; omega)) only [evB, Sz.cells, Sz.val, *]; rfl) (by simp (disch := first | omega | (simp only [lenB]; omega)) only [evB, Sz.cells, Sz.val, *]; rfl) ?_; (try simp only [ctlB])))
          refine body_ret (by simp only [cf42]; simp (disch := first | omega | (simp only [lenB]; omega)) only [evB, Sz.cells, Sz.val, *]; rfl) ?_
          refine ⟨rfl, ?_⟩
          simp [resultOf, h1, h2, h3, h4]
        · repeat' (first | (refine aw_sets (by simp (disch := first | omega | (simp only [lenB]; omega)) only [evB, Sz.cells, Sz.val, *]; rfl) (by simp (disch := first | omega | (simp only [lenB]; omega)) only [evB, Sz.cells, Sz.val, *]) (by simp (disch := first | omega | (simp only [lenB]; omega)) only [evB, Sz.cells, Sz.val, *]; rfl) ?_; (try simp only [ctlB])) | (refine aw_op rfl (by simp (disch := first | omega | (simp only [lenB]; omega)) only [evB, Sz.cells, Sz.val, *]; rfl) (by simp (disch := first | omega | (simp only [lenB]; omega)) only [evB, Sz.cells, Sz.val, *]) (by simp (disch := first | omega | (simp only [lenB]; omega)) only [evB, Sz.cells, Sz.val, *]; rfl) (by simp (disch := first | omega | (simp only [lenB]; omega)) only [evB, Sz.cells, Sz.val, *]; rfl) (by simp (disch := first | omega | (simp only [lenB]; omega)) only [evB, Sz.cells, Sz.val, *]; rfl) ?_; (try simp only [ctlB])))
          refine body_ret (by simp only [cf42]; simp (disch := first | omega | (simp only [lenB]; omega)) only [evB, Sz.cells, Sz.val, *]; rfl) ?_
          refine ⟨rfl, ?_⟩
          simp [resultOf, h1, h2, h3, h4]
      · repeat' (first | (refine aw_sets (by simp (disch := first | omega | (simp only [lenB]; omega)) only [evB, Sz.cells, Sz.val, *]; rfl) (by simp (disch := first | omega | (simp only [lenB]; omega)) only [evB, Sz.cells, Sz.val, *]) (by simp (disch := first | omega | (simp only [lenB]; omega)) only [evB, Sz.cells, Sz.val, *]; rfl) ?_; (try simp only [ctlB])) | (refine aw_op rfl (by simp (disch := first | omega | (simp only [lenB]; omega)) only [evB, Sz.cells, Sz.val, *]; rfl) (by simp (disch := first | omega | (simp only [lenB]; omega)) only [evB, Sz.cells, Sz.val, *]) (by simp (disch := first | omega | (simp only [lenB]; omega)) only [evB, Sz.cells, Sz.val, *]; rfl) (by simp (disch := first | omega | (simp only [lenB]; omega)) only [evB, Sz.cells, Sz.val, *]; rfl) (by simp (disch := first | omega | (simp only [lenB]; omega)) only [evB, Sz.cells, Sz.val, *]; rfl) ?_; (try simp only [ctlB])))
        refine body_ret (by simp only [cf42]; simp (disch := first | omega | (simp only [lenB]; omega)) only [evB, Sz.cells, Sz.val, *]; rfl) ?_
        refine ⟨rfl, ?_⟩
        simp [resultOf, h1, h2, h3]
    · repeat' (first | (refine aw_sets (by simp (disch := first | omega | (simp only [lenB]; omega)) only [evB, Sz.cells, Sz.val, *]; rfl) (by simp (disch := first | omega | (simp only [lenB]; omega)) only [evB, Sz.cells, Sz.val, *]) (by simp (disch := first | omega | (simp only [lenB]; omega)) only [evB, Sz.cells, Sz.val, *]; rfl) ?_; (try simp only [ctlB])) | (refine aw_op rfl (by simp (disch := first | omega | (simp only [lenB]; omega)) only [evB, Sz.cells, Sz.val, *]; rfl) (by simp (disch := first | omega | (simp only [lenB]; omega)) only [evB, Sz.cells, Sz.val, *]) (by simp (disch := first | omega | (simp only [lenB]; omega)) only [evB, Sz.cells, Sz.val, *]; rfl) (by simp (disch := first | omega | (simp only [lenB]; omega)) only [evB, Sz.cells, Sz.val, *]; rfl) (by simp (disch := first | omega | (simp only [lenB]; omega)) only [evB, Sz.cells, Sz.val, *]; rfl) ?_; (try simp only [ctlB])))
      refine body_ret (by simp only [cf42]; simp (disch := first | omega | (simp only [lenB]; omega)) only [evB, Sz.cells, Sz.val, *]; rfl) ?_
      refine ⟨rfl, ?_⟩
      simp [resultOf, h1, h2]
  · repeat' (first | (refine aw_sets (by simp (disch := first | omega | (simp only [lenB]; omega)) only [evB, Sz.cells, Sz.val, *]; rfl) (by simp (disch := first | omega | (simp only [lenB]; omega)) only [evB, Sz.cells, Sz.val, *]) (by simp (disch := first | omega | (simp only [lenB]; omega)) only [evB, Sz.cells, Sz.val, *]; rfl) ?_; (try simp only [ctlB])) | (refine aw_op rfl (by simp (disch := first | omega | (simp only [lenB]; omega)) only [evB, Sz.cells, Sz.val, *]; rfl) (by simp (disch := first | omega | (simp only [lenB]; omega)) only [evB, Sz.cells, Sz.val, *]) (by simp (disch := first | omega | (simp only [lenB]; omega)) only [evB, Sz.cells, Sz.val, *]; rfl) (by simp (disch := first | omega | (simp only [lenB]; omega)) only [evB, Sz.cells, Sz.val, *]; rfl) (by simp (disch := first | omega | (simp only [lenB]; omega)) only [evB, Sz.cells, Sz.val, *]; rfl) ?_; (try simp only [ctlB])))
    refine body_ret (by simp only [cf42]; simp (disch := first | omega | (simp only [lenB]; omega)) only [evB, Sz.cells, Sz.val, *]; rfl) ?_
    refine ⟨rfl, ?_⟩
    simp [resultOf, h1]

/-- what changed: two blocks at the most, and new ones -/
structure Ch (p q : Nat) (H H' : Heap) : Prop where
  len : H.length ≤ H'.length
  get : ∀ i, i < H.length → i ≠ p → i ≠ q → H'.get i = H.get i
theorem Ch.refl {p q : Nat} (H : Heap) : Ch p q H H := ⟨Nat.le_refl _, fun _ _ _ _ => rfl⟩
theorem Ch.trans {p q : Nat} {A B C : Heap} (h : Ch p q A B) (k : Ch p q B C) : Ch p q A C := ⟨Nat.le_trans h.len k.len, fun i hi h1 h2 => (k.get i (Nat.lt_of_lt_of_le hi h.len) h1 h2).trans (h.get i hi h1 h2)⟩
theorem Ch.app {p q : Nat} (H L : Heap) : Ch p q H (H ++ L) := ⟨by simp, fun _ h _ _ => get_app_lt h⟩
theorem Ch.setq {p q : Nat} (H : Heap) (x : Option (List Value)) : Ch p q H (H.set q x) := ⟨by simp, fun i _ _ h => get_set_ne (fun e => h e.symm)⟩
theorem Ch.setp {p q : Nat} (H : Heap) (x : Option (List Value)) : Ch p q H (H.set p x) := ⟨by simp, fun i _ h _ => get_set_ne (fun e => h e.symm)⟩
def pairsV (l : List (Int × Int)) : List Value := l.flatMap fun p => [.int .i64 p.1, .int .i64 p.2]
theorem pairs_at (l : List (Int × Int)) : ∀ (k : Nat), k < l.length → ((pairsV l).drop (k * 2)).take 2 = [.int .i64 (l.getD k (0, 0)).1, .int .i64 (l.getD k (0, 0)).2] := by
  induction l with
  | nil => intro i h; simp at h
  | cons s l ih =>
    intro i h
    cases i with
    | zero => simp [pairsV]
    | succ i =>
      have := ih i (by simpa using h)
      have e : pairsV (s :: l) = .int .i64 s.1 :: .int .i64 s.2 :: pairsV l := rfl
      rw [e, Nat.succ_mul, List.drop_succ_cons, List.drop_succ_cons]
      simpa using this
theorem pairs_len (l : List (Int × Int)) : (pairsV l).length = l.length * 2 := by
  induction l with
  | nil => rfl
  | cons s l ih => simp only [pairsV, List.flatMap_cons, List.length_append, List.length_cons, List.length_nil] at ih ⊢; omega
theorem pairs_ext {l : List (Int × Int)} {k : Nat} (h : k < l.length) : (pairsV l).toArray.extract (k * 2) (k * 2 + 2) = #[.int .i64 (l.getD k (0, 0)).1, .int .i64 (l.getD k (0, 0)).2] := by
  rw [List.extract_toArray, List.extract_eq_take_drop, show k * 2 + 2 - k * 2 = 2 by omega, pairs_at l k h]
theorem drop_cons_getD {l : List (Int × Int)} {k : Nat} (h : k < l.length) : l.drop k = l.getD k (0, 0) :: l.drop (k + 1) := by
  rw [List.drop_eq_getElem_cons h]
  simp [List.getD, List.getElem?_eq_getElem h]
theorem asg_len {R C : Int} {g g' : G} {r c b : Int} (h : (listOps R C).asg g r c b = some g') : g'.cells.length = g.cells.length ∧ g'.next = g.next := by
  obtain ⟨_, _, _, _, _, _, _, _, rfl⟩ := asg_some h; simp
theorem Fil.mono {H H' : Heap} {p q : Nat} {R C : Int} {g : G} (h : Fil H p q R C g) (e : Ext H H') : Fil H' p q R C g := ⟨e.get h.fp, e.get h.fq, h.ne⟩
theorem Fil.setq {H : Heap} {p q : Nat} {R C : Int} {g g' : G} (h : Fil H p q R C g) (hl : g'.cells.length = g.cells.length) (hn : g'.next = g.next) : Fil (H.set q (some (intL g'.cells))) p q R C g' :=
  ⟨by rw [get_set_ne (fun e => h.ne e.symm), h.fp, hl, hn], by rw [get_set_self (Heap.get_lt h.fq)], h.ne⟩
theorem go_next {R C : Int} : ∀ {l : List (Int × Int)} {g g' : G} {b : Int}, goG (listOps R C) g l b = some g' → g'.cells.length = g.cells.length ∧ g'.next = g.next ∧ (l ≠ [] → 0 ≤ g.next ∧ g.next ≤ 100000)
  | [], g, g', b, h => by simp only [goG] at h; cases h; exact ⟨rfl, rfl, fun h => absurd rfl h⟩
  | p :: l, g, g', b, h => by
    simp only [goG] at h
    split at h
    · rename_i g1 h1
      have h2 := asg_len h1
      have h3 := asg_some h1
      obtain ⟨e1, e2, _⟩ := go_next h
      exact ⟨e1.trans h2.1, e2.trans h2.2, fun _ => ⟨h3.2.2.2.2.2.2.1, h3.2.2.2.2.2.2.2.1⟩⟩
    · simp at h
theorem each48 {lo : Nat} {H : Heap} {p q : Nat} {R C : Int} {g g' : G} {l : List (Int × Int)} (hl8 : l.length = 8) (hd : Dim R C) (hf : Fil H p q R C g) (hlp : lo ≤ p) (hlo : lo ≤ q) (h : eachG (listOps R C) g l = some g') :
    Ev cp lo 48 [.pointer (some ⟨p, 0, none⟩), .agg (pairsV l).toArray, .func (.func 40) #[.pointer (some ⟨p, 0, none⟩)] #[]] H (fun _ H' => Fil H' p q R C g' ∧ Ch p q H H') := by
  unfold eachG at h
  split at h
  · rename_i g2 hg
    cases h
    have hpl := Heap.get_lt hf.fp
    have hql := Heap.get_lt hf.fq
    have hpv := pairs_len l
    rw [hl8] at hpv
    refine st48 ?_; unfold bd48; (try simp only [ctlB])
    repeat' (first | (refine aw_sets (by simp (disch := first | omega | (simp only [lenB]; omega)) only [evB, Sz.cells, Sz.val, *]; rfl) (by simp (disch := first | omega | (simp only [lenB]; omega)) only [evB, Sz.cells, Sz.val, *]) (by simp (disch := first | omega | (simp only [lenB]; omega)) only [evB, Sz.cells, Sz.val, *]; rfl) ?_; (try simp only [ctlB])) | (refine aw_op rfl (by simp (disch := first | omega | (simp only [lenB]; omega)) only [evB, Sz.cells, Sz.val, *]; rfl) (by simp (disch := first | omega | (simp only [lenB]; omega)) only [evB, Sz.cells, Sz.val, *]) (by simp (disch := first | omega | (simp only [lenB]; omega)) only [evB, Sz.cells, Sz.val, *]; rfl) (by simp (disch := first | omega | (simp only [lenB]; omega)) only [evB, Sz.cells, Sz.val, *]; rfl) (by simp (disch := first | omega | (simp only [lenB]; omega)) only [evB, Sz.cells, Sz.val, *]; rfl) ?_; (try simp only [ctlB])))
    refine aw_loop' (fun m S H' => ∃ (k : Nat) (x y z w : Value) (g1 : G), k ≤ 8 ∧ m = 8 - k ∧ S = [.pointer (some ⟨p, 0, none⟩), .agg (pairsV l).toArray, .func (.func 40) #[.pointer (some ⟨p, 0, none⟩)] #[], .pointer (some ⟨H.length, 0, none⟩), x, y, .agg (pairsV l).toArray, .int .i64 k, z, w] ∧ Fil H' p q R C g1 ∧ Ch p q H H' ∧ goG (listOps R C) g1 (l.drop k) k = some g2) 8 ?_ ?_
    · exact ⟨0, _, _, _, _, g, by omega, by omega, by rw [List.take_of_length_le (by omega)]; rfl, hf.mono (Ext.app _ _), Ch.app _ _, by simpa using hg⟩
    rintro m S H1 ⟨k, x, y, z, w, g1, hk, rfl, rfl, hf1, hch, hgo⟩
    have hlen1 := hch.len
    (try simp only [ctlB])
    refine aw_cond (by simp (disch := first | omega | (simp only [lenB]; omega)) only [evB, Sz.cells, Sz.val, *]; rfl) (fun h => ?_) (fun h => ?_)
    · have hk8 : k < 8 := by simp at h; omega
      have he := pairs_ext (l := l) (k := k) (by omega)
      have hsz : (pairsV l).toArray.size = 16 := by simp [hpv]
      rw [drop_cons_getD (by omega)] at hgo
      simp only [goG] at hgo
      split at hgo
      · rename_i g3 ha
        (try simp only [ctlB])
        repeat' (first | (refine aw_sets (by simp (disch := first | omega | (simp only [lenB]; omega)) only [evB, Sz.cells, Sz.val, *]; rfl) (by simp (disch := first | omega | (simp only [lenB]; omega)) only [evB, Sz.cells, Sz.val, *]) (by simp (disch := first | omega | (simp only [lenB]; omega)) only [evB, Sz.cells, Sz.val, *]; rfl) ?_; (try simp only [ctlB])) | (refine aw_op rfl (by simp (disch := first | omega | (simp only [lenB]; omega)) only [evB, Sz.cells, Sz.val, *]; rfl) (by simp (disch := first | omega | (simp only [lenB]; omega)) only [evB, Sz.cells, Sz.val, *]) (by simp (disch := first | omega | (simp only [lenB]; omega)) only [evB, Sz.cells, Sz.val, *]; rfl) (by simp (disch := first | omega | (simp only [lenB]; omega)) only [evB, Sz.cells, Sz.val, *]; rfl) (by simp (disch := first | omega | (simp only [lenB]; omega)) only [evB, Sz.cells, Sz.val, *]; rfl) ?_; (try simp only [ctlB])))
        refine aw_hv (by simp (disch := first | omega | (simp only [lenB]; omega)) only [evB, Sz.cells, Sz.val, *]; rfl) (by simp (disch := first | omega | (simp only [lenB]; omega)) only [evB, Sz.cells, Sz.val, *]) (by simp (disch := first | omega | (simp only [lenB]; omega)) only [evB, Sz.cells, Sz.val, *]; rfl) ?_
        refine wpH_call0 (assign40 (q := q) hd (hf1.mono (Ext.app _ _)) hlo (by omega) ha) ?_
        rintro v H2 rfl
        (try simp only [ctlB])
        repeat' (first | (refine aw_sets (by simp (disch := first | omega | (simp only [lenB]; omega)) only [evB, Sz.cells, Sz.val, *]; rfl) (by simp (disch := first | omega | (simp only [lenB]; omega)) only [evB, Sz.cells, Sz.val, *]) (by simp (disch := first | omega | (simp only [lenB]; omega)) only [evB, Sz.cells, Sz.val, *]; rfl) ?_; (try simp only [ctlB])) | (refine aw_op rfl (by simp (disch := first | omega | (simp only [lenB]; omega)) only [evB, Sz.cells, Sz.val, *]; rfl) (by simp (disch := first | omega | (simp only [lenB]; omega)) only [evB, Sz.cells, Sz.val, *]) (by simp (disch := first | omega | (simp only [lenB]; omega)) only [evB, Sz.cells, Sz.val, *]; rfl) (by simp (disch := first | omega | (simp only [lenB]; omega)) only [evB, Sz.cells, Sz.val, *]; rfl) (by simp (disch := first | omega | (simp only [lenB]; omega)) only [evB, Sz.cells, Sz.val, *]; rfl) ?_; (try simp only [ctlB])))
        simp only [loopQ_n]
        have hlq := asg_len ha
        refine ⟨8 - (k + 1), by omega, k + 1, _, _, _, _, g3, by omega, rfl, by simp only [Int.natCast_add, Int.natCast_one]; rfl, (hf1.mono (Ext.app _ _)).setq hlq.1 hlq.2, (hch.trans (Ch.app _ _)).trans (Ch.setq _ _), by simpa using hgo⟩
      · simp at hgo
    · have hk8 : k = 8 := by simp at h; omega
      subst hk8
      rw [List.drop_of_length_le (by omega)] at hgo
      simp only [goG] at hgo
      cases hgo
      have fp := hf1.fp
      have hplen := Heap.get_lt fp
      have hnx := go_next hg
      have hnb := hnx.2.2 (by intro e; rw [e] at hl8; simp at hl8)
      rw [← hnx.2.1] at hnb
      clear hnx
      (try simp only [ctlB])
      repeat' (first | (refine aw_sets (by simp (disch := first | omega | (simp only [lenB]; omega)) only [evB, Sz.cells, Sz.val, *]; rfl) (by simp (disch := first | omega | (simp only [lenB]; omega)) only [evB, Sz.cells, Sz.val, *]) (by simp (disch := first | omega | (simp only [lenB]; omega)) only [evB, Sz.cells, Sz.val, *]; rfl) ?_; (try simp only [ctlB])) | (refine aw_op rfl (by simp (disch := first | omega | (simp only [lenB]; omega)) only [evB, Sz.cells, Sz.val, *]; rfl) (by simp (disch := first | omega | (simp only [lenB]; omega)) only [evB, Sz.cells, Sz.val, *]) (by simp (disch := first | omega | (simp only [lenB]; omega)) only [evB, Sz.cells, Sz.val, *]; rfl) (by simp (disch := first | omega | (simp only [lenB]; omega)) only [evB, Sz.cells, Sz.val, *]; rfl) (by simp (disch := first | omega | (simp only [lenB]; omega)) only [evB, Sz.cells, Sz.val, *]; rfl) ?_; (try simp only [ctlB])))
      refine body_normal (by simp only [cf48]; simp (disch := first | omega | (simp only [lenB]; omega)) only [evB, Sz.cells, Sz.val, *]; rfl) ?_
      refine ⟨⟨by rw [get_set_self hplen]; rfl, by rw [get_set_ne hf1.ne]; exact hf1.fq, hf1.ne⟩, hch.trans (Ch.setp _ _)⟩
  · simp at h

theorem each48' {lo : Nat} {H : Heap} {p q : Nat} {R C : Int} {g g' : G} {arr : Array Value} (l : List (Int × Int)) (ha : arr = (pairsV l).toArray) (hl8 : l.length = 8) (hd : Dim R C) (hf : Fil H p q R C g) (hlp : lo ≤ p) (hlo : lo ≤ q) (h : eachG (listOps R C) g l = some g') :
    Ev cp lo 48 [.pointer (some ⟨p, 0, none⟩), .agg arr, .func (.func 40) #[.pointer (some ⟨p, 0, none⟩)] #[]] H (fun _ H' => Fil H' p q R C g' ∧ Ch p q H H') := by
  subst ha; exact each48 hl8 hd hf hlp hlo h
theorem inB_some {r c : Int} (h : inB r c = true) : -4000 ≤ r ∧ r ≤ 4000 ∧ -4000 ≤ c ∧ c ≤ 4000 := by
  simp only [inB, Bool.and_eq_true, decide_eq_true_eq] at h; omega
theorem place43 {lo : Nat} {H : Heap} {p q : Nat} {R C : Int} {g g' : G} {r c : Int} (hb : inB r c = true) (hd : Dim R C) (hf : Fil H p q R C g) (hlp : lo ≤ p) (hlo : lo ≤ q) (h : eachG (listOps R C) g (pl r c) = some g') :
    Ev cp lo 43 [.pointer (some ⟨p, 0, none⟩), .int .i64 r, .int .i64 c, .func (.func 40) #[.pointer (some ⟨p, 0, none⟩)] #[]] H (fun _ H' => Fil H' p q R C g' ∧ Ch p q H H') := by
  obtain ⟨b1, b2, b3, b4⟩ := inB_some hb
  refine st43 ?_; unfold bd43; (try simp only [ctlB])
  refine aw_hv (by simp (disch := first | omega | (simp only [lenB]; omega)) only [evB, Sz.cells, Sz.val, *]; rfl) (by simp (disch := first | omega | (simp only [lenB]; omega)) only [evB, Sz.cells, Sz.val, *]) (by simp (disch := first | omega | (simp only [lenB]; omega)) only [evB, Sz.cells, Sz.val, *]; rfl) ?_
  refine wpH_call0 (each48' (pl r c) (by simp only [pairsV, pl, List.flatMap_cons, List.flatMap_nil, List.cons_append, List.nil_append]) rfl hd hf hlp hlo h) ?_
  rintro v H2 hh
  refine body_normal (by simp only [cf43]; simp (disch := first | omega | (simp only [lenB]; omega)) only [evB, Sz.cells, Sz.val, *]; rfl) ?_
  exact hh
set_option maxHeartbeats 4000000 in
theorem corners41 {lo : Nat} {H : Heap} {p q : Nat} {R C : Int} {g g' : G} {r c : Int} (hd : Dim R C) (hf : Fil H p q R C g) (hlp : lo ≤ p) (hlo : lo ≤ q) (h : cornersG (listOps R C) R C g r c = some g') :
    Ev cp lo 41 [.pointer (some ⟨p, 0, none⟩), .int .i64 r, .int .i64 c, .func (.func 40) #[.pointer (some ⟨p, 0, none⟩)] #[]] H (fun _ H' => Fil H' p q R C g' ∧ Ch p q H H') := by
  have hd' := hd
  obtain ⟨r0, r1, c0, c1⟩ := hd'
  have fp := hf.fp
  unfold cornersG at h
  split at h
  · simp at h
  rename_i ga ha
  split at h
  · simp at h
  rename_i gb hb
  split at h
  · simp at h
  rename_i gc hc
  have hlast := h
  clear h
  refine st41 ?_; unfold bd41; (try simp only [ctlB])
  repeat' (first | (refine aw_sets (by simp (disch := first | omega | (simp only [lenB]; omega)) only [evB, Sz.cells, Sz.val, *]; rfl) (by simp (disch := first | omega | (simp only [lenB]; omega)) only [evB, Sz.cells, Sz.val, *]) (by simp (disch := first | omega | (simp only [lenB]; omega)) only [evB, Sz.cells, Sz.val, *]; rfl) ?_; (try simp only [ctlB])) | (refine aw_op rfl (by simp (disch := first | omega | (simp only [lenB]; omega)) only [evB, Sz.cells, Sz.val, *]; rfl) (by simp (disch := first | omega | (simp only [lenB]; omega)) only [evB, Sz.cells, Sz.val, *]) (by simp (disch := first | omega | (simp only [lenB]; omega)) only [evB, Sz.cells, Sz.val, *]; rfl) (by simp (disch := first | omega | (simp only [lenB]; omega)) only [evB, Sz.cells, Sz.val, *]; rfl) (by simp (disch := first | omega | (simp only [lenB]; omega)) only [evB, Sz.cells, Sz.val, *]; rfl) ?_; (try simp only [ctlB])))
  clear fp
  refine aw_mid (fun S' H' => S' = [.pointer (some ⟨p, 0, none⟩), .int .i64 r, .int .i64 c, .func (.func 40) #[.pointer (some ⟨p, 0, none⟩)] #[], .int .i64 R, .int .i64 C] ∧ Fil H' p q R C ga ∧ Ch p q H H') ?_ ?_
  · refine aw_cond (by simp (disch := first | omega | (simp only [lenB]; omega)) only [evB, Sz.cells, Sz.val, *]; rfl) (fun h => ?_) (fun h => ?_)
    · have e : k1 R r c = true := h
      rw [e] at ha
      (try simp only [ctlB])
      refine aw_hv (by simp (disch := first | omega | (simp only [lenB]; omega)) only [evB, Sz.cells, Sz.val, *]; rfl) (by simp (disch := first | omega | (simp only [lenB]; omega)) only [evB, Sz.cells, Sz.val, *]) (by simp (disch := first | omega | (simp only [lenB]; omega)) only [evB, Sz.cells, Sz.val, *]; rfl) ?_
      refine wpH_call0 (each48' (Ytobfjbominbkmaa.c1 R C) (by simp only [pairsV, Ytobfjbominbkmaa.c1, List.flatMap_cons, List.flatMap_nil, List.cons_append, List.nil_append]) rfl hd hf hlp hlo ha) ?_
      rintro v H2 hh
      (try simp only [ctlB])
      exact ⟨by trivial, hh⟩
    · have e : k1 R r c = false := h
      rw [e] at ha
      cases ha
      (try simp only [ctlB])
      exact ⟨by trivial, hf, Ch.refl _⟩
  rintro S' H1 ⟨rfl, hf1, hc1⟩
  (try simp only [ctlB])
  refine aw_mid (fun S' H' => S' = [.pointer (some ⟨p, 0, none⟩), .int .i64 r, .int .i64 c, .func (.func 40) #[.pointer (some ⟨p, 0, none⟩)] #[], .int .i64 R, .int .i64 C] ∧ Fil H' p q R C gb ∧ Ch p q H H') ?_ ?_
  · refine aw_cond (by simp (disch := first | omega | (simp only [lenB]; omega)) only [evB, Sz.cells, Sz.val, *]; rfl) (fun h => ?_) (fun h => ?_)
    · have e : k2 R C r c = true := h
      rw [e] at hb
      (try simp only [ctlB])
      refine aw_hv (by simp (disch := first | omega | (simp only [lenB]; omega)) only [evB, Sz.cells, Sz.val, *]; rfl) (by simp (disch := first | omega | (simp only [lenB]; omega)) only [evB, Sz.cells, Sz.val, *]) (by simp (disch := first | omega | (simp only [lenB]; omega)) only [evB, Sz.cells, Sz.val, *]; rfl) ?_
      refine wpH_call0 (each48' (Ytobfjbominbkmaa.c2 R C) (by simp only [pairsV, Ytobfjbominbkmaa.c2, List.flatMap_cons, List.flatMap_nil, List.cons_append, List.nil_append]) rfl hd hf1 hlp hlo hb) ?_
      rintro v H2 hh
      (try simp only [ctlB])
      exact ⟨by trivial, hh.1, hc1.trans hh.2⟩
    · have e : k2 R C r c = false := h
      rw [e] at hb
      cases hb
      (try simp only [ctlB])
      exact ⟨by trivial, hf1, hc1⟩
  rintro S' H2 ⟨rfl, hf2, hc2⟩
  (try simp only [ctlB])
  refine aw_mid (fun S' H' => S' = [.pointer (some ⟨p, 0, none⟩), .int .i64 r, .int .i64 c, .func (.func 40) #[.pointer (some ⟨p, 0, none⟩)] #[], .int .i64 R, .int .i64 C] ∧ Fil H' p q R C gc ∧ Ch p q H H') ?_ ?_
  · refine aw_cond (by simp (disch := first | omega | (simp only [lenB]; omega)) only [evB, Sz.cells, Sz.val, *]; rfl) (fun h => ?_) (fun h => ?_)
    · have e : k3 R C r c = true := h
      rw [e] at hc
      (try simp only [ctlB])
      refine aw_hv (by simp (disch := first | omega | (simp only [lenB]; omega)) only [evB, Sz.cells, Sz.val, *]; rfl) (by simp (disch := first | omega | (simp only [lenB]; omega)) only [evB, Sz.cells, Sz.val, *]) (by simp (disch := first | omega | (simp only [lenB]; omega)) only [evB, Sz.cells, Sz.val, *]; rfl) ?_
      refine wpH_call0 (each48' (Ytobfjbominbkmaa.c3 R C) (by simp only [pairsV, Ytobfjbominbkmaa.c3, List.flatMap_cons, List.flatMap_nil, List.cons_append, List.nil_append]) rfl hd hf2 hlp hlo hc) ?_
      rintro v H2 hh
      (try simp only [ctlB])
      exact ⟨by trivial, hh.1, hc2.trans hh.2⟩
    · have e : k3 R C r c = false := h
      rw [e] at hc
      cases hc
      (try simp only [ctlB])
      exact ⟨by trivial, hf2, hc2⟩
  rintro S' H3 ⟨rfl, hf3, hc3⟩
  (try simp only [ctlB])
  refine aw_cond (by simp (disch := first | omega | (simp only [lenB]; omega)) only [evB, Sz.cells, Sz.val, *]; rfl) (fun h => ?_) (fun h => ?_)
  · have e : k4 R C r c = true := h
    rw [e] at hlast
    (try simp only [ctlB])
    refine aw_hv (by simp (disch := first | omega | (simp only [lenB]; omega)) only [evB, Sz.cells, Sz.val, *]; rfl) (by simp (disch := first | omega | (simp only [lenB]; omega)) only [evB, Sz.cells, Sz.val, *]) (by simp (disch := first | omega | (simp only [lenB]; omega)) only [evB, Sz.cells, Sz.val, *]; rfl) ?_
    refine wpH_call0 (each48' (Ytobfjbominbkmaa.c4 R C) (by simp only [pairsV, Ytobfjbominbkmaa.c4, List.flatMap_cons, List.flatMap_nil, List.cons_append, List.nil_append]) rfl hd hf3 hlp hlo hlast) ?_
    rintro v H2 hh
    (try simp only [ctlB])
    refine body_normal (by simp only [cf41]; simp (disch := first | omega | (simp only [lenB]; omega)) only [evB, Sz.cells, Sz.val, *]; rfl) ?_
    exact ⟨hh.1, hc3.trans hh.2⟩
  · have e : k4 R C r c = false := h
    rw [e] at hlast
    cases hlast
    (try simp only [ctlB])
    refine body_normal (by simp only [cf41]; simp (disch := first | omega | (simp only [lenB]; omega)) only [evB, Sz.cells, Sz.val, *]; rfl) ?_
    exact ⟨hf3, hc3⟩
end Go.Proofs.Ytobfjbominbkmaa
