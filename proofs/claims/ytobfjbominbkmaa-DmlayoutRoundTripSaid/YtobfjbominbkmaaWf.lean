/-
  The order that the reference makes.
-/
import Derived.Test.YtobfjbominbkmaaWe
namespace Go.Proofs.Ytobfjbominbkmaa
open Go.Abs
set_option linter.unusedSimpArgs false
/-- the reference's grid in memory -/
structure Grd (H : Heap) (p q : Nat) (R C : Int) (g : G) : Prop where
  fp : H.get p = some [.int .i64 R, .int .i64 C, .int .i64 g.next, .slice (some ⟨q, 0, some 1⟩) g.cells.length g.cells.length]
  fq : H.get q = some (intL g.cells)
  ne : p ≠ q
theorem Grd.mono {H H' : Heap} {p q : Nat} {R C : Int} {g : G} (h : Grd H p q R C g) (e : Ext H H') : Grd H' p q R C g := ⟨e.get h.fp, e.get h.fq, h.ne⟩
theorem Grd.setq {H : Heap} {p q : Nat} {R C : Int} {g g' : G} (h : Grd H p q R C g) (hl : g'.cells.length = g.cells.length) (hn : g'.next = g.next) : Grd (H.set q (some (intL g'.cells))) p q R C g' :=
  ⟨by rw [get_set_ne (fun e => h.ne e.symm), h.fp, hl, hn], by rw [get_set_self (Heap.get_lt h.fq)], h.ne⟩
theorem assign52 {lo : Nat} {H : Heap} {p q : Nat} {R C : Int} {g g' : G} {r c b : Int} (hd : Dim R C) (hf : Grd H p q R C g) (hlo : lo ≤ q) (hb : 0 ≤ b ∧ b ≤ 7) (h : (listOps R C).asg g r c b = some g') :
    Ev cp lo 52 [.pointer (some ⟨p, 0, none⟩), .int .i64 r, .int .i64 c, .int .i64 b] H (fun _ H' => H' = H.set q (some (intL g'.cells))) := by
  obtain ⟨b1, b2, b3, b4, b5, b6, b7, b8, rfl⟩ := asg_some h
  obtain ⟨r0, r1, c0, c1⟩ := hd
  have fp := hf.fp
  have fq := hf.fq
  have m1 := tmod_bd (a := R + 4) (m := 8) (by omega) (by omega)
  have m2 := tmod_bd (a := C + 4) (m := 8) (by omega) (by omega)
  have hql := Heap.get_lt fq
  have hl := intL_len g.cells
  refine st52 ?_; unfold bd52; (try simp only [ctlB])
  refine aw_mid (fun S' H' => H' = H ∧ S' = [.pointer (some ⟨p, 0, none⟩), .int .i64 (if r < 0 then r + R else r), .int .i64 (if r < 0 then c + (4 - (R + 4).tmod 8) else c), .int .i64 b]) ?_ ?_
  · refine aw_cond (by simp (disch := first | omega | (simp only [lenB]; omega)) only [evB, Sz.cells, Sz.val, *]; rfl) (fun h => ?_) (fun h => ?_)
    · have hr : r < 0 := by simpa using h
      (try simp only [ctlB])
      repeat' (first | (refine aw_sets (by simp (disch := first | omega | (simp only [lenB]; omega)) only [evB, Sz.cells, Sz.val, *]; rfl) (by simp (disch := first | omega | (simp only [lenB]; omega)) only [evB, Sz.cells, Sz.val, *]) (by simp (disch := first | omega | (simp only [lenB]; omega)) only [evB, Sz.cells, Sz.val, *]; rfl) ?_; (try simp only [ctlB])) | (refine aw_op rfl (by simp (disch := first | omega | (simp only [lenB]; omega)) only [evB, Sz.cells, Sz.val, *]; rfl) (by simp (disch := first | omega | (simp only [lenB]; omega)) only [evB, Sz.cells, Sz.val, *]) (by simp (disch := first | omega | (simp only [lenB]; omega)) only [evB, Sz.cells, Sz.val, *]; rfl) (by simp (disch := first | omega | (simp only [lenB]; omega)) only [evB, Sz.cells, Sz.val, *]; rfl) (by simp (disch := first | omega | (simp only [lenB]; omega)) only [evB, Sz.cells, Sz.val, *]; rfl) ?_; (try simp only [ctlB])))
      exact ⟨by trivial, by simp (disch := first | omega | (simp only [lenB]; omega)) only [evB, Sz.cells, Sz.val, *]; simp only [show ∀ x y : Int, x + 4 - y = x + (4 - y) from fun x y => by omega]⟩
    · have hr : ¬ r < 0 := by simpa using h
      (try simp only [ctlB])
      exact ⟨by trivial, by simp only [if_neg hr]⟩
  rintro S' H' ⟨rfl, rfl⟩
  (try simp only [ctlB])
  generalize hr1 : (if r < 0 then r + R else r) = ra
  generalize hc1 : (if r < 0 then c + (4 - (R + 4).tmod 8) else c) = ca
  have bra : -4000 ≤ ra ∧ ra ≤ 4200 := by subst hr1; split <;> omega
  have bca : -4010 ≤ ca ∧ ca ≤ 4010 := by subst hc1; split <;> omega
  refine aw_mid (fun S' H'' => H'' = H' ∧ S' = [.pointer (some ⟨p, 0, none⟩), .int .i64 (if ca < 0 then ra + (4 - (C + 4).tmod 8) else ra), .int .i64 (if ca < 0 then ca + C else ca), .int .i64 b]) ?_ ?_
  · refine aw_cond (by simp (disch := first | omega | (simp only [lenB]; omega)) only [evB, Sz.cells, Sz.val, *]; rfl) (fun h => ?_) (fun h => ?_)
    · have hr : ca < 0 := by simpa using h
      (try simp only [ctlB])
      repeat' (first | (refine aw_sets (by simp (disch := first | omega | (simp only [lenB]; omega)) only [evB, Sz.cells, Sz.val, *]; rfl) (by simp (disch := first | omega | (simp only [lenB]; omega)) only [evB, Sz.cells, Sz.val, *]) (by simp (disch := first | omega | (simp only [lenB]; omega)) only [evB, Sz.cells, Sz.val, *]; rfl) ?_; (try simp only [ctlB])) | (refine aw_op rfl (by simp (disch := first | omega | (simp only [lenB]; omega)) only [evB, Sz.cells, Sz.val, *]; rfl) (by simp (disch := first | omega | (simp only [lenB]; omega)) only [evB, Sz.cells, Sz.val, *]) (by simp (disch := first | omega | (simp only [lenB]; omega)) only [evB, Sz.cells, Sz.val, *]; rfl) (by simp (disch := first | omega | (simp only [lenB]; omega)) only [evB, Sz.cells, Sz.val, *]; rfl) (by simp (disch := first | omega | (simp only [lenB]; omega)) only [evB, Sz.cells, Sz.val, *]; rfl) ?_; (try simp only [ctlB])))
      exact ⟨by trivial, by simp (disch := first | omega | (simp only [lenB]; omega)) only [evB, Sz.cells, Sz.val, *]; simp only [show ∀ x y : Int, x + 4 - y = x + (4 - y) from fun x y => by omega]⟩
    · have hr : ¬ ca < 0 := by simpa using h
      (try simp only [ctlB])
      exact ⟨by trivial, by simp only [if_neg hr]⟩
  rintro S' H'' ⟨rfl, rfl⟩
  have hi : (if ca < 0 then ra + (4 - (C + 4).tmod 8) else ra) * C + (if ca < 0 then ca + C else ca) = idxOf' R C r c := by subst hr1 hc1; rfl
  generalize hr2 : (if ca < 0 then ra + (4 - (C + 4).tmod 8) else ra) = rb at *
  generalize hc2 : (if ca < 0 then ca + C else ca) = cb at *
  have brb : -4010 ≤ rb ∧ rb ≤ 4210 := by subst hr2; split <;> omega
  have bcb : -4010 ≤ cb ∧ cb ≤ 4210 := by subst hc2; split <;> omega
  have hm := mul_bd (a := rb) (b := C) (A := 5000) (B := 200) (by omega) (by omega) (by omega) c1 (by omega)
  generalize idxOf' R C r c = i at *
  repeat' (first | (refine aw_sets (by simp (disch := first | omega | (simp only [lenB]; omega)) only [evB, Sz.cells, Sz.val, *]; rfl) (by simp (disch := first | omega | (simp only [lenB]; omega)) only [evB, Sz.cells, Sz.val, *]) (by simp (disch := first | omega | (simp only [lenB]; omega)) only [evB, Sz.cells, Sz.val, *]; rfl) ?_; (try simp only [ctlB])) | (refine aw_op rfl (by simp (disch := first | omega | (simp only [lenB]; omega)) only [evB, Sz.cells, Sz.val, *]; rfl) (by simp (disch := first | omega | (simp only [lenB]; omega)) only [evB, Sz.cells, Sz.val, *]) (by simp (disch := first | omega | (simp only [lenB]; omega)) only [evB, Sz.cells, Sz.val, *]; rfl) (by simp (disch := first | omega | (simp only [lenB]; omega)) only [evB, Sz.cells, Sz.val, *]; rfl) (by simp (disch := first | omega | (simp only [lenB]; omega)) only [evB, Sz.cells, Sz.val, *]; rfl) ?_; (try simp only [ctlB])))
  refine body_normal (by simp only [cf52]; simp (disch := first | omega | (simp only [lenB]; omega)) only [evB, Sz.cells, Sz.val, *]; rfl) ?_
  rfl

theorem pairs_get (l : List (Int × Int)) : ∀ (k : Nat), k < l.length → (pairsV l)[2 * k]? = some (.int .i64 (l.getD k (0, 0)).1) ∧ (pairsV l)[2 * k + 1]? = some (.int .i64 (l.getD k (0, 0)).2) := by
  induction l with
  | nil => intro i h; simp at h
  | cons s l ih =>
    intro i h
    have e : pairsV (s :: l) = .int .i64 s.1 :: .int .i64 s.2 :: pairsV l := rfl
    cases i with
    | zero => rw [e]; exact ⟨rfl, rfl⟩
    | succ i =>
      have := ih i (by simpa using h)
      rw [e, show 2 * (i + 1) = 2 * i + 1 + 1 by omega, show 2 * i + 1 + 1 + 1 = (2 * i + 1) + 1 + 1 by omega]
      simp only [List.getElem?_cons_succ]
      simpa using this
theorem corner49 {lo : Nat} {H : Heap} {p q : Nat} {R C : Int} {g g' : G} {l : List (Int × Int)} (hl8 : l.length = 8) (hd : Dim R C) (hf : Grd H p q R C g) (hlp : lo ≤ p) (hlo : lo ≤ q) (h : eachG (listOps R C) g l = some g') :
    Ev cp lo 49 [.pointer (some ⟨p, 0, none⟩), .agg (pairsV l).toArray] H (fun _ H' => Grd H' p q R C g' ∧ Ch p q H H') := by
  unfold eachG at h
  split at h
  · rename_i g2 hg
    cases h
    have hpl := Heap.get_lt hf.fp
    have hql := Heap.get_lt hf.fq
    have hpv := pairs_len l
    rw [hl8] at hpv
    refine st49 ?_; unfold bd49; (try simp only [ctlB])
    repeat' (first | (refine aw_sets (by simp (disch := first | omega | (simp only [lenB]; omega)) only [evB, Sz.cells, Sz.val, *]; rfl) (by simp (disch := first | omega | (simp only [lenB]; omega)) only [evB, Sz.cells, Sz.val, *]) (by simp (disch := first | omega | (simp only [lenB]; omega)) only [evB, Sz.cells, Sz.val, *]; rfl) ?_; (try simp only [ctlB])) | (refine aw_op rfl (by simp (disch := first | omega | (simp only [lenB]; omega)) only [evB, Sz.cells, Sz.val, *]; rfl) (by simp (disch := first | omega | (simp only [lenB]; omega)) only [evB, Sz.cells, Sz.val, *]) (by simp (disch := first | omega | (simp only [lenB]; omega)) only [evB, Sz.cells, Sz.val, *]; rfl) (by simp (disch := first | omega | (simp only [lenB]; omega)) only [evB, Sz.cells, Sz.val, *]; rfl) (by simp (disch := first | omega | (simp only [lenB]; omega)) only [evB, Sz.cells, Sz.val, *]; rfl) ?_; (try simp only [ctlB])))
    refine aw_loop' (fun m S H' => ∃ (k : Nat) (g1 : G), k ≤ 8 ∧ m = 8 - k ∧ S = [.pointer (some ⟨p, 0, none⟩), .agg (pairsV l).toArray, .pointer (some ⟨H.length, 0, none⟩), .int .i64 k] ∧ Grd H' p q R C g1 ∧ Ch p q H H' ∧ H'.get H.length = some (pairsV l) ∧ goG (listOps R C) g1 (l.drop k) k = some g2) 8 ?_ ?_
    · exact ⟨0, g, by omega, by omega, rfl, hf.mono (Ext.app _ _), Ch.app _ _, by simp (disch := first | omega | (simp only [lenB]; omega)) only [evB, Sz.cells, Sz.val, *], by simpa using hg⟩
    rintro m S H1 ⟨k, g1, hk, rfl, rfl, hf1, hch, hbox, hgo⟩
    have hlen1 := hch.len
    (try simp only [ctlB])
    refine aw_cond (by simp (disch := first | omega | (simp only [lenB]; omega)) only [evB, Sz.cells, Sz.val, *]; rfl) (fun h => ?_) (fun h => ?_)
    · have hk8 : k < 8 := by simp at h; omega
      clear h
      have hpg := pairs_get l k (by omega)
      have e1 : (2 * (k : Int)).toNat = 2 * k := by omega
      have e2 : (2 * (k : Int) + 1).toNat = 2 * k + 1 := by omega
      rw [drop_cons_getD (by omega)] at hgo
      simp only [goG] at hgo
      split at hgo
      · rename_i g3 ha
        (try simp only [ctlB])
        refine aw_hv (by simp (disch := first | omega | (simp only [lenB]; omega)) only [evB, Sz.cells, Sz.val, *]; rfl) (by simp (disch := first | omega | (simp only [lenB]; omega)) only [evB, Sz.cells, Sz.val, *]) (by simp (disch := first | omega | (simp only [lenB]; omega)) only [evB, Sz.cells, Sz.val, *]; rfl) ?_
        refine wpH_call0 (assign52 (q := q) hd hf1 hlo (by omega) ha) ?_
        rintro v H2 rfl
        (try simp only [ctlB])
        repeat' (first | (refine aw_sets (by simp (disch := first | omega | (simp only [lenB]; omega)) only [evB, Sz.cells, Sz.val, *]; rfl) (by simp (disch := first | omega | (simp only [lenB]; omega)) only [evB, Sz.cells, Sz.val, *]) (by simp (disch := first | omega | (simp only [lenB]; omega)) only [evB, Sz.cells, Sz.val, *]; rfl) ?_; (try simp only [ctlB])) | (refine aw_op rfl (by simp (disch := first | omega | (simp only [lenB]; omega)) only [evB, Sz.cells, Sz.val, *]; rfl) (by simp (disch := first | omega | (simp only [lenB]; omega)) only [evB, Sz.cells, Sz.val, *]) (by simp (disch := first | omega | (simp only [lenB]; omega)) only [evB, Sz.cells, Sz.val, *]; rfl) (by simp (disch := first | omega | (simp only [lenB]; omega)) only [evB, Sz.cells, Sz.val, *]; rfl) (by simp (disch := first | omega | (simp only [lenB]; omega)) only [evB, Sz.cells, Sz.val, *]; rfl) ?_; (try simp only [ctlB])))
        simp only [loopQ_n]
        have hlq := asg_len ha
        refine ⟨8 - (k + 1), by omega, k + 1, g3, by omega, rfl, by simp only [Int.natCast_add, Int.natCast_one], hf1.setq hlq.1 hlq.2, hch.trans (Ch.setq _ _), by rw [get_set_ne (by omega)]; exact hbox, by simpa using hgo⟩
      · simp at hgo
    · have hk8 : k = 8 := by simp at h; omega
      subst hk8
      rw [List.drop_of_length_le (by omega)] at hgo
      simp only [goG] at hgo
      cases hgo
      have fp := hf1.fp
      have hplen := Heap.get_lt fp
      have hnx := go_next hg
      have hnb := hnx.2.2 (by intro e; rw [e] at hl8; simp at hl8)
      rw [← hnx.2.1] at hnb
      clear hnx
      (try simp only [ctlB])
      repeat' (first | (refine aw_sets (by simp (disch := first | omega | (simp only [lenB]; omega)) only [evB, Sz.cells, Sz.val, *]; rfl) (by simp (disch := first | omega | (simp only [lenB]; omega)) only [evB, Sz.cells, Sz.val, *]) (by simp (disch := first | omega | (simp only [lenB]; omega)) only [evB, Sz.cells, Sz.val, *]; rfl) ?_; (try simp only [ctlB])) | (refine aw_op rfl (by simp (disch := first | omega | (simp only [lenB]; omega)) only [evB, Sz.cells, Sz.val, *]; rfl) (by simp (disch := first | omega | (simp only [lenB]; omega)) only [evB, Sz.cells, Sz.val, *]) (by simp (disch := first | omega | (simp only [lenB]; omega)) only [evB, Sz.cells, Sz.val, *]; rfl) (by simp (disch := first | omega | (simp only [lenB]; omega)) only [evB, Sz.cells, Sz.val, *]; rfl) (by simp (disch := first | omega | (simp only [lenB]; omega)) only [evB, Sz.cells, Sz.val, *]; rfl) ?_; (try simp only [ctlB])))
      refine body_normal (by simp only [cf49]; simp (disch := first | omega | (simp only [lenB]; omega)) only [evB, Sz.cells, Sz.val, *]; rfl) ?_
      refine ⟨⟨by rw [get_set_self hplen]; rfl, by rw [get_set_ne hf1.ne]; exact hf1.fq, hf1.ne⟩, hch.trans (Ch.setp _ _)⟩
  · simp at h
theorem corner49' {lo : Nat} {H : Heap} {p q : Nat} {R C : Int} {g g' : G} {arr : Array Value} (l : List (Int × Int)) (ha : arr = (pairsV l).toArray) (hl8 : l.length = 8) (hd : Dim R C) (hf : Grd H p q R C g) (hlp : lo ≤ p) (hlo : lo ≤ q) (h : eachG (listOps R C) g l = some g') :
    Ev cp lo 49 [.pointer (some ⟨p, 0, none⟩), .agg arr] H (fun _ H' => Grd H' p q R C g' ∧ Ch p q H H') := by
  subst ha; exact corner49 hl8 hd hf hlp hlo h
theorem place45 {lo : Nat} {H : Heap} {p q : Nat} {R C : Int} {g g' : G} {r c : Int} (hb : inB r c = true) (hd : Dim R C) (hf : Grd H p q R C g) (hn : (g.cells.length : Int) = R * C) (hlp : lo ≤ p) (hlo : lo ≤ q) (h : pifG (listOps R C) g r c = some g') :
    Ev cp lo 45 [.pointer (some ⟨p, 0, none⟩), .int .i64 r, .int .i64 c] H (fun _ H' => Grd H' p q R C g' ∧ Ch p q H H') := by
  have hd' := hd
  obtain ⟨r0, r1, c0, c1⟩ := hd'
  obtain ⟨b1, b2, b3, b4⟩ := inB_some hb
  have fp := hf.fp
  have fq := hf.fq
  refine st45 ?_; unfold bd45; (try simp only [ctlB])
  by_cases h1 : 0 ≤ r
  · by_cases h2 : r < R
    · by_cases h3 : 0 ≤ c
      · by_cases h4 : c < C
        · have hi := idx_lt h1 h2 h3 h4
          have hm := mul_bd (a := r) (b := C) (A := 200) (B := 200) (by omega) (by omega) (by omega) c1 (by omega)
          have hx : (r * C + c).toNat < g.cells.length := by omega
          have n1 : ¬ r < 0 := by omega
          have n2 : ¬ R ≤ r := by omega
          have n3 : ¬ c < 0 := by omega
          have n4 : ¬ C ≤ c := by omega
          by_cases h5 : g.cells.getD (r * C + c).toNat 0 < 0
          · have hfr : (listOps R C).free g r c = true := by simp only [listOps, h1, h2, h3, h4, h5, decide_true, Bool.and_self]
            simp only [pifG, hfr, if_true] at h
            have n5 : ¬ 0 ≤ g.cells.getD (r * C + c).toNat 0 := by omega
            have hh := h
            clear h
            refine aw_cond (by simp (disch := first | omega | (simp only [lenB]; omega)) only [evB, Sz.cells, Sz.val, *]; rfl) (fun h => ?_) (fun h => ?_)
            · cases h
            clear h
            (try simp only [ctlB])
            refine aw_hv (by simp (disch := first | omega | (simp only [lenB]; omega)) only [evB, Sz.cells, Sz.val, *]; rfl) (by simp (disch := first | omega | (simp only [lenB]; omega)) only [evB, Sz.cells, Sz.val, *]) (by simp (disch := first | omega | (simp only [lenB]; omega)) only [evB, Sz.cells, Sz.val, *]; rfl) ?_
            refine wpH_call0 (corner49' (pl r c) (by simp only [pairsV, pl, List.flatMap_cons, List.flatMap_nil, List.cons_append, List.nil_append]) rfl hd hf hlp hlo hh) ?_
            rintro v H2 hh
            (try simp only [ctlB])
            refine body_normal (by simp only [cf45]; simp (disch := first | omega | (simp only [lenB]; omega)) only [evB, Sz.cells, Sz.val, *]; rfl) ?_
            exact hh
          · have hfr : (listOps R C).free g r c = false := by simp only [listOps, h1, h2, h3, h4, h5, decide_true, decide_false, Bool.and_self, Bool.and_false]
            have n5 : 0 ≤ g.cells.getD (r * C + c).toNat 0 := by omega
            simp only [pifG, hfr, Bool.false_eq_true, if_false] at h
            cases h
            refine aw_cond (by simp (disch := first | omega | (simp only [lenB]; omega)) only [evB, Sz.cells, Sz.val, *]; rfl) (fun h => ?_) (fun h => ?_)
            · (try simp only [ctlB])
              refine body_ret (by simp only [cf45]; simp (disch := first | omega | (simp only [lenB]; omega)) only [evB, Sz.cells, Sz.val, *]; rfl) ?_
              exact ⟨hf, Ch.refl _⟩
            · cases h
        · have hfr : (listOps R C).free g r c = false := by simp only [listOps, h4, decide_false, Bool.and_false, Bool.false_and]
          have n1 : ¬ r < 0 := by omega
          have n2 : ¬ R ≤ r := by omega
          have n3 : ¬ c < 0 := by omega
          have n4 : C ≤ c := by omega
          simp only [pifG, hfr, Bool.false_eq_true, if_false] at h
          cases h
          refine aw_cond (by simp (disch := first | omega | (simp only [lenB]; omega)) only [evB, Sz.cells, Sz.val, *]; rfl) (fun h => ?_) (fun h => ?_)
          · (try simp only [ctlB])
            refine body_ret (by simp only [cf45]; simp (disch := first | omega | (simp only [lenB]; omega)) only [evB, Sz.cells, Sz.val, *]; rfl) ?_
            exact ⟨hf, Ch.refl _⟩
          · cases h
      · have hfr : (listOps R C).free g r c = false := by simp only [listOps, h3, decide_false, Bool.and_false, Bool.false_and]
        have n1 : ¬ r < 0 := by omega
        have n2 : ¬ R ≤ r := by omega
        have n3 : c < 0 := by omega
        simp only [pifG, hfr, Bool.false_eq_true, if_false] at h
        cases h
        refine aw_cond (by simp (disch := first | omega | (simp only [lenB]; omega)) only [evB, Sz.cells, Sz.val, *]; rfl) (fun h => ?_) (fun h => ?_)
        · (try simp only [ctlB])
          refine body_ret (by simp only [cf45]; simp (disch := first | omega | (simp only [lenB]; omega)) only [evB, Sz.cells, Sz.val, *]; rfl) ?_
          exact ⟨hf, Ch.refl _⟩
        · cases h
    · have hfr : (listOps R C).free g r c = false := by simp only [listOps, h2, decide_false, Bool.and_false, Bool.false_and]
      have n1 : ¬ r < 0 := by omega
      have n2 : R ≤ r := by omega
      simp only [pifG, hfr, Bool.false_eq_true, if_false] at h
      cases h
      refine aw_cond (by simp (disch := first | omega | (simp only [lenB]; omega)) only [evB, Sz.cells, Sz.val, *]; rfl) (fun h => ?_) (fun h => ?_)
      · (try simp only [ctlB])
        refine body_ret (by simp only [cf45]; simp (disch := first | omega | (simp only [lenB]; omega)) only [evB, Sz.cells, Sz.val, *]; rfl) ?_
        exact ⟨hf, Ch.refl _⟩
      · cases h
  · have hfr : (listOps R C).free g r c = false := by simp only [listOps, h1, decide_false, Bool.and_false, Bool.false_and]
    have n1 : r < 0 := by omega
    simp only [pifG, hfr, Bool.false_eq_true, if_false] at h
    cases h
    refine aw_cond (by simp (disch := first | omega | (simp only [lenB]; omega)) only [evB, Sz.cells, Sz.val, *]; rfl) (fun h => ?_) (fun h => ?_)
    · (try simp only [ctlB])
      refine body_ret (by simp only [cf45]; simp (disch := first | omega | (simp only [lenB]; omega)) only [evB, Sz.cells, Sz.val, *]; rfl) ?_
      exact ⟨hf, Ch.refl _⟩
    · cases h
set_option maxHeartbeats 4000000 in
theorem corners44 {lo : Nat} {H : Heap} {p q : Nat} {R C : Int} {g g' : G} {r c : Int} (hd : Dim R C) (hf : Grd H p q R C g) (hlp : lo ≤ p) (hlo : lo ≤ q) (h : cornersG (listOps R C) R C g r c = some g') :
    Ev cp lo 44 [.pointer (some ⟨p, 0, none⟩), .int .i64 r, .int .i64 c] H (fun _ H' => Grd H' p q R C g' ∧ Ch p q H H') := by
  have hd' := hd
  obtain ⟨r0, r1, c0, c1⟩ := hd'
  have fp := hf.fp
  unfold cornersG at h
  split at h
  · simp at h
  rename_i ga ha
  split at h
  · simp at h
  rename_i gb hb
  split at h
  · simp at h
  rename_i gc hc
  have hlast := h
  clear h
  refine st44 ?_; unfold bd44; (try simp only [ctlB])
  repeat' (first | (refine aw_sets (by simp (disch := first | omega | (simp only [lenB]; omega)) only [evB, Sz.cells, Sz.val, *]; rfl) (by simp (disch := first | omega | (simp only [lenB]; omega)) only [evB, Sz.cells, Sz.val, *]) (by simp (disch := first | omega | (simp only [lenB]; omega)) only [evB, Sz.cells, Sz.val, *]; rfl) ?_; (try simp only [ctlB])) | (refine aw_op rfl (by simp (disch := first | omega | (simp only [lenB]; omega)) only [evB, Sz.cells, Sz.val, *]; rfl) (by simp (disch := first | omega | (simp only [lenB]; omega)) only [evB, Sz.cells, Sz.val, *]) (by simp (disch := first | omega | (simp only [lenB]; omega)) only [evB, Sz.cells, Sz.val, *]; rfl) (by simp (disch := first | omega | (simp only [lenB]; omega)) only [evB, Sz.cells, Sz.val, *]; rfl) (by simp (disch := first | omega | (simp only [lenB]; omega)) only [evB, Sz.cells, Sz.val, *]; rfl) ?_; (try simp only [ctlB])))
  clear fp
  refine aw_mid (fun S' H' => S' = [.pointer (some ⟨p, 0, none⟩), .int .i64 r, .int .i64 c, .int .i64 R, .int .i64 C] ∧ Grd H' p q R C ga ∧ Ch p q H H') ?_ ?_
  · refine aw_cond (by simp (disch := first | omega | (simp only [lenB]; omega)) only [evB, Sz.cells, Sz.val, *]; rfl) (fun h => ?_) (fun h => ?_)
    · have e : k1 R r c = true := h
      rw [e] at ha
      (try simp only [ctlB])
      refine aw_hv (by simp (disch := first | omega | (simp only [lenB]; omega)) only [evB, Sz.cells, Sz.val, *]; rfl) (by simp (disch := first | omega | (simp only [lenB]; omega)) only [evB, Sz.cells, Sz.val, *]) (by simp (disch := first | omega | (simp only [lenB]; omega)) only [evB, Sz.cells, Sz.val, *]; rfl) ?_
      refine wpH_call0 (corner49' (Ytobfjbominbkmaa.c1 R C) (by simp only [pairsV, Ytobfjbominbkmaa.c1, List.flatMap_cons, List.flatMap_nil, List.cons_append, List.nil_append]) rfl hd hf hlp hlo ha) ?_
      rintro v H2 hh
      (try simp only [ctlB])
      exact ⟨by trivial, hh⟩
    · have e : k1 R r c = false := h
      rw [e] at ha
      cases ha
      (try simp only [ctlB])
      exact ⟨by trivial, hf, Ch.refl _⟩
  rintro S' H1 ⟨rfl, hf1, hc1⟩
  (try simp only [ctlB])
  refine aw_mid (fun S' H' => S' = [.pointer (some ⟨p, 0, none⟩), .int .i64 r, .int .i64 c, .int .i64 R, .int .i64 C] ∧ Grd H' p q R C gb ∧ Ch p q H H') ?_ ?_
  · refine aw_cond (by simp (disch := first | omega | (simp only [lenB]; omega)) only [evB, Sz.cells, Sz.val, *]; rfl) (fun h => ?_) (fun h => ?_)
    · have e : k2 R C r c = true := h
      rw [e] at hb
      (try simp only [ctlB])
      refine aw_hv (by simp (disch := first | omega | (simp only [lenB]; omega)) only [evB, Sz.cells, Sz.val, *]; rfl) (by simp (disch := first | omega | (simp only [lenB]; omega)) only [evB, Sz.cells, Sz.val, *]) (by simp (disch := first | omega | (simp only [lenB]; omega)) only [evB, Sz.cells, Sz.val, *]; rfl) ?_
      refine wpH_call0 (corner49' (Ytobfjbominbkmaa.c2 R C) (by simp only [pairsV, Ytobfjbominbkmaa.c2, List.flatMap_cons, List.flatMap_nil, List.cons_append, List.nil_append]) rfl hd hf1 hlp hlo hb) ?_
      rintro v H2 hh
      (try simp only [ctlB])
      exact ⟨by trivial, hh.1, hc1.trans hh.2⟩
    · have e : k2 R C r c = false := h
      rw [e] at hb
      cases hb
      (try simp only [ctlB])
      exact ⟨by trivial, hf1, hc1⟩
  rintro S' H2 ⟨rfl, hf2, hc2⟩
  (try simp only [ctlB])
  refine aw_mid (fun S' H' => S' = [.pointer (some ⟨p, 0, none⟩), .int .i64 r, .int .i64 c, .int .i64 R, .int .i64 C] ∧ Grd H' p q R C gc ∧ Ch p q H H') ?_ ?_
  · refine aw_cond (by simp (disch := first | omega | (simp only [lenB]; omega)) only [evB, Sz.cells, Sz.val, *]; rfl) (fun h => ?_) (fun h => ?_)
    · have e : k3 R C r c = true := h
      rw [e] at hc
      (try simp only [ctlB])
      refine aw_hv (by simp (disch := first | omega | (simp only [lenB]; omega)) only [evB, Sz.cells, Sz.val, *]; rfl) (by simp (disch := first | omega | (simp only [lenB]; omega)) only [evB, Sz.cells, Sz.val, *]) (by simp (disch := first | omega | (simp only [lenB]; omega)) only [evB, Sz.cells, Sz.val, *]; rfl) ?_
      refine wpH_call0 (corner49' (Ytobfjbominbkmaa.c3 R C) (by simp only [pairsV, Ytobfjbominbkmaa.c3, List.flatMap_cons, List.flatMap_nil, List.cons_append, List.nil_append]) rfl hd hf2 hlp hlo hc) ?_
      rintro v H2 hh
      (try simp only [ctlB])
      exact ⟨by trivial, hh.1, hc2.trans hh.2⟩
    · have e : k3 R C r c = false := h
      rw [e] at hc
      cases hc
      (try simp only [ctlB])
      exact ⟨by trivial, hf2, hc2⟩
  rintro S' H3 ⟨rfl, hf3, hc3⟩
  (try simp only [ctlB])
  refine aw_cond (by simp (disch := first | omega | (simp only [lenB]; omega)) only [evB, Sz.cells, Sz.val, *]; rfl) (fun h => ?_) (fun h => ?_)
  · have e : k4 R C r c = true := h
    rw [e] at hlast
    (try simp only [ctlB])
    refine aw_hv (by simp (disch := first | omega | (simp only [lenB]; omega)) only [evB, Sz.cells, Sz.val, *]; rfl) (by simp (disch := first | omega | (simp only [lenB]; omega)) only [evB, Sz.cells, Sz.val, *]) (by simp (disch := first | omega | (simp only [lenB]; omega)) only [evB, Sz.cells, Sz.val, *]; rfl) ?_
    refine wpH_call0 (corner49' (Ytobfjbominbkmaa.c4 R C) (by simp only [pairsV, Ytobfjbominbkmaa.c4, List.flatMap_cons, List.flatMap_nil, List.cons_append, List.nil_append]) rfl hd hf3 hlp hlo hlast) ?_
    rintro v H2 hh
    (try simp only [ctlB])
    refine body_normal (by simp only [cf44]; simp (disch := first | omega | (simp only [lenB]; omega)) only [evB, Sz.cells, Sz.val, *]; rfl) ?_
    exact ⟨hh.1, hc3.trans hh.2⟩
  · have e : k4 R C r c = false := h
    rw [e] at hlast
    cases hlast
    (try simp only [ctlB])
    refine body_normal (by simp only [cf44]; simp (disch := first | omega | (simp only [lenB]; omega)) only [evB, Sz.cells, Sz.val, *]; rfl) ?_
    exact ⟨hf3, hc3⟩
end Go.Proofs.Ytobfjbominbkmaa
