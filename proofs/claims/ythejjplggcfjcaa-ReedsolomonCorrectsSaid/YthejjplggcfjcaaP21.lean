/- Reed-Solomon codes: the law Linear. -/
import Derived.Test.YthejjplggcfjcaaP17
set_option linter.unusedVariables false
set_option linter.unusedSimpArgs false
set_option linter.unusedSectionVars false
namespace Go.Proofs.Ythejjplggcfjcaa
open Go.Abs Go.RS
set_option linter.unusedSimpArgs false
set_option linter.unusedVariables false
set_option maxRecDepth 20000
section
variable {f : FD} [OkC f]
theorem encAny {lo : Nat} {H : Heap} {g : El f} {v : Value} {l : List Int} {r b : Nat} (hlo : lo ≤ H.length) (hg : Gn (OkC.ok (f := f)) g) (hc : CdOK f r b) (hl : SlI H v l) (hll : l.length ≤ 10000000) :
  Ev cp lo 17 [cdV f r b, v] H (fun v H' => Ext H H' ∧ ∃ vs k, v = .tuple #[vs, .int .i64 k] ∧ (k ≠ 0 ∨ k = 0 ∧ ∃ d w, l = valI d ∧ SlE H' vs w ∧ IsEnc g r b d w ∧ 0 < d.length ∧ d.length + r < f.q)) := by
 by_cases hin : inF (f.q : Int) l = true
 ·obtain ⟨d, rfl⟩ := to_el hin
  refine (encR_ok hlo hg hc (sli_sle hl) (by simpa using hll)).mono ?_
  rintro v H' ⟨hx, ⟨h1, h2, vs, w, rfl, h3, h4⟩ | ⟨_, rfl⟩⟩
  ·exact ⟨hx, vs, 0, rfl, .inr ⟨rfl, d, w, rfl, h3, h4, h1, h2⟩⟩
  ·exact ⟨hx, _, 7, rfl, .inl (by decide)⟩
 ·refine (encR_bad (poly_bd (OkC.ok (f := f))) hl (by omega) (fun h => hin h.2)).mono ?_
  rintro v H' ⟨hx, rfl⟩
  exact ⟨hx, _, 1, rfl, .inl (by decide)⟩
theorem hval_lin (a b : List (El f)) (c x : El f) (h : b.length = a.length) : hval (tab a.length (fun i => co a i + c * co b i)) x = hval a x + c * hval b x := by
 rw [hval_sm, hval_sm, hval_sm, tab_len, h, sm_mul, ← sm_add]
 refine sm_congr fun i hi => ?_
 rw [co_tab, if_pos hi]
 exact (show (((co a i) + ((c) * (co b i))) * (pw x (a.length - 1 - i))) = (((co a i) * (pw x (a.length - 1 - i))) + ((c) * ((co b i) * (pw x (a.length - 1 - i))))) from ring_eq [(co a i), (co b i), (c), (pw x (a.length - 1 - i))] (.mul (.add (.v 0) (.mul (.v 2) (.v 1))) (.v 3)) (.add (.mul (.v 0) (.v 3)) (.mul (.v 2) (.mul (.v 1) (.v 3)))) rfl)
theorem enc_lin {g : El f} {r b : Nat} {d1 d2 w1 w2 : List (El f)} (c : El f) (h1 : IsEnc g r b d1 w1) (h2 : IsEnc g r b d2 w2) (hl : d2.length = d1.length) : IsEnc g r b ((tab w1.length (fun i => co w1 i + c * co w2 i)).take d1.length) (tab w1.length (fun i => co w1 i + c * co w2 i)) := by
 have e1 := h1.len
 have e2 := h2.len
 refine ⟨?_, fun i hi => ?_, fun i hi => ?_⟩
 ·rw [List.length_take, tab_len]; omega
 ·rw [List.length_take, tab_len] at hi
  unfold co
  rw [List.getD_eq_getElem?_getD, List.getD_eq_getElem?_getD, List.getElem?_take, if_pos (by omega)]
 ·show hval _ _ = 0
  rw [hval_lin w1 w2 c _ (by omega)]
  have a1 := h1.cw i hi
  have a2 := h2.cw i hi
  rw [a1, a2]
  exact (show (0 + ((c) * 0)) = 0 from ring_eq [(c)] (.add .zero (.mul (.v 0) .zero)) .zero rfl)
theorem sle_front {H : Heap} {b k cap : Nat} {sp : Option Nat} {l : List (El f)} (h : H.get b = some (elL l)) (hk : k ≤ l.length) (hc : k ≤ cap) (hsp : sp = none ∨ sp = some 1) : SlE H (.slice (some ⟨b, 0, sp⟩) k cap) (l.take k) := by
 have e : (l.take k).length = k := by rw [List.length_take]; omega
 refine .inr ⟨b, 0, sp, cap, _, by rw [e], h, ?_, by rw [e, elL_len]; omega, hsp, by omega⟩
 rw [e, List.drop_zero, elL, List.map_take]
end
set_option linter.defProp false in
def xBTe := And.intro @Int.cast_ofNat_Int (And.intro @fv.eq_1 (And.intro @fvf.eq_1 (And.intro @ite_self.{1} (And.intro @ite_st (And.intro @ite_sf (And.intro @ite_nt (And.intro @cdC.eq_1 (And.intro @arC.eq_1 (And.intro @elL_at (And.intro @elL_len (And.intro @elL_set' @zerosEl)))))))))))
theorem xSTe {cp : FuncId → Option CF} {lo : Nat} {l : List (Nat × E)} {chk : List E} {Q : Post} {S : List Value} {H : Heap} {vs : List (Nat × Value)} {S' : List Value} (k : Q .normal S' H) (h : evSets S H l = some vs := by simp (disch := first | omega | (simp only [lenB]; omega)) only [evB, xBTe, Nat.reduceAdd, Nat.reduceBEq, *]; rfl) (hc : evChk S H chk = true := by simp (disch := first | omega | (simp only [lenB]; omega)) only [evB, xBTe, Nat.reduceAdd, Nat.reduceBEq, *]) (hS : setAll S vs = S' := by simp (disch := first | omega | (simp only [lenB]; omega)) only [evB, xBTe, Nat.reduceAdd, Nat.reduceBEq, *]; rfl) : wpS cp lo (.sets l chk) Q S H := aw_sets h hc hS k
theorem xHTe {cp : FuncId → Option CF} {lo : Nat} {l : List (Nat × E)} {chk : List E} {Q : Post} {S : List Value} {H : Heap} {vs : List (Nat × Value)} {dst : Option Nat} {o : HOp} {a : E} {xs : List Value} (k : wpH cp lo o xs H fun v H' => Q .normal (setD (setAll S vs) dst v) H') (h : evSets S H l = some vs := by simp (disch := first | omega | (simp only [lenB]; omega)) only [evB, xBTe, Nat.reduceAdd, Nat.reduceBEq, *]; rfl) (hc : evChk S H chk = true := by simp (disch := first | omega | (simp only [lenB]; omega)) only [evB, xBTe, Nat.reduceAdd, Nat.reduceBEq, *]) (ha : ev S H a = some xs := by simp (disch := first | omega | (simp only [lenB]; omega)) only [evB, xBTe, Nat.reduceAdd, Nat.reduceBEq, *]; rfl) : wpS cp lo (.hv l chk [] dst o a) Q S H := aw_hv h hc ha k
theorem xOTe {cp : FuncId → Option CF} {lo : Nat} {l : List (Nat × E)} {chk : List E} {Q : Post} {S : List Value} {H : Heap} {vs : List (Nat × Value)} {dst : Option Nat} {o : HOp} {a : E} {xs : List Value} {S' : List Value} {H' : Heap} {v : Value} (hcall : o.isCall = false) (k : Q .normal S' H') (h : evSets S H l = some vs := by simp (disch := first | omega | (simp only [lenB]; omega)) only [evB, xBTe, Nat.reduceAdd, Nat.reduceBEq, *]; rfl) (hc : evChk S H chk = true := by simp (disch := first | omega | (simp only [lenB]; omega)) only [evB, xBTe, Nat.reduceAdd, Nat.reduceBEq, *]) (ha : ev S H a = some xs := by simp (disch := first | omega | (simp only [lenB]; omega)) only [evB, xBTe, Nat.reduceAdd, Nat.reduceBEq, *]; rfl) (ho : hsem0 lo o xs H = some (v, H') := by simp (disch := first | omega | (simp only [lenB]; omega)) only [evB, xBTe, Nat.reduceAdd, Nat.reduceBEq, *]; rfl) (hS : setD (setAll S vs) dst v = S' := by simp (disch := first | omega | (simp only [lenB]; omega)) only [evB, xBTe, Nat.reduceAdd, Nat.reduceBEq, *]; rfl) : wpS cp lo (.hv l chk [] dst o a) Q S H := aw_op hcall h hc ha ho hS k
theorem xCTe {cp : FuncId → Option CF} {lo : Nat} {c : E} {a b : Stm} {Q : Post} {S : List Value} {H : Heap} {t : Bool} (k1 : t = true → wpS cp lo a Q S H) (k2 : t = false → wpS cp lo b Q S H) (h : ev1 S H c = some (.bool t) := by simp (disch := first | omega | (simp only [lenB]; omega)) only [evB, xBTe, Nat.reduceAdd, Nat.reduceBEq, *]; rfl) : wpS cp lo (.cond c a b) Q S H := aw_cond h k1 k2
theorem xTTe {cp : FuncId → Option CF} {lo : Nat} {l : List (Nat × E)} {chk : List E} {Q : Post} {S : List Value} {H : Heap} {vs : List (Nat × Value)} {dst : Option Nat} {o : HOp} {a : E} {xs : List Value} {pc : PC} (k : wpH cp lo o xs H fun v H' => Q .normal (setD (setAll S vs) dst v) H') (h : evSets S H l = some vs := by simp (disch := first | omega | (simp only [lenB]; omega)) only [evB, xBTe, Nat.reduceAdd, Nat.reduceBEq, *]; rfl) (hc : evChk S H chk = true := by simp (disch := first | omega | (simp only [lenB]; omega)) only [evB, xBTe, Nat.reduceAdd, Nat.reduceBEq, *]) (hp : holds S H pc = some true := by simp (disch := first | omega | (simp only [lenB]; omega)) only [evB, xBTe, Nat.reduceAdd, Nat.reduceBEq, *]; try rfl) (ha : ev S H a = some xs := by simp (disch := first | omega | (simp only [lenB]; omega)) only [evB, xBTe, Nat.reduceAdd, Nat.reduceBEq, *]; rfl) : wpS cp lo (.hv l chk pc dst o a) Q S H := aw_hvT h hc hp ha k
theorem xRTe {cf : CF} {R : Value → Heap → Prop} {S : List Value} {H : Heap} {vs : List Value} (k : R (resultOf vs) H) (h : evList S H cf.res = some vs := by simp (disch := first | omega | (simp only [lenB]; omega)) only [evB, xBTe, Nat.reduceAdd, Nat.reduceBEq, *]; rfl) : bodyQ cf R .ret S H := body_ret h k
set_option maxHeartbeats 4000000 in
theorem lawLin {H : Heap} {ch sz po r b by' : Int} {v ve vo : Value} {s e o : List Int} (hb : po ≤ 9223372036854775807) (hs2 : sz ≤ 9223372036854775807) (hs : SlI H v s) (he : SlI H ve e) (ho : SlI H vo o) : Ev cp H.length 9 [askV ch sz po r b v ve, vo, .int .i64 by'] H (fun v _ => v = .bool true) := by
 have hs0 := hs
 have ho0 := ho
 obtain ⟨ad, cd, rfl⟩ := hs.len
 obtain ⟨ae, ce, rfl⟩ := he.len
 obtain ⟨ao, co', rfl⟩ := ho.len
 unfold askV
 refine st9 ?_; unfold bd9 cf9; simp only [kB, ctlB]
 repeat' ((first | refine xSTe ?_ | refine xOTe rfl ?_); (try simp only [ctlB]))
 generalize hG : H ++ _ = G at *
 obtain ⟨g0, hxG⟩ := box_facts hG
 have g1 : Heap.get G (H.length + 1) = some [Value.int .i64 ch, Value.int .i64 sz, Value.int .i64 po] := by rw [← hG, get_appS]; rfl
 clear hG
 have hlG := hxG.1
 refine xHTe ?_
 refine wpH_call0 (small (ch := ch) (sz := sz) (po := po) (r := r) (b := b)) ?_
 rintro v H1 ⟨hx1, rfl⟩
 have g0 := (hx1).get g0; have g1 := (hx1).get g1
 have hx1 := hxG.trans hx1
 have hl1 := hx1.1
 clear hxG hlG
 generalize ht : (decide (r ≤ 60) && decide (s.length ≤ 400) && decide (e.length ≤ 400)) = t
 cases t with
 | false =>
  clear ht
  (try simp only [ctlB])
  refine aw_hv_if (t := false) (by simp (disch := first | omega | (simp only [lenB]; omega)) only [evB, xBTe, Nat.reduceAdd, Nat.reduceBEq, *]; rfl) (by simp (disch := first | omega | (simp only [lenB]; omega)) only [evB, xBTe, Nat.reduceAdd, Nat.reduceBEq, *]) (by simp (disch := first | omega | (simp only [lenB]; omega)) only [evB, xBTe, Nat.reduceAdd, Nat.reduceBEq, *]; try rfl) (fun h => by cases h) (fun _ => ?_)
  (try simp only [ctlB])
  refine aw_hv_if (t := false) (by simp (disch := first | omega | (simp only [lenB]; omega)) only [evB, xBTe, Nat.reduceAdd, Nat.reduceBEq, *]; rfl) (by simp (disch := first | omega | (simp only [lenB]; omega)) only [evB, xBTe, Nat.reduceAdd, Nat.reduceBEq, *]) (by simp (disch := first | omega | (simp only [lenB]; omega)) only [evB, xBTe, Nat.reduceAdd, Nat.reduceBEq, *]; try rfl) (fun h => by cases h) (fun _ => ?_)
  (try simp only [ctlB])
  refine xCTe (fun h => ?_) (fun h => ?_)
  case refine_2 => cases h
  clear h
  (try simp only [ctlB])
  refine xHTe ?_
  refine wpH_call0 (alive hl1) ?_
  rintro v H2 ⟨hx2, rfl⟩
  (try simp only [ctlB])
  repeat' ((first | refine xSTe ?_ | refine xOTe rfl ?_); (try simp only [ctlB]))
  refine xRTe ?_
  rfl
 | true =>
  have hlen : s.length ≤ 400 := by simp at ht; omega
  clear ht
  (try simp only [ctlB])
  refine aw_hv_if (t := true) (by simp (disch := first | omega | (simp only [lenB]; omega)) only [evB, xBTe, Nat.reduceAdd, Nat.reduceBEq, *]; rfl) (by simp (disch := first | omega | (simp only [lenB]; omega)) only [evB, xBTe, Nat.reduceAdd, Nat.reduceBEq, *]) (by simp (disch := first | omega | (simp only [lenB]; omega)) only [evB, xBTe, Nat.reduceAdd, Nat.reduceBEq, *]; try rfl) (fun _ => ⟨_, by simp (disch := first | omega | (simp only [lenB]; omega)) only [evB, xBTe, Nat.reduceAdd, Nat.reduceBEq, *]; rfl, ?_⟩) (fun h => by cases h)
  refine wpH_call0 (rValid (ch := ch) (sz := sz) (po := po) (r := r) (b := b) hs2) ?_
  rintro v H2 ⟨hx2, t2, rfl, ht2⟩
  have g0 := (hx2).get g0; have g1 := (hx2).get g1
  have hx2 := hx1.trans hx2
  have hl2 := hx2.1
  clear hx1 hl1
  cases t2 with
  | false =>
   clear ht2
   (try simp only [ctlB])
   refine aw_hv_if (t := false) (by simp (disch := first | omega | (simp only [lenB]; omega)) only [evB, xBTe, Nat.reduceAdd, Nat.reduceBEq, *]; rfl) (by simp (disch := first | omega | (simp only [lenB]; omega)) only [evB, xBTe, Nat.reduceAdd, Nat.reduceBEq, *]) (by simp (disch := first | omega | (simp only [lenB]; omega)) only [evB, xBTe, Nat.reduceAdd, Nat.reduceBEq, *]; try rfl) (fun h => by cases h) (fun _ => ?_)
   (try simp only [ctlB])
   refine xCTe (fun h => ?_) (fun h => ?_)
   case refine_2 => cases h
   clear h
   (try simp only [ctlB])
   refine xHTe ?_
   refine wpH_call0 (alive hl2) ?_
   rintro v H3 ⟨hx3, rfl⟩
   (try simp only [ctlB])
   repeat' ((first | refine xSTe ?_ | refine xOTe rfl ?_); (try simp only [ctlB]))
   refine xRTe ?_
   rfl
  | true =>
   obtain ⟨f, _, g, r', b', hg, hc, rfl, rfl, rfl, rfl, rfl⟩ := okcd_f (ht2.1 rfl)
   clear ht2
   by_cases hol : o.length = s.length
   case neg =>
    have hol' : decide ((o.length : Int) ≠ (s.length : Int)) = true := by simp; omega
    clear hol
    (try simp only [ctlB])
    refine aw_hv_if (t := false) (by simp (disch := first | omega | (simp only [lenB]; omega)) only [evB, xBTe, Nat.reduceAdd, Nat.reduceBEq, *]; rfl) (by simp (disch := first | omega | (simp only [lenB]; omega)) only [evB, xBTe, Nat.reduceAdd, Nat.reduceBEq, *]) (by simp (disch := first | omega | (simp only [lenB]; omega)) only [evB, xBTe, Nat.reduceAdd, Nat.reduceBEq, *]; try rfl) (fun h => by cases h) (fun _ => ?_)
    (try simp only [ctlB])
    refine xCTe (fun h => ?_) (fun h => ?_)
    case refine_2 => cases h
    clear h
    (try simp only [ctlB])
    refine xHTe ?_
    refine wpH_call0 (alive hl2) ?_
    rintro v H3 ⟨hx3, rfl⟩
    (try simp only [ctlB])
    repeat' ((first | refine xSTe ?_ | refine xOTe rfl ?_); (try simp only [ctlB]))
    refine xRTe ?_
    rfl
   case pos =>
    rw [hol] at ho0 ⊢
    have hol' : decide ((s.length : Int) ≠ (s.length : Int)) = false := by simp
    have h2 := qle (f := f)
    (try simp only [ctlB])
    refine aw_hv_if (t := true) (by simp (disch := first | omega | (simp only [lenB]; omega)) only [evB, xBTe, Nat.reduceAdd, Nat.reduceBEq, *]; rfl) (by simp (disch := first | omega | (simp only [lenB]; omega)) only [evB, xBTe, Nat.reduceAdd, Nat.reduceBEq, *]) (by simp (disch := first | omega | (simp only [lenB]; omega)) only [evB, xBTe, Nat.reduceAdd, Nat.reduceBEq, *]; try rfl) (fun _ => ⟨_, by simp (disch := first | omega | (simp only [lenB]; omega)) only [evB, xBTe, Nat.reduceAdd, Nat.reduceBEq, *]; rfl, ?_⟩) (fun h => by cases h)
    refine wpH_call0 (ris (ch := FD.ch f) (sz := f.q) (po := f.poly) (x := by')) ?_
    rintro v H3 ⟨hx3, rfl⟩
    have g0 := (hx3).get g0; have g1 := (hx3).get g1
    have hx3 := hx2.trans hx3
    have hl3 := hx3.1
    clear hx2 hl2
    generalize ht3 : (decide (0 ≤ by') && decide (by' < (f.q : Int))) = t3
    cases t3 with
    | false =>
     clear ht3
     (try simp only [ctlB])
     refine xCTe (fun h => ?_) (fun h => ?_)
     case refine_2 => cases h
     clear h
     (try simp only [ctlB])
     refine xHTe ?_
     refine wpH_call0 (alive hl3) ?_
     rintro v H4 ⟨hx4, rfl⟩
     (try simp only [ctlB])
     repeat' ((first | refine xSTe ?_ | refine xOTe rfl ?_); (try simp only [ctlB]))
     refine xRTe ?_
     rfl
    | true =>
     obtain ⟨c, rfl⟩ : ∃ c : El f, by' = (c.val : Nat) := by
      simp at ht3
      exact ⟨⟨by'.toNat, by omega⟩, by show by' = (by'.toNat : Int); omega⟩
     clear ht3
     (try simp only [ctlB])
     refine xCTe (fun h => ?_) (fun h => ?_)
     ·cases h
     clear h
     (try simp only [ctlB])
     refine xHTe ?_
     refine wpH_call0 (encAny (f := f) (by exact hl3) hg hc (hs0.mono hx3) (by omega)) ?_
     rintro v H4 ⟨hx4, v1, k1, rfl, hk1⟩
     have g0 := (hx4).get g0; have g1 := (hx4).get g1
     have hx4' := hx3.trans hx4
     have hl4 := hx4'.1
     (try simp only [ctlB])
     repeat' ((first | refine xSTe ?_ | refine xOTe rfl ?_); (try simp only [ctlB]))
     refine xHTe ?_
     refine wpH_call0 (encAny (f := f) (by exact hl4) hg hc (ho0.mono hx4') (by omega)) ?_
     rintro v H5 ⟨hx5, v2, k2, rfl, hk2⟩
     have g0 := (hx5).get g0; have g1 := (hx5).get g1
     have hx5' := hx4'.trans hx5
     have hl5 := hx5'.1
     (try simp only [ctlB])
     repeat' ((first | refine xSTe ?_ | refine xOTe rfl ?_); (try simp only [ctlB]))
     by_cases hk : k1 = 0 ∧ k2 = 0
     case neg =>
      have hk' : k1 ≠ 0 ∨ k2 ≠ 0 := by omega
      clear hk hk1 hk2
      refine xCTe (fun h => ?_) (fun h => ?_)
      case refine_2 => exfalso; simp at h; omega
      clear h
      (try simp only [ctlB])
      refine xHTe ?_
      refine wpH_call0 (alive hl5) ?_
      rintro v H6 ⟨-, rfl⟩
      (try simp only [ctlB])
      repeat' ((first | refine xSTe ?_ | refine xOTe rfl ?_); (try simp only [ctlB]))
      refine xRTe ?_
      rfl
     case pos =>
      obtain ⟨rfl, rfl⟩ := hk
      rcases hk1 with h | ⟨-, d1, w1, e1, hw1, hie1, hp1, hq1⟩
      ·exact absurd rfl h
      rcases hk2 with h | ⟨-, d2, w2, e2, hw2, hie2, hp2, hq2⟩
      ·exact absurd rfl h
      have hdl : d1.length ≤ s.length ∧ s.length ≤ d1.length := by rw [e1, valI_len]; omega
      have hdl2 : d2.length = d1.length := by rw [e1, e2, valI_len, valI_len] at hol; exact hol
      have hwl1 := hie1.len
      have hwl2 := hie2.len
      have hi12 := enc_lin c hie1 hie2 hdl2
      have hw1 := hw1.mono hx5
      clear e1 e2 hol' hie1 hie2 hol hx3 hx4 hx4' hl3 hl4
      have hw10 := hw1
      have hw20 := hw2
      obtain ⟨a1, c1, rfl⟩ := hw1.len
      obtain ⟨a2, c2, rfl⟩ := hw2.len
      have hww : w2.length = w1.length := by omega
      rw [hww]
      have hwb : w1.length ≤ s.length + r' ∧ s.length + r' ≤ w1.length := by omega
      clear hwl1 hwl2 hdl2
      refine xCTe (fun h => ?_) (fun h => ?_)
      ·cases h
      clear h
      (try simp only [ctlB])
      refine xCTe (fun h => ?_) (fun h => ?_)
      ·exfalso; simp at h; omega
      clear h
      (try simp only [ctlB])
      repeat' ((first | refine xSTe ?_ | refine xOTe rfl ?_); (try simp only [ctlB]))
      generalize hF : (fun i => co w1 i + c * co w2 i) = F at hi12
      have hFi : ∀ i, co w1 i + c * co w2 i = F i := fun i => by rw [← hF]
      clear hF
      refine aw_for (fun i S H' => Ext H5 H' ∧ ∃ vs bs, H5.length ≤ bs ∧ Own H.length 1 H' vs bs (elL (tab i F)) ∧ ∃ z0 z1 z4 z7 z9 z11 z12 z13 z14 z15 z16 z17 z18 z19 z20 z21 z22 z23 z26 z27 z28 z29 z30 z31 z32 z33 z34 z35 z36 z37, S = [z0, z1, .int .i64 (c.val : Nat), .pointer (some ⟨H.length, 0, none⟩), z4, .pointer (some ⟨H.length + 1, 0, none⟩), .slice a1 w1.length c1, z7, .slice a2 w1.length c2, z9, vs, z11, z12, z13, z14, z15, z16, z17, z18, z19, z20, z21, z22, z23, .int .i64 (w1.length : Nat), .int .i64 (i : Nat), z26, z27, z28, z29, z30, z31, z32, z33, z34, z35, z36, z37]) w1.length ?_ ?_ ?_ ?_
      ·exact ⟨Ext.refl _, _, H5.length, Nat.le_refl _, Own.nil (by omega), _, _, _, _, _, _, _, _, _, _, _, _, _, _, _, _, _, _, _, _, _, _, _, _, _, _, _, _, _, _,  rfl⟩
      ·rintro i S H' hi ⟨hx, vs, bs, hbs, hown, z0, z1, z4, z7, z9, z11, z12, z13, z14, z15, z16, z17, z18, z19, z20, z21, z22, z23, z26, z27, z28, z29, z30, z31, z32, z33, z34, z35, z36, z37,  rfl⟩
       exact ⟨_, by simp (disch := first | omega | (simp only [lenB]; omega)) only [evB, xBTe, Nat.reduceAdd, Nat.reduceBEq, *]; rfl, by simp⟩
      ·rintro i S H6 hi ⟨hx6, vs, bs, hbs, hown, z0, z1, z4, z7, z9, z11, z12, z13, z14, z15, z16, z17, z18, z19, z20, z21, z22, z23, z26, z27, z28, z29, z30, z31, z32, z33, z34, z35, z36, z37,  rfl⟩
       obtain ⟨xb, xo, xsp, xc, xs, ee, gx, hat, hxl⟩ := sle_at (hw10.mono hx6) (by omega)
       cases ee
       have hati := hat i hi
       clear hat
       obtain ⟨yb, yo, ysp, yc, ys, ee, gy, hat, hyl⟩ := sle_at (hw20.mono hx6) (by omega)
       rw [hww] at ee hat hyl
       cases ee
       have hatj := hat i hi
       clear hat
       have g0 := (hx6).get g0; have g1 := (hx6).get g1
       have hl6 := hx6.1
       (try simp only [ctlB])
       repeat' ((first | refine xSTe ?_ | refine xOTe rfl ?_); (try simp only [ctlB]))
       refine xHTe ?_
       refine wpH_call1 (rtimes (f := f) c (co w2 i)) ?_
       rintro v H7 ⟨hx7, rfl⟩
       have hl7 := hx7.1
       (try simp only [ctlB])
       refine xHTe ?_
       refine wpH_call0 (rplus (f := f) (co w1 i) (c * co w2 i)) ?_
       rintro v H8 ⟨hx8, rfl⟩
       have hx8 := hx7.trans hx8
       have hl8 := hx8.1
       rw [hFi]
       clear gx gy hati hatj g0 g1
       (try simp only [ctlB])
       repeat' ((first | refine xSTe ?_ | refine xOTe rfl ?_); (try simp only [ctlB]))
       refine xHTe ?_
       refine wpH_app (c := [.int .i64 ((F i).val : Nat)]) (hown.mono (hx8.trans (Ext.app _ _))) (by simp; omega) (by omega) (by omega) (by rw [elL_len, tab_len]; omega) get_app0 (by simp) rfl rfl ?_
       rintro v' H9 hown9 hk9 hl9
       have hE := Ext.app H8 [some [Value.int .i64 ((F i).val : Nat)]]
       simp only [List.length_append, List.length_cons, List.length_nil] at hown9
       (try simp only [ctlB])
       repeat' ((first | refine xSTe ?_ | refine xOTe rfl ?_); (try simp only [ctlB]))
       refine ⟨hk9.ext ((hx6.trans hx8).trans hE) hbs, v', H8.length + (0 + 1), by omega, ?_, _, _, _, _, _, _, _, _, _, _, _, _, _, _, _, _, _, _, _, _, _, _, _, _, _, _, _, _, _, _,  by first | rfl | (simp only [Int.natCast_add, Int.natCast_one]; rfl) | simp only [Int.natCast_add, Int.natCast_one]⟩
       rw [tab_succ, elL_snoc]; exact hown9
      ·rintro S H6 ⟨hx6, vs, bs, hbs, hown, z0, z1, z4, z7, z9, z11, z12, z13, z14, z15, z16, z17, z18, z19, z20, z21, z22, z23, z26, z27, z28, z29, z30, z31, z32, z33, z34, z35, z36, z37,  rfl⟩
       have g0 := (hx6).get g0; have g1 := (hx6).get g1
       obtain ⟨-, ⟨-, h⟩ | ⟨m, hm, hml, rfl, gw⟩⟩ := hown
       ·have : w1.length = 0 := by rw [← tab_len w1.length F, ← elL_len (tab w1.length F), h]; rfl
        omega
       have hmw : m = w1.length := by rw [elL_len, tab_len] at hml; omega
       subst hmw
       clear hml
       have hx6' := hx5'.trans hx6
       have hl6 := hx6'.1
       have hfr := sle_front (sp := some 1) (cap := w1.length) gw (k := s.length) (by rw [tab_len]; omega) (by omega) (.inr rfl)
       have hall := sle_whole (sp := some 1) gw (tab_len _ _)
       have hds : d1.length = s.length := by omega
       rw [hds] at hi12
       have htl : ((tab w1.length F).take s.length).length = s.length := by rw [List.length_take, tab_len]; omega
       (try simp only [ctlB])
       refine xHTe ?_
       refine wpH_call0 (encR_ok (f := f) (by exact hl6) hg hc hfr (by omega)) ?_
       rintro v H7 ⟨hx7, ⟨-, -, v3, w3, rfl, hw3, hie3⟩ | ⟨hno, -⟩⟩
       case inr => exact absurd ⟨by omega, by omega⟩ hno
       have hw3e := enc_uniq hg hc hie3 hi12
       subst hw3e
       have hall := sle_sli (hall.mono hx7)
       have hw3 := sle_sli hw3
       have hx7 := hx6'.trans hx7
       have hl7 := hx7.1
       clear hfr hi12 hie3 htl hds g0 g1
       (try simp only [ctlB])
       repeat' ((first | refine xSTe ?_ | refine xOTe rfl ?_); (try simp only [ctlB]))
       refine xTTe ?_
       refine wpH_call0 (ints_eq hw3 hall (by rw [valI_len, tab_len]; omega) (by rw [valI_len, tab_len]; omega) rfl) ?_
       rintro v _ ⟨rfl, rfl⟩
       (try simp only [ctlB])
       refine xTTe ?_
       refine wpH_call0 (alive hl7) ?_
       rintro v H8 ⟨-, rfl⟩
       (try simp only [ctlB])
       repeat' ((first | refine xSTe ?_ | refine xOTe rfl ?_); (try simp only [ctlB]))
       refine xRTe ?_
       rfl
end Go.Proofs.Ythejjplggcfjcaa
