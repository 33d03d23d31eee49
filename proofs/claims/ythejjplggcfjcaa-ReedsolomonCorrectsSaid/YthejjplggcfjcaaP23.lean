/- Reed-Solomon codes: what Decode answers for any arguments; the law Detects. -/
import Derived.Test.YthejjplggcfjcaaP17
set_option linter.unusedVariables false
set_option linter.unusedSimpArgs false
set_option linter.unusedSectionVars false
namespace Go.Proofs.Ythejjplggcfjcaa
open Go.Abs Go.RS
set_option linter.unusedSimpArgs false
set_option linter.unusedVariables false
set_option maxRecDepth 20000
def DecGood (ch sz po r b : Int) (l e : List Int) (H' : Heap) (v : Value) : Prop :=
 ∃ (f : FD) (_ : OkC f) (g : El f) (r' b' : Nat) (w : List (El f)), Gn (OkC.ok (f := f)) g ∧ CdOK f r' b' ∧ ch = FD.ch f ∧ sz = f.q ∧ po = f.poly ∧ r = r' ∧ b = b' ∧ l = valI w ∧ inR w.length e ∧ r' < w.length ∧ w.length < f.q ∧ DecOK g r' b' w (erI e) ∧
  ∃ vw vc, v = .tuple #[.agg #[vw, vc], .int .i64 0] ∧ SlE H' vw (fixW g r' b' w (erI e)) ∧ Sl encN H' vc (sel (fun i => decide (co (fixW g r' b' w (erI e)) i ≠ co w i)) w.length)
theorem decAny {lo : Nat} {H : Heap} {ch sz po r b : Int} {v ve : Value} {l e : List Int} (hlo : lo ≤ H.length) (hb : po ≤ 9223372036854775807) (hl : SlI H v l) (hll : l.length ≤ 10000000) (he : SlI H ve e) (hel : e.length ≤ 10000000) :
  Ev cp lo 23 [cdI ch sz po r b, v, ve] H (fun v H' => Ext H H' ∧ ((∃ k, k ≠ 0 ∧ v = decE k) ∨ DecGood ch sz po r b l e H' v)) := by
 by_cases hok : OkCd ch sz po r b ∧ inF sz l = true
 ·obtain ⟨hok, hin⟩ := hok
  obtain ⟨f, _, g, r', b', hg, hc, rfl, rfl, rfl, rfl, rfl⟩ := okcd_f hok
  obtain ⟨w, rfl⟩ := to_el hin
  refine (decR_ok hlo hg hc (sli_sle hl) (by simpa using hll) he hel).mono ?_
  rintro v H' ⟨hx, h1, h2, h3, h4⟩
  refine ⟨hx, ?_⟩
  by_cases hr : inR w.length e
  ·by_cases hn : r' < w.length ∧ w.length < f.q
   ·by_cases hd : DecOK g r' b' w (erI e)
    ·obtain ⟨vw, vc, hv, a, b⟩ := h4 hr hn.1 hn.2 hd
     exact .inr ⟨f, _, g, r', b', w, hg, hc, rfl, rfl, rfl, rfl, rfl, rfl, hr, hn.1, hn.2, hd, vw, vc, hv, a, b⟩
    ·exact .inl ⟨17, by decide, h3 hr hn.1 hn.2 hd⟩
   ·exact .inl ⟨7, by decide, h2 hr hn⟩
  ·exact .inl ⟨1, by decide, h1 hr⟩
 ·refine (decR_bad hlo hb hl (by omega) hok).mono ?_
  rintro v H' ⟨hx, rfl⟩
  exact ⟨hx, .inl ⟨1, by decide, rfl⟩⟩
theorem sel_next {φ : Nat → Bool} {i : Nat} (hφ : φ i = true) : ∀ n, i < n → (sel φ i).length < (sel φ n).length ∧ (sel φ n).getD (sel φ i).length 0 = i
 | 0, h => by omega
 | n + 1, h => by
  rw [sel_succ]
  by_cases hi : i = n
  ·subst hi
   rw [if_pos hφ]
   simp
  ·have ih := sel_next hφ n (by omega)
   rw [List.length_append]
   refine ⟨by omega, ?_⟩
   rw [List.getD_eq_getElem?_getD, List.getElem?_append_left ih.1, ← List.getD_eq_getElem?_getD]
   exact ih.2
theorem encN_at {H : Heap} {v : Value} {l : List Nat} (h : Sl encN H v l) (hl : 0 < l.length) : ∃ b o sp cap xs, v = .slice (some ⟨b, o, sp⟩) l.length cap ∧ H.get b = some xs ∧ (∀ i, i < l.length → xs[o + i]? = some (.int .i64 ((l.getD i 0 : Nat) : Int))) ∧ o + l.length ≤ xs.length := by
 obtain ⟨b, o, sp, cap, xs, h1, h2, h3, h4⟩ := h.els 0 hl
 exact ⟨b, o, sp, cap, xs, h1, h2, h3, h4⟩
set_option linter.defProp false in
def xBTf := And.intro @Int.cast_ofNat_Int (And.intro @fv.eq_1 (And.intro @fvf.eq_1 (And.intro @ite_self.{1} (And.intro @ite_st (And.intro @ite_sf (And.intro @ite_nt (And.intro @cdC.eq_1 (And.intro @arC.eq_1 (And.intro @elL_at (And.intro @elL_len (And.intro @elL_set' (And.intro @zerosEl (And.intro @erL_at @erL_len)))))))))))))
theorem xSTf {cp : FuncId → Option CF} {lo : Nat} {l : List (Nat × E)} {chk : List E} {Q : Post} {S : List Value} {H : Heap} {vs : List (Nat × Value)} {S' : List Value} (k : Q .normal S' H) (h : evSets S H l = some vs := by simp (disch := first | omega | (simp only [lenB]; omega)) only [evB, xBTf, Nat.reduceAdd, Nat.reduceBEq, *]; rfl) (hc : evChk S H chk = true := by simp (disch := first | omega | (simp only [lenB]; omega)) only [evB, xBTf, Nat.reduceAdd, Nat.reduceBEq, *]) (hS : setAll S vs = S' := by simp (disch := first | omega | (simp only [lenB]; omega)) only [evB, xBTf, Nat.reduceAdd, Nat.reduceBEq, *]; rfl) : wpS cp lo (.sets l chk) Q S H := aw_sets h hc hS k
theorem xHTf {cp : FuncId → Option CF} {lo : Nat} {l : List (Nat × E)} {chk : List E} {Q : Post} {S : List Value} {H : Heap} {vs : List (Nat × Value)} {dst : Option Nat} {o : HOp} {a : E} {xs : List Value} (k : wpH cp lo o xs H fun v H' => Q .normal (setD (setAll S vs) dst v) H') (h : evSets S H l = some vs := by simp (disch := first | omega | (simp only [lenB]; omega)) only [evB, xBTf, Nat.reduceAdd, Nat.reduceBEq, *]; rfl) (hc : evChk S H chk = true := by simp (disch := first | omega | (simp only [lenB]; omega)) only [evB, xBTf, Nat.reduceAdd, Nat.reduceBEq, *]) (ha : ev S H a = some xs := by simp (disch := first | omega | (simp only [lenB]; omega)) only [evB, xBTf, Nat.reduceAdd, Nat.reduceBEq, *]; rfl) : wpS cp lo (.hv l chk [] dst o a) Q S H := aw_hv h hc ha k
theorem xOTf {cp : FuncId → Option CF} {lo : Nat} {l : List (Nat × E)} {chk : List E} {Q : Post} {S : List Value} {H : Heap} {vs : List (Nat × Value)} {dst : Option Nat} {o : HOp} {a : E} {xs : List Value} {S' : List Value} {H' : Heap} {v : Value} (hcall : o.isCall = false) (k : Q .normal S' H') (h : evSets S H l = some vs := by simp (disch := first | omega | (simp only [lenB]; omega)) only [evB, xBTf, Nat.reduceAdd, Nat.reduceBEq, *]; rfl) (hc : evChk S H chk = true := by simp (disch := first | omega | (simp only [lenB]; omega)) only [evB, xBTf, Nat.reduceAdd, Nat.reduceBEq, *]) (ha : ev S H a = some xs := by simp (disch := first | omega | (simp only [lenB]; omega)) only [evB, xBTf, Nat.reduceAdd, Nat.reduceBEq, *]; rfl) (ho : hsem0 lo o xs H = some (v, H') := by simp (disch := first | omega | (simp only [lenB]; omega)) only [evB, xBTf, Nat.reduceAdd, Nat.reduceBEq, *]; rfl) (hS : setD (setAll S vs) dst v = S' := by simp (disch := first | omega | (simp only [lenB]; omega)) only [evB, xBTf, Nat.reduceAdd, Nat.reduceBEq, *]; rfl) : wpS cp lo (.hv l chk [] dst o a) Q S H := aw_op hcall h hc ha ho hS k
theorem xCTf {cp : FuncId → Option CF} {lo : Nat} {c : E} {a b : Stm} {Q : Post} {S : List Value} {H : Heap} {t : Bool} (k1 : t = true → wpS cp lo a Q S H) (k2 : t = false → wpS cp lo b Q S H) (h : ev1 S H c = some (.bool t) := by simp (disch := first | omega | (simp only [lenB]; omega)) only [evB, xBTf, Nat.reduceAdd, Nat.reduceBEq, *]; rfl) : wpS cp lo (.cond c a b) Q S H := aw_cond h k1 k2
theorem xTTf {cp : FuncId → Option CF} {lo : Nat} {l : List (Nat × E)} {chk : List E} {Q : Post} {S : List Value} {H : Heap} {vs : List (Nat × Value)} {dst : Option Nat} {o : HOp} {a : E} {xs : List Value} {pc : PC} (k : wpH cp lo o xs H fun v H' => Q .normal (setD (setAll S vs) dst v) H') (h : evSets S H l = some vs := by simp (disch := first | omega | (simp only [lenB]; omega)) only [evB, xBTf, Nat.reduceAdd, Nat.reduceBEq, *]; rfl) (hc : evChk S H chk = true := by simp (disch := first | omega | (simp only [lenB]; omega)) only [evB, xBTf, Nat.reduceAdd, Nat.reduceBEq, *]) (hp : holds S H pc = some true := by simp (disch := first | omega | (simp only [lenB]; omega)) only [evB, xBTf, Nat.reduceAdd, Nat.reduceBEq, *]; try rfl) (ha : ev S H a = some xs := by simp (disch := first | omega | (simp only [lenB]; omega)) only [evB, xBTf, Nat.reduceAdd, Nat.reduceBEq, *]; rfl) : wpS cp lo (.hv l chk pc dst o a) Q S H := aw_hvT h hc hp ha k
theorem xRTf {cf : CF} {R : Value → Heap → Prop} {S : List Value} {H : Heap} {vs : List Value} (k : R (resultOf vs) H) (h : evList S H cf.res = some vs := by simp (disch := first | omega | (simp only [lenB]; omega)) only [evB, xBTf, Nat.reduceAdd, Nat.reduceBEq, *]; rfl) : bodyQ cf R .ret S H := body_ret h k
set_option maxHeartbeats 4000000 in
theorem lawDet {H : Heap} {ch sz po r b : Int} {v ve : Value} {s e : List Int} (hb : po ≤ 9223372036854775807) (hs2 : sz ≤ 9223372036854775807) (hs : SlI H v s) (he : SlI H ve e) : Ev cp H.length 8 [askV ch sz po r b v ve] H (fun v _ => v = .bool true) := by
 have hs0 := hs
 have he0 := he
 obtain ⟨ad, cd, rfl⟩ := hs.len
 obtain ⟨ae, ce, rfl⟩ := he.len
 unfold askV
 refine st8 ?_; unfold bd8 cf8; simp only [kB, ctlB]
 repeat' ((first | refine xSTf ?_ | refine xOTf rfl ?_); (try simp only [ctlB]))
 generalize hG : H ++ _ = G at *
 obtain ⟨g0, hxG⟩ := box_facts hG
 clear hG
 have hlG := hxG.1
 refine xHTf ?_
 refine wpH_call0 (small (ch := ch) (sz := sz) (po := po) (r := r) (b := b)) ?_
 rintro v H1 ⟨hx1, rfl⟩
 have g0 := (hx1).get g0
 have hx1 := hxG.trans hx1
 have hl1 := hx1.1
 clear hxG hlG
 generalize ht : (decide (r ≤ 60) && decide (s.length ≤ 400) && decide (e.length ≤ 400)) = t
 cases t with
 | false =>
  clear ht
  (try simp only [ctlB])
  refine xCTf (fun h => ?_) (fun h => ?_)
  case refine_2 => cases h
  clear h
  (try simp only [ctlB])
  refine xHTf ?_
  refine wpH_call0 (alive hl1) ?_
  rintro v H2 ⟨hx2, rfl⟩
  (try simp only [ctlB])
  repeat' ((first | refine xSTf ?_ | refine xOTf rfl ?_); (try simp only [ctlB]))
  refine xRTf ?_
  rfl
 | true =>
  have hlen : s.length ≤ 400 ∧ e.length ≤ 400 := by simp at ht; omega
  clear ht
  (try simp only [ctlB])
  refine xCTf (fun h => ?_) (fun h => ?_)
  ·cases h
  clear h
  (try simp only [ctlB])
  refine xHTf ?_
  refine wpH_call0 (decAny (ch := ch) (sz := sz) (po := po) (r := r) (b := b) (by exact hl1) hb (hs0.mono hx1) (by omega) (he0.mono hx1) (by omega)) ?_
  rintro v H2 ⟨hx2, ⟨k, hk, rfl⟩ | hgood⟩
  ·have hx2 := hx1.trans hx2
   have hl2 := hx2.1
   unfold decE
   (try simp only [ctlB])
   repeat' ((first | refine xSTf ?_ | refine xOTf rfl ?_); (try simp only [ctlB]))
   generalize hG : H2 ++ _ = G at *
   obtain ⟨g1, hxG⟩ := box_facts hG
   clear hG
   have hx3 := hx2.trans hxG
   have hl3 := hx3.1
   clear hxG
   refine xCTf (fun h => ?_) (fun h => ?_)
   case refine_2 => exfalso; simp at h; omega
   clear h
   (try simp only [ctlB])
   refine xTTf ?_
   refine wpH_call0 (alive hl3) ?_
   rintro v H3 ⟨-, rfl⟩
   (try simp only [ctlB])
   repeat' ((first | refine xSTf ?_ | refine xOTf rfl ?_); (try simp only [ctlB]))
   refine xRTf ?_
   rfl
  ·obtain ⟨f, _, g, r', b', w, hg, hc, rfl, rfl, rfl, rfl, rfl, hsw, hin, hr1, hr2, hdec, vw, vc, rfl, hvw, hvc⟩ := hgood
   have hswl : s.length = w.length := by rw [hsw, valI_len]
   have hfew := fix_few hdec
   have hcw := hdec.cw
   have hfl := fixW_len g r' b' w (erI e)
   generalize fixW g r' b' w (erI e) = W at *
   have hws : SlE H (.slice ad s.length cd) w := by rw [hsw] at hs0; rw [hsw]; exact sli_sle hs0
   rw [hswl] at hws hlen g0 ⊢
   clear hsw hs0 hdec hswl hs
   have h2 := qle (f := f)
   have hvw0 := hvw
   have hvc0 := hvc
   obtain ⟨aw, cw, rfl⟩ := hvw.len
   obtain ⟨ac, cc, rfl⟩ := hvc.len
   rw [hfl]
   have g0 := hx2.get g0
   have hx2 := hx1.trans hx2
   have hl2 := hx2.1
   clear hx1 hl1 hvw hvc
   (try simp only [ctlB])
   repeat' ((first | refine xSTf ?_ | refine xOTf rfl ?_); (try simp only [ctlB]))
   generalize hG : H2 ++ _ = G at *
   obtain ⟨g1, hxG⟩ := box_facts hG
   clear hG
   have g0 := (hxG).get g0
   have hvw0 := hvw0.mono hxG
   have hvc0 := hvc0.mono hxG
   have hx3 := hx2.trans hxG
   have hl3 := hx3.1
   have hl2' := Heap.get_lt g1
   clear hxG hx2
   refine xCTf (fun h => ?_) (fun h => ?_)
   ·cases h
   clear h
   (try simp only [ctlB])
   refine xHTf ?_
   refine wpH_call0 (synR_ok (f := f) (by exact hl3) hg hc (by rw [← hfl]; exact hvw0) (by omega)) ?_
   rintro v H4 ⟨hx4, ⟨-, -, v5, rfl, hv5⟩ | ⟨hno, -⟩⟩
   case inr => exact absurd ⟨by omega, by omega⟩ hno
   have hv50 := hv5
   obtain ⟨a5, c5, rfl⟩ := hv5.len
   rw [synL_len]
   have g0 := (hx4).get g0; have g1 := (hx4).get g1
   have hvw0 := hvw0.mono hx4
   have hvc0 := hvc0.mono hx4
   have hx4 := hx3.trans hx4
   have hl4 := hx4.1
   have hz := syn_zero.2 hcw
   clear hx3 hv5 hcw
   (try simp only [ctlB])
   repeat' ((first | refine xSTf ?_ | refine xOTf rfl ?_); (try simp only [ctlB]))
   refine xCTf (fun h => ?_) (fun h => ?_)
   ·exfalso; simp at h
   clear h
   (try simp only [ctlB])
   repeat' ((first | refine xSTf ?_ | refine xOTf rfl ?_); (try simp only [ctlB]))
   refine aw_for (fun i S H' => H4 = H' ∧ ∃ z0 z2 z4 z6 z7 z8 z9 z10 z11 z12 z13 z14 z15 z16 z17 z18 z19 z20 z23 z24 z25 z26 z27 z28 z29, S = [z0, .pointer (some ⟨H.length, 0, none⟩), z2, .pointer (some ⟨H2.length, 0, none⟩), z4, .slice a5 r' c5, z6, z7, z8, z9, z10, z11, z12, z13, z14, z15, z16, z17, z18, z19, z20, .int .i64 (r' : Nat), .int .i64 (i : Nat), z23, z24, z25, z26, z27, z28, z29]) r' ?_ ?_ ?_ ?_
   ·exact ⟨rfl, _, _, _, _, _, _, _, _, _, _, _, _, _, _, _, _, _, _, _, _, _, _, _, _, _,  rfl⟩
   ·rintro i S H' hi ⟨rfl, z0, z2, z4, z6, z7, z8, z9, z10, z11, z12, z13, z14, z15, z16, z17, z18, z19, z20, z23, z24, z25, z26, z27, z28, z29,  rfl⟩
    exact ⟨_, by simp (disch := first | omega | (simp only [lenB]; omega)) only [evB, xBTf, Nat.reduceAdd, Nat.reduceBEq, *]; rfl, by simp⟩
   ·rintro i S H' hi ⟨rfl, z0, z2, z4, z6, z7, z8, z9, z10, z11, z12, z13, z14, z15, z16, z17, z18, z19, z20, z23, z24, z25, z26, z27, z28, z29,  rfl⟩
    obtain ⟨xb, xo, xsp, xc, xs, ee, gx, hat, hxl⟩ := sle_at hv50 (by rw [synL_len]; omega)
    rw [synL_len] at ee hat hxl
    cases ee
    have hati := hat i hi
    rw [hz i hi, val_0] at hati
    clear hat
    (try simp only [ctlB])
    repeat' ((first | refine xSTf ?_ | refine xOTf rfl ?_); (try simp only [ctlB]))
    refine xCTf (fun h => ?_) (fun h => ?_)
    ·cases h
    clear h
    (try simp only [ctlB])
    repeat' ((first | refine xSTf ?_ | refine xOTf rfl ?_); (try simp only [ctlB]))
    exact ⟨by trivial, _, _, _, _, _, _, _, _, _, _, _, _, _, _, _, _, _, _, _, _, _, _, _, _, _,  by first | rfl | (simp only [Int.natCast_add, Int.natCast_one]; rfl) | simp only [Int.natCast_add, Int.natCast_one]⟩
   ·rintro S H' ⟨rfl, z0, z2, z4, z6, z7, z8, z9, z10, z11, z12, z13, z14, z15, z16, z17, z18, z19, z20, z23, z24, z25, z26, z27, z28, z29,  rfl⟩
    clear hz hv50
    (try simp only [ctlB])
    repeat' ((first | refine xSTf ?_ | refine xOTf rfl ?_); (try simp only [ctlB]))
    have hbl : boolL (List.replicate w.length false) = erL w.length (erI (e.take 0)) := by
     simp [boolL, erL, erI, List.map_const']
    rw [hbl]
    generalize hG : H4 ++ _ = G5 at *
    obtain ⟨ge, hxG⟩ := box_facts hG
    clear hG hbl
    have hlt0 := Heap.get_lt g0
    have hlt1 := Heap.get_lt g1
    have g0 := (hxG).get g0; have g1 := (hxG).get g1
    have hx5 := hx4.trans hxG
    have hl5 := hx5.1
    have hlb := Heap.get_lt ge
    have hlb2 := Heap.get_lt g1
    have hx45 := hxG
    have hl45 := hxG.1
    clear hxG
    (try simp only [ctlB])
    repeat' ((first | refine xSTf ?_ | refine xOTf rfl ?_); (try simp only [ctlB]))
    refine aw_for (fun i S H' => Keep H4.length G5 H' ∧ Heap.get H' H4.length = some (erL w.length (erI (e.take i))) ∧ ∃ z0 z2 z4 z5 z6 z7 z10 z11 z12 z13 z14 z15 z16 z17 z18 z19 z20 z21 z22 z23 z26 z27 z28 z29, S = [z0, .pointer (some ⟨H.length, 0, none⟩), z2, .pointer (some ⟨H2.length, 0, none⟩), z4, z5, z6, z7, .slice (some ⟨H4.length, 0, none⟩) w.length w.length, .int .i64 (sC (erI (e.take i)) w.length : Nat), z10, z11, z12, z13, z14, z15, z16, z17, z18, z19, z20, z21, z22, z23, .int .i64 (e.length : Nat), .int .i64 (i : Nat), z26, z27, z28, z29]) e.length ?_ ?_ ?_ ?_
    ·exact ⟨keep_ext (Ext.refl _), ge, _, _, _, _, _, _, _, _, _, _, _, _, _, _, _, _, _, _, _, _, _, _, _, _,  (by rw [sC_nil]; rfl)⟩
    ·rintro i S H' hi ⟨-, -, z0, z2, z4, z5, z6, z7, z10, z11, z12, z13, z14, z15, z16, z17, z18, z19, z20, z21, z22, z23, z26, z27, z28, z29,  rfl⟩
     exact ⟨_, by simp (disch := first | omega | (simp only [lenB]; omega)) only [evB, xBTf, Nat.reduceAdd, Nat.reduceBEq, *]; rfl, by simp⟩
    ·clear ge
     rintro i S H6 hi ⟨k1, k2, z0, z2, z4, z5, z6, z7, z10, z11, z12, z13, z14, z15, z16, z17, z18, z19, z20, z21, z22, z23, z26, z27, z28, z29,  rfl⟩
     have g0 := k1.get g0 (by omega)
     have hx6 : Ext H H6 := k1.ext hx5 (by omega)
     obtain ⟨yb, yo, ysp, yc, ys, ee, gy, hat, hyl⟩ := (he0.mono hx6).els 0 (by omega)
     cases ee
     have hati := hat i hi
     have hm : e.getD i 0 ∈ e := by rw [List.getD_eq_getElem?_getD, List.getElem?_eq_getElem hi]; exact List.getElem_mem hi
     have hxr := hin _ hm
     obtain ⟨k, hk⟩ : ∃ k : Nat, e.getD i 0 = (k : Int) := ⟨(e.getD i 0).toNat, by omega⟩
     have hsu := erI_succ hi hk
     have hkl : k < w.length := by omega
     rw [hk] at hati
     clear hat hk hxr hm
     have hsl := sC_le (erI (e.take i)) w.length
     have hl6 := Heap.get_lt k2
     have hse := erL_set (erI (e.take i)) hkl
     rw [← hsu] at hse
     (try simp only [ctlB])
     repeat' ((first | refine xSTf ?_ | refine xOTf rfl ?_); (try simp only [ctlB]))
     refine xCTf (fun h => ?_) (fun h => ?_)
     ·exfalso; simp at h; omega
     clear h
     (try simp only [ctlB])
     cases hek : erI (e.take i) k with
     | true =>
      rw [er_same hek] at hsu
      rw [hsu] at hse ⊢
      clear hsu
      refine xCTf (fun h => ?_) (fun h => ?_)
      ·cases h
      clear h hek
      (try simp only [ctlB])
      repeat' ((first | refine xSTf ?_ | refine xOTf rfl ?_); (try simp only [ctlB]))
      refine ⟨keep_set' k1 _, ?_, _, _, _, _, _, _, _, _, _, _, _, _, _, _, _, _, _, _, _, _, _, _, _, _,  by first | rfl | (simp only [Int.natCast_add, Int.natCast_one]; rfl) | simp only [Int.natCast_add, Int.natCast_one]⟩
      rw [get_set_self (by omega)]
     | false =>
      have hca := sC_add hek w.length hkl
      rw [← hsu] at hca
      clear hsu
      refine xCTf (fun h => ?_) (fun h => ?_)
      case refine_2 => cases h
      clear h hek
      generalize hq1 : sC (erI (e.take (i + 1))) w.length = q1 at *
      subst hca
      generalize sC (erI (e.take i)) w.length = q0 at *
      (try simp only [ctlB])
      repeat' ((first | refine xSTf ?_ | refine xOTf rfl ?_); (try simp only [ctlB]))
      refine ⟨keep_set' k1 _, ?_, _, _, _, _, _, _, _, _, _, _, _, _, _, _, _, _, _, _, _, _, _, _, _, _,  by first | rfl | (simp only [Int.natCast_add, Int.natCast_one]; rfl) | simp only [Int.natCast_add, Int.natCast_one]⟩
      rw [get_set_self (by omega)]
    ·rintro S H6 ⟨k1, k2, z0, z2, z4, z5, z6, z7, z10, z11, z12, z13, z14, z15, z16, z17, z18, z19, z20, z21, z22, z23, z26, z27, z28, z29,  rfl⟩
     rw [List.take_length] at k2 ⊢
     have g0 := k1.get g0 (by omega)
     have g1 := k1.get g1 (by omega)
     have hx6 : Ext H H6 := k1.ext hx5 (by omega)
     have hl6 := hx6.1
     have hws := hws.mono hx6
     have hx46 : Ext H4 H6 := k1.ext hx45 (Nat.le_refl _)
     have hvw6 := hvw0.mono hx46
     have hvc6 := hvc0.mono hx46
     have hsl := sC_le (erI e) w.length
     generalize hφ : (fun i => decide (co W i ≠ co w i)) = φ at *
     generalize hψ : (fun i => !erI e i && decide (co w i ≠ co W i)) = ψ at *
     have hφi : ∀ i, φ i = decide (co W i ≠ co w i) := fun i => by rw [← hφ]
     have hψi : ∀ i, ψ i = (!erI e i && decide (co w i ≠ co W i)) := fun i => by rw [← hψ]
     clear hφ hψ hvw0 hvc0 hx45 hx46 k1
     (try simp only [ctlB])
     repeat' ((first | refine xSTf ?_ | refine xOTf rfl ?_); (try simp only [ctlB]))
     refine aw_for (fun i S H' => H6 = H' ∧ ∃ z0 z2 z4 z5 z6 z7 z10 z12 z13 z14 z15 z16 z17 z18 z19 z20 z21 z22 z23 z24 z25 z28 z29, S = [z0, .pointer (some ⟨H.length, 0, none⟩), z2, .pointer (some ⟨H2.length, 0, none⟩), z4, z5, z6, z7, .slice (some ⟨H4.length, 0, none⟩) w.length w.length, .int .i64 ((sC (erI e) w.length + 2 * (sel ψ i).length : Nat) : Int), z10, .int .i64 ((sel φ i).length : Nat), z12, z13, z14, z15, z16, z17, z18, z19, z20, z21, z22, z23, z24, z25, .int .i64 (w.length : Nat), .int .i64 (i : Nat), z28, z29]) w.length ?_ ?_ ?_ ?_
     ·exact ⟨rfl, _, _, _, _, _, _, _, _, _, _, _, _, _, _, _, _, _, _, _, _, _, _, _,  rfl⟩
     ·rintro i S H' hi ⟨rfl, z0, z2, z4, z5, z6, z7, z10, z12, z13, z14, z15, z16, z17, z18, z19, z20, z21, z22, z23, z24, z25, z28, z29,  rfl⟩
      exact ⟨_, by simp (disch := first | omega | (simp only [lenB]; omega)) only [evB, xBTf, Nat.reduceAdd, Nat.reduceBEq, *]; rfl, by simp⟩
     ·rintro i S H' hi ⟨rfl, z0, z2, z4, z5, z6, z7, z10, z12, z13, z14, z15, z16, z17, z18, z19, z20, z21, z22, z23, z24, z25, z28, z29,  rfl⟩
      obtain ⟨xb, xo, xsp, xc, xs, ee, gx, hat, hxl⟩ := sle_at hvw6 (by omega)
      rw [hfl] at ee hat hxl
      cases ee
      have hati := hat i hi
      clear hat
      obtain ⟨yb, yo, ysp, yc, ys, ee, gy, hat, hyl⟩ := sle_at hws (by omega)
      cases ee
      have hatj := hat i hi
      clear hat
      have hs1 := sel_succ φ i
      have hs2 := sel_succ ψ i
      have hs3 : (sel φ i).length ≤ i := sC_le φ i
      have hs4 : (sel ψ i).length ≤ i := sC_le ψ i
      by_cases hz : co W i = co w i
      ·rw [hφi, if_neg (by simp [hz]), List.append_nil] at hs1
       rw [hψi, if_neg (by simp [hz]), List.append_nil] at hs2
       rw [hs1, hs2]
       have hzv : (co W i).val = (co w i).val := by rw [hz]
       clear hs1 hs2 hz hφi hψi
       (try simp only [ctlB])
       repeat' ((first | refine xSTf ?_ | refine xOTf rfl ?_); (try simp only [ctlB]))
       refine xCTf (fun h => ?_) (fun h => ?_)
       ·exfalso; simp at h
       clear h hzv hati hatj
       (try simp only [ctlB])
       repeat' ((first | refine xSTf ?_ | refine xOTf rfl ?_); (try simp only [ctlB]))
       exact ⟨by trivial, _, _, _, _, _, _, _, _, _, _, _, _, _, _, _, _, _, _, _, _, _, _, _,  by first | rfl | (simp only [Int.natCast_add, Int.natCast_one]; rfl) | simp only [Int.natCast_add, Int.natCast_one]⟩
      ·have hnx := sel_next (φ := φ) (i := i) (by rw [hφi]; simp [hz]) w.length hi
       rw [hφi, if_pos (by simp [hz])] at hs1
       have hzv : (co W i).val ≠ (co w i).val := fun h => hz (El.ext h)
       have hq1 := congrArg List.length hs1
       rw [List.length_append, List.length_singleton] at hq1
       obtain ⟨zb, zo, zsp, zc, zs, ee, gz, hat, hzl⟩ := encN_at hvc6 (by omega)
       cases ee
       have hatk := hat _ hnx.1
       rw [hnx.2] at hatk
       have hnl := hnx.1
       clear hat hs1 hnx
       generalize hq2 : (sel φ (i + 1)).length = q2 at *
       subst hq1
       clear hq2
       generalize (sel φ i).length = q0 at *
       cases hek : erI e i with
       | true =>
        rw [hψi, if_neg (by simp [hek]), List.append_nil] at hs2
        rw [hs2]
        clear hs2 hφi hψi hz
        (try simp only [ctlB])
        repeat' ((first | refine xSTf ?_ | refine xOTf rfl ?_); (try simp only [ctlB]))
        refine xCTf (fun h => ?_) (fun h => ?_)
        case refine_2 => exfalso; simp at h; omega
        clear h hzv hati hatj
        (try simp only [ctlB])
        refine xCTf (fun h => ?_) (fun h => ?_)
        ·exfalso; simp at h; omega
        clear h
        (try simp only [ctlB])
        repeat' ((first | refine xSTf ?_ | refine xOTf rfl ?_); (try simp only [ctlB]))
        refine xCTf (fun h => ?_) (fun h => ?_)
        ·cases h
        clear h hek hatk
        (try simp only [ctlB])
        repeat' ((first | refine xSTf ?_ | refine xOTf rfl ?_); (try simp only [ctlB]))
        exact ⟨by trivial, _, _, _, _, _, _, _, _, _, _, _, _, _, _, _, _, _, _, _, _, _, _, _,  by first | rfl | (simp only [Int.natCast_add, Int.natCast_one]; rfl) | simp only [Int.natCast_add, Int.natCast_one]⟩
       | false =>
        rw [hψi, if_pos (by simp [hek]; exact fun h => hz h.symm)] at hs2
        have hp1 := congrArg List.length hs2
        rw [List.length_append, List.length_singleton] at hp1
        clear hs2 hφi hψi hz
        generalize hp2 : (sel ψ (i + 1)).length = p2 at *
        subst hp1
        clear hp2
        generalize (sel ψ i).length = p0 at *
        generalize sC (erI e) w.length = m0 at *
        (try simp only [ctlB])
        repeat' ((first | refine xSTf ?_ | refine xOTf rfl ?_); (try simp only [ctlB]))
        refine xCTf (fun h => ?_) (fun h => ?_)
        case refine_2 => exfalso; simp at h; omega
        clear h hzv hati hatj
        (try simp only [ctlB])
        refine xCTf (fun h => ?_) (fun h => ?_)
        ·exfalso; simp at h; omega
        clear h
        (try simp only [ctlB])
        repeat' ((first | refine xSTf ?_ | refine xOTf rfl ?_); (try simp only [ctlB]))
        refine xCTf (fun h => ?_) (fun h => ?_)
        case refine_2 => cases h
        clear h hek hatk
        have hnn : ((m0 + 2 * p0 : Nat) : Int) + 2 = ((m0 + 2 * (p0 + 1) : Nat) : Int) := by omega
        (try simp only [ctlB])
        repeat' ((first | refine xSTf ?_ | refine xOTf rfl ?_); (try simp only [ctlB]))
        exact ⟨by trivial, _, _, _, _, _, _, _, _, _, _, _, _, _, _, _, _, _, _, _, _, _, _, _,  by first | rfl | (simp only [Int.natCast_add, Int.natCast_one]; rfl) | simp only [Int.natCast_add, Int.natCast_one]⟩
     ·rintro S H' ⟨rfl, z0, z2, z4, z5, z6, z7, z10, z12, z13, z14, z15, z16, z17, z18, z19, z20, z21, z22, z23, z24, z25, z28, z29,  rfl⟩
      have hcap : 2 * (sel ψ w.length).length + sC (erI e) w.length ≤ r' := hfew
      (try simp only [ctlB])
      refine xTTf ?_
      refine wpH_call0 (alive hl6) ?_
      rintro v H7 ⟨-, rfl⟩
      (try simp only [ctlB])
      repeat' ((first | refine xSTf ?_ | refine xOTf rfl ?_); (try simp only [ctlB]))
      refine xRTf ?_
      simp [resultOf]; omega
end Go.Proofs.Ythejjplggcfjcaa
