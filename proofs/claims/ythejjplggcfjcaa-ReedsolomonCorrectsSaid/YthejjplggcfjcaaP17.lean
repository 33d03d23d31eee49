/- The laws' helper alive: the examples of the chapter. Reed-Solomon codes: Encode and Generator where the code or the data are not valid. Reed-Solomon codes: the laws Locates and Encodes. What every law of this seat needs of the program, and the arguments of the laws. -/
import Derived.Test.YthejjplggcfjcaaP10
import Derived.Test.YthejjplggcfjcaaP16
import Derived.Test.YthejjplggcfjcaaRows
set_option linter.unusedVariables false
set_option linter.unusedSimpArgs false
set_option linter.unusedSectionVars false
namespace Go.Proofs.Ythejjplggcfjcaa
open Go.Abs Go.RS
set_option linter.unusedSimpArgs false
set_option linter.unusedVariables false
set_option maxRecDepth 20000
section
variable {lo : Nat} {H : Heap} {ch sz po r b : Int}
set_option linter.defProp false in
def xBTa := And.intro @Int.cast_ofNat_Int (And.intro @fv.eq_1 (And.intro @fvf.eq_1 (And.intro @ite_self.{1} (And.intro @ite_st (And.intro @ite_sf (And.intro @ite_nt (And.intro @cdC.eq_1 (And.intro @arC.eq_1 (And.intro @dcC.eq_1 (And.intro @elL_at (And.intro @elL_len (And.intro @elL_set' (And.intro @zerosEl (And.intro @erL_at @erL_len))))))))))))))
theorem xSTa {cp : FuncId → Option CF} {lo : Nat} {l : List (Nat × E)} {chk : List E} {Q : Post} {S : List Value} {H : Heap} {vs : List (Nat × Value)} {S' : List Value} (k : Q .normal S' H) (h : evSets S H l = some vs := by simp (disch := first | omega | (simp only [lenB]; omega)) only [evB, xBTa, Nat.reduceAdd, Nat.reduceBEq, *]; rfl) (hc : evChk S H chk = true := by simp (disch := first | omega | (simp only [lenB]; omega)) only [evB, xBTa, Nat.reduceAdd, Nat.reduceBEq, *]) (hS : setAll S vs = S' := by simp (disch := first | omega | (simp only [lenB]; omega)) only [evB, xBTa, Nat.reduceAdd, Nat.reduceBEq, *]; rfl) : wpS cp lo (.sets l chk) Q S H := aw_sets h hc hS k
theorem xHTa {cp : FuncId → Option CF} {lo : Nat} {l : List (Nat × E)} {chk : List E} {Q : Post} {S : List Value} {H : Heap} {vs : List (Nat × Value)} {dst : Option Nat} {o : HOp} {a : E} {xs : List Value} (k : wpH cp lo o xs H fun v H' => Q .normal (setD (setAll S vs) dst v) H') (h : evSets S H l = some vs := by simp (disch := first | omega | (simp only [lenB]; omega)) only [evB, xBTa, Nat.reduceAdd, Nat.reduceBEq, *]; rfl) (hc : evChk S H chk = true := by simp (disch := first | omega | (simp only [lenB]; omega)) only [evB, xBTa, Nat.reduceAdd, Nat.reduceBEq, *]) (ha : ev S H a = some xs := by simp (disch := first | omega | (simp only [lenB]; omega)) only [evB, xBTa, Nat.reduceAdd, Nat.reduceBEq, *]; rfl) : wpS cp lo (.hv l chk [] dst o a) Q S H := aw_hv h hc ha k
theorem xOTa {cp : FuncId → Option CF} {lo : Nat} {l : List (Nat × E)} {chk : List E} {Q : Post} {S : List Value} {H : Heap} {vs : List (Nat × Value)} {dst : Option Nat} {o : HOp} {a : E} {xs : List Value} {S' : List Value} {H' : Heap} {v : Value} (hcall : o.isCall = false) (k : Q .normal S' H') (h : evSets S H l = some vs := by simp (disch := first | omega | (simp only [lenB]; omega)) only [evB, xBTa, Nat.reduceAdd, Nat.reduceBEq, *]; rfl) (hc : evChk S H chk = true := by simp (disch := first | omega | (simp only [lenB]; omega)) only [evB, xBTa, Nat.reduceAdd, Nat.reduceBEq, *]) (ha : ev S H a = some xs := by simp (disch := first | omega | (simp only [lenB]; omega)) only [evB, xBTa, Nat.reduceAdd, Nat.reduceBEq, *]; rfl) (ho : hsem0 lo o xs H = some (v, H') := by simp (disch := first | omega | (simp only [lenB]; omega)) only [evB, xBTa, Nat.reduceAdd, Nat.reduceBEq, *]; rfl) (hS : setD (setAll S vs) dst v = S' := by simp (disch := first | omega | (simp only [lenB]; omega)) only [evB, xBTa, Nat.reduceAdd, Nat.reduceBEq, *]; rfl) : wpS cp lo (.hv l chk [] dst o a) Q S H := aw_op hcall h hc ha ho hS k
theorem xCTa {cp : FuncId → Option CF} {lo : Nat} {c : E} {a b : Stm} {Q : Post} {S : List Value} {H : Heap} {t : Bool} (k1 : t = true → wpS cp lo a Q S H) (k2 : t = false → wpS cp lo b Q S H) (h : ev1 S H c = some (.bool t) := by simp (disch := first | omega | (simp only [lenB]; omega)) only [evB, xBTa, Nat.reduceAdd, Nat.reduceBEq, *]; rfl) : wpS cp lo (.cond c a b) Q S H := aw_cond h k1 k2
theorem xTTa {cp : FuncId → Option CF} {lo : Nat} {l : List (Nat × E)} {chk : List E} {Q : Post} {S : List Value} {H : Heap} {vs : List (Nat × Value)} {dst : Option Nat} {o : HOp} {a : E} {xs : List Value} {pc : PC} (k : wpH cp lo o xs H fun v H' => Q .normal (setD (setAll S vs) dst v) H') (h : evSets S H l = some vs := by simp (disch := first | omega | (simp only [lenB]; omega)) only [evB, xBTa, Nat.reduceAdd, Nat.reduceBEq, *]; rfl) (hc : evChk S H chk = true := by simp (disch := first | omega | (simp only [lenB]; omega)) only [evB, xBTa, Nat.reduceAdd, Nat.reduceBEq, *]) (hp : holds S H pc = some true := by simp (disch := first | omega | (simp only [lenB]; omega)) only [evB, xBTa, Nat.reduceAdd, Nat.reduceBEq, *]; try rfl) (ha : ev S H a = some xs := by simp (disch := first | omega | (simp only [lenB]; omega)) only [evB, xBTa, Nat.reduceAdd, Nat.reduceBEq, *]; rfl) : wpS cp lo (.hv l chk pc dst o a) Q S H := aw_hvT h hc hp ha k
theorem xUTa {cp : FuncId → Option CF} {lo : Nat} {l : List (Nat × E)} {chk : List E} {Q : Post} {S : List Value} {H : Heap} {vs : List (Nat × Value)} {dst : Option Nat} {o : HOp} {a : E} {xs : List Value} {pc : PC} {S' : List Value} {H' : Heap} {v : Value} (hcall : o.isCall = false) (k : Q .normal S' H') (h : evSets S H l = some vs := by simp (disch := first | omega | (simp only [lenB]; omega)) only [evB, xBTa, Nat.reduceAdd, Nat.reduceBEq, *]; rfl) (hc : evChk S H chk = true := by simp (disch := first | omega | (simp only [lenB]; omega)) only [evB, xBTa, Nat.reduceAdd, Nat.reduceBEq, *]) (hp : holds S H pc = some true := by simp (disch := first | omega | (simp only [lenB]; omega)) only [evB, xBTa, Nat.reduceAdd, Nat.reduceBEq, *]; try rfl) (ha : ev S H a = some xs := by simp (disch := first | omega | (simp only [lenB]; omega)) only [evB, xBTa, Nat.reduceAdd, Nat.reduceBEq, *]; rfl) (ho : hsem0 lo o xs H = some (v, H') := by simp (disch := first | omega | (simp only [lenB]; omega)) only [evB, xBTa, Nat.reduceAdd, Nat.reduceBEq, *]; rfl) (hS : setD (setAll S vs) dst v = S' := by simp (disch := first | omega | (simp only [lenB]; omega)) only [evB, xBTa, Nat.reduceAdd, Nat.reduceBEq, *]; rfl) : wpS cp lo (.hv l chk pc dst o a) Q S H := aw_opT hcall h hc hp ha ho hS k
theorem xRTa {cf : CF} {R : Value → Heap → Prop} {S : List Value} {H : Heap} {vs : List Value} (k : R (resultOf vs) H) (h : evList S H cf.res = some vs := by simp (disch := first | omega | (simp only [lenB]; omega)) only [evB, xBTa, Nat.reduceAdd, Nat.reduceBEq, *]; rfl) : bodyQ cf R .ret S H := body_ret h k
theorem newR (hlo : lo ≤ H.length) (hb : po ≤ 9223372036854775807) : Ev cp lo 10 [fv ch sz po, .int .i64 r, .int .i64 b] H (fun v H' => Ext H H' ∧ ((¬ ∃ f, OkF ch sz po f) → v = .tuple #[cdI 0 0 0 0 0, .int .i64 1]) ∧ ((∃ f, OkF ch sz po f) → ¬ OkCd ch sz po r b → v = .tuple #[cdI 0 0 0 0 0, .int .i64 3]) ∧ (OkCd ch sz po r b → v = .tuple #[cdI ch sz po r b, .int .i64 0])) := by
 unfold fv
 refine st10 ?_; unfold bd10 cf10; simp only [kB, ctlB]
 repeat' ((first | refine xSTa ?_ | refine xOTa rfl ?_); (try simp only [ctlB]))
 refine xHTa ?_
 refine wpH_call0 (valid (ch := ch) (sz := sz) (po := po) hb) ?_
 rintro v H1 ⟨hx1, t1, rfl, ht1⟩
 have g0 : H1.get H.length = some _ := hx1.get (by simp (disch := first | omega | (simp only [lenB]; omega)) only [evB, xBTa, Nat.reduceAdd, Nat.reduceBEq, *]; rfl)
 have g1 : H1.get (H.length + 1) = some _ := hx1.get (by simp (disch := first | omega | (simp only [lenB]; omega)) only [evB, xBTa, Nat.reduceAdd, Nat.reduceBEq, *]; rfl)
 have hx1 := hx1.of_app
 have hl1 := Heap.get_lt g1
 cases t1 with
 | false =>
  have hno : ¬ ∃ f, OkF ch sz po f := fun h => by have := ht1.2 h; cases this
  (try simp only [ctlB])
  refine xCTa (fun h => ?_) (fun h => ?_)
  case refine_2 => cases h
  clear h
  (try simp only [ctlB])
  repeat' ((first | refine xSTa ?_ | refine xOTa rfl ?_); (try simp only [ctlB]))
  refine xRTa ?_
  exact ⟨hx1.set (by omega), fun _ => rfl, fun h => absurd h hno, fun h => absurd h.1 hno⟩
 | true =>
  have hf := ht1.1 rfl
  have hsz := okF_sz hf
  (try simp only [ctlB])
  refine xCTa (fun h => ?_) (fun h => ?_)
  ·cases h
  clear h
  (try simp only [ctlB])
  refine xHTa ?_
  refine wpH_call0 (fits (ch := ch) (sz := sz) (po := po) (r := r) (b := b) (by omega) (by omega)) ?_
  rintro v H2 ⟨hx2, rfl⟩
  have g0 := (hx2).get g0; have g1 := (hx2).get g1
  have hx2 := hx1.trans hx2
  have hl2 := Heap.get_lt g1
  generalize ht2 : (((decide (1 ≤ r) && decide (r ≤ sz - 2)) && decide (0 ≤ b)) && decide (b ≤ sz - 2)) = t2
  have ht2' : t2 = true ↔ 1 ≤ r ∧ r ≤ sz - 2 ∧ 0 ≤ b ∧ b ≤ sz - 2 := by
   rw [← ht2]; simp only [Bool.and_eq_true, decide_eq_true_eq]; omega
  clear ht2
  cases t2 with
  | false =>
   have hno : ¬ OkCd ch sz po r b := fun h => by have := ht2'.2 h.2; cases this
   (try simp only [ctlB])
   refine xCTa (fun h => ?_) (fun h => ?_)
   case refine_2 => cases h
   clear h
   (try simp only [ctlB])
   repeat' ((first | refine xSTa ?_ | refine xOTa rfl ?_); (try simp only [ctlB]))
   refine xRTa ?_
   exact ⟨hx2.set (by omega), fun h => absurd hf h, fun _ _ => rfl, fun h => absurd h hno⟩
  | true =>
   have hok : OkCd ch sz po r b := ⟨hf, ht2'.1 rfl⟩
   (try simp only [ctlB])
   refine xCTa (fun h => ?_) (fun h => ?_)
   ·cases h
   clear h
   (try simp only [ctlB])
   repeat' ((first | refine xSTa ?_ | refine xOTa rfl ?_); (try simp only [ctlB]))
   refine xRTa ?_
   exact ⟨hx2.set (by omega), fun h => absurd hf h, fun _ h => absurd hok h, fun _ => rfl⟩
end
theorem gn7 : Gn (OkC.ok (f := f7)) (e7 3) := by
 refine ⟨by decide, ord7, fun x h1 h2 h => ?_⟩
 have h3 : x.val < 3 := h2
 have h4 := h.2.2
 have : x.val = 1 ∨ x.val = 2 := by omega
 rcases this with h5 | h5
 ·have : x = e7 1 := El.ext h5
  subst this
  exact h4 1 (by decide) (by decide) rfl
 ·have : x = e7 2 := El.ext h5
  subst this
  exact h4 3 (by decide) (by decide) rfl
theorem cd7 : CdOK f7 2 0 := ⟨by decide, by decide, by decide⟩
theorem enc7 : IsEnc (e7 3) 2 0 [e7 1] [e7 1, e7 3, e7 3] := ⟨rfl, fun i hi => by
 have : i = 0 := by simp at hi; omega
 subst this; rfl, cw7⟩
theorem encN_sli {H : Heap} {v : Value} {l : List Nat} (h : Sl encN H v l) : SlI H v (l.map (fun i : Nat => (i : Int))) := by
 rcases h with ⟨rfl, rfl⟩ | ⟨b, o, sp, cap, xs, h1, h2, h3, h4, h5⟩
 ·exact .inl ⟨rfl, rfl⟩
 ·refine .inr ⟨b, o, sp, cap, xs, by rw [h1]; simp, h2, ?_, by simpa using h4, by simpa using h5⟩
  rw [List.length_map, h3, List.map_map]; rfl
theorem ints_eq {lo : Nat} {H : Heap} {va vb : Value} {a b : List Int} (ha : SlI H va a) (hb : SlI H vb b) (hsm : a.length ≤ 1000000000) (hbm : b.length ≤ 1000000000) (h : a = b) : Ev cp lo 15 [va, vb] H (fun v H' => H = H' ∧ v = .bool true) := by
 have := ints (lo := lo) ha hb hsm hbm
 rw [decide_eq_true h] at this
 exact this.mono fun v H' h => ⟨h.1.symm, h.2⟩
theorem okf7 : OkF 7 7 0 f7 := ⟨OkC.ok, rfl, rfl, rfl⟩
theorem okcd7 : OkCd 7 7 0 2 0 := ⟨⟨f7, okf7⟩, by decide, by decide, by decide, by decide⟩
set_option maxHeartbeats 4000000 in
theorem alive {lo : Nat} {H : Heap} (hlo : lo ≤ H.length) : Ev cp lo 12 [] H (fun v H' => Ext H H' ∧ v = .bool true) := by
 have hg := gn7
 have hc := cd7
 refine st12 ?_; unfold bd12 cf12; simp only [kB, ctlB]
 repeat' ((first | refine xSTa ?_ | refine xOTa rfl ?_); (try simp only [ctlB]))
 refine xHTa ?_
 refine wpH_call0 (newR (ch := 7) (sz := 7) (po := 0) (r := 2) (b := 0) (by simp; omega) (by omega)) ?_
 rintro v H1 ⟨hx1, -, -, hv⟩
 rw [hv okcd7]
 clear hv
 have g1 : H1.get H.length = some _ := hx1.get (by simp (disch := first | omega | (simp only [lenB]; omega)) only [evB, xBTa, Nat.reduceAdd, Nat.reduceBEq, *]; rfl)
 have hx1 := hx1.of_app
 have hl1 := hx1.1
 unfold cdI
 (try simp only [ctlB])
 repeat' ((first | refine xSTa ?_ | refine xOTa rfl ?_); (try simp only [ctlB]))
 generalize hG : H1 ++ _ = G at *
 obtain ⟨g2, hxG⟩ := box_facts hG
 clear hG
 have g1 := hxG.get g1
 have hx2 := hx1.trans hxG
 have hlG := hx2.1
 clear hxG
 refine xHTa ?_
 refine wpH_call0 (genR_ok (f := f7) (by omega) hg hc) ?_
 rintro v H2 ⟨hx3, vg, rfl, hvg⟩
 rw [gen7] at hvg
 have g1 := (hx3).get g1; have g2 := (hx3).get g2
 have hx3 := hx2.trans hx3
 have hl3 := hx3.1
 obtain ⟨ag, cg, rfl⟩ := hvg.len
 (try simp only [ctlB])
 repeat' ((first | refine xSTa ?_ | refine xOTa rfl ?_); (try simp only [ctlB]))
 generalize hG : H2 ++ _ = G2 at *
 obtain ⟨g3, hxG⟩ := box_facts hG
 clear hG
 have g1 := (hxG).get g1; have g2 := (hxG).get g2
 have hvg := hvg.mono hxG
 have hx4 := hx3.trans hxG
 have hl4 := hx4.1
 clear hxG hx1 hx2 hx3
 refine xHTa ?_
 refine wpH_call0 (encR_ok (f := f7) (d := [e7 1]) (by omega) hg hc (sle_whole g3 rfl) (by decide)) ?_
 rintro v H3 ⟨hx5, ⟨-, -, ve, w, rfl, hve, hie⟩ | ⟨hno, -⟩⟩
 case inr => exact absurd ⟨by decide, by decide⟩ hno
 have hw := enc_uniq hg hc hie enc7
 subst hw
 clear hie
 have g1 := (hx5).get g1; have g2 := (hx5).get g2
 have hvg := hvg.mono hx5
 have hx5 := hx4.trans hx5
 have hl5 := hx5.1
 clear hx4
 obtain ⟨av, cv', rfl⟩ := hve.len
 (try simp only [ctlB])
 repeat' ((first | refine xSTa ?_ | refine xOTa rfl ?_); (try simp only [ctlB]))
 generalize hG : H3 ++ _ = G3 at *
 obtain ⟨g4, hxG⟩ := box_facts hG
 clear hG
 have g1 := (hxG).get g1; have g2 := (hxG).get g2
 have hvg := hvg.mono hxG
 have hve := hve.mono hxG
 have hx6 := hx5.trans hxG
 have hl6 := hx6.1
 clear hxG hx5
 refine xHTa ?_
 refine wpH_call0 (decR_ok (f := f7) (w := [e7 1, e7 3, e7 4]) (e := []) (by omega) hg hc (sle_whole g4 rfl) (by decide) (.inl ⟨rfl, rfl⟩) (by decide)) ?_
 rintro v H4 ⟨hx7, -, -, -, hdec⟩
 obtain ⟨vw, vc, rfl, hvw, hvc⟩ := hdec (by simp [inR]) (by decide) (by decide) (dec7a (by simp [erI])).1
 rw [(dec7a (er := erI []) (by simp [erI])).2] at hvw hvc
 have hvc : Sl encN H4 vc (sel (fun i => decide (co [e7 1, e7 3, e7 3] i ≠ co [e7 1, e7 3, e7 4] i)) 3) := hvc
 rw [chg7a] at hvc
 clear hdec
 have g1 := (hx7).get g1; have g2 := (hx7).get g2
 have hvg := hvg.mono hx7
 have hve := hve.mono hx7
 have hx7 := hx6.trans hx7
 have hl7 := hx7.1
 clear hx6
 obtain ⟨aw, cw, rfl⟩ := hvw.len
 obtain ⟨ac, cc, rfl⟩ := hvc.len
 have q1 := Heap.get_lt g1
 have q2 := Heap.get_lt g2
 (try simp only [ctlB])
 repeat' ((first | refine xSTa ?_ | refine xOTa rfl ?_); (try simp only [ctlB]))
 generalize hG : H4 ++ _ = G4 at *
 obtain ⟨g5, hxG⟩ := box_facts hG
 have g6 : Heap.get G4 (H4.length + 1) = some (elL [e7 0, e7 0, e7 3]) := by rw [← hG, get_appS]; rfl
 have g7 : Heap.get G4 (H4.length + 2) = some (intL [0, 1]) := by rw [← hG, get_appS]; rfl
 clear hG q1 q2
 have g1 := (hxG).get g1; have g2 := (hxG).get g2
 have hvg := hvg.mono hxG
 have hve := hve.mono hxG
 have hvw := hvw.mono hxG
 have hvc := hvc.mono hxG
 have hx8 := hx7.trans hxG
 have hl8 := hx8.1
 clear hxG hx7
 refine xHTa ?_
 refine wpH_call0 (decR_ok (f := f7) (w := [e7 0, e7 0, e7 3]) (e := [0, 1]) (by omega) hg hc (sle_whole g6 rfl) (by decide) (Sl.whole g7 rfl) (by decide)) ?_
 rintro v H5 ⟨hx9, -, -, -, hdec⟩
 obtain ⟨vx, vd, rfl, hvx, hvd⟩ := hdec (by simp [inR]) (by decide) (by decide) (dec7b (by decide) (by decide) (by decide)).1
 rw [(dec7b (er := erI [0, 1]) (by decide) (by decide) (by decide)).2] at hvx hvd
 have hvd : Sl encN H5 vd (sel (fun i => decide (co [e7 1, e7 3, e7 3] i ≠ co [e7 0, e7 0, e7 3] i)) 3) := hvd
 rw [chg7b] at hvd
 clear hdec g6 g7
 have g1 := (hx9).get g1; have g2 := (hx9).get g2; have g5 := (hx9).get g5
 have hvg := hvg.mono hx9
 have hve := hve.mono hx9
 have hvw := hvw.mono hx9
 have hvc := hvc.mono hx9
 have hx9 := hx8.trans hx9
 have hl9 := hx9.1
 clear hx8
 obtain ⟨ax, cx, rfl⟩ := hvx.len
 obtain ⟨ad, cd, rfl⟩ := hvd.len
 have q1 := Heap.get_lt g1
 have q2 := Heap.get_lt g2
 have q5 := Heap.get_lt g5
 (try simp only [ctlB])
 repeat' ((first | refine xSTa ?_ | refine xOTa rfl ?_); (try simp only [ctlB]))
 generalize hG : H5 ++ _ = G5 at *
 obtain ⟨g6, hxG⟩ := box_facts hG
 have g7 : Heap.get G5 (H5.length + 1) = some (elL [e7 1, e7 3]) := by rw [← hG, get_appS]; rfl
 clear hG q1 q2 q5
 have g1 := (hxG).get g1; have g2 := (hxG).get g2; have g5 := (hxG).get g5
 have hvg := hvg.mono hxG
 have hve := hve.mono hxG
 have hvw := hvw.mono hxG
 have hvc := hvc.mono hxG
 have hvx := hvx.mono hxG
 have hvd := hvd.mono hxG
 have hx10 := hx9.trans hxG
 have hl10 := hx10.1
 clear hxG hx9
 refine xHTa ?_
 refine wpH_call0 (locR_ok (f := f7) (s := [e7 1, e7 3]) (by omega) hg (sle_whole g7 rfl) (by decide)) ?_
 rintro v H6 ⟨hx11, vl, rfl, hvl⟩
 rw [locL_G, loc7] at hvl
 clear g7
 have g1 := (hx11).get g1; have g2 := (hx11).get g2; have g5 := (hx11).get g5; have g6 := (hx11).get g6
 have hvg := hvg.mono hx11
 have hve := hve.mono hx11
 have hvw := hvw.mono hx11
 have hvc := hvc.mono hx11
 have hvx := hvx.mono hx11
 have hvd := hvd.mono hx11
 have hx11 := hx10.trans hx11
 have hl11 := hx11.1
 clear hx10
 obtain ⟨al, cl', rfl⟩ := hvl.len
 have q1 := Heap.get_lt g1
 have q2 := Heap.get_lt g2
 have q5 := Heap.get_lt g5
 have q6 := Heap.get_lt g6
 (try simp only [ctlB])
 repeat' ((first | refine xSTa ?_ | refine xOTa rfl ?_); (try simp only [ctlB]))
 generalize hG : H6 ++ _ = G6 at *
 obtain ⟨g7, hxG⟩ := box_facts hG
 clear hG q1 q2 q5 q6
 have g1 := (hxG).get g1; have g2 := (hxG).get g2; have g5 := (hxG).get g5; have g6 := (hxG).get g6
 have hvg := hvg.mono hxG
 have hve := hve.mono hxG
 have hvw := hvw.mono hxG
 have hvc := hvc.mono hxG
 have hvx := hvx.mono hxG
 have hvd := hvd.mono hxG
 have hvl := hvl.mono hxG
 have hx12 := hx11.trans hxG
 have hl12 := hx12.1
 clear hxG hx11
 refine xHTa ?_
 refine wpH_call0 (synR_ok (f := f7) (w := [e7 1, e7 3, e7 4]) (by omega) hg hc (sle_whole g7 rfl) (by decide)) ?_
 rintro v H7 ⟨hx13, ⟨-, -, vt, rfl, hvt⟩ | ⟨hno, -⟩⟩
 case inr => exact absurd ⟨by decide, by decide⟩ hno
 have hvt : SlE H7 vt (tab 2 (fun i => hval [e7 1, e7 3, e7 4] (pw (e7 3) (0 + i)))) := hvt
 rw [syn7] at hvt
 clear g7
 have g1 := (hx13).get g1; have g2 := (hx13).get g2; have g5 := (hx13).get g5; have g6 := (hx13).get g6
 have hvg := sle_sli (hvg.mono hx13)
 have hve := sle_sli (hve.mono hx13)
 have hvw := sle_sli (hvw.mono hx13)
 have hvc := encN_sli (hvc.mono hx13)
 have hvx := sle_sli (hvx.mono hx13)
 have hvd := encN_sli (hvd.mono hx13)
 have hvl := sle_sli (hvl.mono hx13)
 have hvt := sle_sli hvt
 have hx13 := hx12.trans hx13
 have hl13 := hx13.1
 clear hx12
 obtain ⟨at', ct, rfl⟩ := hvt.len
 have q1 := Heap.get_lt g1
 have q2 := Heap.get_lt g2
 have q5 := Heap.get_lt g5
 have q6 := Heap.get_lt g6
 (try simp only [ctlB])
 repeat' ((first | refine xSTa ?_ | refine xOTa rfl ?_); (try simp only [ctlB]))
 refine xCTa (fun h => ?_) (fun h => ?_)
 ·simp at h
 clear h
 (try simp only [ctlB])
 repeat' ((first | refine xSTa ?_ | refine xOTa rfl ?_); (try simp only [ctlB]))
 generalize hG : H7 ++ _ = K1 at *
 obtain ⟨gk, hxG⟩ := box_facts hG
 clear hG q1 q2 q5 q6
 have g1 := (hxG).get g1; have g2 := (hxG).get g2; have g5 := (hxG).get g5; have g6 := (hxG).get g6
 have hvg := hvg.mono hxG
 have hve := hve.mono hxG
 have hvw := hvw.mono hxG
 have hvc := hvc.mono hxG
 have hvx := hvx.mono hxG
 have hvd := hvd.mono hxG
 have hvl := hvl.mono hxG
 have hvt := hvt.mono hxG
 have hx13 := hx13.trans hxG
 have hl13 := hx13.1
 clear hxG
 have q1 := Heap.get_lt g1
 have q2 := Heap.get_lt g2
 have q5 := Heap.get_lt g5
 have q6 := Heap.get_lt g6
 have hkk := Sl.whole (enc := Value.int .i64) (l := [3, 3, 1]) gk rfl
 refine xHTa ?_
 refine wpH_call0 (ints_eq hvg hkk (by decide) (by decide) rfl) ?_
 rintro v _ ⟨rfl, rfl⟩
 (try simp only [ctlB])
 clear hkk gk
 (refine xUTa rfl ?_; (try simp only [ctlB]))
 generalize hG : K1 ++ _ = K2 at *
 obtain ⟨gk, hxG⟩ := box_facts hG
 clear hG q1 q2 q5 q6
 have g1 := (hxG).get g1; have g2 := (hxG).get g2; have g5 := (hxG).get g5; have g6 := (hxG).get g6
 have hve := hve.mono hxG
 have hvw := hvw.mono hxG
 have hvc := hvc.mono hxG
 have hvx := hvx.mono hxG
 have hvd := hvd.mono hxG
 have hvl := hvl.mono hxG
 have hvt := hvt.mono hxG
 have hx13 := hx13.trans hxG
 have hl13 := hx13.1
 clear hxG
 have q1 := Heap.get_lt g1
 have q2 := Heap.get_lt g2
 have q5 := Heap.get_lt g5
 have q6 := Heap.get_lt g6
 have hkk := Sl.whole (enc := Value.int .i64) (l := [1, 3, 3]) gk rfl
 refine xTTa ?_
 refine wpH_call0 (ints_eq hve hkk (by decide) (by decide) rfl) ?_
 rintro v _ ⟨rfl, rfl⟩
 (try simp only [ctlB])
 clear hkk gk
 refine xTTa ?_
 refine wpH_call0 (ints_eq hvw hve (by decide) (by decide) rfl) ?_
 rintro v _ ⟨rfl, rfl⟩
 (try simp only [ctlB])
 (refine xUTa rfl ?_; (try simp only [ctlB]))
 generalize hG : K2 ++ _ = K3 at *
 obtain ⟨gk, hxG⟩ := box_facts hG
 clear hG q1 q2 q5 q6
 have g1 := (hxG).get g1; have g2 := (hxG).get g2; have g5 := (hxG).get g5; have g6 := (hxG).get g6
 have hve := hve.mono hxG
 have hvw := hvw.mono hxG
 have hvc := hvc.mono hxG
 have hvx := hvx.mono hxG
 have hvd := hvd.mono hxG
 have hvl := hvl.mono hxG
 have hvt := hvt.mono hxG
 have hx13 := hx13.trans hxG
 have hl13 := hx13.1
 clear hxG
 have q1 := Heap.get_lt g1
 have q2 := Heap.get_lt g2
 have q5 := Heap.get_lt g5
 have q6 := Heap.get_lt g6
 have hkk := Sl.whole (enc := Value.int .i64) (l := [2]) gk rfl
 refine xTTa ?_
 refine wpH_call0 (ints_eq hvc hkk (by decide) (by decide) rfl) ?_
 rintro v _ ⟨rfl, rfl⟩
 (try simp only [ctlB])
 clear hkk gk
 refine xTTa ?_
 refine wpH_call0 (ints_eq hvx hve (by decide) (by decide) rfl) ?_
 rintro v _ ⟨rfl, rfl⟩
 (try simp only [ctlB])
 (refine xUTa rfl ?_; (try simp only [ctlB]))
 generalize hG : K3 ++ _ = K4 at *
 obtain ⟨gk, hxG⟩ := box_facts hG
 clear hG q1 q2 q5 q6
 have g1 := (hxG).get g1; have g2 := (hxG).get g2; have g5 := (hxG).get g5; have g6 := (hxG).get g6
 have hve := hve.mono hxG
 have hvw := hvw.mono hxG
 have hvc := hvc.mono hxG
 have hvx := hvx.mono hxG
 have hvd := hvd.mono hxG
 have hvl := hvl.mono hxG
 have hvt := hvt.mono hxG
 have hx13 := hx13.trans hxG
 have hl13 := hx13.1
 clear hxG
 have q1 := Heap.get_lt g1
 have q2 := Heap.get_lt g2
 have q5 := Heap.get_lt g5
 have q6 := Heap.get_lt g6
 have hkk := Sl.whole (enc := Value.int .i64) (l := [0, 1]) gk rfl
 refine xTTa ?_
 refine wpH_call0 (ints_eq hvd hkk (by decide) (by decide) rfl) ?_
 rintro v _ ⟨rfl, rfl⟩
 (try simp only [ctlB])
 clear hkk gk
 (refine xUTa rfl ?_; (try simp only [ctlB]))
 generalize hG : K4 ++ _ = K5 at *
 obtain ⟨gk, hxG⟩ := box_facts hG
 clear hG q1 q2 q5 q6
 have g1 := (hxG).get g1; have g2 := (hxG).get g2; have g5 := (hxG).get g5; have g6 := (hxG).get g6
 have hve := hve.mono hxG
 have hvw := hvw.mono hxG
 have hvc := hvc.mono hxG
 have hvx := hvx.mono hxG
 have hvd := hvd.mono hxG
 have hvl := hvl.mono hxG
 have hvt := hvt.mono hxG
 have hx13 := hx13.trans hxG
 have hl13 := hx13.1
 clear hxG
 have q1 := Heap.get_lt g1
 have q2 := Heap.get_lt g2
 have q5 := Heap.get_lt g5
 have q6 := Heap.get_lt g6
 have hkk := Sl.whole (enc := Value.int .i64) (l := [1, 4]) gk rfl
 refine xTTa ?_
 refine wpH_call0 (ints_eq hvl hkk (by decide) (by decide) rfl) ?_
 rintro v _ ⟨rfl, rfl⟩
 (try simp only [ctlB])
 clear hkk gk
 (refine xUTa rfl ?_; (try simp only [ctlB]))
 generalize hG : K5 ++ _ = K6 at *
 obtain ⟨gk, hxG⟩ := box_facts hG
 clear hG q1 q2 q5 q6
 have g1 := (hxG).get g1; have g2 := (hxG).get g2; have g5 := (hxG).get g5; have g6 := (hxG).get g6
 have hve := hve.mono hxG
 have hvw := hvw.mono hxG
 have hvc := hvc.mono hxG
 have hvx := hvx.mono hxG
 have hvd := hvd.mono hxG
 have hvl := hvl.mono hxG
 have hvt := hvt.mono hxG
 have hx13 := hx13.trans hxG
 have hl13 := hx13.1
 clear hxG
 have q1 := Heap.get_lt g1
 have q2 := Heap.get_lt g2
 have q5 := Heap.get_lt g5
 have q6 := Heap.get_lt g6
 have hkk := Sl.whole (enc := Value.int .i64) (l := [1, 1]) gk rfl
 refine xTTa ?_
 refine wpH_call0 (ints_eq hvt hkk (by decide) (by decide) rfl) ?_
 rintro v _ ⟨rfl, rfl⟩
 (try simp only [ctlB])
 clear hkk gk
 repeat' ((first | refine xSTa ?_ | refine xOTa rfl ?_); (try simp only [ctlB]))
 refine xRTa ?_
 exact ⟨hx13, rfl⟩
end Go.Proofs.Ythejjplggcfjcaa
namespace Go.Proofs.Ythejjplggcfjcaa
open Go.Abs Go.RS
set_option linter.unusedSimpArgs false
set_option linter.unusedVariables false
set_option maxRecDepth 20000
section
variable {ch sz po r b : Int} {v : Value} {l : List Int} {lo : Nat} {H : Heap}
set_option linter.defProp false in
def xBTb := And.intro @Int.cast_ofNat_Int (And.intro @fv.eq_1 (And.intro @fvf.eq_1 (And.intro @ite_self.{1} (And.intro @ite_st (And.intro @ite_sf (And.intro @ite_nt (And.intro @cdC.eq_1 (And.intro @arC.eq_1 (And.intro @elL_at (And.intro @elL_len (And.intro @elL_set' @zerosEl)))))))))))
theorem xSTb {cp : FuncId → Option CF} {lo : Nat} {l : List (Nat × E)} {chk : List E} {Q : Post} {S : List Value} {H : Heap} {vs : List (Nat × Value)} {S' : List Value} (k : Q .normal S' H) (h : evSets S H l = some vs := by simp (disch := first | omega | (simp only [lenB]; omega)) only [evB, xBTb, Nat.reduceAdd, Nat.reduceBEq, *]; rfl) (hc : evChk S H chk = true := by simp (disch := first | omega | (simp only [lenB]; omega)) only [evB, xBTb, Nat.reduceAdd, Nat.reduceBEq, *]) (hS : setAll S vs = S' := by simp (disch := first | omega | (simp only [lenB]; omega)) only [evB, xBTb, Nat.reduceAdd, Nat.reduceBEq, *]; rfl) : wpS cp lo (.sets l chk) Q S H := aw_sets h hc hS k
theorem xHTb {cp : FuncId → Option CF} {lo : Nat} {l : List (Nat × E)} {chk : List E} {Q : Post} {S : List Value} {H : Heap} {vs : List (Nat × Value)} {dst : Option Nat} {o : HOp} {a : E} {xs : List Value} (k : wpH cp lo o xs H fun v H' => Q .normal (setD (setAll S vs) dst v) H') (h : evSets S H l = some vs := by simp (disch := first | omega | (simp only [lenB]; omega)) only [evB, xBTb, Nat.reduceAdd, Nat.reduceBEq, *]; rfl) (hc : evChk S H chk = true := by simp (disch := first | omega | (simp only [lenB]; omega)) only [evB, xBTb, Nat.reduceAdd, Nat.reduceBEq, *]) (ha : ev S H a = some xs := by simp (disch := first | omega | (simp only [lenB]; omega)) only [evB, xBTb, Nat.reduceAdd, Nat.reduceBEq, *]; rfl) : wpS cp lo (.hv l chk [] dst o a) Q S H := aw_hv h hc ha k
theorem xOTb {cp : FuncId → Option CF} {lo : Nat} {l : List (Nat × E)} {chk : List E} {Q : Post} {S : List Value} {H : Heap} {vs : List (Nat × Value)} {dst : Option Nat} {o : HOp} {a : E} {xs : List Value} {S' : List Value} {H' : Heap} {v : Value} (hcall : o.isCall = false) (k : Q .normal S' H') (h : evSets S H l = some vs := by simp (disch := first | omega | (simp only [lenB]; omega)) only [evB, xBTb, Nat.reduceAdd, Nat.reduceBEq, *]; rfl) (hc : evChk S H chk = true := by simp (disch := first | omega | (simp only [lenB]; omega)) only [evB, xBTb, Nat.reduceAdd, Nat.reduceBEq, *]) (ha : ev S H a = some xs := by simp (disch := first | omega | (simp only [lenB]; omega)) only [evB, xBTb, Nat.reduceAdd, Nat.reduceBEq, *]; rfl) (ho : hsem0 lo o xs H = some (v, H') := by simp (disch := first | omega | (simp only [lenB]; omega)) only [evB, xBTb, Nat.reduceAdd, Nat.reduceBEq, *]; rfl) (hS : setD (setAll S vs) dst v = S' := by simp (disch := first | omega | (simp only [lenB]; omega)) only [evB, xBTb, Nat.reduceAdd, Nat.reduceBEq, *]; rfl) : wpS cp lo (.hv l chk [] dst o a) Q S H := aw_op hcall h hc ha ho hS k
theorem xCTb {cp : FuncId → Option CF} {lo : Nat} {c : E} {a b : Stm} {Q : Post} {S : List Value} {H : Heap} {t : Bool} (k1 : t = true → wpS cp lo a Q S H) (k2 : t = false → wpS cp lo b Q S H) (h : ev1 S H c = some (.bool t) := by simp (disch := first | omega | (simp only [lenB]; omega)) only [evB, xBTb, Nat.reduceAdd, Nat.reduceBEq, *]; rfl) : wpS cp lo (.cond c a b) Q S H := aw_cond h k1 k2
theorem xRTb {cf : CF} {R : Value → Heap → Prop} {S : List Value} {H : Heap} {vs : List Value} (k : R (resultOf vs) H) (h : evList S H cf.res = some vs := by simp (disch := first | omega | (simp only [lenB]; omega)) only [evB, xBTb, Nat.reduceAdd, Nat.reduceBEq, *]; rfl) : bodyQ cf R .ret S H := body_ret h k
theorem encR_bad (hb : po ≤ 9223372036854775807) (hl : SlI H v l) (hll : l.length ≤ 9223372036854775807) (hno : ¬ (OkCd ch sz po r b ∧ inF sz l = true)) : Ev cp lo 17 [cdI ch sz po r b, v] H (fun v H' => Ext H H' ∧ v = .tuple #[.slice none 0 0, .int .i64 1]) := by
 unfold cdI
 refine st17 ?_; unfold bd17 cf17; simp only [kB, ctlB]
 repeat' ((first | refine xSTb ?_ | refine xOTb rfl ?_); (try simp only [ctlB]))
 refine xHTb ?_
 refine wpH_call0 (rsvalid (ch := ch) (sz := sz) (po := po) (r := r) (b := b) hb (hl.mono (Ext.app _ _)) hll) ?_
 rintro v H1 ⟨hx1, t, rfl, ht⟩
 have : t = false := by rw [Bool.eq_false_iff]; exact fun h => hno (ht.1 h)
 subst this
 (try simp only [ctlB])
 refine xCTb (fun h => ?_) (fun h => ?_)
 ·clear h
  (try simp only [ctlB])
  repeat' ((first | refine xSTb ?_ | refine xOTb rfl ?_); (try simp only [ctlB]))
  refine xRTb ?_
  exact ⟨hx1.of_app, rfl⟩
 ·cases h
theorem encV_bad (hs2 : sz ≤ 9223372036854775807) (hl : SlI H v l) (hll : l.length ≤ 9223372036854775807) (hno : ¬ (OkCd ch sz po r b ∧ inF sz l = true)) : Ev cp lo 18 [cdI ch sz po r b, v] H (fun v H' => Ext H H' ∧ v = .tuple #[.slice none 0 0, .int .i64 1]) := by
 have hl0 := hl
 obtain ⟨ad, c, rfl⟩ := hl.len
 unfold cdI
 refine st18 ?_; unfold bd18 cf18; simp only [kB, ctlB]
 repeat' ((first | refine xSTb ?_ | refine xOTb rfl ?_); (try simp only [ctlB]))
 refine xHTb ?_
 refine wpH_call0 (rValid (ch := ch) (sz := sz) (po := po) (r := r) (b := b) hs2) ?_
 rintro v H1 ⟨hx1, t, rfl, ht⟩
 have g0 : H1.get H.length = some _ := hx1.get (by simp (disch := first | omega | (simp only [lenB]; omega)) only [evB, xBTb, Nat.reduceAdd, Nat.reduceBEq, *]; rfl)
 have hx1 := hx1.of_app
 cases t with
 | false =>
  (try simp only [ctlB])
  refine aw_hv_if (t := false) (by simp (disch := first | omega | (simp only [lenB]; omega)) only [evB, xBTb, Nat.reduceAdd, Nat.reduceBEq, *]; rfl) (by simp (disch := first | omega | (simp only [lenB]; omega)) only [evB, xBTb, Nat.reduceAdd, Nat.reduceBEq, *]) (by simp (disch := first | omega | (simp only [lenB]; omega)) only [evB, xBTb, Nat.reduceAdd, Nat.reduceBEq, *]; try rfl) (fun h => by cases h) (fun _ => ?_)
  (try simp only [ctlB])
  refine xCTb (fun h => ?_) (fun h => ?_)
  ·clear h
   (try simp only [ctlB])
   repeat' ((first | refine xSTb ?_ | refine xOTb rfl ?_); (try simp only [ctlB]))
   refine xRTb ?_
   exact ⟨hx1, rfl⟩
  ·cases h
 | true =>
  have hin : inF sz l = false := by rw [Bool.eq_false_iff]; exact fun h => hno ⟨ht.1 rfl, h⟩
  (try simp only [ctlB])
  refine aw_hv_if (t := true) (by simp (disch := first | omega | (simp only [lenB]; omega)) only [evB, xBTb, Nat.reduceAdd, Nat.reduceBEq, *]; rfl) (by simp (disch := first | omega | (simp only [lenB]; omega)) only [evB, xBTb, Nat.reduceAdd, Nat.reduceBEq, *]) (by simp (disch := first | omega | (simp only [lenB]; omega)) only [evB, xBTb, Nat.reduceAdd, Nat.reduceBEq, *]; try rfl) (fun _ => ⟨_, by simp (disch := first | omega | (simp only [lenB]; omega)) only [evB, xBTb, Nat.reduceAdd, Nat.reduceBEq, *]; rfl, ?_⟩) (fun h => by cases h)
  refine wpH_call0 (relements (ch := ch) (sz := sz) (po := po) (hl0.mono hx1) hll) ?_
  rintro v H2 ⟨hx2, rfl⟩
  rw [hin]
  clear hin
  (try simp only [ctlB])
  refine xCTb (fun h => ?_) (fun h => ?_)
  ·clear h
   (try simp only [ctlB])
   repeat' ((first | refine xSTb ?_ | refine xOTb rfl ?_); (try simp only [ctlB]))
   refine xRTb ?_
   exact ⟨hx1.trans hx2, rfl⟩
  ·cases h
theorem genR_bad (hb : po ≤ 9223372036854775807) (hno : ¬ OkCd ch sz po r b) : Ev cp lo 13 [cdI ch sz po r b] H (fun v H' => Ext H H' ∧ v = .tuple #[.slice none 0 0, .int .i64 1]) := by
 unfold cdI
 refine st13 ?_; unfold bd13 cf13; simp only [kB, ctlB]
 repeat' ((first | refine xSTb ?_ | refine xOTb rfl ?_); (try simp only [ctlB]))
 refine xHTb ?_
 refine wpH_call0 (rsvalid (ch := ch) (sz := sz) (po := po) (r := r) (b := b) (l := []) hb (.inl ⟨rfl, rfl⟩) (by decide)) ?_
 rintro v H1 ⟨hx1, t, rfl, ht⟩
 have : t = false := by rw [Bool.eq_false_iff]; exact fun h => hno (ht.1 h).1
 subst this
 (try simp only [ctlB])
 refine xCTb (fun h => ?_) (fun h => ?_)
 ·clear h
  (try simp only [ctlB])
  repeat' ((first | refine xSTb ?_ | refine xOTb rfl ?_); (try simp only [ctlB]))
  refine xRTb ?_
  exact ⟨hx1.of_app, rfl⟩
 ·cases h
theorem genV_bad (hs2 : sz ≤ 9223372036854775807) (hno : ¬ OkCd ch sz po r b) : Ev cp lo 14 [cdI ch sz po r b] H (fun v H' => Ext H H' ∧ v = .tuple #[.slice none 0 0, .int .i64 1]) := by
 unfold cdI
 refine st14 ?_; unfold bd14 cf14; simp only [kB, ctlB]
 repeat' ((first | refine xSTb ?_ | refine xOTb rfl ?_); (try simp only [ctlB]))
 refine xHTb ?_
 refine wpH_call0 (rValid (ch := ch) (sz := sz) (po := po) (r := r) (b := b) hs2) ?_
 rintro v H1 ⟨hx1, t, rfl, ht⟩
 have : t = false := by rw [Bool.eq_false_iff]; exact fun h => hno (ht.1 h)
 subst this
 (try simp only [ctlB])
 refine xCTb (fun h => ?_) (fun h => ?_)
 ·clear h
  (try simp only [ctlB])
  repeat' ((first | refine xSTb ?_ | refine xOTb rfl ?_); (try simp only [ctlB]))
  refine xRTb ?_
  exact ⟨hx1.of_app, rfl⟩
 ·cases h
end
def Ans (H : Heap) (v : Value) (l : List Int) (k : Int) : Prop := ∃ vs, v = .tuple #[vs, .int .i64 k] ∧ SlI H vs l
def Tells (lo n : Nat) (args : List Value) (H0 : Heap) (P : List Int → Int → Prop) : Prop := ∀ H, Ext H0 H → Ev cp lo n args H (fun v H' => Ext H H' ∧ ∃ l k, Ans H' v l k ∧ P l k)
def OneP (P : List Int → Int → Prop) : Prop := (∀ l k l' k', P l k → P l' k' → l = l' ∧ k = k') ∧ ∀ l k, P l k → l.length ≤ 1000000000
theorem oneP_eq (l0 : List Int) (k0 : Int) (h : l0.length ≤ 1000000000) : OneP (fun l k => l = l0 ∧ k = k0) := ⟨fun l k l' k' h h' => by rw [h.1, h.2, h'.1, h'.2]; exact ⟨rfl, rfl⟩, fun l k h' => by rw [h'.1]; exact h⟩
section
variable {lo : Nat} {H0 : Heap} {ch sz po r b : Int} {v : Value} {l : List Int}
theorem okcd_f (h : OkCd ch sz po r b) : ∃ (f : FD) (_ : OkC f) (g : El f) (r' b' : Nat), Gn (OkC.ok (f := f)) g ∧ CdOK f r' b' ∧ ch = FD.ch f ∧ sz = f.q ∧ po = f.poly ∧ r = r' ∧ b = b' := by
 obtain ⟨⟨f, hf, h1, h2, h3⟩, h4, h5, h6, h7⟩ := h
 have ho : OkC f := ⟨hf⟩
 obtain ⟨g, hg⟩ := gn_ex hf
 have := qle (f := f)
 exact ⟨f, ho, g, r.toNat, b.toNat, hg, ⟨by omega, by omega, by omega⟩, h3, h1, h2, by omega, by omega⟩
theorem ans_nil {H : Heap} {k : Int} : Ans H (.tuple #[.slice none 0 0, .int .i64 k]) [] k := ⟨_, rfl, .inl ⟨rfl, rfl⟩⟩
theorem encBoth (hlo : lo ≤ H0.length) (hb : po ≤ 9223372036854775807) (hs2 : sz ≤ 9223372036854775807) (hl : SlI H0 v l) (hll : l.length ≤ 10000000) : ∃ P, OneP P ∧ Tells lo 17 [cdI ch sz po r b, v] H0 P ∧ Tells lo 18 [cdI ch sz po r b, v] H0 P := by
 by_cases hok : OkCd ch sz po r b ∧ inF sz l = true
 ·obtain ⟨hok, hin⟩ := hok
  obtain ⟨f, _, g, r', b', hg, hc, rfl, rfl, rfl, rfl, rfl⟩ := okcd_f hok
  obtain ⟨d, rfl⟩ := to_el hin
  have hd : SlE H0 v d := sli_sle hl
  rw [List.length_map] at hll
  have h2 := qle (f := f)
  by_cases hlen : 0 < d.length ∧ d.length + r' < f.q
  ·refine ⟨fun l k => ∃ w, IsEnc g r' b' d w ∧ l = valI w ∧ k = 0, ⟨?_, ?_⟩, ?_, ?_⟩
   ·rintro l k l' k' ⟨w, h1, rfl, rfl⟩ ⟨w', h1', rfl, rfl⟩
    rw [enc_uniq hg hc h1 h1']; exact ⟨rfl, rfl⟩
   ·rintro l k ⟨w, h1, rfl, rfl⟩
    rw [valI_len, h1.len]; omega
   ·intro H hx
    refine (encR_ok (Nat.le_trans hlo hx.1) hg hc (hd.mono hx) hll).mono ?_
    rintro v H' ⟨hx', ⟨-, -, vs, w, rfl, hw, he⟩ | ⟨hno, -⟩⟩
    ·exact ⟨hx', _, _, ⟨vs, rfl, sle_sli hw⟩, w, he, rfl, rfl⟩
    ·exact absurd hlen hno
   ·intro H hx
    refine (encV_ok (Nat.le_trans hlo hx.1) hg hc (hd.mono hx) hll).mono ?_
    rintro v H' ⟨hx', ⟨-, -, vs, w, rfl, hw, he⟩ | ⟨hno, -⟩⟩
    ·exact ⟨hx', _, _, ⟨vs, rfl, sle_sli hw⟩, w, he, rfl, rfl⟩
    ·exact absurd hlen hno
  ·refine ⟨_, oneP_eq [] 7 (by simp), ?_, ?_⟩
   ·intro H hx
    refine (encR_ok (Nat.le_trans hlo hx.1) hg hc (hd.mono hx) hll).mono ?_
    rintro v H' ⟨hx', ⟨h1, h2, -⟩ | ⟨-, rfl⟩⟩
    ·exact absurd ⟨h1, h2⟩ hlen
    ·exact ⟨hx', _, _, ans_nil, rfl, rfl⟩
   ·intro H hx
    refine (encV_ok (Nat.le_trans hlo hx.1) hg hc (hd.mono hx) hll).mono ?_
    rintro v H' ⟨hx', ⟨h1, h2, -⟩ | ⟨-, rfl⟩⟩
    ·exact absurd ⟨h1, h2⟩ hlen
    ·exact ⟨hx', _, _, ans_nil, rfl, rfl⟩
 ·refine ⟨_, oneP_eq [] 1 (by simp), ?_, ?_⟩
  ·intro H hx
   refine (encR_bad hb (hl.mono hx) (by omega) hok).mono ?_
   rintro v H' ⟨hx', rfl⟩
   exact ⟨hx', _, _, ans_nil, rfl, rfl⟩
  ·intro H hx
   refine (encV_bad hs2 (hl.mono hx) (by omega) hok).mono ?_
   rintro v H' ⟨hx', rfl⟩
   exact ⟨hx', _, _, ans_nil, rfl, rfl⟩
theorem synL_len {f : FD} [OkC f] (g : El f) (r b : Nat) (w : List (El f)) : (synL g r b w).length = r := tab_len _ _
theorem synBoth (hlo : lo ≤ H0.length) (hb : po ≤ 9223372036854775807) (hs2 : sz ≤ 9223372036854775807) (hl : SlI H0 v l) (hll : l.length ≤ 10000000) : ∃ P, OneP P ∧ Tells lo 19 [cdI ch sz po r b, v] H0 P ∧ Tells lo 20 [cdI ch sz po r b, v] H0 P := by
 by_cases hok : OkCd ch sz po r b ∧ inF sz l = true
 ·obtain ⟨hok, hin⟩ := hok
  obtain ⟨f, _, g, r', b', hg, hc, rfl, rfl, rfl, rfl, rfl⟩ := okcd_f hok
  obtain ⟨d, rfl⟩ := to_el hin
  have hd : SlE H0 v d := sli_sle hl
  rw [List.length_map] at hll
  have h2 := qle (f := f)
  have h3 := hc.r2
  by_cases hlen : r' < d.length ∧ d.length < f.q
  ·refine ⟨_, oneP_eq (valI (synL g r' b' d)) 0 (by rw [valI_len, synL_len]; omega), ?_, ?_⟩
   ·intro H hx
    refine (synR_ok (Nat.le_trans hlo hx.1) hg hc (hd.mono hx) hll).mono ?_
    rintro v H' ⟨hx', ⟨-, -, vs, rfl, hw⟩ | ⟨hno, -⟩⟩
    ·exact ⟨hx', _, _, ⟨vs, rfl, sle_sli hw⟩, rfl, rfl⟩
    ·exact absurd hlen hno
   ·intro H hx
    refine (synV_ok (Nat.le_trans hlo hx.1) hg hc (hd.mono hx) hll).mono ?_
    rintro v H' ⟨hx', ⟨-, -, vs, rfl, hw⟩ | ⟨hno, -⟩⟩
    ·exact ⟨hx', _, _, ⟨vs, rfl, sle_sli hw⟩, rfl, rfl⟩
    ·exact absurd hlen hno
  ·refine ⟨_, oneP_eq [] 7 (by simp), ?_, ?_⟩
   ·intro H hx
    refine (synR_ok (Nat.le_trans hlo hx.1) hg hc (hd.mono hx) hll).mono ?_
    rintro v H' ⟨hx', ⟨h1, h2, -⟩ | ⟨-, rfl⟩⟩
    ·exact absurd ⟨h1, h2⟩ hlen
    ·exact ⟨hx', _, _, ans_nil, rfl, rfl⟩
   ·intro H hx
    refine (synV_ok (Nat.le_trans hlo hx.1) hg hc (hd.mono hx) hll).mono ?_
    rintro v H' ⟨hx', ⟨h1, h2, -⟩ | ⟨-, rfl⟩⟩
    ·exact absurd ⟨h1, h2⟩ hlen
    ·exact ⟨hx', _, _, ans_nil, rfl, rfl⟩
 ·refine ⟨_, oneP_eq [] 1 (by simp), ?_, ?_⟩
  ·intro H hx
   refine (synR_bad hb (hl.mono hx) (by omega) hok).mono ?_
   rintro v H' ⟨hx', rfl⟩
   exact ⟨hx', _, _, ans_nil, rfl, rfl⟩
  ·intro H hx
   refine (synV_bad hs2 (hl.mono hx) (by omega) hok).mono ?_
   rintro v H' ⟨hx', rfl⟩
   exact ⟨hx', _, _, ans_nil, rfl, rfl⟩
theorem locL_len {f : FD} [OkC f] (s : List (El f)) : (locL s).length ≤ s.length + 1 := by
 have h1 := trim_len_le (tab (bml (co s) s.length).1 (Reg.run (co s) s.length).C)
 rw [tab_len] at h1
 have h2 := (bml_le (co s) s.length).1
 unfold locL; omega
theorem locBoth (hlo : lo ≤ H0.length) (hb : po ≤ 9223372036854775807) (hs2 : sz ≤ 9223372036854775807) (hl : SlI H0 v l) (hll : l.length ≤ 4095) : ∃ P, OneP P ∧ Tells lo 21 [fv ch sz po, v] H0 P ∧ Tells lo 22 [fv ch sz po, v] H0 P := by
 by_cases hok : (∃ f, OkF ch sz po f) ∧ inF sz l = true
 ·obtain ⟨⟨f, hf, rfl, rfl, rfl⟩, hin⟩ := hok
  have ho : OkC f := ⟨hf⟩
  obtain ⟨g, hg⟩ := gn_ex hf
  obtain ⟨d, rfl⟩ := to_el hin
  have hd : SlE H0 v d := sli_sle hl
  rw [List.length_map] at hll
  have := locL_len d
  refine ⟨_, oneP_eq (valI (locL d)) 0 (by rw [valI_len]; omega), ?_, ?_⟩
  ·intro H hx
   refine (locR_ok (Nat.le_trans hlo hx.1) hg (hd.mono hx) hll).mono ?_
   rintro v H' ⟨hx', vs, rfl, hw⟩
   exact ⟨hx', _, _, ⟨vs, rfl, sle_sli hw⟩, rfl, rfl⟩
  ·intro H hx
   refine (locV_ok (Nat.le_trans hlo hx.1) (hd.mono hx) hll).mono ?_
   rintro v H' ⟨hx', vs, rfl, hw⟩
   exact ⟨hx', _, _, ⟨vs, rfl, sle_sli hw⟩, rfl, rfl⟩
 ·refine ⟨_, oneP_eq [] 1 (by simp), ?_, ?_⟩
  ·intro H hx
   refine (locR_bad hb (hl.mono hx) (by omega) hok).mono ?_
   rintro v H' ⟨hx', rfl⟩
   exact ⟨hx', _, _, ans_nil, rfl, rfl⟩
  ·intro H hx
   refine (locV_bad hs2 (hl.mono hx) (by omega) hok).mono ?_
   rintro v H' ⟨hx', rfl⟩
   exact ⟨hx', _, _, ans_nil, rfl, rfl⟩
theorem genBoth (hlo : lo ≤ H0.length) (hb : po ≤ 9223372036854775807) (hs2 : sz ≤ 9223372036854775807) : ∃ P, OneP P ∧ Tells lo 13 [cdI ch sz po r b] H0 P ∧ Tells lo 14 [cdI ch sz po r b] H0 P := by
 by_cases hok : OkCd ch sz po r b
 ·obtain ⟨f, _, g, r', b', hg, hc, rfl, rfl, rfl, rfl, rfl⟩ := okcd_f hok
  have h2 := qle (f := f)
  have h3 := hc.r2
  refine ⟨_, oneP_eq (valI (genL (fun i => pw g (b' + i)) r')) 0 (by rw [valI_len, genL_len]; omega), ?_, ?_⟩
  ·intro H hx
   refine (genR_ok (Nat.le_trans hlo hx.1) hg hc).mono ?_
   rintro v H' ⟨hx', vs, rfl, hw⟩
   exact ⟨hx', _, _, ⟨vs, rfl, sle_sli hw⟩, rfl, rfl⟩
  ·intro H hx
   refine (genV_ok (Nat.le_trans hlo hx.1) hg hc).mono ?_
   rintro v H' ⟨hx', vs, rfl, hw⟩
   exact ⟨hx', _, _, ⟨vs, rfl, sle_sli hw⟩, rfl, rfl⟩
 ·refine ⟨_, oneP_eq [] 1 (by simp), ?_, ?_⟩
  ·intro H hx
   refine (genR_bad hb hok).mono ?_
   rintro v H' ⟨hx', rfl⟩
   exact ⟨hx', _, _, ans_nil, rfl, rfl⟩
  ·intro H hx
   refine (genV_bad hs2 hok).mono ?_
   rintro v H' ⟨hx', rfl⟩
   exact ⟨hx', _, _, ans_nil, rfl, rfl⟩
end
end Go.Proofs.Ythejjplggcfjcaa
namespace Go.Proofs.Ythejjplggcfjcaa
open Go.Abs Go.RS
set_option linter.unusedSimpArgs false
set_option linter.unusedVariables false
set_option maxRecDepth 20000
set_option linter.defProp false in
def xBTc := And.intro @Int.cast_ofNat_Int (And.intro @fv.eq_1 (And.intro @fvf.eq_1 (And.intro @ite_self.{1} (And.intro @ite_st (And.intro @ite_sf (And.intro @ite_nt (And.intro @cdC.eq_1 (And.intro @arC.eq_1 (And.intro @elL_at (And.intro @elL_len (And.intro @elL_set' @zerosEl)))))))))))
theorem xSTc {cp : FuncId → Option CF} {lo : Nat} {l : List (Nat × E)} {chk : List E} {Q : Post} {S : List Value} {H : Heap} {vs : List (Nat × Value)} {S' : List Value} (k : Q .normal S' H) (h : evSets S H l = some vs := by simp (disch := first | omega | (simp only [lenB]; omega)) only [evB, xBTc, Nat.reduceAdd, Nat.reduceBEq, *]; rfl) (hc : evChk S H chk = true := by simp (disch := first | omega | (simp only [lenB]; omega)) only [evB, xBTc, Nat.reduceAdd, Nat.reduceBEq, *]) (hS : setAll S vs = S' := by simp (disch := first | omega | (simp only [lenB]; omega)) only [evB, xBTc, Nat.reduceAdd, Nat.reduceBEq, *]; rfl) : wpS cp lo (.sets l chk) Q S H := aw_sets h hc hS k
theorem xHTc {cp : FuncId → Option CF} {lo : Nat} {l : List (Nat × E)} {chk : List E} {Q : Post} {S : List Value} {H : Heap} {vs : List (Nat × Value)} {dst : Option Nat} {o : HOp} {a : E} {xs : List Value} (k : wpH cp lo o xs H fun v H' => Q .normal (setD (setAll S vs) dst v) H') (h : evSets S H l = some vs := by simp (disch := first | omega | (simp only [lenB]; omega)) only [evB, xBTc, Nat.reduceAdd, Nat.reduceBEq, *]; rfl) (hc : evChk S H chk = true := by simp (disch := first | omega | (simp only [lenB]; omega)) only [evB, xBTc, Nat.reduceAdd, Nat.reduceBEq, *]) (ha : ev S H a = some xs := by simp (disch := first | omega | (simp only [lenB]; omega)) only [evB, xBTc, Nat.reduceAdd, Nat.reduceBEq, *]; rfl) : wpS cp lo (.hv l chk [] dst o a) Q S H := aw_hv h hc ha k
theorem xOTc {cp : FuncId → Option CF} {lo : Nat} {l : List (Nat × E)} {chk : List E} {Q : Post} {S : List Value} {H : Heap} {vs : List (Nat × Value)} {dst : Option Nat} {o : HOp} {a : E} {xs : List Value} {S' : List Value} {H' : Heap} {v : Value} (hcall : o.isCall = false) (k : Q .normal S' H') (h : evSets S H l = some vs := by simp (disch := first | omega | (simp only [lenB]; omega)) only [evB, xBTc, Nat.reduceAdd, Nat.reduceBEq, *]; rfl) (hc : evChk S H chk = true := by simp (disch := first | omega | (simp only [lenB]; omega)) only [evB, xBTc, Nat.reduceAdd, Nat.reduceBEq, *]) (ha : ev S H a = some xs := by simp (disch := first | omega | (simp only [lenB]; omega)) only [evB, xBTc, Nat.reduceAdd, Nat.reduceBEq, *]; rfl) (ho : hsem0 lo o xs H = some (v, H') := by simp (disch := first | omega | (simp only [lenB]; omega)) only [evB, xBTc, Nat.reduceAdd, Nat.reduceBEq, *]; rfl) (hS : setD (setAll S vs) dst v = S' := by simp (disch := first | omega | (simp only [lenB]; omega)) only [evB, xBTc, Nat.reduceAdd, Nat.reduceBEq, *]; rfl) : wpS cp lo (.hv l chk [] dst o a) Q S H := aw_op hcall h hc ha ho hS k
theorem xCTc {cp : FuncId → Option CF} {lo : Nat} {c : E} {a b : Stm} {Q : Post} {S : List Value} {H : Heap} {t : Bool} (k1 : t = true → wpS cp lo a Q S H) (k2 : t = false → wpS cp lo b Q S H) (h : ev1 S H c = some (.bool t) := by simp (disch := first | omega | (simp only [lenB]; omega)) only [evB, xBTc, Nat.reduceAdd, Nat.reduceBEq, *]; rfl) : wpS cp lo (.cond c a b) Q S H := aw_cond h k1 k2
theorem xTTc {cp : FuncId → Option CF} {lo : Nat} {l : List (Nat × E)} {chk : List E} {Q : Post} {S : List Value} {H : Heap} {vs : List (Nat × Value)} {dst : Option Nat} {o : HOp} {a : E} {xs : List Value} {pc : PC} (k : wpH cp lo o xs H fun v H' => Q .normal (setD (setAll S vs) dst v) H') (h : evSets S H l = some vs := by simp (disch := first | omega | (simp only [lenB]; omega)) only [evB, xBTc, Nat.reduceAdd, Nat.reduceBEq, *]; rfl) (hc : evChk S H chk = true := by simp (disch := first | omega | (simp only [lenB]; omega)) only [evB, xBTc, Nat.reduceAdd, Nat.reduceBEq, *]) (hp : holds S H pc = some true := by simp (disch := first | omega | (simp only [lenB]; omega)) only [evB, xBTc, Nat.reduceAdd, Nat.reduceBEq, *]; try rfl) (ha : ev S H a = some xs := by simp (disch := first | omega | (simp only [lenB]; omega)) only [evB, xBTc, Nat.reduceAdd, Nat.reduceBEq, *]; rfl) : wpS cp lo (.hv l chk pc dst o a) Q S H := aw_hvT h hc hp ha k
theorem xRTc {cf : CF} {R : Value → Heap → Prop} {S : List Value} {H : Heap} {vs : List Value} (k : R (resultOf vs) H) (h : evList S H cf.res = some vs := by simp (disch := first | omega | (simp only [lenB]; omega)) only [evB, xBTc, Nat.reduceAdd, Nat.reduceBEq, *]; rfl) : bodyQ cf R .ret S H := body_ret h k
theorem lawLoc {H : Heap} {ch sz po : Int} {v : Value} {s : List Int} (hb : po ≤ 9223372036854775807) (hs2 : sz ≤ 9223372036854775807) (hs : SlI H v s) : Ev cp H.length 5 [fv ch sz po, v] H (fun v _ => v = .bool true) := by
 have hs0 := hs
 obtain ⟨ad, cd, rfl⟩ := hs.len
 unfold fv
 refine st5 ?_; unfold bd5 cf5; simp only [kB, ctlB]
 repeat' ((first | refine xSTc ?_ | refine xOTc rfl ?_); (try simp only [ctlB]))
 have hxG := Ext.app H [some [Value.int .i64 ch, Value.int .i64 sz, Value.int .i64 po]]
 have hl0 := hxG.1
 by_cases hlen : 80 < s.length
 ·refine xCTc (fun h => ?_) (fun h => ?_)
  case refine_2 => simp at h; omega
  clear h
  (try simp only [ctlB])
  refine xHTc ?_
  refine wpH_call0 (alive hl0) ?_
  rintro v H1 ⟨hx1, rfl⟩
  (try simp only [ctlB])
  repeat' ((first | refine xSTc ?_ | refine xOTc rfl ?_); (try simp only [ctlB]))
  refine xRTc ?_
  rfl
 ·refine xCTc (fun h => ?_) (fun h => ?_)
  ·simp at h; omega
  clear h
  obtain ⟨P, h1, hR, hV⟩ := locBoth (ch := ch) (sz := sz) (po := po) hl0 hb hs2 (hs0.mono hxG) (by omega)
  (try simp only [ctlB])
  refine xHTc ?_
  refine wpH_call0 (hR _ (Ext.refl _)) ?_
  rintro v H1 ⟨hx1, l1, k1, ⟨v1, rfl, hv1⟩, hp1⟩
  have g0 : H1.get H.length = some _ := hx1.get (by simp (disch := first | omega | (simp only [lenB]; omega)) only [evB, xBTc, Nat.reduceAdd, Nat.reduceBEq, *]; rfl)
  have hl1 := hx1.1
  (try simp only [ctlB])
  repeat' ((first | refine xSTc ?_ | refine xOTc rfl ?_); (try simp only [ctlB]))
  refine xHTc ?_
  refine wpH_call0 (hV _ hx1) ?_
  rintro v H2 ⟨hx2, l2, k2, ⟨v2, rfl, hv2⟩, hp2⟩
  obtain ⟨rfl, rfl⟩ := h1.1 _ _ _ _ hp1 hp2
  have hle := h1.2 _ _ hp1
  have hv1 := hv1.mono hx2
  have hl2 := hx2.1
  clear hR hV g0
  (try simp only [ctlB])
  repeat' ((first | refine xSTc ?_ | refine xOTc rfl ?_); (try simp only [ctlB]))
  refine xHTc ?_
  refine wpH_call0 (ints_eq hv1 hv2 hle hle rfl) ?_
  rintro v _ ⟨rfl, rfl⟩
  (try simp only [ctlB])
  refine xTTc ?_
  refine wpH_call0 (alive (by omega)) ?_
  rintro v H3 ⟨hx3, rfl⟩
  (try simp only [ctlB])
  repeat' ((first | refine xSTc ?_ | refine xOTc rfl ?_); (try simp only [ctlB]))
  refine xRTc ?_
  simp [resultOf]
def askV (ch sz po r b : Int) (v ve : Value) : Value := .agg #[.int .i64 ch, .int .i64 sz, .int .i64 po, .int .i64 r, .int .i64 b, v, ve]
theorem small {lo : Nat} {H : Heap} {ch sz po r b : Int} {n m c d : Nat} {a e : Option Addr} : Ev cp lo 16 [askV ch sz po r b (.slice a n c) (.slice e m d)] H (fun v H' => Ext H H' ∧ v = .bool (decide (r ≤ 60) && decide (n ≤ 400) && decide (m ≤ 400))) := by
 unfold askV
 refine st16 ?_; unfold bd16 cf16; simp only [kB, ctlB]
 repeat' ((first | refine xSTc ?_ | refine xOTc rfl ?_); (try simp only [ctlB]))
 refine xRTc ?_
 refine ⟨Ext.app _ _, ?_⟩
 have e1 : decide ((n : Int) ≤ 400) = decide (n ≤ 400) := decide_eq_decide.2 (by omega)
 have e2 : decide ((m : Int) ≤ 400) = decide (m ≤ 400) := decide_eq_decide.2 (by omega)
 simp [resultOf, e1, e2]
theorem lawEnc {H : Heap} {ch sz po r b : Int} {v ve : Value} {s e : List Int} (hb : po ≤ 9223372036854775807) (hs2 : sz ≤ 9223372036854775807) (hs : SlI H v s) (he : SlI H ve e) : Ev cp H.length 4 [askV ch sz po r b v ve] H (fun v _ => v = .bool true) := by
 have hs0 := hs
 obtain ⟨ad, cd, rfl⟩ := hs.len
 obtain ⟨ae, ce, rfl⟩ := he.len
 unfold askV
 refine st4 ?_; unfold bd4 cf4; simp only [kB, ctlB]
 repeat' ((first | refine xSTc ?_ | refine xOTc rfl ?_); (try simp only [ctlB]))
 have hxG := Ext.app H [some [Value.int .i64 ch, Value.int .i64 sz, Value.int .i64 po, .int .i64 r, .int .i64 b, .slice ad s.length cd, .slice ae e.length ce]]
 have hl0 := hxG.1
 refine xHTc ?_
 refine wpH_call0 (small (ch := ch) (sz := sz) (po := po) (r := r) (b := b)) ?_
 rintro v H1 ⟨hx1, rfl⟩
 have g0 : H1.get H.length = some _ := hx1.get (by simp (disch := first | omega | (simp only [lenB]; omega)) only [evB, xBTc, Nat.reduceAdd, Nat.reduceBEq, *]; rfl)
 have hx1 := hxG.trans hx1
 have hl1 := hx1.1
 clear hxG hl0
 generalize ht : (decide (r ≤ 60) && decide (s.length ≤ 400) && decide (e.length ≤ 400)) = t
 cases t with
 | false =>
  clear ht
  (try simp only [ctlB])
  refine xCTc (fun h => ?_) (fun h => ?_)
  case refine_2 => cases h
  clear h
  (try simp only [ctlB])
  refine xHTc ?_
  refine wpH_call0 (alive hl1) ?_
  rintro v H2 ⟨hx2, rfl⟩
  (try simp only [ctlB])
  repeat' ((first | refine xSTc ?_ | refine xOTc rfl ?_); (try simp only [ctlB]))
  refine xRTc ?_
  rfl
 | true =>
  have hlen : s.length ≤ 400 := by simp at ht; omega
  clear ht
  (try simp only [ctlB])
  refine xCTc (fun h => ?_) (fun h => ?_)
  ·cases h
  clear h
  obtain ⟨P, h1, hR, hV⟩ := encBoth (ch := ch) (sz := sz) (po := po) (r := r) (b := b) hl1 hb hs2 (hs0.mono hx1) (by omega)
  obtain ⟨P', h1', hR', hV'⟩ := synBoth (ch := ch) (sz := sz) (po := po) (r := r) (b := b) hl1 hb hs2 (hs0.mono hx1) (by omega)
  (try simp only [ctlB])
  refine xHTc ?_
  refine wpH_call0 (hR _ (Ext.refl _)) ?_
  rintro v H2 ⟨hx2, l1, k1, ⟨v1, rfl, hv1⟩, hp1⟩
  have g0 := hx2.get g0
  (try simp only [ctlB])
  repeat' ((first | refine xSTc ?_ | refine xOTc rfl ?_); (try simp only [ctlB]))
  refine xHTc ?_
  refine wpH_call0 (hV _ hx2) ?_
  rintro v H3 ⟨hx3, l2, k2, ⟨v2, rfl, hv2⟩, hp2⟩
  obtain ⟨rfl, rfl⟩ := h1.1 _ _ _ _ hp1 hp2
  have hle := h1.2 _ _ hp1
  have hv1 := hv1.mono hx3
  have g0 := hx3.get g0
  have hx3 := hx2.trans hx3
  clear hx2 hR hV hp1 hp2 h1
  (try simp only [ctlB])
  repeat' ((first | refine xSTc ?_ | refine xOTc rfl ?_); (try simp only [ctlB]))
  refine xHTc ?_
  refine wpH_call0 (hR' _ hx3) ?_
  rintro v H4 ⟨hx4, l3, k3, ⟨v3, rfl, hv3⟩, hp1⟩
  have g0 := hx4.get g0
  have hv1 := hv1.mono hx4
  have hv2 := hv2.mono hx4
  have hx4 := hx3.trans hx4
  clear hx3
  (try simp only [ctlB])
  repeat' ((first | refine xSTc ?_ | refine xOTc rfl ?_); (try simp only [ctlB]))
  refine xHTc ?_
  refine wpH_call0 (hV' _ hx4) ?_
  rintro v H5 ⟨hx5, l4, k4, ⟨v4, rfl, hv4⟩, hp2⟩
  obtain ⟨rfl, rfl⟩ := h1'.1 _ _ _ _ hp1 hp2
  have hle' := h1'.2 _ _ hp1
  have hv1 := hv1.mono hx5
  have hv2 := hv2.mono hx5
  have hv3 := hv3.mono hx5
  have hx5 := hx4.trans hx5
  have hl5 := (hx1.trans hx5).1
  clear hx4 hR' hV' hp1 hp2 h1' g0
  (try simp only [ctlB])
  repeat' ((first | refine xSTc ?_ | refine xOTc rfl ?_); (try simp only [ctlB]))
  refine xHTc ?_
  refine wpH_call0 (ints_eq hv1 hv2 hle hle rfl) ?_
  rintro v _ ⟨rfl, rfl⟩
  (try simp only [ctlB])
  refine xTTc ?_
  refine wpH_call0 (ints_eq hv3 hv4 hle' hle' rfl) ?_
  rintro v _ ⟨rfl, rfl⟩
  (try simp only [ctlB])
  refine xTTc ?_
  refine wpH_call0 (alive hl5) ?_
  rintro v H6 ⟨hx6, rfl⟩
  (try simp only [ctlB])
  repeat' ((first | refine xSTc ?_ | refine xOTc rfl ?_); (try simp only [ctlB]))
  refine xRTc ?_
  simp [resultOf]
end Go.Proofs.Ythejjplggcfjcaa
namespace Go.Proofs.Ythejjplggcfjcaa
open Go.Abs
theorem own : ownKnob Try.prog.godebug = none := by kernel_rfl
theorem laidOut : laidOutB Try.prog = true := by kernel_rfl
theorem noGlobals : Try.prog.globals.size = 0 := by kernel_rfl
theorem has_rcd {B : Nat} {H : Heap} {l : List Ty} {vs : List Value} (h : Has B H (.rcd l) vs) : HasAll B H l vs := by simpa only [Has] using h
theorem has_int {B : Nat} {H : Heap} {vs : List Value} (h : Has B H (.int .i64) vs) : ∃ n : Int, vs = [.int .i64 n] ∧ -9223372036854775808 ≤ n ∧ n ≤ 9223372036854775807 := by
 simp only [Has] at h
 exact h
theorem all_cons {B : Nat} {H : Heap} {t : Ty} {r : List Ty} {vs : List Value} (h : HasAll B H (t :: r) vs) : ∃ a b, vs = a ++ b ∧ Has B H t a ∧ HasAll B H r b := by simpa only [HasAll] using h
theorem all_nil {B : Nat} {H : Heap} {vs : List Value} (h : HasAll B H [] vs) : vs = [] := by simpa only [HasAll] using h
theorem sl_one {B : Nat} {H : Heap} {vs : List Value} (h : Has B H (.sl (.int .i64)) vs) : ∃ v l, vs = [v] ∧ SlI H v l ∧ l.length ≤ B := by
 obtain ⟨v, rfl, h⟩ := has_one h (by intro l e; cases e) (by intro n l e; cases e)
 obtain ⟨l, h1, h2, _⟩ := has_slI h
 exact ⟨v, l, rfl, h1, h2⟩
theorem three {B : Nat} {H : Heap} {vs : List Value} (h : HasAll B H [.int .i64, .int .i64, .int .i64] vs) : ∃ ch sz po : Int, vs = [.int .i64 ch, .int .i64 sz, .int .i64 po] ∧ sz ≤ 9223372036854775807 ∧ po ≤ 9223372036854775807 := by
 obtain ⟨_, _, rfl, ha, h⟩ := all_cons h
 obtain ⟨_, _, rfl, hb, h⟩ := all_cons h
 obtain ⟨_, _, rfl, hc, h⟩ := all_cons h
 rw [all_nil h]
 obtain ⟨ch, rfl, h1⟩ := has_int ha
 obtain ⟨sz, rfl, h2⟩ := has_int hb
 obtain ⟨po, rfl, h3⟩ := has_int hc
 exact ⟨ch, sz, po, rfl, h2.2, h3.2⟩
theorem field_of {B : Nat} {H : Heap} {v : Value} (h : HasArg B H (.rcd [.int .i64, .int .i64, .int .i64]) v) : ∃ ch sz po, v = fv ch sz po ∧ sz ≤ 9223372036854775807 ∧ po ≤ 9223372036854775807 := by
 simp only [HasArg] at h
 obtain ⟨cs, rfl, h⟩ := h
 obtain ⟨ch, sz, po, h1, h2, h3⟩ := three h
 refine ⟨ch, sz, po, ?_, h2, h3⟩
 have : cs = #[.int .i64 ch, .int .i64 sz, .int .i64 po] := Array.toList_inj.1 (by rw [h1])
 rw [this]; rfl
theorem ask_of {B : Nat} {H : Heap} {v : Value} (h : HasArg B H (.rcd [.rcd [.rcd [.int .i64, .int .i64, .int .i64], .int .i64, .int .i64], .sl (.int .i64), .sl (.int .i64)]) v) :
  ∃ ch sz po r b vw ve s e, v = askV ch sz po r b vw ve ∧ sz ≤ 9223372036854775807 ∧ po ≤ 9223372036854775807 ∧ SlI H vw s ∧ SlI H ve e := by
 simp only [HasArg] at h
 obtain ⟨cs, rfl, h⟩ := h
 obtain ⟨c1, _, h0, hc, h⟩ := all_cons h
 obtain ⟨_, _, rfl, hw, h⟩ := all_cons h
 obtain ⟨_, _, rfl, he, h⟩ := all_cons h
 rw [all_nil h] at h0
 obtain ⟨_, _, rfl, hf, h⟩ := all_cons (has_rcd hc)
 obtain ⟨_, _, rfl, hr, h⟩ := all_cons h
 obtain ⟨_, _, rfl, hb, h⟩ := all_cons h
 rw [all_nil h] at h0
 obtain ⟨ch, sz, po, rfl, h1, h2⟩ := three (has_rcd hf)
 obtain ⟨r, rfl, _⟩ := has_int hr
 obtain ⟨b, rfl, _⟩ := has_int hb
 obtain ⟨vw, s, rfl, h3, _⟩ := sl_one hw
 obtain ⟨ve, e, rfl, h4, _⟩ := sl_one he
 refine ⟨ch, sz, po, r, b, vw, ve, s, e, ?_, h1, h2, h3, h4⟩
 have : cs = #[.int .i64 ch, .int .i64 sz, .int .i64 po, .int .i64 r, .int .i64 b, vw, ve] := Array.toList_inj.1 (by rw [h0]; rfl)
 rw [this]; rfl
end Go.Proofs.Ythejjplggcfjcaa
