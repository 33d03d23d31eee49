/- The laws' helper alive: the examples of the chapter. Reed-Solomon codes: Encode and Generator where the code or the data are not valid. Reed-Solomon codes: the laws Locates and Encodes. What every law of this seat needs of the program, and the arguments of the laws. -/
import Derived.Test.YthejjplggcfjcaaD10
import Derived.Test.YthejjplggcfjcaaD16
import Derived.Test.YthejjplggcfjcaaRows
set_option linter.unusedVariables false
set_option linter.unusedSimpArgs false
set_option linter.unusedSectionVars false
namespace Go.Proofs.Ythejjplggcfjcaa
open Go.Abs Go.RS
set_option linter.unusedSimpArgs false
set_option linter.unusedVariables false
set_option maxRecDepth 20000
section
variable {lo : Nat} {H : Heap} {ch sz po r b : Int}
set_option linter.defProp false in
def xBTa := And.intro @Int.cast_ofNat_Int (And.intro @fv.eq_1 (And.intro @fvf.eq_1 (And.intro @ite_self.{1} (And.intro @ite_st (And.intro @ite_sf (And.intro @ite_nt (And.intro @cdC.eq_1 (And.intro @arC.eq_1 (And.intro @dcC.eq_1 (And.intro @elL_at (And.intro @elL_len (And.intro @elL_set' (And.intro @zerosEl (And.intro @erL_at @erL_len))))))))))))))
theorem xSTa {cp : FuncId → Option CF} {lo : Nat} {l : List (Nat × E)} {chk : List E} {Q : Post} {S : List Value} {H : Heap} {vs : List (Nat × Value)} {S' : List Value} (k : Q .normal S' H) (h : evSets S H l = some vs := by simp (disch := first | omega | (simp only [lenB]; omega)) only [evB, xBTa, Nat.reduceAdd, Nat.reduceBEq, *]; rfl) (hc : evChk S H chk = true := by simp (disch := first | omega | (simp only [lenB]; omega)) only [evB, xBTa, Nat.reduceAdd, Nat.reduceBEq, *]) (hS : setAll S vs = S' := by simp (disch := first | omega | (simp only [lenB]; omega)) only [evB, xBTa, Nat.reduceAdd, Nat.reduceBEq, *]; rfl) : wpS cp lo (.sets l chk) Q S H := aw_sets h hc hS k
theorem xHTa {cp : FuncId → Option CF} {lo : Nat} {l : List (Nat × E)} {chk : List E} {Q : Post} {S : List Value} {H : Heap} {vs : List (Nat × Value)} {dst : Option Nat} {o : HOp} {a : E} {xs : List Value} (k : wpH cp lo o xs H fun v H' => Q .normal (setD (setAll S vs) dst v) H') (h : evSets S H l = some vs := by simp (disch := first | omega | (simp only [lenB]; omega)) only [evB, xBTa, Nat.reduceAdd, Nat.reduceBEq, *]; rfl) (hc : evChk S H chk = true := by simp (disch := first | omega | (simp only [lenB]; omega)) only [evB, xBTa, Nat.reduceAdd, Nat.reduceBEq, *]) (ha : ev S H a = some xs := by simp (disch := first | omega | (simp only [lenB]; omega)) only [evB, xBTa, Nat.reduceAdd, Nat.reduceBEq, *]; rfl) : wpS cp lo (.hv l chk [] dst o a) Q S H := aw_hv h hc ha k
theorem xOTa {cp : FuncId → Option CF} {lo : Nat} {l : List (Nat × E)} {chk : List E} {Q : Post} {S : List Value} {H : Heap} {vs : List (Nat × Value)} {dst : Option Nat} {o : HOp} {a : E} {xs : List Value} {S' : List Value} {H' : Heap} {v : Value} (hcall : o.isCall = false) (k : Q .normal S' H') (h : evSets S H l = some vs := by simp (disch := first | omega | (simp only [lenB]; omega)) only [evB, xBTa, Nat.reduceAdd, Nat.reduceBEq, *]; rfl) (hc : evChk S H chk = true := by simp (disch := first | omega | (simp only [lenB]; omega)) only [evB, xBTa, Nat.reduceAdd, Nat.reduceBEq, *]) (ha : ev S H a = some xs := by simp (disch := first | omega | (simp only [lenB]; omega)) only [evB, xBTa, Nat.reduceAdd, Nat.reduceBEq, *]; rfl) (ho : hsem0 lo o xs H = some (v, H') := by simp (disch := first | omega | (simp only [lenB]; omega)) only [evB, xBTa, Nat.reduceAdd, Nat.reduceBEq, *]; rfl) (hS : setD (setAll S vs) dst v = S' := by simp (disch := first | omega | (simp only [lenB]; omega)) only [evB, xBTa, Nat.reduceAdd, Nat.reduceBEq, *]; rfl) : wpS cp lo (.hv l chk [] dst o a) Q S H := aw_op hcall h hc ha ho hS k
theorem xCTa {cp : FuncId → Option CF} {lo : Nat} {c : E} {a b : Stm} {Q : Post} {S : List Value} {H : Heap} {t : Bool} (k1 : t = true → wpS cp lo a Q S H) (k2 : t = false → wpS cp lo b Q S H) (h : ev1 S H c = some (.bool t) := by simp (disch := first | omega | (simp only [lenB]; omega)) only [evB, xBTa, Nat.reduceAdd, Nat.reduceBEq, *]; rfl) : wpS cp lo (.cond c a b) Q S H := aw_cond h k1 k2
theorem xTTa {cp : FuncId → Option CF} {lo : Nat} {l : List (Nat × E)} {chk : List E} {Q : Post} {S : List Value} {H : Heap} {vs : List (Nat × Value)} {dst : Option Nat} {o : HOp} {a : E} {xs : List Value} {pc : PC} (k : wpH cp lo o xs H fun v H' => Q .normal (setD (setAll S vs) dst v) H') (h : evSets S H l = some vs := by simp (disch := first | omega | (simp only [lenB]; omega)) only [evB, xBTa, Nat.reduceAdd, Nat.reduceBEq, *]; rfl) (hc : evChk S H chk = true := by simp (disch := first | omega | (simp only [lenB]; omega)) only [evB, xBTa, Nat.reduceAdd, Nat.reduceBEq, *]) (hp : holds S H pc = some true := by simp (disch := first | omega | (simp only [lenB]; omega)) only [evB, xBTa, Nat.reduceAdd, Nat.reduceBEq, *]; try rfl) (ha : ev S H a = some xs := by simp (disch := first | omega | (simp only [lenB]; omega)) only [evB, xBTa, Nat.reduceAdd, Nat.reduceBEq, *]; rfl) : wpS cp lo (.hv l chk pc dst o a) Q S H := aw_hvT h hc hp ha k
theorem xUTa {cp : FuncId → Option CF} {lo : Nat} {l : List (Nat × E)} {chk : List E} {Q : Post} {S : List Value} {H : Heap} {vs : List (Nat × Value)} {dst : Option Nat} {o : HOp} {a : E} {xs : List Value} {pc : PC} {S' : List Value} {H' : Heap} {v : Value} (hcall : o.isCall = false) (k : Q .normal S' H') (h : evSets S H l = some vs := by simp (disch := first | omega | (simp only [lenB]; omega)) only [evB, xBTa, Nat.reduceAdd, Nat.reduceBEq, *]; rfl) (hc : evChk S H chk = true := by simp (disch := first | omega | (simp only [lenB]; omega)) only [evB, xBTa, Nat.reduceAdd, Nat.reduceBEq, *]) (hp : holds S H pc = some true := by simp (disch := first | omega | (simp only [lenB]; omega)) only [evB, xBTa, Nat.reduceAdd, Nat.reduceBEq, *]; try rfl) (ha : ev S H a = some xs := by simp (disch := first | omega | (simp only [lenB]; omega)) only [evB, xBTa, Nat.reduceAdd, Nat.reduceBEq, *]; rfl) (ho : hsem0 lo o xs H = some (v, H') := by simp (disch := first | omega | (simp only [lenB]; omega)) only [evB, xBTa, Nat.reduceAdd, Nat.reduceBEq, *]; rfl) (hS : setD (setAll S vs) dst v = S' := by simp (disch := first | omega | (simp only [lenB]; omega)) only [evB, xBTa, Nat.reduceAdd, Nat.reduceBEq, *]; rfl) : wpS cp lo (.hv l chk pc dst o a) Q S H := aw_opT hcall h hc hp ha ho hS k
theorem xRTa {cf : CF} {R : Value → Heap → Prop} {S : List Value} {H : Heap} {vs : List Value} (k : R (resultOf vs) H) (h : evList S H cf.res = some vs := by simp (disch := first | omega | (simp only [lenB]; omega)) only [evB, xBTa, Nat.reduceAdd, Nat.reduceBEq, *]; rfl) : bodyQ cf R .ret S H := body_ret h k
theorem newR (hlo : lo ≤ H.length) (hb : po ≤ 9223372036854775807) : Ev cp lo 10 [fv ch sz po, .int .i64 r, .int .i64 b] H (fun v H' => Ext H H' ∧ ((¬ ∃ f, OkF ch sz po f) → v = .tuple #[cdI 0 0 0 0 0, .int .i64 1]) ∧ ((∃ f, OkF ch sz po f) → ¬ OkCd ch sz po r b → v = .tuple #[cdI 0 0 0 0 0, .int .i64 3]) ∧ (OkCd ch sz po r b → v = .tuple #[cdI ch sz po r b, .int .i64 0])) := by
 unfold fv
 refine st10 ?_; unfold bd10 cf10; simp only [kB, ctlB]
 repeat' ((first | refine xSTa ?_ | refine xOTa rfl ?_); (try simp only [ctlB]))
 refine xHTa ?_
 refine wpH_call0 (valid (ch := ch) (sz := sz) (po := po) hb) ?_
 rintro v H1 ⟨hx1, t1, rfl, ht1⟩
 have g0 : H1.get H.length = some _ := hx1.get (by simp (disch := first | omega | (simp only [lenB]; omega)) only [evB, xBTa, Nat.reduceAdd, Nat.reduceBEq, *]; rfl)
 have g1 : H1.get (H.length + 1) = some _ := hx1.get (by simp (disch := first | omega | (simp only [lenB]; omega)) only [evB, xBTa, Nat.reduceAdd, Nat.reduceBEq, *]; rfl)
 have hx1 := hx1.of_app
 have hl1 := Heap.get_lt g1
 cases t1 with
 | false =>
  have hno : ¬ ∃ f, OkF ch sz po f := fun h => by have := ht1.2 h; cases this
  (try simp only [ctlB])
  refine xCTa (fun h => ?_) (fun h => ?_)
  case refine_2 => cases h
  clear h
  (try simp only [ctlB])
  repeat' ((first | refine xSTa ?_ | refine xOTa rfl ?_); (try simp only [ctlB]))
  refine xRTa ?_
  exact ⟨hx1.set (by omega), fun _ => rfl, fun h => absurd h hno, fun h => absurd h.1 hno⟩
 | true =>
  have hf := ht1.1 rfl
  have hsz := okF_sz hf
  (try simp only [ctlB])
  refine xCTa (fun h => ?_) (fun h => ?_)
  ·cases h
  clear h
  (try simp only [ctlB])
  refine xHTa ?_
  refine wpH_call0 (fits (ch := ch) (sz := sz) (po := po) (r := r) (b := b) (by omega) (by omega)) ?_
  rintro v H2 ⟨hx2, rfl⟩
  have g0 := (hx2).get g0; have g1 := (hx2).get g1
  have hx2 := hx1.trans hx2
  have hl2 := Heap.get_lt g1
  generalize ht2 : (((decide (1 ≤ r) && decide (r ≤ sz - 2)) && decide (0 ≤ b)) && decide (b ≤ sz - 2)) = t2
  have ht2' : t2 = true ↔ 1 ≤ r ∧ r ≤ sz - 2 ∧ 0 ≤ b ∧ b ≤ sz - 2 := by
   rw [← ht2]; simp only [Bool.and_eq_true, decide_eq_true_eq]; omega
  clear ht2
  cases t2 with
  | false =>
   have hno : ¬ OkCd ch sz po r b := fun h => by have := ht2'.2 h.2; cases this
   (try simp only [ctlB])
   refine xCTa (fun h => ?_) (fun h => ?_)
   case refine_2 => cases h
   clear h
   (try simp only [ctlB])
   repeat' ((first | refine xSTa ?_ | refine xOTa rfl ?_); (try simp only [ctlB]))
   refine xRTa ?_
   exact ⟨hx2.set (by omega), fun h => absurd hf h, fun _ _ => rfl, fun h => absurd h hno⟩
  | true =>
   have hok : OkCd ch sz po r b := ⟨hf, ht2'.1 rfl⟩
   (try simp only [ctlB])
   refine xCTa (fun h => ?_) (fun h => ?_)
   ·cases h
   clear h
   (try simp only [ctlB])
   repeat' ((first | refine xSTa ?_ | refine xOTa rfl ?_); (try simp only [ctlB]))
   refine xRTa ?_
   exact ⟨hx2.set (by omega), fun h => absurd hf h, fun _ h => absurd hok h, fun _ => rfl⟩
end
theorem gn7 : Gn (OkC.ok (f := f7)) (e7 3) := by
 refine ⟨by decide, ord7, fun x h1 h2 h => ?_⟩
 have h3 : x.val < 3 := h2
 have h4 := h.2.2
 have : x.val = 1 ∨ x.val = 2 := by omega
 rcases this with h5 | h5
 ·have : x = e7 1 := El.ext h5
  subst this
  exact h4 1 (by decide) (by decide) rfl
 ·have : x = e7 2 := El.ext h5
  subst this
  exact h4 3 (by decide) (by decide) rfl
theorem cd7 : CdOK f7 2 0 := ⟨by decide, by decide, by decide⟩
theorem enc7 : IsEnc (e7 3) 2 0 [e7 1] [e7 1, e7 3, e7 3] := ⟨rfl, fun i hi => by
 have : i = 0 := by simp at hi; omega
 subst this; rfl, cw7⟩
theorem encN_sli {H : Heap} {v : Value} {l : List Nat} (h : Sl encN H v l) : SlI H v (l.map (fun i : Nat => (i : Int))) := by
 rcases h with ⟨rfl, rfl⟩ | ⟨b, o, sp, cap, xs, h1, h2, h3, h4, h5⟩
 ·exact .inl ⟨rfl, rfl⟩
 ·refine .inr ⟨b, o, sp, cap, xs, by rw [h1]; simp, h2, ?_, by simpa using h4, by simpa using h5⟩
  rw [List.length_map, h3, List.map_map]; rfl
theorem ints_eq {lo : Nat} {H : Heap} {va vb : Value} {a b : List Int} (ha : SlI H va a) (hb : SlI H vb b) (hsm : a.length ≤ 1000000000) (hbm : b.length ≤ 1000000000) (h : a = b) : Ev cp lo 15 [va, vb] H (fun v H' => H = H' ∧ v = .bool true) := by
 have := ints (lo := lo) ha hb hsm hbm
 rw [decide_eq_true h] at this
 exact this.mono fun v H' h => ⟨h.1.symm, h.2⟩
theorem okf7 : OkF 7 7 0 f7 := ⟨OkC.ok, rfl, rfl, rfl⟩
theorem okcd7 : OkCd 7 7 0 2 0 := ⟨⟨f7, okf7⟩, by decide, by decide, by decide, by decide⟩
set_option maxHeartbeats 4000000 in
theorem alive {lo : Nat} {H : Heap} (hlo : lo ≤ H.length) : Ev cp lo 12 [] H (fun v H' => Ext H H' ∧ v = .bool true) := by
 have hg := gn7
 have hc := cd7
 refine st12 ?_; unfold bd12 cf12; simp only [kB, ctlB]
 repeat' ((first | refine xSTa ?_ | refine xOTa rfl ?_); (try simp only [ctlB]))
 refine xHTa ?_
 refine wpH_call0 (newR (ch := 7) (sz := 7) (po := 0) (r := 2) (b := 0) (by simp; omega) (by omega)) ?_
 rintro v H1 ⟨hx1, -, -, hv⟩
 rw [hv okcd7]
 clear hv
 have g1 : H1.get H.length = some _ := hx1.get (by simp (disch := first | omega | (simp only [lenB]; omega)) only [evB, xBTa, Nat.reduceAdd, Nat.reduceBEq, *]; rfl)
 have hx1 := hx1.of_app
 have hl1 := hx1.1
 unfold cdI
 (try simp only [ctlB])
 repeat' ((first | refine xSTa ?_ | refine xOTa rfl ?_); (try simp only [ctlB]))
 generalize hG : H1 ++ _ = G at *
 obtain ⟨g2, hxG⟩ := box_facts hG
 clear hG
 have g1 := hxG.get g1
 have hx2 := hx1.trans hxG
 have hlG := hx2.1
 clear hxG
 refine xHTa ?_
 refine wpH_call0 (genR_ok (f := f7) (by omega) hg hc) ?_
 rintro v H2 ⟨hx3, vg, rfl, hvg⟩
 rw [gen7] at hvg
 have g1 := (hx3).get g1; have g2 := (hx3).get g2
 have hx3 := hx2.trans hx3
 have hl3 := hx3.1
 obtain ⟨ag, cg, rfl⟩ := hvg.len
 (try simp only [ctlB])
 repeat' ((first | refine xSTa ?_ | refine xOTa rfl ?_); (try simp only [ctlB]))
 generalize hG : H2 ++ _ = G2 at *
 obtain ⟨g3, hxG⟩ := box_facts hG
 clear hG
 have g1 := (hxG).get g1; have g2 := (hxG).get g2
 have hvg := hvg.mono hxG
 have hx4 := hx3.trans hxG
 have hl4 := hx4.1
 clear hxG hx1 hx2 hx3
 refine xHTa ?_
 refine wpH_call0 (encR_ok (f := f7) (d := [e7 1]) (by omega) hg hc (sle_whole g3 rfl) (by decide)) ?_
 rintro v H3 ⟨hx5, ⟨-, -, ve, w, rfl, hve, hie⟩ | ⟨hno, -⟩⟩
 case inr => exact absurd ⟨by decide, by decide⟩ hno
 have hw := enc_uniq hg hc hie enc7
 subst hw
 clear hie
 have g1 := (hx5).get g1; have g2 := (hx5).get g2
 have hvg := hvg.mono hx5
 have hx5 := hx4.trans hx5
 have hl5 := hx5.1
 clear hx4
 obtain ⟨av, cv', rfl⟩ := hve.len
 (try simp only [ctlB])
 repeat' ((first | refine xSTa ?_ | refine xOTa rfl ?_); (try simp only [ctlB]))
 generalize hG : H3 ++ _ = G3 at *
 obtain ⟨g4, hxG⟩ := box_facts hG
 clear hG
 have g1 := (hxG).get g1; have g2 := (hxG).get g2
 have hvg := hvg.mono hxG
 have hve := hve.mono hxG
 have hx6 := hx5.trans hxG
 have hl6 := hx6.1
 clear hxG hx5
 refine xHTa ?_
 refine wpH_call0 (decR_ok (f := f7) (w := [e7 1, e7 3, e7 4]) (e := []) (by omega) hg hc (sle_whole g4 rfl) (by decide) (.inl ⟨rfl, rfl⟩) (by decide)) ?_
 rintro v H4 ⟨hx7, -, -, -, hdec⟩
 obtain ⟨vw, vc, rfl, hvw, hvc⟩ := hdec (by simp [inR]) (by decide) (by decide) (dec7a (by simp [erI])).1
 rw [(dec7a (er := erI []) (by simp [erI])).2] at hvw hvc
 have hvc : Sl encN H4 vc (sel (fun i => decide (co [e7 1, e7 3, e7 3] i ≠ co [e7 1, e7 3, e7 4] i)) 3) := hvc
 rw [chg7a] at hvc
 clear hdec
 have g1 := (hx7).get g1; have g2 := (hx7).get g2
 have hvg := hvg.mono hx7
 have hve := hve.mono hx7
 have hx7 := hx6.trans hx7
 have hl7 := hx7.1
 clear hx6
 obtain ⟨aw, cw, rfl⟩ := hvw.len
 obtain ⟨ac, cc, rfl⟩ := hvc.len
 have q1 := Heap.get_lt g1
 have q2 := Heap.get_lt g2
 (try simp only [ctlB])
 repeat' ((first | refine xSTa ?_ | refine xOTa rfl ?_); (try simp only [ctlB]))
 generalize hG : H4 ++ _ = G4 at *
 obtain ⟨g5, hxG⟩ := box_facts hG
 have g6 : Heap.get G4 (H4.length + 1) = some (elL [e7 0, e7 0, e7 3]) := by rw [← hG, get_appS]; rfl
 have g7 : Heap.get G4 (H4.length + 2) = some (intL [0, 1]) := by rw [← hG, get_appS]; rfl
 clear hG q1 q2
 have g1 := (hxG).get g1; have g2 := (hxG).get g2
 have hvg := hvg.mono hxG
 have hve := hve.mono hxG
 have hvw := hvw.mono hxG
 have hvc := hvc.mono hxG
 have hx8 := hx7.trans hxG
 have hl8 := hx8.1
 clear hxG hx7
 refine xHTa ?_
 refine wpH_call0 (decR_ok (f := f7) (w := [e7 0, e7 0, e7 3]) (e := [0, 1]) (by omega) hg hc (sle_whole g6 rfl) (by decide) (Sl.whole g7 rfl) (by decide)) ?_
 rintro v H5 ⟨hx9, -, -, -, hdec⟩
 obtain ⟨vx, vd, rfl, hvx, hvd⟩ := hdec (by simp [inR]) (by decide) (by decide) (dec7b (by decide) (by decide) (by decide)).1
 rw [(dec7b (er := erI [0, 1]) (by decide) (by decide) (by decide)).2] at hvx hvd
 have hvd : Sl encN H5 vd (sel (fun i => decide (co [e7 1, e7 3, e7 3] i ≠ co [e7 0, e7 0, e7 3] i)) 3) := hvd
 rw [chg7b] at hvd
 clear hdec g6 g7
 have g1 := (hx9).get g1; have g2 := (hx9).get g2; have g5 := (hx9).get g5
 have hvg := hvg.mono hx9
 have hve := hve.mono hx9
 have hvw := hvw.mono hx9
 have hvc := hvc.mono hx9
 have hx9 := hx8.trans hx9
 have hl9 := hx9.1
 clear hx8
 obtain ⟨ax, cx, rfl⟩ := hvx.len
 obtain ⟨ad, cd, rfl⟩ := hvd.len
 have q1 := Heap.get_lt g1
 have q2 := Heap.get_lt g2
 have q5 := Heap.get_lt g5
 (try simp only [ctlB])
 repeat' ((first | refine xSTa ?_ | refine xOTa rfl ?_); (try simp only [ctlB]))
 generalize hG : H5 ++ _ = G5 at *
 obtain ⟨g6, hxG⟩ := box_facts hG
 have g7 : Heap.get G5 (H5.length + 1) = some (elL [e7 1, e7 3]) := by rw [← hG, get_appS]; rfl
 clear hG q1 q2 q5
 have g1 := (hxG).get g1; have g2 := (hxG).get g2; have g5 := (hxG).get g5
 have hvg := hvg.mono hxG
 have hve := hve.mono hxG
 have hvw := hvw.mono hxG
 have hvc := hvc.mono hxG
 have hvx := hvx.mono hxG
 have hvd := hvd.mono hxG
 have hx10 := hx9.trans hxG
 have hl10 := hx10.1
 clear hxG hx9
 refine xHTa ?_
 refine wpH_call0 (locR_ok (f := f7) (s := [e7 1, e7 3]) (by omega) hg (sle_whole g7 rfl) (by decide)) ?_
 rintro v H6 ⟨hx11, vl, rfl, hvl⟩
 rw [locL_G, loc7] at hvl
 clear g7
 have g1 := (hx11).get g1; have g2 := (hx11).get g2; have g5 := (hx11).get g5; have g6 := (hx11).get g6
 have hvg := hvg.mono hx11
 have hve := hve.mono hx11
 have hvw := hvw.mono hx11
 have hvc := hvc.mono hx11
 have hvx := hvx.mono hx11
 have hvd := hvd.mono hx11
 have hx11 := hx10.trans hx11
 have hl11 := hx11.1
 clear hx10
 obtain ⟨al, cl', rfl⟩ := hvl.len
 have q1 := Heap.get_lt g1
 have q2 := Heap.get_lt g2
 have q5 := Heap.get_lt g5
 have q6 := Heap.get_lt g6
 (try simp only [ctlB])
 repeat' ((first | refine xSTa ?_ | refine xOTa rfl ?_); (try simp only [ctlB]))
 generalize hG : H6 ++ _ = G6 at *
 obtain ⟨g7, hxG⟩ := box_facts hG
 clear hG q1 q2 q5 q6
 have g1 := (hxG).get g1; have g2 := (hxG).get g2; have g5 := (hxG).get g5; have g6 := (hxG).get g6
 have hvg := hvg.mono hxG
 have hve := hve.mono hxG
 have hvw := hvw.mono hxG
 have hvc := hvc.mono hxG
 have hvx := hvx.mono hxG
 have hvd := hvd.mono hxG
 have hvl := hvl.mono hxG
 have hx12 := hx11.trans hxG
 have hl12 := hx12.1
 clear hxG hx11
 refine xHTa ?_
 refine wpH_call0 (synR_ok (f := f7) (w := [e7 1, e7 3, e7 4]) (by omega) hg hc (sle_whole g7 rfl) (by decide)) ?_
 rintro v H7 ⟨hx13, ⟨-, -, vt, rfl, hvt⟩ | ⟨hno, -⟩⟩
 case inr => exact absurd ⟨by decide, by decide⟩ hno
 have hvt : SlE H7 vt (tab 2 (fun i => hval [e7 1, e7 3, e7 4] (pw (e7 3) (0 + i)))) := hvt
 rw [syn7] at hvt
 clear g7
 have g1 := (hx13).get g1; have g2 := (hx13).get g2; have g5 := (hx13).get g5; have g6 := (hx13).get g6
 have hvg := sle_sli (hvg.mono hx13)
 have hve := sle_sli (hve.mono hx13)
 have hvw := sle_sli (hvw.mono hx13)
 have hvc := encN_sli (hvc.mono hx13)
 have hvx := sle_sli (hvx.mono hx13)
 have hvd := encN_sli (hvd.mono hx13)
 have hvl := sle_sli (hvl.mono hx13)
 have hvt := sle_sli hvt
 have hx13 := hx12.trans hx13
 have hl13 := hx13.1
 clear hx12
 obtain ⟨at', ct, rfl⟩ := hvt.len
 have q1 := Heap.get_lt g1
 have q2 := Heap.get_lt g2
 have q5 := Heap.get_lt g5
 have q6 := Heap.get_lt g6
 (try simp only [ctlB])
 repeat' ((first | refine xSTa ?_ | refine xOTa rfl ?_); (try simp only [ctlB]))
 refine xCTa (fun h => ?_) (fun h => ?_)
 ·simp at h
 clear h
 (try simp only [ctlB])
 repeat' ((first | refine xSTa ?_ | refine xOTa rfl ?_); (try simp only [ctlB]))
 generalize hG : H7 ++ _ = K1 at *
 obtain ⟨gk, hxG⟩ := box_facts hG
 clear hG q1 q2 q5 q6
 have g1 := (hxG).get g1; have g2 := (hxG).get g2; have g5 := (hxG).get g5; have g6 := (hxG).get g6
 have hvg := hvg.mono hxG
 have hve := hve.mono hxG
 have hvw := hvw.mono hxG
 have hvc := hvc.mono hxG
 have hvx := hvx.mono hxG
 have hvd := hvd.mono hxG
 have hvl := hvl.mono hxG
 have hvt := hvt.mono hxG
 have hx13 := hx13.trans hxG
 have hl13 := hx13.1
 clear hxG
 have q1 := Heap.get_lt g1
 have q2 := Heap.get_lt g2
 have q5 := Heap.get_lt g5
 have q6 := Heap.get_lt g6
 have hkk := Sl.whole (enc := Value.int .i64) (l := [3, 3, 1]) gk rfl
 refine xHTa ?_
 refine wpH_call0 (ints_eq hvg hkk (by decide) (by decide) rfl) ?_
 rintro v _ ⟨rfl, rfl⟩
 (try simp only [ctlB])
 clear hkk gk
 (refine xUTa rfl ?_; (try simp only [ctlB]))
 generalize hG : K1 ++ _ = K2 at *
 obtain ⟨gk, hxG⟩ := box_facts hG
 clear hG q1 q2 q5 q6
 have g1 := (hxG).get g1; have g2 := (hxG).get g2; have g5 := (hxG).get g5; have g6 := (hxG).get g6
 have hve := hve.mono hxG
 have hvw := hvw.mono hxG
 have hvc := hvc.mono hxG
 have hvx := hvx.mono hxG
 have hvd := hvd.mono hxG
 have hvl := hvl.mono hxG
 have hvt := hvt.mono hxG
 have hx13 := hx13.trans hxG
 have hl13 := hx13.1
 clear hxG
 have q1 := Heap.get_lt g1
 have q2 := Heap.get_lt g2
 have q5 := Heap.get_lt g5
 have q6 := Heap.get_lt g6
 have hkk := Sl.whole (enc := Value.int .i64) (l := [1, 3, 3]) gk rfl
 refine xTTa ?_
 refine wpH_call0 (ints_eq hve hkk (by decide) (by decide) rfl) ?_
 rintro v _ ⟨rfl, rfl⟩
 (try simp only [ctlB])
 clear hkk gk
 refine xTTa ?_
 refine wpH_call0 (ints_eq hvw hve (by decide) (by decide) rfl) ?_
 rintro v _ ⟨rfl, rfl⟩
 (try simp only [ctlB])
 (refine xUTa rfl ?_; (try simp only [ctlB]))
 generalize hG : K2 ++ _ = K3 at *
 obtain ⟨gk, hxG⟩ := box_facts hG
 clear hG q1 q2 q5 q6
 have g1 := (hxG).get g1; have g2 := (hxG).get g2; have g5 := (hxG).get g5; have g6 := (hxG).get g6
 have hve := hve.mono hxG
 have hvw := hvw.mono hxG
 have hvc := hvc.mono hxG
 have hvx := hvx.mono hxG
 have hvd := hvd.mono hxG
 have hvl := hvl.mono hxG
 have hvt := hvt.mono hxG
 have hx13 := hx13.trans hxG
 have hl13 := hx13.1
 clear hxG
 have q1 := Heap.get_lt g1
 have q2 := Heap.get_lt g2
 have q5 := Heap.get_lt g5
 have q6 := Heap.get_lt g6
 have hkk := Sl.whole (enc := Value.int .i64) (l := [2]) gk rfl
 refine xTTa ?_
 refine wpH_call0 (ints_eq hvc hkk (by decide) (by decide) rfl) ?_
 rintro v _ ⟨rfl, rfl⟩
 (try simp only [ctlB])
 clear hkk gk
 refine xTTa ?_
 refine wpH_call0 (ints_eq hvx hve (by decide) (by decide) rfl) ?_
 rintro v _ ⟨rfl, rfl⟩
 (try simp only [ctlB])
 (refine xUTa rfl ?_; (try simp only [ctlB]))
 generalize hG : K3 ++ _ = K4 at *
 obtain ⟨gk, hxG⟩ := box_facts hG
 clear hG q1 q2 q5 q6
 have g1 := (hxG).get g1; have g2 := (hxG).get g2; have g5 := (hxG).get g5; have g6 := (hxG).get g6
 have hve := hve.mono hxG
 have hvw := hvw.mono hxG
 have hvc := hvc.mono hxG
 have hvx := hvx.mono hxG
 have hvd := hvd.mono hxG
 have hvl := hvl.mono hxG
 have hvt := hvt.mono hxG
 have hx13 := hx13.trans hxG
 have hl13 := hx13.1
 clear hxG
 have q1 := Heap.get_lt g1
 have q2 := Heap.get_lt g2
 have q5 := Heap.get_lt g5
 have q6 := Heap.get_lt g6
 have hkk := Sl.whole (enc := Value.int .i64) (l := [0, 1]) gk rfl
 refine xTTa ?_
 refine wpH_call0 (ints_eq hvd hkk (by decide) (by decide) rfl) ?_
 rintro v _ ⟨rfl, rfl⟩
 (try simp only [ctlB])
 clear hkk gk
 (refine xUTa rfl ?_; (try simp only [ctlB]))
 generalize hG : K4 ++ _ = K5 at *
 obtain ⟨gk, hxG⟩ := box_facts hG
 clear hG q1 q2 q5 q6
 have g1 := (hxG).get g1; have g2 := (hxG).get g2; have g5 := (hxG).get g5; have g6 := (hxG).get g6
 have hve := hve.mono hxG
 have hvw := hvw.mono hxG
 have hvc := hvc.mono hxG
 have hvx := hvx.mono hxG
 have hvd := hvd.mono hxG
 have hvl := hvl.mono hxG
 have hvt := hvt.mono hxG
 have hx13 := hx13.trans hxG
 have hl13 := hx13.1
 clear hxG
 have q1 := Heap.get_lt g1
 have q2 := Heap.get_lt g2
 have q5 := Heap.get_lt g5
 have q6 := Heap.get_lt g6
 have hkk := Sl.whole (enc := Value.int .i64) (l := [1, 4]) gk rfl
 refine xTTa ?_
 refine wpH_call0 (ints_eq hvl hkk (by decide) (by decide) rfl) ?_
 rintro v _ ⟨rfl, rfl⟩
 (try simp only [ctlB])
 clear hkk gk
 (refine xUTa rfl ?_; (try simp only [ctlB]))
 generalize hG : K5 ++ _ = K6 at *
 obtain ⟨gk, hxG⟩ := box_facts hG
 clear hG q1 q2 q5 q6
 have g1 := (hxG).get g1; have g2 := (hxG).get g2; have g5 := (hxG).get g5; have g6 := (hxG).get g6
 have hve := hve.mono hxG
 have hvw := hvw.mono hxG
 have hvc := hvc.mono hxG
 have hvx := hvx.mono hxG
 have hvd := hvd.mono hxG
 have hvl := hvl.mono hxG
 have hvt := hvt.mono hxG
 have hx13 := hx13.trans hxG
 have hl13 := hx13.1
 clear hxG
 have q1 := Heap.get_lt g1
 have q2 := Heap.get_lt g2
 have q5 := Heap.get_lt g5
 have q6 := Heap.get_lt g6
 have hkk := Sl.whole (enc := Value.int .i64) (l := [1, 1]) gk rfl
 refine xTTa ?_
 refine wpH_call0 (ints_eq hvt hkk (by decide) (by decide) rfl) ?_
 rintro v _ ⟨rfl, rfl⟩
 (try simp only [ctlB])
 clear hkk gk
 repeat' ((first | refine xSTa ?_ | refine xOTa rfl ?_); (try simp only [ctlB]))
 refine xRTa ?_
 exact ⟨hx13, rfl⟩
end Go.Proofs.Ythejjplggcfjcaa
namespace Go.Proofs.Ythejjplggcfjcaa
open Go.Abs Go.RS
set_option linter.unusedSimpArgs false
set_option linter.unusedVariables false
set_option maxRecDepth 20000
section
variable {ch sz po r b : Int} {v : Value} {l : List Int} {lo : Nat} {H : Heap}
end
section
variable {lo : Nat} {H0 : Heap} {ch sz po r b : Int} {v : Value} {l : List Int}
theorem okcd_f (h : OkCd ch sz po r b) : ∃ (f : FD) (_ : OkC f) (g : El f) (r' b' : Nat), Gn (OkC.ok (f := f)) g ∧ CdOK f r' b' ∧ ch = FD.ch f ∧ sz = f.q ∧ po = f.poly ∧ r = r' ∧ b = b' := by
 obtain ⟨⟨f, hf, h1, h2, h3⟩, h4, h5, h6, h7⟩ := h
 have ho : OkC f := ⟨hf⟩
 obtain ⟨g, hg⟩ := gn_ex hf
 have := qle (f := f)
 exact ⟨f, ho, g, r.toNat, b.toNat, hg, ⟨by omega, by omega, by omega⟩, h3, h1, h2, by omega, by omega⟩
end
end Go.Proofs.Ythejjplggcfjcaa
namespace Go.Proofs.Ythejjplggcfjcaa
open Go.Abs Go.RS
set_option linter.unusedSimpArgs false
set_option linter.unusedVariables false
set_option maxRecDepth 20000
set_option linter.defProp false in
def xBTc := And.intro @Int.cast_ofNat_Int (And.intro @fv.eq_1 (And.intro @fvf.eq_1 (And.intro @ite_self.{1} (And.intro @ite_st (And.intro @ite_sf (And.intro @ite_nt (And.intro @cdC.eq_1 (And.intro @arC.eq_1 (And.intro @elL_at (And.intro @elL_len (And.intro @elL_set' @zerosEl)))))))))))
theorem xSTc {cp : FuncId → Option CF} {lo : Nat} {l : List (Nat × E)} {chk : List E} {Q : Post} {S : List Value} {H : Heap} {vs : List (Nat × Value)} {S' : List Value} (k : Q .normal S' H) (h : evSets S H l = some vs := by simp (disch := first | omega | (simp only [lenB]; omega)) only [evB, xBTc, Nat.reduceAdd, Nat.reduceBEq, *]; rfl) (hc : evChk S H chk = true := by simp (disch := first | omega | (simp only [lenB]; omega)) only [evB, xBTc, Nat.reduceAdd, Nat.reduceBEq, *]) (hS : setAll S vs = S' := by simp (disch := first | omega | (simp only [lenB]; omega)) only [evB, xBTc, Nat.reduceAdd, Nat.reduceBEq, *]; rfl) : wpS cp lo (.sets l chk) Q S H := aw_sets h hc hS k
theorem xOTc {cp : FuncId → Option CF} {lo : Nat} {l : List (Nat × E)} {chk : List E} {Q : Post} {S : List Value} {H : Heap} {vs : List (Nat × Value)} {dst : Option Nat} {o : HOp} {a : E} {xs : List Value} {S' : List Value} {H' : Heap} {v : Value} (hcall : o.isCall = false) (k : Q .normal S' H') (h : evSets S H l = some vs := by simp (disch := first | omega | (simp only [lenB]; omega)) only [evB, xBTc, Nat.reduceAdd, Nat.reduceBEq, *]; rfl) (hc : evChk S H chk = true := by simp (disch := first | omega | (simp only [lenB]; omega)) only [evB, xBTc, Nat.reduceAdd, Nat.reduceBEq, *]) (ha : ev S H a = some xs := by simp (disch := first | omega | (simp only [lenB]; omega)) only [evB, xBTc, Nat.reduceAdd, Nat.reduceBEq, *]; rfl) (ho : hsem0 lo o xs H = some (v, H') := by simp (disch := first | omega | (simp only [lenB]; omega)) only [evB, xBTc, Nat.reduceAdd, Nat.reduceBEq, *]; rfl) (hS : setD (setAll S vs) dst v = S' := by simp (disch := first | omega | (simp only [lenB]; omega)) only [evB, xBTc, Nat.reduceAdd, Nat.reduceBEq, *]; rfl) : wpS cp lo (.hv l chk [] dst o a) Q S H := aw_op hcall h hc ha ho hS k
theorem xRTc {cf : CF} {R : Value → Heap → Prop} {S : List Value} {H : Heap} {vs : List Value} (k : R (resultOf vs) H) (h : evList S H cf.res = some vs := by simp (disch := first | omega | (simp only [lenB]; omega)) only [evB, xBTc, Nat.reduceAdd, Nat.reduceBEq, *]; rfl) : bodyQ cf R .ret S H := body_ret h k
def askV (ch sz po r b : Int) (v ve : Value) : Value := .agg #[.int .i64 ch, .int .i64 sz, .int .i64 po, .int .i64 r, .int .i64 b, v, ve]
theorem small {lo : Nat} {H : Heap} {ch sz po r b : Int} {n m c d : Nat} {a e : Option Addr} : Ev cp lo 16 [askV ch sz po r b (.slice a n c) (.slice e m d)] H (fun v H' => Ext H H' ∧ v = .bool (decide (r ≤ 60) && decide (n ≤ 400) && decide (m ≤ 400))) := by
 unfold askV
 refine st16 ?_; unfold bd16 cf16; simp only [kB, ctlB]
 repeat' ((first | refine xSTc ?_ | refine xOTc rfl ?_); (try simp only [ctlB]))
 refine xRTc ?_
 refine ⟨Ext.app _ _, ?_⟩
 have e1 : decide ((n : Int) ≤ 400) = decide (n ≤ 400) := decide_eq_decide.2 (by omega)
 have e2 : decide ((m : Int) ≤ 400) = decide (m ≤ 400) := decide_eq_decide.2 (by omega)
 simp [resultOf, e1, e2]
end Go.Proofs.Ythejjplggcfjcaa
namespace Go.Proofs.Ythejjplggcfjcaa
open Go.Abs
theorem own : ownKnob Try.prog.godebug = none := by kernel_rfl
theorem laidOut : laidOutB Try.prog = true := by kernel_rfl
theorem noGlobals : Try.prog.globals.size = 0 := by kernel_rfl
theorem has_rcd {B : Nat} {H : Heap} {l : List Ty} {vs : List Value} (h : Has B H (.rcd l) vs) : HasAll B H l vs := by simpa only [Has] using h
theorem has_int {B : Nat} {H : Heap} {vs : List Value} (h : Has B H (.int .i64) vs) : ∃ n : Int, vs = [.int .i64 n] ∧ -9223372036854775808 ≤ n ∧ n ≤ 9223372036854775807 := by
 simp only [Has] at h
 exact h
theorem all_cons {B : Nat} {H : Heap} {t : Ty} {r : List Ty} {vs : List Value} (h : HasAll B H (t :: r) vs) : ∃ a b, vs = a ++ b ∧ Has B H t a ∧ HasAll B H r b := by simpa only [HasAll] using h
theorem all_nil {B : Nat} {H : Heap} {vs : List Value} (h : HasAll B H [] vs) : vs = [] := by simpa only [HasAll] using h
theorem sl_one {B : Nat} {H : Heap} {vs : List Value} (h : Has B H (.sl (.int .i64)) vs) : ∃ v l, vs = [v] ∧ SlI H v l ∧ l.length ≤ B := by
 obtain ⟨v, rfl, h⟩ := has_one h (by intro l e; cases e) (by intro n l e; cases e)
 obtain ⟨l, h1, h2, _⟩ := has_slI h
 exact ⟨v, l, rfl, h1, h2⟩
theorem three {B : Nat} {H : Heap} {vs : List Value} (h : HasAll B H [.int .i64, .int .i64, .int .i64] vs) : ∃ ch sz po : Int, vs = [.int .i64 ch, .int .i64 sz, .int .i64 po] ∧ sz ≤ 9223372036854775807 ∧ po ≤ 9223372036854775807 := by
 obtain ⟨_, _, rfl, ha, h⟩ := all_cons h
 obtain ⟨_, _, rfl, hb, h⟩ := all_cons h
 obtain ⟨_, _, rfl, hc, h⟩ := all_cons h
 rw [all_nil h]
 obtain ⟨ch, rfl, h1⟩ := has_int ha
 obtain ⟨sz, rfl, h2⟩ := has_int hb
 obtain ⟨po, rfl, h3⟩ := has_int hc
 exact ⟨ch, sz, po, rfl, h2.2, h3.2⟩
theorem ask_of {B : Nat} {H : Heap} {v : Value} (h : HasArg B H (.rcd [.rcd [.rcd [.int .i64, .int .i64, .int .i64], .int .i64, .int .i64], .sl (.int .i64), .sl (.int .i64)]) v) :
  ∃ ch sz po r b vw ve s e, v = askV ch sz po r b vw ve ∧ sz ≤ 9223372036854775807 ∧ po ≤ 9223372036854775807 ∧ SlI H vw s ∧ SlI H ve e := by
 simp only [HasArg] at h
 obtain ⟨cs, rfl, h⟩ := h
 obtain ⟨c1, _, h0, hc, h⟩ := all_cons h
 obtain ⟨_, _, rfl, hw, h⟩ := all_cons h
 obtain ⟨_, _, rfl, he, h⟩ := all_cons h
 rw [all_nil h] at h0
 obtain ⟨_, _, rfl, hf, h⟩ := all_cons (has_rcd hc)
 obtain ⟨_, _, rfl, hr, h⟩ := all_cons h
 obtain ⟨_, _, rfl, hb, h⟩ := all_cons h
 rw [all_nil h] at h0
 obtain ⟨ch, sz, po, rfl, h1, h2⟩ := three (has_rcd hf)
 obtain ⟨r, rfl, _⟩ := has_int hr
 obtain ⟨b, rfl, _⟩ := has_int hb
 obtain ⟨vw, s, rfl, h3, _⟩ := sl_one hw
 obtain ⟨ve, e, rfl, h4, _⟩ := sl_one he
 refine ⟨ch, sz, po, r, b, vw, ve, s, e, ?_, h1, h2, h3, h4⟩
 have : cs = #[.int .i64 ch, .int .i64 sz, .int .i64 po, .int .i64 r, .int .i64 b, vw, ve] := Array.toList_inj.1 (by rw [h0]; rfl)
 rw [this]; rfl
end Go.Proofs.Ythejjplggcfjcaa
