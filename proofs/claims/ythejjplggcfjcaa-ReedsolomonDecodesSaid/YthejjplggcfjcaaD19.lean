/- ReedsolomonDecodes returns true for every code, word and erased indexes: Decode agrees with the reference. No conditions. -/
import Derived.Test.YthejjplggcfjcaaD17
import Derived.Test.YthejjplggcfjcaaD18
set_option linter.unusedVariables false
set_option linter.unusedSimpArgs false
set_option linter.unusedSectionVars false
namespace Go.Proofs.Ythejjplggcfjcaa
open Go.Abs Go.RS
set_option linter.unusedSimpArgs false
set_option linter.unusedVariables false
set_option maxRecDepth 20000
def Ans2 (H : Heap) (v : Value) (l m : List Int) (k : Int) : Prop := ∃ vw vc, v = .tuple #[.agg #[vw, vc], .int .i64 k] ∧ SlI H vw l ∧ SlI H vc m
theorem ans2_err {H : Heap} (k : Int) : Ans2 H (decE k) [] [] k := ⟨_, _, rfl, .inl ⟨rfl, rfl⟩, .inl ⟨rfl, rfl⟩⟩
def Tells2 (lo n : Nat) (args : List Value) (H0 : Heap) (l m : List Int) (k : Int) : Prop := ∀ H, Ext H0 H → Ev cp lo n args H (fun v H' => Ext H H' ∧ Ans2 H' v l m k)
theorem decBoth {lo : Nat} {H0 : Heap} {ch sz po r b : Int} {v ve : Value} {l e : List Int} (hlo : lo ≤ H0.length) (hb : po ≤ 9223372036854775807) (hs2 : sz ≤ 9223372036854775807) (hl : SlI H0 v l) (hll : l.length ≤ 10000000) (he : SlI H0 ve e) (hel : e.length ≤ 10000000) :
  ∃ l1 m1 k1, l1.length ≤ 1000000000 ∧ m1.length ≤ 1000000000 ∧ Tells2 lo 23 [cdI ch sz po r b, v, ve] H0 l1 m1 k1 ∧ Tells2 lo 24 [cdI ch sz po r b, v, ve] H0 l1 m1 k1 := by
 by_cases hok : OkCd ch sz po r b ∧ inF sz l = true
 ·obtain ⟨hok, hin⟩ := hok
  obtain ⟨f, _, g, r', b', hg, hc, rfl, rfl, rfl, rfl, rfl⟩ := okcd_f hok
  obtain ⟨w, rfl⟩ := to_el hin
  rw [List.length_map] at hll
  have hw : SlE H0 v w := sli_sle hl
  by_cases hr : inR w.length e
  ·by_cases hn : r' < w.length ∧ w.length < f.q
   ·by_cases hd : DecOK g r' b' w (erI e)
    ·refine ⟨valI (fixW g r' b' w (erI e)), (sel (fun i => decide (co (fixW g r' b' w (erI e)) i ≠ co w i)) w.length).map (fun i : Nat => (i : Int)), 0, by rw [valI_len, fixW_len]; omega, by rw [List.length_map]; exact Nat.le_trans (sC_le _ _) (by omega), ?_, ?_⟩
     ·intro H hx
      refine (decR_ok (Nat.le_trans hlo hx.1) hg hc (hw.mono hx) hll (he.mono hx) hel).mono ?_
      rintro v H' ⟨hx', -, -, -, h4⟩
      obtain ⟨vw, vc, hv, a, b⟩ := h4 hr hn.1 hn.2 hd
      exact ⟨hx', vw, vc, hv, sle_sli a, encN_sli b⟩
     ·intro H hx
      refine (decV_ok (Nat.le_trans hlo hx.1) hg hc (hw.mono hx) hll (he.mono hx) hel).mono ?_
      rintro v H' ⟨hx', -, -, -, h4⟩
      obtain ⟨vw, vc, hv, a, b⟩ := h4 hr hn.1 hn.2 hd
      exact ⟨hx', vw, vc, hv, sle_sli a, encN_sli b⟩
    ·refine ⟨[], [], 17, by simp, by simp, ?_, ?_⟩
     ·intro H hx
      refine (decR_ok (Nat.le_trans hlo hx.1) hg hc (hw.mono hx) hll (he.mono hx) hel).mono ?_
      rintro v H' ⟨hx', -, -, h3, -⟩
      rw [h3 hr hn.1 hn.2 hd]
      exact ⟨hx', ans2_err _⟩
     ·intro H hx
      refine (decV_ok (Nat.le_trans hlo hx.1) hg hc (hw.mono hx) hll (he.mono hx) hel).mono ?_
      rintro v H' ⟨hx', -, -, h3, -⟩
      rw [h3 hr hn.1 hn.2 hd]
      exact ⟨hx', ans2_err _⟩
   ·refine ⟨[], [], 7, by simp, by simp, ?_, ?_⟩
    ·intro H hx
     refine (decR_ok (Nat.le_trans hlo hx.1) hg hc (hw.mono hx) hll (he.mono hx) hel).mono ?_
     rintro v H' ⟨hx', -, h3, -, -⟩
     rw [h3 hr hn]
     exact ⟨hx', ans2_err _⟩
    ·intro H hx
     refine (decV_ok (Nat.le_trans hlo hx.1) hg hc (hw.mono hx) hll (he.mono hx) hel).mono ?_
     rintro v H' ⟨hx', -, h3, -, -⟩
     rw [h3 hr hn]
     exact ⟨hx', ans2_err _⟩
  ·refine ⟨[], [], 1, by simp, by simp, ?_, ?_⟩
   ·intro H hx
    refine (decR_ok (Nat.le_trans hlo hx.1) hg hc (hw.mono hx) hll (he.mono hx) hel).mono ?_
    rintro v H' ⟨hx', h3, -, -, -⟩
    rw [h3 hr]
    exact ⟨hx', ans2_err _⟩
   ·intro H hx
    refine (decV_ok (Nat.le_trans hlo hx.1) hg hc (hw.mono hx) hll (he.mono hx) hel).mono ?_
    rintro v H' ⟨hx', h3, -, -, -⟩
    rw [h3 hr]
    exact ⟨hx', ans2_err _⟩
 ·refine ⟨[], [], 1, by simp, by simp, ?_, ?_⟩
  ·intro H hx
   refine (decR_bad (Nat.le_trans hlo hx.1) hb (hl.mono hx) (by omega) hok).mono ?_
   rintro v H' ⟨hx', rfl⟩
   exact ⟨hx', ans2_err _⟩
  ·intro H hx
   refine (decV_bad (Nat.le_trans hlo hx.1) hs2 (hl.mono hx) (by omega) hok).mono ?_
   rintro v H' ⟨hx', rfl⟩
   exact ⟨hx', ans2_err _⟩
set_option linter.defProp false in
def xBUh := And.intro @Int.cast_ofNat_Int (And.intro @fv.eq_1 (And.intro @fvf.eq_1 (And.intro @ite_self.{1} (And.intro @ite_st (And.intro @ite_sf (And.intro @ite_nt (And.intro @cdC.eq_1 (And.intro @arC.eq_1 (And.intro @elL_at (And.intro @elL_len (And.intro @elL_set' (And.intro @zerosEl (And.intro @erL_at @erL_len)))))))))))))
theorem xSUh {cp : FuncId → Option CF} {lo : Nat} {l : List (Nat × E)} {chk : List E} {Q : Post} {S : List Value} {H : Heap} {vs : List (Nat × Value)} {S' : List Value} (k : Q .normal S' H) (h : evSets S H l = some vs := by simp (disch := first | omega | (simp only [lenB]; omega)) only [evB, xBUh, Nat.reduceAdd, Nat.reduceBEq, *]; rfl) (hc : evChk S H chk = true := by simp (disch := first | omega | (simp only [lenB]; omega)) only [evB, xBUh, Nat.reduceAdd, Nat.reduceBEq, *]) (hS : setAll S vs = S' := by simp (disch := first | omega | (simp only [lenB]; omega)) only [evB, xBUh, Nat.reduceAdd, Nat.reduceBEq, *]; rfl) : wpS cp lo (.sets l chk) Q S H := aw_sets h hc hS k
theorem xHUh {cp : FuncId → Option CF} {lo : Nat} {l : List (Nat × E)} {chk : List E} {Q : Post} {S : List Value} {H : Heap} {vs : List (Nat × Value)} {dst : Option Nat} {o : HOp} {a : E} {xs : List Value} (k : wpH cp lo o xs H fun v H' => Q .normal (setD (setAll S vs) dst v) H') (h : evSets S H l = some vs := by simp (disch := first | omega | (simp only [lenB]; omega)) only [evB, xBUh, Nat.reduceAdd, Nat.reduceBEq, *]; rfl) (hc : evChk S H chk = true := by simp (disch := first | omega | (simp only [lenB]; omega)) only [evB, xBUh, Nat.reduceAdd, Nat.reduceBEq, *]) (ha : ev S H a = some xs := by simp (disch := first | omega | (simp only [lenB]; omega)) only [evB, xBUh, Nat.reduceAdd, Nat.reduceBEq, *]; rfl) : wpS cp lo (.hv l chk [] dst o a) Q S H := aw_hv h hc ha k
theorem xOUh {cp : FuncId → Option CF} {lo : Nat} {l : List (Nat × E)} {chk : List E} {Q : Post} {S : List Value} {H : Heap} {vs : List (Nat × Value)} {dst : Option Nat} {o : HOp} {a : E} {xs : List Value} {S' : List Value} {H' : Heap} {v : Value} (hcall : o.isCall = false) (k : Q .normal S' H') (h : evSets S H l = some vs := by simp (disch := first | omega | (simp only [lenB]; omega)) only [evB, xBUh, Nat.reduceAdd, Nat.reduceBEq, *]; rfl) (hc : evChk S H chk = true := by simp (disch := first | omega | (simp only [lenB]; omega)) only [evB, xBUh, Nat.reduceAdd, Nat.reduceBEq, *]) (ha : ev S H a = some xs := by simp (disch := first | omega | (simp only [lenB]; omega)) only [evB, xBUh, Nat.reduceAdd, Nat.reduceBEq, *]; rfl) (ho : hsem0 lo o xs H = some (v, H') := by simp (disch := first | omega | (simp only [lenB]; omega)) only [evB, xBUh, Nat.reduceAdd, Nat.reduceBEq, *]; rfl) (hS : setD (setAll S vs) dst v = S' := by simp (disch := first | omega | (simp only [lenB]; omega)) only [evB, xBUh, Nat.reduceAdd, Nat.reduceBEq, *]; rfl) : wpS cp lo (.hv l chk [] dst o a) Q S H := aw_op hcall h hc ha ho hS k
theorem xCUh {cp : FuncId → Option CF} {lo : Nat} {c : E} {a b : Stm} {Q : Post} {S : List Value} {H : Heap} {t : Bool} (k1 : t = true → wpS cp lo a Q S H) (k2 : t = false → wpS cp lo b Q S H) (h : ev1 S H c = some (.bool t) := by simp (disch := first | omega | (simp only [lenB]; omega)) only [evB, xBUh, Nat.reduceAdd, Nat.reduceBEq, *]; rfl) : wpS cp lo (.cond c a b) Q S H := aw_cond h k1 k2
theorem xTUh {cp : FuncId → Option CF} {lo : Nat} {l : List (Nat × E)} {chk : List E} {Q : Post} {S : List Value} {H : Heap} {vs : List (Nat × Value)} {dst : Option Nat} {o : HOp} {a : E} {xs : List Value} {pc : PC} (k : wpH cp lo o xs H fun v H' => Q .normal (setD (setAll S vs) dst v) H') (h : evSets S H l = some vs := by simp (disch := first | omega | (simp only [lenB]; omega)) only [evB, xBUh, Nat.reduceAdd, Nat.reduceBEq, *]; rfl) (hc : evChk S H chk = true := by simp (disch := first | omega | (simp only [lenB]; omega)) only [evB, xBUh, Nat.reduceAdd, Nat.reduceBEq, *]) (hp : holds S H pc = some true := by simp (disch := first | omega | (simp only [lenB]; omega)) only [evB, xBUh, Nat.reduceAdd, Nat.reduceBEq, *]; try rfl) (ha : ev S H a = some xs := by simp (disch := first | omega | (simp only [lenB]; omega)) only [evB, xBUh, Nat.reduceAdd, Nat.reduceBEq, *]; rfl) : wpS cp lo (.hv l chk pc dst o a) Q S H := aw_hvT h hc hp ha k
theorem xRUh {cf : CF} {R : Value → Heap → Prop} {S : List Value} {H : Heap} {vs : List Value} (k : R (resultOf vs) H) (h : evList S H cf.res = some vs := by simp (disch := first | omega | (simp only [lenB]; omega)) only [evB, xBUh, Nat.reduceAdd, Nat.reduceBEq, *]; rfl) : bodyQ cf R .ret S H := body_ret h k
theorem lawDec {H : Heap} {ch sz po r b : Int} {v ve : Value} {s e : List Int} (hb : po ≤ 9223372036854775807) (hs2 : sz ≤ 9223372036854775807) (hs : SlI H v s) (he : SlI H ve e) : Ev cp H.length 6 [askV ch sz po r b v ve] H (fun v _ => v = .bool true) := by
 have hs0 := hs
 have he0 := he
 obtain ⟨ad, cd, rfl⟩ := hs.len
 obtain ⟨ae, ce, rfl⟩ := he.len
 unfold askV
 refine st6 ?_; unfold bd6 cf6; simp only [kB, ctlB]
 repeat' ((first | refine xSUh ?_ | refine xOUh rfl ?_); (try simp only [ctlB]))
 generalize hG : H ++ _ = G at *
 obtain ⟨g0, hxG⟩ := box_facts hG
 clear hG
 have hlG := hxG.1
 refine xHUh ?_
 refine wpH_call0 (small (ch := ch) (sz := sz) (po := po) (r := r) (b := b)) ?_
 rintro v H1 ⟨hx1, rfl⟩
 have g0 := (hx1).get g0
 have hx1 := hxG.trans hx1
 have hl1 := hx1.1
 clear hxG hlG
 generalize ht : (decide (r ≤ 60) && decide (s.length ≤ 400) && decide (e.length ≤ 400)) = t
 cases t with
 | false =>
  clear ht
  (try simp only [ctlB])
  refine xCUh (fun h => ?_) (fun h => ?_)
  case refine_2 => cases h
  clear h
  (try simp only [ctlB])
  refine xHUh ?_
  refine wpH_call0 (alive hl1) ?_
  rintro v H2 ⟨hx2, rfl⟩
  (try simp only [ctlB])
  repeat' ((first | refine xSUh ?_ | refine xOUh rfl ?_); (try simp only [ctlB]))
  refine xRUh ?_
  rfl
 | true =>
  have hlen : s.length ≤ 400 ∧ e.length ≤ 400 := by simp at ht; omega
  clear ht
  (try simp only [ctlB])
  refine xCUh (fun h => ?_) (fun h => ?_)
  ·cases h
  clear h
  obtain ⟨l1, m1, k1, hle, hme, hR, hV⟩ := decBoth (ch := ch) (sz := sz) (po := po) (r := r) (b := b) hl1 hb hs2 (hs0.mono hx1) (by omega) (he0.mono hx1) (by omega)
  (try simp only [ctlB])
  refine xHUh ?_
  refine wpH_call0 (hR _ (Ext.refl _)) ?_
  rintro v H2 ⟨hx2, v1, v2, rfl, hv1, hv2⟩
  have g0 := (hx2).get g0
  have hx12 := hx1.trans hx2
  have hl2 := hx12.1
  have hq1 := hv1
  have hq2 := hv2
  obtain ⟨a1, c1, rfl⟩ := hv1.len
  obtain ⟨a2, c2, rfl⟩ := hv2.len
  (try simp only [ctlB])
  repeat' ((first | refine xSUh ?_ | refine xOUh rfl ?_); (try simp only [ctlB]))
  generalize hG : H2 ++ _ = G2 at *
  obtain ⟨g1, hxG⟩ := box_facts hG
  clear hG
  have g0 := (hxG).get g0
  have hq1 := hq1.mono hxG
  have hq2 := hq2.mono hxG
  have hx2 := hx2.trans hxG
  have hx3 := hx1.trans hx2
  have hl3 := hx3.1
  refine xHUh ?_
  refine wpH_call0 (hV _ hx2) ?_
  rintro v H4 ⟨hx4, v3, v4, rfl, hv3, hv4⟩
  have g1 := (hx4).get g1
  have hq1 := hq1.mono hx4
  have hq2 := hq2.mono hx4
  have hx4 := hx3.trans hx4
  have hl4 := hx4.1
  have hq3 := hv3
  have hq4 := hv4
  obtain ⟨a3, c3, rfl⟩ := hv3.len
  obtain ⟨a4, c4, rfl⟩ := hv4.len
  clear hR hV g0 hv1 hv2 hv3 hv4
  (try simp only [ctlB])
  repeat' ((first | refine xSUh ?_ | refine xOUh rfl ?_); (try simp only [ctlB]))
  generalize hG : H4 ++ _ = G5 at *
  obtain ⟨g2, hxG⟩ := box_facts hG
  clear hG
  have g1 := (hxG).get g1
  have hq1 := hq1.mono hxG
  have hq2 := hq2.mono hxG
  have hq3 := hq3.mono hxG
  have hq4 := hq4.mono hxG
  have hx5 := hx4.trans hxG
  have hl5 := hx5.1
  (try simp only [ctlB])
  repeat' ((first | refine xSUh ?_ | refine xOUh rfl ?_); (try simp only [ctlB]))
  refine xHUh ?_
  refine wpH_call0 (ints_eq hq1 hq3 hle hle rfl) ?_
  rintro v _ ⟨rfl, rfl⟩
  (try simp only [ctlB])
  refine xTUh ?_
  refine wpH_call0 (ints_eq hq2 hq4 hme hme rfl) ?_
  rintro v _ ⟨rfl, rfl⟩
  (try simp only [ctlB])
  refine xTUh ?_
  refine wpH_call0 (alive hl5) ?_
  rintro v H6 ⟨hx6, rfl⟩
  (try simp only [ctlB])
  repeat' ((first | refine xSUh ?_ | refine xOUh rfl ?_); (try simp only [ctlB]))
  refine xRUh ?_
  rfl
end Go.Proofs.Ythejjplggcfjcaa
namespace Go.Proofs.Ythejjplggcfjcaa
open Go.Abs
namespace reedsolomonDecodes
open Go.ChangeShapes Go.WideShapes Go.ChangeAt Go.RowKit
theorem fnE (X : Type) (ds : List (DataW X)) (h : ds.length = 1) : Rows.reedsolomonDecodesSpec.fn X ds = ⟨[.lit (.bool true)], ds, []⟩ := by
 match ds, h with
 | [d1], _ => rfl
theorem lawAll (H : Heap) (vs : List Value) (h : HasArgs maxLen H [.rcd [.rcd [.rcd [.int .i64, .int .i64, .int .i64], .int .i64, .int .i64], .sl (.int .i64), .sl (.int .i64)]] vs) : Ev cp H.length 6 vs H (fun v _ => v = .bool true) := by
 simp only [HasArgs] at h
 obtain ⟨a1, r1, rfl, h1, rfl⟩ := h
 obtain ⟨ch, sz, po, r, b, vw, ve, s, e, rfl, g2, g3, g4, g5⟩ := ask_of h1
 exact lawDec g3 g2 g4 g5
set_option maxRecDepth 100000 in
theorem lifted (os : Os) (started : os.Started) (H : Type) (enc : TypeId × Value → H) :
  ReturnsInHanded {} Try.checked os 6 .any (Rows.reedsolomonDecodesSpec.pre6 enc Try.prog Try.f6 Rows.reedsolomonDecodesRow.domain false) (Rows.reedsolomonDecodesSpec.post enc Try.prog Try.f6 false true false false) := by
 refine returnsInHanded_of_change (C := Try.checked) own started (by kernel_rfl) Try.func6
  (ChangeSpec.witness6 (enc := enc) (C := Try.checked) false ⟨#[], #[.agg #[.int .i64 0, .int .i64 0, .int .i64 0, .int .i64 0, .int .i64 0, .slice none 0 0, .slice none 0 0]], []⟩ 8 (by kernel_rfl) (by kernel_rfl) (by kernel_rfl) (by kernel_rfl)) ?_
 intro W base args ds gs before hval hW _ _
 exact law_contract (P := Try.prog) (fn := Try.f6) (s := Rows.reedsolomonDecodesSpec) okAll (d := 8) (tys := [.rcd [.rcd [.rcd [.int .i64, .int .i64, .int .i64], .int .i64, .int .i64], .sl (.int .i64), .sl (.int .i64)]]) (by kernel_rfl) (by kernel_rfl) (by kernel_rfl) Try.underlying4 laidOut (by kernel_rfl) rfl fnE lawAll W (by rw [noGlobals]; omega) base args ds gs before hval hW (fun x _ => .inl (Nat.le_refl _))
theorem over : Rows.reedsolomonDecodesRow.holds Try.pinned (OpenSpec.ofChange Rows.reedsolomonDecodesSpec) :=
 OpenClaim.holds_of_wide 6 Try.f6 rfl rfl rfl rfl rfl rfl rfl ⟨rfl, rfl, rfl, rfl, rfl⟩ rfl rfl rfl rfl rfl (by kernel_rfl) Try.func6 (by kernel_rfl)
  (of_decide_eq_true (by kernel_rfl)) (by unfold Func.isWrapper; first | (rw [if_pos (by decide +kernel)]; kernel_rfl) | (rw [if_neg (by decide +kernel)]; exact ⟨rfl, rfl⟩))
  (fun os started H enc _ => lifted os started H enc)
theorem proved : Rows.ReedsolomonDecodesSaid := over
#print axioms proved
end reedsolomonDecodes
end Go.Proofs.Ythejjplggcfjcaa
