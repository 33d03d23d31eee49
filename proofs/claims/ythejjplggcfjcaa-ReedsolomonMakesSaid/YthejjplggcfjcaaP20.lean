/- ReedsolomonMakes returns true for every field and all numbers: New and Generator agree with the reference. No conditions. -/
import Derived.Test.YthejjplggcfjcaaP17
set_option linter.unusedVariables false
set_option linter.unusedSimpArgs false
set_option linter.unusedSectionVars false
namespace Go.Proofs.Ythejjplggcfjcaa
open Go.Abs Go.RS
set_option linter.unusedSimpArgs false
set_option linter.unusedVariables false
set_option maxRecDepth 20000
theorem ceq5 (a b c d e : Int) : cellsEq [1, 1, 1, 1, 1] [.int .i64 a, .int .i64 b, .int .i64 c, .int .i64 d, .int .i64 e] [.int .i64 a, .int .i64 b, .int .i64 c, .int .i64 d, .int .i64 e] = some true := by simp [cellsEq, cellEq]
def NewIs (ch sz po r b : Int) (v : Value) : Prop := ((¬ ∃ f, OkF ch sz po f) → v = .tuple #[cdI 0 0 0 0 0, .int .i64 1]) ∧ ((∃ f, OkF ch sz po f) → ¬ OkCd ch sz po r b → v = .tuple #[cdI 0 0 0 0 0, .int .i64 3]) ∧ (OkCd ch sz po r b → v = .tuple #[cdI ch sz po r b, .int .i64 0])
theorem newIs_cases {ch sz po r b : Int} : (∃ c1 c2 c3 c4 c5 k, ∀ v, NewIs ch sz po r b v → v = .tuple #[cdI c1 c2 c3 c4 c5, .int .i64 k]) := by
 by_cases h1 : ∃ f, OkF ch sz po f
 ·by_cases h2 : OkCd ch sz po r b
  ·exact ⟨_, _, _, _, _, _, fun v h => h.2.2 h2⟩
  ·exact ⟨_, _, _, _, _, _, fun v h => h.2.1 h1 h2⟩
 ·exact ⟨_, _, _, _, _, _, fun v h => h.1 h1⟩
section
variable {lo : Nat} {H : Heap} {ch sz po r b : Int}
set_option linter.defProp false in
def xBTd := And.intro @Int.cast_ofNat_Int (And.intro @fv.eq_1 (And.intro @fvf.eq_1 (And.intro @ite_self.{1} (And.intro @ite_st (And.intro @ite_sf (And.intro @ite_nt (And.intro @cdC.eq_1 (And.intro @arC.eq_1 (And.intro @elL_at (And.intro @elL_len (And.intro @elL_set' (And.intro @zerosEl @ceq5))))))))))))
theorem xSTd {cp : FuncId → Option CF} {lo : Nat} {l : List (Nat × E)} {chk : List E} {Q : Post} {S : List Value} {H : Heap} {vs : List (Nat × Value)} {S' : List Value} (k : Q .normal S' H) (h : evSets S H l = some vs := by simp (disch := first | omega | (simp only [lenB]; omega)) only [evB, xBTd, Nat.reduceAdd, Nat.reduceBEq, *]; rfl) (hc : evChk S H chk = true := by simp (disch := first | omega | (simp only [lenB]; omega)) only [evB, xBTd, Nat.reduceAdd, Nat.reduceBEq, *]) (hS : setAll S vs = S' := by simp (disch := first | omega | (simp only [lenB]; omega)) only [evB, xBTd, Nat.reduceAdd, Nat.reduceBEq, *]; rfl) : wpS cp lo (.sets l chk) Q S H := aw_sets h hc hS k
theorem xHTd {cp : FuncId → Option CF} {lo : Nat} {l : List (Nat × E)} {chk : List E} {Q : Post} {S : List Value} {H : Heap} {vs : List (Nat × Value)} {dst : Option Nat} {o : HOp} {a : E} {xs : List Value} (k : wpH cp lo o xs H fun v H' => Q .normal (setD (setAll S vs) dst v) H') (h : evSets S H l = some vs := by simp (disch := first | omega | (simp only [lenB]; omega)) only [evB, xBTd, Nat.reduceAdd, Nat.reduceBEq, *]; rfl) (hc : evChk S H chk = true := by simp (disch := first | omega | (simp only [lenB]; omega)) only [evB, xBTd, Nat.reduceAdd, Nat.reduceBEq, *]) (ha : ev S H a = some xs := by simp (disch := first | omega | (simp only [lenB]; omega)) only [evB, xBTd, Nat.reduceAdd, Nat.reduceBEq, *]; rfl) : wpS cp lo (.hv l chk [] dst o a) Q S H := aw_hv h hc ha k
theorem xOTd {cp : FuncId → Option CF} {lo : Nat} {l : List (Nat × E)} {chk : List E} {Q : Post} {S : List Value} {H : Heap} {vs : List (Nat × Value)} {dst : Option Nat} {o : HOp} {a : E} {xs : List Value} {S' : List Value} {H' : Heap} {v : Value} (hcall : o.isCall = false) (k : Q .normal S' H') (h : evSets S H l = some vs := by simp (disch := first | omega | (simp only [lenB]; omega)) only [evB, xBTd, Nat.reduceAdd, Nat.reduceBEq, *]; rfl) (hc : evChk S H chk = true := by simp (disch := first | omega | (simp only [lenB]; omega)) only [evB, xBTd, Nat.reduceAdd, Nat.reduceBEq, *]) (ha : ev S H a = some xs := by simp (disch := first | omega | (simp only [lenB]; omega)) only [evB, xBTd, Nat.reduceAdd, Nat.reduceBEq, *]; rfl) (ho : hsem0 lo o xs H = some (v, H') := by simp (disch := first | omega | (simp only [lenB]; omega)) only [evB, xBTd, Nat.reduceAdd, Nat.reduceBEq, *]; rfl) (hS : setD (setAll S vs) dst v = S' := by simp (disch := first | omega | (simp only [lenB]; omega)) only [evB, xBTd, Nat.reduceAdd, Nat.reduceBEq, *]; rfl) : wpS cp lo (.hv l chk [] dst o a) Q S H := aw_op hcall h hc ha ho hS k
theorem xCTd {cp : FuncId → Option CF} {lo : Nat} {c : E} {a b : Stm} {Q : Post} {S : List Value} {H : Heap} {t : Bool} (k1 : t = true → wpS cp lo a Q S H) (k2 : t = false → wpS cp lo b Q S H) (h : ev1 S H c = some (.bool t) := by simp (disch := first | omega | (simp only [lenB]; omega)) only [evB, xBTd, Nat.reduceAdd, Nat.reduceBEq, *]; rfl) : wpS cp lo (.cond c a b) Q S H := aw_cond h k1 k2
theorem xTTd {cp : FuncId → Option CF} {lo : Nat} {l : List (Nat × E)} {chk : List E} {Q : Post} {S : List Value} {H : Heap} {vs : List (Nat × Value)} {dst : Option Nat} {o : HOp} {a : E} {xs : List Value} {pc : PC} (k : wpH cp lo o xs H fun v H' => Q .normal (setD (setAll S vs) dst v) H') (h : evSets S H l = some vs := by simp (disch := first | omega | (simp only [lenB]; omega)) only [evB, xBTd, Nat.reduceAdd, Nat.reduceBEq, *]; rfl) (hc : evChk S H chk = true := by simp (disch := first | omega | (simp only [lenB]; omega)) only [evB, xBTd, Nat.reduceAdd, Nat.reduceBEq, *]) (hp : holds S H pc = some true := by simp (disch := first | omega | (simp only [lenB]; omega)) only [evB, xBTd, Nat.reduceAdd, Nat.reduceBEq, *]; try rfl) (ha : ev S H a = some xs := by simp (disch := first | omega | (simp only [lenB]; omega)) only [evB, xBTd, Nat.reduceAdd, Nat.reduceBEq, *]; rfl) : wpS cp lo (.hv l chk pc dst o a) Q S H := aw_hvT h hc hp ha k
theorem xRTd {cf : CF} {R : Value → Heap → Prop} {S : List Value} {H : Heap} {vs : List Value} (k : R (resultOf vs) H) (h : evList S H cf.res = some vs := by simp (disch := first | omega | (simp only [lenB]; omega)) only [evB, xBTd, Nat.reduceAdd, Nat.reduceBEq, *]; rfl) : bodyQ cf R .ret S H := body_ret h k
theorem newV (hlo : lo ≤ H.length) (hs2 : sz ≤ 9223372036854775807) : Ev cp lo 11 [fv ch sz po, .int .i64 r, .int .i64 b] H (fun v H' => Ext H H' ∧ NewIs ch sz po r b v) := by
 unfold fv
 refine st11 ?_; unfold bd11 cf11; simp only [kB, ctlB]
 repeat' ((first | refine xSTd ?_ | refine xOTd rfl ?_); (try simp only [ctlB]))
 refine xHTd ?_
 refine wpH_call0 (rvalid (ch := ch) (sz := sz) (po := po) hs2) ?_
 rintro v H1 ⟨hx1, t1, rfl, ht1⟩
 have g0 : H1.get H.length = some _ := hx1.get (by simp (disch := first | omega | (simp only [lenB]; omega)) only [evB, xBTd, Nat.reduceAdd, Nat.reduceBEq, *]; rfl)
 have g1 : H1.get (H.length + 1) = some _ := hx1.get (by simp (disch := first | omega | (simp only [lenB]; omega)) only [evB, xBTd, Nat.reduceAdd, Nat.reduceBEq, *]; rfl)
 have hx1 := hx1.of_app
 have hl1 := Heap.get_lt g1
 cases t1 with
 | false =>
  have hno : ¬ ∃ f, OkF ch sz po f := fun h => by have := ht1.2 h; cases this
  (try simp only [ctlB])
  refine xCTd (fun h => ?_) (fun h => ?_)
  case refine_2 => cases h
  clear h
  (try simp only [ctlB])
  repeat' ((first | refine xSTd ?_ | refine xOTd rfl ?_); (try simp only [ctlB]))
  refine xRTd ?_
  exact ⟨hx1.set (by omega), fun _ => rfl, fun h => absurd h hno, fun h => absurd h.1 hno⟩
 | true =>
  have hf := ht1.1 rfl
  have hsz := okF_sz hf
  (try simp only [ctlB])
  refine xCTd (fun h => ?_) (fun h => ?_)
  ·cases h
  clear h
  (try simp only [ctlB])
  repeat' ((first | refine xSTd ?_ | refine xOTd rfl ?_); (try simp only [ctlB]))
  generalize hG : H1 ++ _ = G at *
  obtain ⟨g2, hxG⟩ := box_facts hG
  clear hG
  have g0 := (hxG).get g0; have g1 := (hxG).get g1
  have hxG := hx1.trans hxG
  have hlG := Heap.get_lt g2
  refine xHTd ?_
  refine wpH_call0 (rValid (ch := ch) (sz := sz) (po := po) (r := r) (b := b) hs2) ?_
  rintro v H2 ⟨hx2, t2, rfl, ht2⟩
  have g0 := (hx2).get g0; have g1 := (hx2).get g1; have g2 := (hx2).get g2
  have hx2 := hxG.trans hx2
  have hl2 := Heap.get_lt g1
  cases t2 with
  | false =>
   have hno : ¬ OkCd ch sz po r b := fun h => by have := ht2.2 h; cases this
   (try simp only [ctlB])
   refine xCTd (fun h => ?_) (fun h => ?_)
   case refine_2 => cases h
   clear h
   (try simp only [ctlB])
   repeat' ((first | refine xSTd ?_ | refine xOTd rfl ?_); (try simp only [ctlB]))
   refine xRTd ?_
   exact ⟨hx2.set (by omega), fun h => absurd hf h, fun _ _ => rfl, fun h => absurd h hno⟩
  | true =>
   have hok : OkCd ch sz po r b := ht2.1 rfl
   (try simp only [ctlB])
   refine xCTd (fun h => ?_) (fun h => ?_)
   ·cases h
   clear h
   (try simp only [ctlB])
   repeat' ((first | refine xSTd ?_ | refine xOTd rfl ?_); (try simp only [ctlB]))
   refine xRTd ?_
   exact ⟨hx2.set (by omega), fun h => absurd hf h, fun _ h => absurd hok h, fun _ => rfl⟩
end
theorem lawMake {H : Heap} {ch sz po r b : Int} (hb : po ≤ 9223372036854775807) (hs2 : sz ≤ 9223372036854775807) : Ev cp H.length 3 [fv ch sz po, .int .i64 r, .int .i64 b] H (fun v _ => v = .bool true) := by
 obtain ⟨c1, c2, c3, c4, c5, k, hk⟩ := newIs_cases (ch := ch) (sz := sz) (po := po) (r := r) (b := b)
 unfold fv
 refine st3 ?_; unfold bd3 cf3; simp only [kB, ctlB]
 repeat' ((first | refine xSTd ?_ | refine xOTd rfl ?_); (try simp only [ctlB]))
 refine xHTd ?_
 refine wpH_call0 (newR (ch := ch) (sz := sz) (po := po) (r := r) (b := b) (by simp) hb) ?_
 rintro v H1 ⟨hx1, hv⟩
 rw [hk v hv]
 clear hv
 have g0 : H1.get H.length = some _ := hx1.get (by simp (disch := first | omega | (simp only [lenB]; omega)) only [evB, xBTd, Nat.reduceAdd, Nat.reduceBEq, *]; rfl)
 have hx1 := hx1.of_app
 have hl1 := hx1.1
 unfold cdI
 (try simp only [ctlB])
 repeat' ((first | refine xSTd ?_ | refine xOTd rfl ?_); (try simp only [ctlB]))
 generalize hG : H1 ++ _ = G at *
 obtain ⟨g2, hxG⟩ := box_facts hG
 clear hG
 have g0 := (hxG).get g0
 have hxG := hx1.trans hxG
 have hlG := hxG.1
 clear hx1
 refine xHTd ?_
 refine wpH_call0 (newV (ch := ch) (sz := sz) (po := po) (r := r) (b := b) (by exact hlG) hs2) ?_
 rintro v H2 ⟨hx2, hv⟩
 rw [hk v hv]
 clear hv hk
 have g0 := (hx2).get g0; have g2 := (hx2).get g2
 have hx2 := hxG.trans hx2
 have hl2 := hx2.1
 clear hxG
 unfold cdI
 (try simp only [ctlB])
 repeat' ((first | refine xSTd ?_ | refine xOTd rfl ?_); (try simp only [ctlB]))
 generalize hG : H2 ++ _ = G2 at *
 obtain ⟨g3, hxG⟩ := box_facts hG
 clear hG
 have g0 := (hxG).get g0; have g2 := (hxG).get g2
 have hx3 := hx2.trans hxG
 have hl3 := hx3.1
 clear hxG hx2
 refine xCTd (fun h => ?_) (fun h => ?_)
 ·exfalso; simp at h
 clear h
 by_cases h60 : 60 < r
 ·(try simp only [ctlB])
  refine xCTd (fun h => ?_) (fun h => ?_)
  case refine_2 => simp at h <;> omega
  clear h
  (try simp only [ctlB])
  refine xHTd ?_
  refine wpH_call0 (alive hl3) ?_
  rintro v H4 ⟨-, rfl⟩
  (try simp only [ctlB])
  repeat' ((first | refine xSTd ?_ | refine xOTd rfl ?_); (try simp only [ctlB]))
  refine xRTd ?_
  rfl
 ·(try simp only [ctlB])
  refine xCTd (fun h => ?_) (fun h => ?_)
  ·simp at h <;> omega
  clear h
  (try simp only [ctlB])
  repeat' ((first | refine xSTd ?_ | refine xOTd rfl ?_); (try simp only [ctlB]))
  generalize hG : G2 ++ _ = G3 at *
  obtain ⟨g4, hxG⟩ := box_facts hG
  clear hG
  have hx4 := hx3.trans hxG
  have hl4 := hx4.1
  clear hxG hx3 g0 g2 g3
  obtain ⟨P, h1, hR, hV⟩ := genBoth (ch := ch) (sz := sz) (po := po) (r := r) (b := b) hl4 hb hs2
  refine xHTd ?_
  refine wpH_call0 (hR _ (Ext.refl _)) ?_
  rintro v H5 ⟨hx5, l1, k1, ⟨v1, rfl, hv1⟩, hp1⟩
  have g4 := hx5.get g4
  (try simp only [ctlB])
  repeat' ((first | refine xSTd ?_ | refine xOTd rfl ?_); (try simp only [ctlB]))
  refine xHTd ?_
  refine wpH_call0 (hV _ hx5) ?_
  rintro v H6 ⟨hx6, l2, k2, ⟨v2, rfl, hv2⟩, hp2⟩
  obtain ⟨rfl, rfl⟩ := h1.1 _ _ _ _ hp1 hp2
  have hle := h1.2 _ _ hp1
  have hv1 := hv1.mono hx6
  have hx6 := (hx4.trans hx5).trans hx6
  have hl6 := hx6.1
  clear hR hV g4
  (try simp only [ctlB])
  repeat' ((first | refine xSTd ?_ | refine xOTd rfl ?_); (try simp only [ctlB]))
  refine xHTd ?_
  refine wpH_call0 (ints_eq hv1 hv2 hle hle rfl) ?_
  rintro v _ ⟨rfl, rfl⟩
  (try simp only [ctlB])
  refine xTTd ?_
  refine wpH_call0 (alive hl6) ?_
  rintro v H7 ⟨-, rfl⟩
  (try simp only [ctlB])
  repeat' ((first | refine xSTd ?_ | refine xOTd rfl ?_); (try simp only [ctlB]))
  refine xRTd ?_
  simp [resultOf]
end Go.Proofs.Ythejjplggcfjcaa
namespace Go.Proofs.Ythejjplggcfjcaa
open Go.Abs
namespace reedsolomonMakes
open Go.ChangeShapes Go.WideShapes Go.ChangeAt Go.RowKit
theorem fnE (X : Type) (ds : List (DataW X)) (h : ds.length = 3) : Rows.reedsolomonMakesSpec.fn X ds = ⟨[.lit (.bool true)], ds, []⟩ := by
 match ds, h with
 | [d1, d2, d3], _ => rfl
theorem lawAll (H : Heap) (vs : List Value) (h : HasArgs maxLen H [.rcd [.int .i64, .int .i64, .int .i64], .int .i64, .int .i64] vs) : Ev cp H.length 3 vs H (fun v _ => v = .bool true) := by
 simp only [HasArgs] at h
 obtain ⟨a1, r1, rfl, h1, a2, r2, rfl, h2, a3, r3, rfl, h3, rfl⟩ := h
 obtain ⟨ch, sz, po, rfl, h4, h5⟩ := field_of h1
 simp only [HasArg] at h2 h3
 obtain ⟨r, e2, _⟩ := has_int h2
 obtain ⟨b, e3, _⟩ := has_int h3
 cases e2
 cases e3
 exact lawMake h5 h4
set_option maxRecDepth 100000 in
theorem lifted (os : Os) (started : os.Started) (H : Type) (enc : TypeId × Value → H) :
  ReturnsInHanded {} Try.checked os 3 .any (Rows.reedsolomonMakesSpec.pre6 enc Try.prog Try.f3 Rows.reedsolomonMakesRow.domain false) (Rows.reedsolomonMakesSpec.post enc Try.prog Try.f3 false true false false) := by
 refine returnsInHanded_of_change (C := Try.checked) own started (by kernel_rfl) Try.func3
  (ChangeSpec.witness6 (enc := enc) (C := Try.checked) false ⟨#[], #[.agg #[.int .i64 0, .int .i64 0, .int .i64 0], .int .i64 0, .int .i64 0], []⟩ 8 (by kernel_rfl) (by kernel_rfl) (by kernel_rfl) (by kernel_rfl)) ?_
 intro W base args ds gs before hval hW _ _
 exact law_contract (P := Try.prog) (fn := Try.f3) (s := Rows.reedsolomonMakesSpec) okAll (d := 8) (tys := [.rcd [.int .i64, .int .i64, .int .i64], .int .i64, .int .i64]) (by kernel_rfl) (by kernel_rfl) (by kernel_rfl) Try.underlying4 laidOut (by kernel_rfl) rfl fnE lawAll W (by rw [noGlobals]; omega) base args ds gs before hval hW (fun x _ => .inl (Nat.le_refl _))
theorem over : Rows.reedsolomonMakesRow.holds Try.pinned (OpenSpec.ofChange Rows.reedsolomonMakesSpec) :=
 OpenClaim.holds_of_wide 3 Try.f3 rfl rfl rfl rfl rfl rfl rfl ⟨rfl, rfl, rfl, rfl, rfl⟩ rfl rfl rfl rfl rfl (by kernel_rfl) Try.func3 (by kernel_rfl)
  (of_decide_eq_true (by kernel_rfl)) (by unfold Func.isWrapper; first | (rw [if_pos (by decide +kernel)]; kernel_rfl) | (rw [if_neg (by decide +kernel)]; exact ⟨rfl, rfl⟩))
  (fun os started H enc _ => lifted os started H enc)
theorem proved : Rows.ReedsolomonMakesSaid := over
#print axioms proved
end reedsolomonMakes
end Go.Proofs.Ythejjplggcfjcaa
