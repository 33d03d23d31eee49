/- ReedsolomonCorrects returns true for every code, data, changes and erased indexes: errors and erasures within the capacity are corrected. No conditions. -/
import Derived.Test.YthejjplggcfjcaaP17
import Derived.Test.YthejjplggcfjcaaP21
import Derived.Test.YthejjplggcfjcaaP23
set_option linter.unusedVariables false
set_option linter.unusedSimpArgs false
set_option linter.unusedSectionVars false
namespace Go.Proofs.Ythejjplggcfjcaa
open Go.Abs Go.RS
set_option linter.unusedSimpArgs false
set_option linter.unusedVariables false
set_option maxRecDepth 20000
theorem wpH_app_e {lo : Nat} {z : List Value} {H : Heap} {b t o n m : Nat} {sp : Option Nat} {c' c : List Value} {R : Value → Heap → Prop} (hb : H.get b = some []) (hn : 0 < n) (hbig : n ≤ 4294967296) (ht : H.get t = some c') (hlen : o + n ≤ c'.length) (hc : (c'.drop o).take n = c) (h1 : oneCells c = true)
  (k : R (.slice (some ⟨H.length, 0, some 1⟩) n n) (H ++ [some c])) : wpH cp lo (.app 1 z) [.slice (some ⟨b, 0, none⟩) 0 0, .slice (some ⟨t, o, sp⟩) n m] H R := by
 have e : hsem0 lo (.app 1 z) [.slice (some ⟨b, 0, none⟩) 0 0, .slice (some ⟨t, o, sp⟩) n m] H = some (.slice (some ⟨H.length, 0, some 1⟩) n n, H ++ [some c]) := by
  simp only [hsem0, hsem, Heap.cells, ht, Nat.mul_one, hlen, if_true, Option.bind_some, hc, h1, appendSem]
  rw [if_neg (by omega), if_neg (by unfold mostNeed; omega)]
  simp [hb]
 simp only [wpH, e]
 exact k
def SlP (H : Heap) (v : Value) (l : List (Int × Int)) : Prop :=
 (v = .slice none 0 0 ∧ l = []) ∨ ∃ b cap xs, v = .slice (some ⟨b, 0, none⟩) l.length cap ∧ H.get b = some xs ∧ (∀ i, i < l.length → xs[i * 2]? = some (.int .i64 (l.getD i (0, 0)).1) ∧ xs[i * 2 + 1]? = some (.int .i64 (l.getD i (0, 0)).2))
theorem SlP.mono {H H' : Heap} {v : Value} {l : List (Int × Int)} (h : SlP H v l) (e : Ext H H') : SlP H' v l := by
 rcases h with h | ⟨b, cap, xs, h1, h2, h3⟩
 ·exact .inl h
 ·exact .inr ⟨b, cap, xs, h1, e.get h2, h3⟩
theorem SlP.len {H : Heap} {v : Value} {l : List (Int × Int)} (h : SlP H v l) : ∃ a c, v = .slice a l.length c := by
 rcases h with ⟨rfl, rfl⟩ | ⟨b, cap, xs, h1, _⟩
 ·exact ⟨_, _, rfl⟩
 ·exact ⟨_, _, h1⟩
theorem erL_congr {n : Nat} {p q : Nat → Bool} (h : ∀ i, i < n → p i = q i) : erL n p = erL n q := by
 unfold erL
 refine List.map_congr_left fun i hi => ?_
 rw [h i (List.mem_range.1 hi)]
theorem sC_congr {n : Nat} {p q : Nat → Bool} (h : ∀ i, i < n → p i = q i) : sC p n = sC q n := by
 unfold sC; rw [sel_congr h]
theorem erI_out {e : List Int} {i n : Nat} (hi : i < e.length) (hk : ¬ (0 ≤ e.getD i 0 ∧ e.getD i 0 < n)) : ∀ j, j < n → erI (e.take (i + 1)) j = erI (e.take i) j := by
 intro j hj
 unfold erI
 refine decide_eq_decide.2 ?_
 have hts : e.take (i + 1) = e.take i ++ [e.getD i 0] := by rw [List.take_add_one, List.getElem?_eq_getElem hi, List.getD_eq_getElem?_getD, List.getElem?_eq_getElem hi]; rfl
 rw [hts, List.mem_append, List.mem_singleton]
 refine ⟨fun h => h.resolve_right (fun h => ?_), .inl⟩
 apply hk
 omega
section
variable {f : FD} [OkC f]
set_option linter.defProp false in
def xBTg := And.intro @Int.cast_ofNat_Int (And.intro @fv.eq_1 (And.intro @fvf.eq_1 (And.intro @ite_self.{1} (And.intro @ite_st (And.intro @ite_sf (And.intro @ite_nt (And.intro @cdC.eq_1 (And.intro @arC.eq_1 (And.intro @elL_at (And.intro @elL_len (And.intro @elL_set' (And.intro @zerosEl (And.intro @erL_at @erL_len)))))))))))))
theorem xSTg {cp : FuncId → Option CF} {lo : Nat} {l : List (Nat × E)} {chk : List E} {Q : Post} {S : List Value} {H : Heap} {vs : List (Nat × Value)} {S' : List Value} (k : Q .normal S' H) (h : evSets S H l = some vs := by simp (disch := first | omega | (simp only [lenB]; omega)) only [evB, xBTg, Nat.reduceAdd, Nat.reduceBEq, *]; rfl) (hc : evChk S H chk = true := by simp (disch := first | omega | (simp only [lenB]; omega)) only [evB, xBTg, Nat.reduceAdd, Nat.reduceBEq, *]) (hS : setAll S vs = S' := by simp (disch := first | omega | (simp only [lenB]; omega)) only [evB, xBTg, Nat.reduceAdd, Nat.reduceBEq, *]; rfl) : wpS cp lo (.sets l chk) Q S H := aw_sets h hc hS k
theorem xHTg {cp : FuncId → Option CF} {lo : Nat} {l : List (Nat × E)} {chk : List E} {Q : Post} {S : List Value} {H : Heap} {vs : List (Nat × Value)} {dst : Option Nat} {o : HOp} {a : E} {xs : List Value} (k : wpH cp lo o xs H fun v H' => Q .normal (setD (setAll S vs) dst v) H') (h : evSets S H l = some vs := by simp (disch := first | omega | (simp only [lenB]; omega)) only [evB, xBTg, Nat.reduceAdd, Nat.reduceBEq, *]; rfl) (hc : evChk S H chk = true := by simp (disch := first | omega | (simp only [lenB]; omega)) only [evB, xBTg, Nat.reduceAdd, Nat.reduceBEq, *]) (ha : ev S H a = some xs := by simp (disch := first | omega | (simp only [lenB]; omega)) only [evB, xBTg, Nat.reduceAdd, Nat.reduceBEq, *]; rfl) : wpS cp lo (.hv l chk [] dst o a) Q S H := aw_hv h hc ha k
theorem xOTg {cp : FuncId → Option CF} {lo : Nat} {l : List (Nat × E)} {chk : List E} {Q : Post} {S : List Value} {H : Heap} {vs : List (Nat × Value)} {dst : Option Nat} {o : HOp} {a : E} {xs : List Value} {S' : List Value} {H' : Heap} {v : Value} (hcall : o.isCall = false) (k : Q .normal S' H') (h : evSets S H l = some vs := by simp (disch := first | omega | (simp only [lenB]; omega)) only [evB, xBTg, Nat.reduceAdd, Nat.reduceBEq, *]; rfl) (hc : evChk S H chk = true := by simp (disch := first | omega | (simp only [lenB]; omega)) only [evB, xBTg, Nat.reduceAdd, Nat.reduceBEq, *]) (ha : ev S H a = some xs := by simp (disch := first | omega | (simp only [lenB]; omega)) only [evB, xBTg, Nat.reduceAdd, Nat.reduceBEq, *]; rfl) (ho : hsem0 lo o xs H = some (v, H') := by simp (disch := first | omega | (simp only [lenB]; omega)) only [evB, xBTg, Nat.reduceAdd, Nat.reduceBEq, *]; rfl) (hS : setD (setAll S vs) dst v = S' := by simp (disch := first | omega | (simp only [lenB]; omega)) only [evB, xBTg, Nat.reduceAdd, Nat.reduceBEq, *]; rfl) : wpS cp lo (.hv l chk [] dst o a) Q S H := aw_op hcall h hc ha ho hS k
theorem xCTg {cp : FuncId → Option CF} {lo : Nat} {c : E} {a b : Stm} {Q : Post} {S : List Value} {H : Heap} {t : Bool} (k1 : t = true → wpS cp lo a Q S H) (k2 : t = false → wpS cp lo b Q S H) (h : ev1 S H c = some (.bool t) := by simp (disch := first | omega | (simp only [lenB]; omega)) only [evB, xBTg, Nat.reduceAdd, Nat.reduceBEq, *]; rfl) : wpS cp lo (.cond c a b) Q S H := aw_cond h k1 k2
theorem xRTg {cf : CF} {R : Value → Heap → Prop} {S : List Value} {H : Heap} {vs : List Value} (k : R (resultOf vs) H) (h : evList S H cf.res = some vs := by simp (disch := first | omega | (simp only [lenB]; omega)) only [evB, xBTg, Nat.reduceAdd, Nat.reduceBEq, *]; rfl) : bodyQ cf R .ret S H := body_ret h k
set_option maxHeartbeats 4000000 in
theorem spoilt {lo : Nat} {H : Heap} {v ve vl : Value} {w : List (El f)} {e : List Int} {l : List (Int × Int)} (hlo : lo ≤ H.length) (hw : SlE H v w) (hw0 : 0 < w.length) (hwl : w.length ≤ 100000) (hl : SlP H vl l) (hll : l.length ≤ 100000) (he : SlI H ve e) (hel : e.length ≤ 100000) :
  Ev cp lo 26 [fvf f, v, vl, ve] H (fun v H' => Ext H H' ∧ ∃ u bu be, u.length = w.length ∧ v = .tuple #[.slice (some ⟨bu, 0, some 1⟩) w.length w.length, .slice (some ⟨be, 0, none⟩) w.length w.length, .int .i64 ((sel (fun i => !erI e i && decide (co u i ≠ co w i)) w.length).length : Nat), .int .i64 (sC (erI e) w.length : Nat)] ∧ H'.get bu = some (elL u) ∧ H'.get be = some (erL w.length (erI e))) := by
 have h2 := qle (f := f)
 have hws := hw
 have he0 := he
 have hl0 := hl
 obtain ⟨al, cl, rfl⟩ := hl.len
 obtain ⟨ae, ce, rfl⟩ := he.len
 unfold fvf fv
 refine st26 ?_; unfold bd26 cf26; simp only [kB, ctlB]
 repeat' ((first | refine xSTg ?_ | refine xOTg rfl ?_); (try simp only [ctlB]))
 generalize hG : H ++ _ = G at *
 obtain ⟨g0, hxG⟩ := box_facts hG
 have g1 : Heap.get G (H.length + 1) = some [] := by rw [← hG, get_appS]; rfl
 clear hG
 have hlG := Heap.get_lt g1
 rcases hws.mono hxG with ⟨-, rfl⟩ | ⟨xb, xo, xsp, xc, xs, ee, gx, hd1, hd2, hd3, hd4⟩
 ·simp at hw0
 subst ee
 refine xHTg ?_
 refine wpH_app_e g1 hw0 (by omega) gx (by omega) hd1 (elL_one w) ?_
 generalize hG : G ++ _ = G1 at *
 obtain ⟨gu, hxG1⟩ := box_facts hG
 clear hG g1 hd1 gx
 have g0 := (hxG1).get g0
 have hx1 := hxG.trans hxG1
 have hl1 := hx1.1
 have hlu := Heap.get_lt gu
 (try simp only [ctlB])
 repeat' ((first | refine xSTg ?_ | refine xOTg rfl ?_); (try simp only [ctlB]))
 refine aw_for (fun i S H' => ∃ u : List (El f), u.length = w.length ∧ Keep G.length G1 H' ∧ Heap.get H' G.length = some (elL u) ∧ ∃ z0 z5 z6 z7 z8 z10 z11 z12 z13 z14 z15 z16 z17 z20 z21 z22 z23 z24 z25 z26 z27 z28 z29, S = [z0, .slice (some ⟨xb, xo, xsp⟩) w.length xc, .slice al l.length cl, .slice ae e.length ce, .pointer (some ⟨H.length, 0, none⟩), z5, z6, z7, z8, .slice (some ⟨G.length, 0, some 1⟩) w.length w.length, z10, z11, z12, z13, z14, z15, z16, z17, .int .i64 (l.length : Nat), .int .i64 (i : Nat), z20, z21, z22, z23, z24, z25, z26, z27, z28, z29]) l.length ?_ ?_ ?_ ?_
 ·exact ⟨w, rfl, keep_ext (Ext.refl _), gu, _, _, _, _, _, _, _, _, _, _, _, _, _, _, _, _, _, _, _, _, _, _, _,  rfl⟩
 ·rintro i S H' hi ⟨u, hu, -, -, z0, z5, z6, z7, z8, z10, z11, z12, z13, z14, z15, z16, z17, z20, z21, z22, z23, z24, z25, z26, z27, z28, z29,  rfl⟩
  exact ⟨_, by simp (disch := first | omega | (simp only [lenB]; omega)) only [evB, xBTg, Nat.reduceAdd, Nat.reduceBEq, *]; rfl, by simp⟩
 ·clear gu
  rintro i S H2 hi ⟨u, hu, k1, gu, z0, z5, z6, z7, z8, z10, z11, z12, z13, z14, z15, z16, z17, z20, z21, z22, z23, z24, z25, z26, z27, z28, z29,  rfl⟩
  have g0 := k1.get g0 (by omega)
  have hx2 : Ext H H2 := k1.ext hx1 (by omega)
  have hl2 := hx2.1
  rcases hl0.mono hx2 with ⟨-, rfl⟩ | ⟨yb, yc, ys, ee, gy, hat⟩
  ·simp at hi
  cases ee
  obtain ⟨hat1, hat2⟩ := hat i hi
  clear hat
  generalize (l.getD i (0, 0)).1 = x at *
  generalize (l.getD i (0, 0)).2 = y at *
  have hlu2 := Heap.get_lt gu
  by_cases hx : 0 ≤ x ∧ x < w.length
  ·obtain ⟨k, rfl⟩ : ∃ k : Nat, x = (k : Int) := ⟨x.toNat, by omega⟩
   have hk : k < w.length := by omega
   clear hx
   have hda : decide ((0 : Int) ≤ (k : Int)) = true := by simp
   have hdb : decide ((k : Int) < (w.length : Int)) = true := by simp; omega
   (try simp only [ctlB])
   repeat' ((first | refine xSTg ?_ | refine xOTg rfl ?_); (try simp only [ctlB]))
   refine aw_hv_if (t := true) (by simp (disch := first | omega | (simp only [lenB]; omega)) only [evB, xBTg, Nat.reduceAdd, Nat.reduceBEq, *]; rfl) (by simp (disch := first | omega | (simp only [lenB]; omega)) only [evB, xBTg, Nat.reduceAdd, Nat.reduceBEq, *]) (by simp (disch := first | omega | (simp only [lenB]; omega)) only [evB, xBTg, Nat.reduceAdd, Nat.reduceBEq, *]; try simp; try omega) (fun _ => ⟨_, by simp (disch := first | omega | (simp only [lenB]; omega)) only [evB, xBTg, Nat.reduceAdd, Nat.reduceBEq, *]; rfl, ?_⟩) (fun h => by cases h)
   refine wpH_call0 (ris (ch := FD.ch f) (sz := f.q) (po := f.poly) (x := y)) ?_
   rintro v H3 ⟨hx3, rfl⟩
   have g0 := (hx3).get g0; have gu := (hx3).get gu; have gy := (hx3).get gy
   have k3 := keep_trans k1 (keep_ext hx3)
   have hl3 := hx3.1
   generalize ht3 : (decide (0 ≤ y) && decide (y < (f.q : Int))) = t3
   cases t3 with
   | false =>
    clear ht3
    (try simp only [ctlB])
    refine xCTg (fun h => ?_) (fun h => ?_)
    ·cases h
    clear h
    (try simp only [ctlB])
    repeat' ((first | refine xSTg ?_ | refine xOTg rfl ?_); (try simp only [ctlB]))
    exact ⟨u, hu, k3, gu, _, _, _, _, _, _, _, _, _, _, _, _, _, _, _, _, _, _, _, _, _, _, _,  by first | rfl | (simp only [Int.natCast_add, Int.natCast_one]; rfl) | simp only [Int.natCast_add, Int.natCast_one]⟩
   | true =>
    obtain ⟨c, rfl⟩ : ∃ c : El f, y = (c.val : Nat) := by
     simp at ht3
     exact ⟨⟨y.toNat, by omega⟩, by show y = (y.toNat : Int); omega⟩
    clear ht3
    (try simp only [ctlB])
    refine xCTg (fun h => ?_) (fun h => ?_)
    case refine_2 => cases h
    clear h
    (try simp only [ctlB])
    refine xHTg ?_
    refine wpH_call1 (rplus (f := f) (u.getD k 0) c) ?_
    rintro v H4 ⟨hx4, rfl⟩
    have gu := (hx4).get gu
    have k4 := keep_trans k3 (keep_ext hx4)
    have hl4 := hx4.1
    have hlu4 := Heap.get_lt gu
    clear gy hat1 hat2 g0
    generalize u.getD k 0 + c = q
    (try simp only [ctlB])
    repeat' ((first | refine xSTg ?_ | refine xOTg rfl ?_); (try simp only [ctlB]))
    refine ⟨u.set k q, by rw [List.length_set]; exact hu, keep_set' k4 _, ?_, _, _, _, _, _, _, _, _, _, _, _, _, _, _, _, _, _, _, _, _, _, _, _,  by first | rfl | (simp only [Int.natCast_add, Int.natCast_one]; rfl) | simp only [Int.natCast_add, Int.natCast_one]⟩
    rw [get_set_self (by omega)]
  ·have hda : (decide ((0 : Int) ≤ x) && decide (x < (w.length : Int))) = false := by
    rw [Bool.eq_false_iff]; simp; omega
   clear hx
   (try simp only [ctlB])
   repeat' ((first | refine xSTg ?_ | refine xOTg rfl ?_); (try simp only [ctlB]))
   refine aw_hv_if (t := false) (by simp (disch := first | omega | (simp only [lenB]; omega)) only [evB, xBTg, Nat.reduceAdd, Nat.reduceBEq, *]; rfl) (by simp (disch := first | omega | (simp only [lenB]; omega)) only [evB, xBTg, Nat.reduceAdd, Nat.reduceBEq, *]) (by simp (disch := first | omega | (simp only [lenB]; omega)) only [evB, xBTg, Nat.reduceAdd, Nat.reduceBEq, *]; try simp; try omega) (fun h => by cases h) (fun _ => ?_)
   (try simp only [ctlB])
   refine xCTg (fun h => ?_) (fun h => ?_)
   ·cases h
   clear h hat1 hat2 gy
   (try simp only [ctlB])
   repeat' ((first | refine xSTg ?_ | refine xOTg rfl ?_); (try simp only [ctlB]))
   exact ⟨u, hu, k1, gu, _, _, _, _, _, _, _, _, _, _, _, _, _, _, _, _, _, _, _, _, _, _, _,  by first | rfl | (simp only [Int.natCast_add, Int.natCast_one]; rfl) | simp only [Int.natCast_add, Int.natCast_one]⟩
 ·rintro S H2 ⟨u, hu, k1, gu, z0, z5, z6, z7, z8, z10, z11, z12, z13, z14, z15, z16, z17, z20, z21, z22, z23, z24, z25, z26, z27, z28, z29,  rfl⟩
  have hx2 : Ext H H2 := k1.ext hx1 (by omega)
  have hl2 := hx2.1
  have hlu2 := Heap.get_lt gu
  clear k1
  (try simp only [ctlB])
  repeat' ((first | refine xSTg ?_ | refine xOTg rfl ?_); (try simp only [ctlB]))
  have hbl : boolL (List.replicate w.length false) = erL w.length (erI (e.take 0)) := by
   simp [boolL, erL, erI, List.map_const']
  rw [hbl]
  generalize hG : H2 ++ _ = G3 at *
  obtain ⟨ge, hx3⟩ := box_facts hG
  clear hG hbl
  have gu := (hx3).get gu
  have hx3 := hx2.trans hx3
  have hl3 := Heap.get_lt ge
  (try simp only [ctlB])
  repeat' ((first | refine xSTg ?_ | refine xOTg rfl ?_); (try simp only [ctlB]))
  refine aw_for (fun i S H' => Keep H2.length G3 H' ∧ Heap.get H' H2.length = some (erL w.length (erI (e.take i))) ∧ ∃ z0 z2 z4 z5 z6 z7 z8 z10 z14 z15 z16 z17 z18 z19 z20 z21 z22 z23 z24 z25 z28 z29, S = [z0, .slice (some ⟨xb, xo, xsp⟩) w.length xc, z2, .slice ae e.length ce, z4, z5, z6, z7, z8, .slice (some ⟨G.length, 0, some 1⟩) w.length w.length, z10, .slice (some ⟨H2.length, 0, none⟩) w.length w.length, .int .i64 0, .int .i64 (sC (erI (e.take i)) w.length : Nat), z14, z15, z16, z17, z18, z19, z20, z21, z22, z23, z24, z25, .int .i64 (e.length : Nat), .int .i64 (i : Nat), z28, z29]) e.length ?_ ?_ ?_ ?_
  ·exact ⟨keep_ext (Ext.refl _), ge, _, _, _, _, _, _, _, _, _, _, _, _, _, _, _, _, _, _, _, _, _, _,  (by rw [sC_nil]; rfl)⟩
  ·rintro i S H' hi ⟨-, -, z0, z2, z4, z5, z6, z7, z8, z10, z14, z15, z16, z17, z18, z19, z20, z21, z22, z23, z24, z25, z28, z29,  rfl⟩
   exact ⟨_, by simp (disch := first | omega | (simp only [lenB]; omega)) only [evB, xBTg, Nat.reduceAdd, Nat.reduceBEq, *]; rfl, by simp⟩
  ·clear ge
   rintro i S H4 hi ⟨k1, k2, z0, z2, z4, z5, z6, z7, z8, z10, z14, z15, z16, z17, z18, z19, z20, z21, z22, z23, z24, z25, z28, z29,  rfl⟩
   have hx4 : Ext H H4 := k1.ext hx3 (by omega)
   obtain ⟨yb, yo, ysp, yc, ys, ee, gy, hat, hyl⟩ := (he0.mono hx4).els 0 (by omega)
   cases ee
   have hati := hat i hi
   clear hat
   have hsl := sC_le (erI (e.take i)) w.length
   have hl4 := Heap.get_lt k2
   by_cases hx : 0 ≤ e.getD i 0 ∧ e.getD i 0 < w.length
   ·obtain ⟨k, hk⟩ : ∃ k : Nat, e.getD i 0 = (k : Int) := ⟨(e.getD i 0).toNat, by omega⟩
    have hsu := erI_succ hi hk
    have hkl : k < w.length := by omega
    rw [hk] at hati
    clear hk hx
    have hse := erL_set (erI (e.take i)) hkl
    rw [← hsu] at hse
    have hda : decide ((0 : Int) ≤ (k : Int)) = true := by simp
    have hdb : decide ((k : Int) < (w.length : Int)) = true := by simp; omega
    (try simp only [ctlB])
    repeat' ((first | refine xSTg ?_ | refine xOTg rfl ?_); (try simp only [ctlB]))
    cases hek : erI (e.take i) k with
    | true =>
     rw [er_same hek] at hsu
     rw [hsu]
     clear hsu hse
     refine xCTg (fun h => ?_) (fun h => ?_)
     ·cases h
     clear h hek
     (try simp only [ctlB])
     repeat' ((first | refine xSTg ?_ | refine xOTg rfl ?_); (try simp only [ctlB]))
     exact ⟨k1, k2, _, _, _, _, _, _, _, _, _, _, _, _, _, _, _, _, _, _, _, _, _, _,  by first | rfl | (simp only [Int.natCast_add, Int.natCast_one]; rfl) | simp only [Int.natCast_add, Int.natCast_one]⟩
    | false =>
     have hca := sC_add hek w.length hkl
     rw [← hsu] at hca
     clear hsu
     refine xCTg (fun h => ?_) (fun h => ?_)
     case refine_2 => cases h
     clear h hek
     generalize hq1 : sC (erI (e.take (i + 1))) w.length = q1 at *
     subst hca
     generalize sC (erI (e.take i)) w.length = q0 at *
     (try simp only [ctlB])
     repeat' ((first | refine xSTg ?_ | refine xOTg rfl ?_); (try simp only [ctlB]))
     refine ⟨keep_set' k1 _, ?_, _, _, _, _, _, _, _, _, _, _, _, _, _, _, _, _, _, _, _, _, _, _,  by first | rfl | (simp only [Int.natCast_add, Int.natCast_one]; rfl) | simp only [Int.natCast_add, Int.natCast_one]⟩
     rw [get_set_self (by omega)]
   ·have hou := erI_out hi hx
    rw [erL_congr hou, sC_congr hou]
    clear hou
    generalize e.getD i 0 = x at *
    have hda : (decide ((0 : Int) ≤ x) && decide (x < (w.length : Int))) = false := by
     rw [Bool.eq_false_iff]; simp; omega
    clear hx
    (try simp only [ctlB])
    repeat' ((first | refine xSTg ?_ | refine xOTg rfl ?_); (try simp only [ctlB]))
    refine xCTg (fun h => ?_) (fun h => ?_)
    ·cases h
    clear h
    (try simp only [ctlB])
    repeat' ((first | refine xSTg ?_ | refine xOTg rfl ?_); (try simp only [ctlB]))
    exact ⟨k1, k2, _, _, _, _, _, _, _, _, _, _, _, _, _, _, _, _, _, _, _, _, _, _,  by first | rfl | (simp only [Int.natCast_add, Int.natCast_one]; rfl) | simp only [Int.natCast_add, Int.natCast_one]⟩
  ·rintro S H4 ⟨k1, k2, z0, z2, z4, z5, z6, z7, z8, z10, z14, z15, z16, z17, z18, z19, z20, z21, z22, z23, z24, z25, z28, z29,  rfl⟩
   rw [List.take_length] at k2 ⊢
   have gu := k1.get gu (by omega)
   have hx4 : Ext H H4 := k1.ext hx3 (by omega)
   have hl4 := hx4.1
   clear k1
   generalize hψ : (fun i => !erI e i && decide (co u i ≠ co w i)) = ψ at *
   have hψi : ∀ i, ψ i = (!erI e i && decide (co u i ≠ co w i)) := fun i => by rw [← hψ]
   clear hψ
   (try simp only [ctlB])
   repeat' ((first | refine xSTg ?_ | refine xOTg rfl ?_); (try simp only [ctlB]))
   refine aw_for (fun i S H' => H4 = H' ∧ ∃ z0 z2 z3 z4 z5 z6 z7 z8 z10 z14 z15 z16 z17 z18 z19 z20 z21 z22 z23 z24 z25 z26 z27, S = [z0, .slice (some ⟨xb, xo, xsp⟩) w.length xc, z2, z3, z4, z5, z6, z7, z8, .slice (some ⟨G.length, 0, some 1⟩) w.length w.length, z10, .slice (some ⟨H2.length, 0, none⟩) w.length w.length, .int .i64 ((sel ψ i).length : Nat), .int .i64 (sC (erI e) w.length : Nat), z14, z15, z16, z17, z18, z19, z20, z21, z22, z23, z24, z25, z26, z27, .int .i64 (w.length : Nat), .int .i64 (i : Nat)]) w.length ?_ ?_ ?_ ?_
   ·exact ⟨rfl, _, _, _, _, _, _, _, _, _, _, _, _, _, _, _, _, _, _, _, _, _, _, _,  rfl⟩
   ·rintro i S H' hi ⟨rfl, z0, z2, z3, z4, z5, z6, z7, z8, z10, z14, z15, z16, z17, z18, z19, z20, z21, z22, z23, z24, z25, z26, z27,  rfl⟩
    exact ⟨_, by simp (disch := first | omega | (simp only [lenB]; omega)) only [evB, xBTg, Nat.reduceAdd, Nat.reduceBEq, *]; rfl, by simp⟩
   ·rintro i S H' hi ⟨rfl, z0, z2, z3, z4, z5, z6, z7, z8, z10, z14, z15, z16, z17, z18, z19, z20, z21, z22, z23, z24, z25, z26, z27,  rfl⟩
    obtain ⟨yb, yo, ysp, yc, ys, ee, gy, hat, hyl⟩ := sle_at (hws.mono hx4) (by omega)
    cases ee
    have hatj := hat i hi
    clear hat
    have hs2 := sel_succ ψ i
    have hs4 : (sel ψ i).length ≤ i := sC_le ψ i
    rw [hψi] at hs2
    have hcu : u.getD i 0 = co u i := rfl
    have hne : decide (((co u i).val : Int) ≠ ((co w i).val : Int)) = decide (co u i ≠ co w i) := decide_eq_decide.2 ⟨fun h e => h (by rw [e]), fun h e => h (El.ext (by omega))⟩
    have hsw : (decide (co u i ≠ co w i) && !erI e i) = (!erI e i && decide (co u i ≠ co w i)) := Bool.and_comm _ _
    clear hψi
    generalize (!erI e i && decide (co u i ≠ co w i)) = t at *
    (try simp only [ctlB])
    repeat' ((first | refine xSTg ?_ | refine xOTg rfl ?_); (try simp only [ctlB]))
    cases t with
    | false =>
     rw [if_neg (by simp), List.append_nil] at hs2
     rw [hs2]
     refine xCTg (fun h => ?_) (fun h => ?_)
     ·cases h
     clear h hs2 hne hsw hatj
     (try simp only [ctlB])
     repeat' ((first | refine xSTg ?_ | refine xOTg rfl ?_); (try simp only [ctlB]))
     exact ⟨by trivial, _, _, _, _, _, _, _, _, _, _, _, _, _, _, _, _, _, _, _, _, _, _, _,  by first | rfl | (simp only [Int.natCast_add, Int.natCast_one]; rfl) | simp only [Int.natCast_add, Int.natCast_one]⟩
    | true =>
     rw [if_pos rfl] at hs2
     have hp1 := congrArg List.length hs2
     rw [List.length_append, List.length_singleton] at hp1
     clear hs2
     generalize hp2 : (sel ψ (i + 1)).length = p2 at *
     subst hp1
     clear hp2
     generalize (sel ψ i).length = p0 at *
     refine xCTg (fun h => ?_) (fun h => ?_)
     case refine_2 => cases h
     clear h hne hsw hatj
     (try simp only [ctlB])
     repeat' ((first | refine xSTg ?_ | refine xOTg rfl ?_); (try simp only [ctlB]))
     exact ⟨by trivial, _, _, _, _, _, _, _, _, _, _, _, _, _, _, _, _, _, _, _, _, _, _, _,  by first | rfl | (simp only [Int.natCast_add, Int.natCast_one]; rfl) | simp only [Int.natCast_add, Int.natCast_one]⟩
   ·rintro S H' ⟨rfl, z0, z2, z3, z4, z5, z6, z7, z8, z10, z14, z15, z16, z17, z18, z19, z20, z21, z22, z23, z24, z25, z26, z27,  rfl⟩
    (try simp only [ctlB])
    repeat' ((first | refine xSTg ?_ | refine xOTg rfl ?_); (try simp only [ctlB]))
    refine xRTg ?_
    exact ⟨hx4, u, _, _, hu, by rw [sel_congr fun i _ => hψi i]; rfl, gu, k2⟩
end
end Go.Proofs.Ythejjplggcfjcaa
namespace Go.Proofs.Ythejjplggcfjcaa
open Go.Abs Go.RS
set_option linter.unusedSimpArgs false
set_option linter.unusedVariables false
set_option maxRecDepth 20000
theorem sl_take {α : Type} {enc : α → Value} {H : Heap} {v : Value} {l : List α} {k : Nat} (h : Sl enc H v l) (hk : k ≤ l.length) : ∃ v', (∀ H', lsem (.sl 1 false true false) [v, .int .i64 (k : Nat)] H' = some v') ∧ Sl enc H v' (l.take k) := by
 rcases h with ⟨rfl, rfl⟩ | ⟨b, o, sp, cap, xs, rfl, h2, h3, h4, h5, h6⟩
 ·have : k = 0 := by simpa using hk
  subst this
  exact ⟨.slice none 0 0, fun _ => rfl, .inl ⟨rfl, rfl⟩⟩
 ·have hl : (l.take k).length = k := by rw [List.length_take]; omega
  have hb : bounds l.length cap false true false [.int .i64 (k : Nat)] = some (0, k, cap) := by
   rw [bd_hi (by omega) (by omega)]; rfl
  have hm : (xs.drop o).take k = (l.take k).map enc := by
   rw [List.map_take, ← h3, List.take_take, Nat.min_eq_left hk]
  rcases h5 with rfl | rfl
  ·refine ⟨.slice (some ⟨b, o, none⟩) k cap, fun H' => ?_, .inr ⟨b, o, none, cap, xs, by rw [hl], h2, by rw [hl]; exact hm, by omega, .inl rfl, by omega⟩⟩
   rw [ls_slx, hb]
   simp
  ·refine ⟨.slice (some ⟨b, o, some 1⟩) k cap, fun H' => ?_, .inr ⟨b, o, some 1, cap, xs, by rw [hl], h2, by rw [hl]; exact hm, by omega, .inr rfl, by omega⟩⟩
   rw [ls_sli, hb]
   simp
theorem erI_sel {er : Nat → Bool} {n i : Nat} (hi : i < n) : erI ((sel er n).map fun j : Nat => (j : Int)) i = er i := by
 unfold erI
 rw [Bool.eq_iff_iff, decide_eq_true_eq, List.mem_map]
 constructor
 ·rintro ⟨j, hj, e⟩
  have : j = i := by omega
  subst this
  exact (mem_sel.1 hj).2
 ·intro h
  exact ⟨i, mem_sel.2 ⟨hi, h⟩, rfl⟩
theorem inR_sel (er : Nat → Bool) (n : Nat) : inR n ((sel er n).map fun j : Nat => (j : Int)) := by
 intro x hx
 obtain ⟨j, hj, rfl⟩ := List.mem_map.1 hx
 have := (mem_sel.1 hj).1
 omega
theorem enc_take {f : FD} [OkC f] {g : El f} {r b : Nat} {d w : List (El f)} (h : IsEnc g r b d w) : w.take d.length = d := by
 have hl := h.len
 refine list_co (by rw [List.length_take]; omega) fun i hi => ?_
 rw [List.length_take] at hi
 rw [← h.dat i (by omega)]
 unfold co
 rw [List.getD_eq_getElem?_getD, List.getD_eq_getElem?_getD, List.getElem?_take, if_pos (by omega)]
set_option linter.defProp false in
def xBTh := And.intro @Int.cast_ofNat_Int (And.intro @fv.eq_1 (And.intro @fvf.eq_1 (And.intro @ite_self.{1} (And.intro @ite_st (And.intro @ite_sf (And.intro @ite_nt (And.intro @cdC.eq_1 (And.intro @arC.eq_1 (And.intro @elL_at (And.intro @elL_len (And.intro @elL_set' (And.intro @zerosEl (And.intro @erL_at @erL_len)))))))))))))
theorem xSTh {cp : FuncId → Option CF} {lo : Nat} {l : List (Nat × E)} {chk : List E} {Q : Post} {S : List Value} {H : Heap} {vs : List (Nat × Value)} {S' : List Value} (k : Q .normal S' H) (h : evSets S H l = some vs := by simp (disch := first | omega | (simp only [lenB]; omega)) only [evB, xBTh, Nat.reduceAdd, Nat.reduceBEq, *]; rfl) (hc : evChk S H chk = true := by simp (disch := first | omega | (simp only [lenB]; omega)) only [evB, xBTh, Nat.reduceAdd, Nat.reduceBEq, *]) (hS : setAll S vs = S' := by simp (disch := first | omega | (simp only [lenB]; omega)) only [evB, xBTh, Nat.reduceAdd, Nat.reduceBEq, *]; rfl) : wpS cp lo (.sets l chk) Q S H := aw_sets h hc hS k
theorem xHTh {cp : FuncId → Option CF} {lo : Nat} {l : List (Nat × E)} {chk : List E} {Q : Post} {S : List Value} {H : Heap} {vs : List (Nat × Value)} {dst : Option Nat} {o : HOp} {a : E} {xs : List Value} (k : wpH cp lo o xs H fun v H' => Q .normal (setD (setAll S vs) dst v) H') (h : evSets S H l = some vs := by simp (disch := first | omega | (simp only [lenB]; omega)) only [evB, xBTh, Nat.reduceAdd, Nat.reduceBEq, *]; rfl) (hc : evChk S H chk = true := by simp (disch := first | omega | (simp only [lenB]; omega)) only [evB, xBTh, Nat.reduceAdd, Nat.reduceBEq, *]) (ha : ev S H a = some xs := by simp (disch := first | omega | (simp only [lenB]; omega)) only [evB, xBTh, Nat.reduceAdd, Nat.reduceBEq, *]; rfl) : wpS cp lo (.hv l chk [] dst o a) Q S H := aw_hv h hc ha k
theorem xOTh {cp : FuncId → Option CF} {lo : Nat} {l : List (Nat × E)} {chk : List E} {Q : Post} {S : List Value} {H : Heap} {vs : List (Nat × Value)} {dst : Option Nat} {o : HOp} {a : E} {xs : List Value} {S' : List Value} {H' : Heap} {v : Value} (hcall : o.isCall = false) (k : Q .normal S' H') (h : evSets S H l = some vs := by simp (disch := first | omega | (simp only [lenB]; omega)) only [evB, xBTh, Nat.reduceAdd, Nat.reduceBEq, *]; rfl) (hc : evChk S H chk = true := by simp (disch := first | omega | (simp only [lenB]; omega)) only [evB, xBTh, Nat.reduceAdd, Nat.reduceBEq, *]) (ha : ev S H a = some xs := by simp (disch := first | omega | (simp only [lenB]; omega)) only [evB, xBTh, Nat.reduceAdd, Nat.reduceBEq, *]; rfl) (ho : hsem0 lo o xs H = some (v, H') := by simp (disch := first | omega | (simp only [lenB]; omega)) only [evB, xBTh, Nat.reduceAdd, Nat.reduceBEq, *]; rfl) (hS : setD (setAll S vs) dst v = S' := by simp (disch := first | omega | (simp only [lenB]; omega)) only [evB, xBTh, Nat.reduceAdd, Nat.reduceBEq, *]; rfl) : wpS cp lo (.hv l chk [] dst o a) Q S H := aw_op hcall h hc ha ho hS k
theorem xCTh {cp : FuncId → Option CF} {lo : Nat} {c : E} {a b : Stm} {Q : Post} {S : List Value} {H : Heap} {t : Bool} (k1 : t = true → wpS cp lo a Q S H) (k2 : t = false → wpS cp lo b Q S H) (h : ev1 S H c = some (.bool t) := by simp (disch := first | omega | (simp only [lenB]; omega)) only [evB, xBTh, Nat.reduceAdd, Nat.reduceBEq, *]; rfl) : wpS cp lo (.cond c a b) Q S H := aw_cond h k1 k2
theorem xTTh {cp : FuncId → Option CF} {lo : Nat} {l : List (Nat × E)} {chk : List E} {Q : Post} {S : List Value} {H : Heap} {vs : List (Nat × Value)} {dst : Option Nat} {o : HOp} {a : E} {xs : List Value} {pc : PC} (k : wpH cp lo o xs H fun v H' => Q .normal (setD (setAll S vs) dst v) H') (h : evSets S H l = some vs := by simp (disch := first | omega | (simp only [lenB]; omega)) only [evB, xBTh, Nat.reduceAdd, Nat.reduceBEq, *]; rfl) (hc : evChk S H chk = true := by simp (disch := first | omega | (simp only [lenB]; omega)) only [evB, xBTh, Nat.reduceAdd, Nat.reduceBEq, *]) (hp : holds S H pc = some true := by simp (disch := first | omega | (simp only [lenB]; omega)) only [evB, xBTh, Nat.reduceAdd, Nat.reduceBEq, *]; try rfl) (ha : ev S H a = some xs := by simp (disch := first | omega | (simp only [lenB]; omega)) only [evB, xBTh, Nat.reduceAdd, Nat.reduceBEq, *]; rfl) : wpS cp lo (.hv l chk pc dst o a) Q S H := aw_hvT h hc hp ha k
theorem xRTh {cf : CF} {R : Value → Heap → Prop} {S : List Value} {H : Heap} {vs : List Value} (k : R (resultOf vs) H) (h : evList S H cf.res = some vs := by simp (disch := first | omega | (simp only [lenB]; omega)) only [evB, xBTh, Nat.reduceAdd, Nat.reduceBEq, *]; rfl) : bodyQ cf R .ret S H := body_ret h k
set_option maxHeartbeats 4000000 in
theorem lawCor {H : Heap} {ch sz po r b : Int} {v ve vl : Value} {s e : List Int} {l : List (Int × Int)} (hb : po ≤ 9223372036854775807) (hs2 : sz ≤ 9223372036854775807) (hs : SlI H v s) (he : SlI H ve e) (hl : SlP H vl l) : Ev cp H.length 7 [askV ch sz po r b v ve, vl] H (fun v _ => v = .bool true) := by
 have hs0 := hs
 have he0 := he
 have hp0 := hl
 obtain ⟨ad, cd, rfl⟩ := hs.len
 obtain ⟨ae, ce, rfl⟩ := he.len
 obtain ⟨al, cl, rfl⟩ := hl.len
 unfold askV
 refine st7 ?_; unfold bd7 cf7; simp only [kB, ctlB]
 repeat' ((first | refine xSTh ?_ | refine xOTh rfl ?_); (try simp only [ctlB]))
 generalize hG : H ++ _ = G at *
 obtain ⟨g0, hxG⟩ := box_facts hG
 clear hG
 have hlG := hxG.1
 refine xHTh ?_
 refine wpH_call0 (small (ch := ch) (sz := sz) (po := po) (r := r) (b := b)) ?_
 rintro v H1 ⟨hx1, rfl⟩
 have g0 := (hx1).get g0
 have hx1 := hxG.trans hx1
 have hl1 := hx1.1
 clear hxG hlG
 generalize ht : (decide (r ≤ 60) && decide (s.length ≤ 400) && decide (e.length ≤ 400)) = t
 cases t with
 | false =>
  clear ht
  (try simp only [ctlB])
  refine aw_hv_if (t := false) (by simp (disch := first | omega | (simp only [lenB]; omega)) only [evB, xBTh, Nat.reduceAdd, Nat.reduceBEq, *]; rfl) (by simp (disch := first | omega | (simp only [lenB]; omega)) only [evB, xBTh, Nat.reduceAdd, Nat.reduceBEq, *]) (by simp (disch := first | omega | (simp only [lenB]; omega)) only [evB, xBTh, Nat.reduceAdd, Nat.reduceBEq, *]; try rfl) (fun h => by cases h) (fun _ => ?_)
  (try simp only [ctlB])
  refine xCTh (fun h => ?_) (fun h => ?_)
  case refine_2 => cases h
  clear h
  (try simp only [ctlB])
  refine xHTh ?_
  refine wpH_call0 (alive hl1) ?_
  rintro v H2 ⟨hx2, rfl⟩
  (try simp only [ctlB])
  repeat' ((first | refine xSTh ?_ | refine xOTh rfl ?_); (try simp only [ctlB]))
  refine xRTh ?_
  rfl
 | true =>
  have hlen : s.length ≤ 400 ∧ e.length ≤ 400 := by simp at ht; omega
  clear ht
  (try simp only [ctlB])
  refine aw_hv_if (t := true) (by simp (disch := first | omega | (simp only [lenB]; omega)) only [evB, xBTh, Nat.reduceAdd, Nat.reduceBEq, *]; rfl) (by simp (disch := first | omega | (simp only [lenB]; omega)) only [evB, xBTh, Nat.reduceAdd, Nat.reduceBEq, *]) (by simp (disch := first | omega | (simp only [lenB]; omega)) only [evB, xBTh, Nat.reduceAdd, Nat.reduceBEq, *]; try rfl) (fun _ => ⟨_, by simp (disch := first | omega | (simp only [lenB]; omega)) only [evB, xBTh, Nat.reduceAdd, Nat.reduceBEq, *]; rfl, ?_⟩) (fun h => by cases h)
  refine wpH_call0 (rValid (ch := ch) (sz := sz) (po := po) (r := r) (b := b) hs2) ?_
  rintro v H2 ⟨hx2, t2, rfl, ht2⟩
  have g0 := (hx2).get g0
  have hx2 := hx1.trans hx2
  have hl2 := hx2.1
  clear hx1 hl1
  by_cases hgo : t2 = true ∧ l.length ≤ 100 ∧ s.length ≤ 300
  case neg =>
   clear ht2
   have hgo' : (((!true || !t2) || decide ((l.length : Int) > 100)) || decide ((s.length : Int) > 300)) = true := by
    cases t2 with
    | false => simp
    | true => simp at hgo ⊢; omega
   (try simp only [ctlB])
   refine xCTh (fun h => ?_) (fun h => ?_)
   case refine_2 => exfalso; cases t2 <;> simp at h hgo <;> omega
   clear h
   (try simp only [ctlB])
   refine xHTh ?_
   refine wpH_call0 (alive hl2) ?_
   rintro v H3 ⟨hx3, rfl⟩
   (try simp only [ctlB])
   repeat' ((first | refine xSTh ?_ | refine xOTh rfl ?_); (try simp only [ctlB]))
   refine xRTh ?_
   rfl
  case pos =>
   obtain ⟨rfl, hl100, hs300⟩ := hgo
   obtain ⟨f, _, g, r', b', hg, hc, rfl, rfl, rfl, rfl, rfl⟩ := okcd_f (ht2.1 rfl)
   clear ht2
   have h2 := qle (f := f)
   (try simp only [ctlB])
   refine xCTh (fun h => ?_) (fun h => ?_)
   ·exfalso; simp at h; omega
   clear h
   (try simp only [ctlB])
   refine xHTh ?_
   refine wpH_call0 (encAny (f := f) (by exact hl2) hg hc (hs0.mono hx2) (by omega)) ?_
   rintro v H3 ⟨hx3, v1, k1, rfl, hk1⟩
   have g0 := (hx3).get g0
   have hx3 := hx2.trans hx3
   have hl3 := hx3.1
   clear hx2 hl2
   (try simp only [ctlB])
   repeat' ((first | refine xSTh ?_ | refine xOTh rfl ?_); (try simp only [ctlB]))
   by_cases hk : k1 = 0
   case neg =>
    clear hk1
    refine xCTh (fun h => ?_) (fun h => ?_)
    case refine_2 => exfalso; simp at h; omega
    clear h
    (try simp only [ctlB])
    refine xHTh ?_
    refine wpH_call0 (alive hl3) ?_
    rintro v H6 ⟨-, rfl⟩
    (try simp only [ctlB])
    repeat' ((first | refine xSTh ?_ | refine xOTh rfl ?_); (try simp only [ctlB]))
    refine xRTh ?_
    rfl
   case pos =>
    subst hk
    rcases hk1 with h | ⟨-, d, w, hsd, hw, hie, hp1, hq1⟩
    ·exact absurd rfl h
    have hdl : d.length ≤ s.length ∧ s.length ≤ d.length := by rw [hsd, valI_len]; omega
    replace hsd := hsd.symm
    have hwd : w.length ≤ d.length + r' ∧ d.length + r' ≤ w.length := by have := hie.len; omega
    have hw0 := hw
    obtain ⟨a1, c1, rfl⟩ := hw.len
    refine xCTh (fun h => ?_) (fun h => ?_)
    ·cases h
    clear h
    (try simp only [ctlB])
    refine xHTh ?_
    refine wpH_call0 (spoilt (f := f) (by exact hl3) hw0 (by omega) (by omega) (hp0.mono hx3) (by omega) (he0.mono hx3) (by omega)) ?_
    rintro v H4 ⟨hx4, u, bu, be, hu, rfl, gu, ge⟩
    have g0 := (hx4).get g0
    have hw0 := hw0.mono hx4
    have hx4 := hx3.trans hx4
    have hl4 := hx4.1
    clear hx3 hl3 hw
    (try simp only [ctlB])
    repeat' ((first | refine xSTh ?_ | refine xOTh rfl ?_); (try simp only [ctlB]))
    refine aw_for (fun i S H' => Ext H4 H' ∧ ∃ vs bs, H4.length ≤ bs ∧ Own H.length 1 H' vs bs (natL (sel (erI e) i)) ∧ ∃ z0 z1 z3 z5 z11 z12 z13 z14 z15 z16 z17 z18 z19 z20 z21 z22 z25 z26 z27 z28 z29 z30 z31 z32 z33 z34 z35 z36 z37 z38 z39 z40 z41 z42 z43 z44, S = [z0, z1, .pointer (some ⟨H.length, 0, none⟩), z3, .slice a1 w.length c1, z5, .slice (some ⟨bu, 0, some 1⟩) w.length w.length, .slice (some ⟨be, 0, none⟩) w.length w.length, .int .i64 ((sel (fun i => !erI e i && decide (co u i ≠ co w i)) w.length).length : Nat), .int .i64 (sC (erI e) w.length : Nat), vs, z11, z12, z13, z14, z15, z16, z17, z18, z19, z20, z21, z22, .int .i64 (w.length : Nat), .int .i64 (i : Nat), z25, z26, z27, z28, z29, z30, z31, z32, z33, z34, z35, z36, z37, z38, z39, z40, z41, z42, z43, z44]) w.length ?_ ?_ ?_ ?_
    ·exact ⟨Ext.refl _, _, H4.length, Nat.le_refl _, Own.nil (by omega), _, _, _, _, _, _, _, _, _, _, _, _, _, _, _, _, _, _, _, _, _, _, _, _, _, _, _, _, _, _, _, _, _, _, _, _,  rfl⟩
    ·rintro i S H' hi ⟨hx, vs, bs, hbs, hown, z0, z1, z3, z5, z11, z12, z13, z14, z15, z16, z17, z18, z19, z20, z21, z22, z25, z26, z27, z28, z29, z30, z31, z32, z33, z34, z35, z36, z37, z38, z39, z40, z41, z42, z43, z44,  rfl⟩
     exact ⟨_, by simp (disch := first | omega | (simp only [lenB]; omega)) only [evB, xBTh, Nat.reduceAdd, Nat.reduceBEq, *]; rfl, by simp⟩
    ·rintro i S H5 hi ⟨hx5, vs, bs, hbs, hown, z0, z1, z3, z5, z11, z12, z13, z14, z15, z16, z17, z18, z19, z20, z21, z22, z25, z26, z27, z28, z29, z30, z31, z32, z33, z34, z35, z36, z37, z38, z39, z40, z41, z42, z43, z44,  rfl⟩
     have ge := hx5.get ge
     have hs2' := sel_succ (erI e) i
     have hs4 : (sel (erI e) i).length ≤ i := sC_le _ i
     have hl5 := hx5.1
     (try simp only [ctlB])
     repeat' ((first | refine xSTh ?_ | refine xOTh rfl ?_); (try simp only [ctlB]))
     cases hek : erI e i with
     | false =>
      rw [hek, if_neg (by simp), List.append_nil] at hs2'
      rw [hs2']
      clear hs2'
      refine xCTh (fun h => ?_) (fun h => ?_)
      ·cases h
      clear h hek
      (try simp only [ctlB])
      repeat' ((first | refine xSTh ?_ | refine xOTh rfl ?_); (try simp only [ctlB]))
      exact ⟨hx5, vs, bs, hbs, hown, _, _, _, _, _, _, _, _, _, _, _, _, _, _, _, _, _, _, _, _, _, _, _, _, _, _, _, _, _, _, _, _, _, _, _, _,  by first | rfl | (simp only [Int.natCast_add, Int.natCast_one]; rfl) | simp only [Int.natCast_add, Int.natCast_one]⟩
     | true =>
      rw [hek, if_pos rfl] at hs2'
      have hsl : natL (sel (erI e) (i + 1)) = natL (sel (erI e) i) ++ [.int .i64 (i : Nat)] := by rw [hs2']; simp [natL]
      clear hs2'
      refine xCTh (fun h => ?_) (fun h => ?_)
      case refine_2 => cases h
      clear h hek
      (try simp only [ctlB])
      repeat' ((first | refine xSTh ?_ | refine xOTh rfl ?_); (try simp only [ctlB]))
      refine xHTh ?_
      refine wpH_app (c := [.int .i64 (i : Nat)]) (hown.mono (Ext.app _ _)) (by simp; omega) (by omega) (by omega) (by rw [natL_len]; omega) get_app0 (by simp) rfl rfl ?_
      rintro v' H9 hown9 hk9 hl9
      have hE := Ext.app H5 [some [Value.int .i64 (i : Nat)]]
      simp only [List.length_append, List.length_cons, List.length_nil] at hown9
      (try simp only [ctlB])
      repeat' ((first | refine xSTh ?_ | refine xOTh rfl ?_); (try simp only [ctlB]))
      refine ⟨hk9.ext (hx5.trans hE) (by omega), v', H5.length + (0 + 1), by omega, ?_, _, _, _, _, _, _, _, _, _, _, _, _, _, _, _, _, _, _, _, _, _, _, _, _, _, _, _, _, _, _, _, _, _, _, _, _,  by first | rfl | (simp only [Int.natCast_add, Int.natCast_one]; rfl) | simp only [Int.natCast_add, Int.natCast_one]⟩
      rw [hsl]; exact hown9
    ·rintro S H5 ⟨hx5, vs, bs, hbs, hown, z0, z1, z3, z5, z11, z12, z13, z14, z15, z16, z17, z18, z19, z20, z21, z22, z25, z26, z27, z28, z29, z30, z31, z32, z33, z34, z35, z36, z37, z38, z39, z40, z41, z42, z43, z44,  rfl⟩
     have g0 := (hx5).get g0; have gu := (hx5).get gu; have ge := (hx5).get ge
     have hw0 := hw0.mono hx5
     have hx5 := hx4.trans hx5
     have hl5 := hx5.1
     obtain ⟨vt, hsl, hvt⟩ := sl_take hw0 (k := s.length) (by omega)
     have hds : d.length = s.length := by omega
     have htk := enc_take hie
     rw [hds] at htk
     rw [htk] at hvt
     clear hx4 hds htk ge
     have hve := encN_sli (Sl.ofOwn (enc := encN) hown)
     have hdn : decide ((w.length : Int) ≠ (s.length : Int) + (r' : Int)) = false := by simp; omega
     (try simp only [ctlB])
     refine aw_hv_if (t := true) (by simp (disch := first | omega | (simp only [lenB]; omega)) only [evB, xBTh, Nat.reduceAdd, Nat.reduceBEq, *]; rfl) (by simp (disch := first | omega | (simp only [lenB]; omega)) only [evB, xBTh, Nat.reduceAdd, Nat.reduceBEq, *]) (by simp (disch := first | omega | (simp only [lenB]; omega)) only [evB, xBTh, Nat.reduceAdd, Nat.reduceBEq, *]; try rfl) (fun _ => ⟨_, by simp (disch := first | omega | (simp only [lenB]; omega)) only [evB, xBTh, Nat.reduceAdd, Nat.reduceBEq, *]; rfl, ?_⟩) (fun h => by cases h)
     refine wpH_call0 (ints_eq (sle_sli hvt) (hs0.mono hx5) (by rw [valI_len]; omega) (by omega) hsd) ?_
     rintro v _ ⟨rfl, rfl⟩
     clear hvt hsl
     (try simp only [ctlB])
     refine xCTh (fun h => ?_) (fun h => ?_)
     ·cases h
     clear h hdn
     generalize hnE : (sel (fun i => !erI e i && decide (co u i ≠ co w i)) w.length).length = nE at *
     have hnE' : nE ≤ w.length := by rw [← hnE]; exact sC_le _ _
     have hnS' := sC_le (erI e) w.length
     by_cases hcap : 2 * nE + sC (erI e) w.length ≤ r'
     case neg =>
      clear hnE
      generalize sC (erI e) w.length = nS at *
      (try simp only [ctlB])
      refine xCTh (fun h => ?_) (fun h => ?_)
      case refine_2 => exfalso; simp at h; omega
      clear h
      (try simp only [ctlB])
      refine xHTh ?_
      refine wpH_call0 (alive hl5) ?_
      rintro v H6 ⟨-, rfl⟩
      (try simp only [ctlB])
      repeat' ((first | refine xSTh ?_ | refine xOTh rfl ?_); (try simp only [ctlB]))
      refine xRTh ?_
      rfl
     case pos =>
      have hfew := hcap
      rw [← hnE] at hfew
      have hee : ∀ i, i < w.length → erI ((sel (erI e) w.length).map fun j : Nat => (j : Int)) i = erI e i := fun i hi => erI_sel hi
      have hir := inR_sel (erI e) w.length
      have hel : ((sel (erI e) w.length).map fun j : Nat => (j : Int)).length ≤ 10000000 := by rw [List.length_map]; exact Nat.le_trans hnS' (by omega)
      generalize ((sel (erI e) w.length).map fun j : Nat => (j : Int)) = e' at *
      have hcong : sel (fun i => !erI e' i && decide (co u i ≠ co w i)) w.length = sel (fun i => !erI e i && decide (co u i ≠ co w i)) w.length := sel_congr fun i hi => by rw [hee i hi]
      rw [← hcong, ← sC_congr hee] at hfew
      clear hcong hnE
      have hord := gn_ord hg
      have hcw : isCw g r' b' w := hie.cw
      obtain ⟨hdec, hfix⟩ := near_found (g := g) (r := r') (b := b') (w := u) (c := w) (er := erI e') (gn_ne hg) hord (by omega) (by omega) hcw (by rw [hu]; exact hfew)
      clear hfew hee
      generalize sC (erI e) w.length = nS at *
      (try simp only [ctlB])
      refine xCTh (fun h => ?_) (fun h => ?_)
      ·exfalso; simp at h; omega
      clear h
      (try simp only [ctlB])
      have hue := sle_whole (sp := some 1) (n := w.length) gu hu
      refine xHTh ?_
      refine wpH_call0 (decR_ok (f := f) (w := u) (by exact hl5) hg hc hue (by omega) hve hel) ?_
      rintro v H6 ⟨hx6, -, -, -, hgd⟩
      obtain ⟨vw, vc, rfl, hvw, hvc⟩ := hgd (by rw [hu]; exact hir) (by omega) (by omega) hdec
      rw [hfix] at hvw hvc
      clear hgd hdec hfix hir hord hcw hue hve hcap
      have hvc : Sl encN H6 vc (sel (fun i => decide (co u i ≠ co w i)) w.length) := by
       rw [hu] at hvc
       have : sel (fun i => decide (co u i ≠ co w i)) w.length = sel (fun i => decide (co w i ≠ co u i)) w.length := sel_congr fun i _ => decide_eq_decide.2 ⟨fun h e => h e.symm, fun h e => h e.symm⟩
       rw [this]; exact hvc
      have hvw0 := hvw
      have hvc0 := hvc
      obtain ⟨aw, cw, rfl⟩ := hvw.len
      obtain ⟨ac, cc, rfl⟩ := hvc.len
      have gu := hx6.get gu
      have hw0 := hw0.mono hx6
      have hx6 := hx5.trans hx6
      have hl6 := hx6.1
      clear hvw hvc hx5 hl5 g0
      (try simp only [ctlB])
      repeat' ((first | refine xSTh ?_ | refine xOTh rfl ?_); (try simp only [ctlB]))
      generalize hG : H6 ++ _ = G7 at *
      obtain ⟨g7, hx7⟩ := box_facts hG
      clear hG
      have gu := hx7.get gu
      have hw0 := hw0.mono hx7
      have hvw0 := hvw0.mono hx7
      have hvc0 := hvc0.mono hx7
      have hx7 := hx6.trans hx7
      have hl7 := hx7.1
      generalize hφ : (fun i => decide (co u i ≠ co w i)) = φ at *
      have hφi : ∀ i, φ i = decide (co u i ≠ co w i) := fun i => by rw [← hφ]
      clear hφ
      (try simp only [ctlB])
      repeat' ((first | refine xSTh ?_ | refine xOTh rfl ?_); (try simp only [ctlB]))
      refine aw_for (fun i S H' => Ext G7 H' ∧ ∃ vs bs, G7.length ≤ bs ∧ Own H.length 1 H' vs bs (natL (sel φ i)) ∧ ∃ z0 z1 z2 z3 z5 z7 z8 z9 z10 z11 z15 z16 z17 z18 z19 z20 z21 z22 z23 z24 z25 z26 z27 z28 z29 z30 z31 z32 z33 z36 z37 z38 z39 z40 z41 z42 z43 z44, S = [z0, z1, z2, z3, .slice a1 w.length c1, z5, .slice (some ⟨bu, 0, some 1⟩) w.length w.length, z7, z8, z9, z10, z11, .pointer (some ⟨H6.length, 0, none⟩), .int .i64 0, vs, z15, z16, z17, z18, z19, z20, z21, z22, z23, z24, z25, z26, z27, z28, z29, z30, z31, z32, z33, .int .i64 (w.length : Nat), .int .i64 (i : Nat), z36, z37, z38, z39, z40, z41, z42, z43, z44]) w.length ?_ ?_ ?_ ?_
      ·exact ⟨Ext.refl _, _, G7.length, Nat.le_refl _, Own.nil (by omega), _, _, _, _, _, _, _, _, _, _, _, _, _, _, _, _, _, _, _, _, _, _, _, _, _, _, _, _, _, _, _, _, _, _, _, _, _, _,  rfl⟩
      ·rintro i S H' hi ⟨hx, vs, bs, hbs, hown, z0, z1, z2, z3, z5, z7, z8, z9, z10, z11, z15, z16, z17, z18, z19, z20, z21, z22, z23, z24, z25, z26, z27, z28, z29, z30, z31, z32, z33, z36, z37, z38, z39, z40, z41, z42, z43, z44,  rfl⟩
       exact ⟨_, by simp (disch := first | omega | (simp only [lenB]; omega)) only [evB, xBTh, Nat.reduceAdd, Nat.reduceBEq, *]; rfl, by simp⟩
      ·rintro i S H8 hi ⟨hx8, vs, bs, hbs, hown, z0, z1, z2, z3, z5, z7, z8, z9, z10, z11, z15, z16, z17, z18, z19, z20, z21, z22, z23, z24, z25, z26, z27, z28, z29, z30, z31, z32, z33, z36, z37, z38, z39, z40, z41, z42, z43, z44,  rfl⟩
       have gu := hx8.get gu
       obtain ⟨yb, yo, ysp, yc, ys, ee, gy, hat, hyl⟩ := sle_at (hw0.mono hx8) (by omega)
       cases ee
       have hatj := hat i hi
       clear hat
       have hs2' := sel_succ φ i
       have hs4 : (sel φ i).length ≤ i := sC_le _ i
       have hl8 := hx8.1
       have hcu : u.getD i 0 = co u i := rfl
       by_cases hz : co u i = co w i
       ·rw [hφi, if_neg (by simp [hz]), List.append_nil] at hs2'
        rw [hs2']
        have hzv : (co u i).val = (co w i).val := by rw [hz]
        clear hs2' hz hφi
        (try simp only [ctlB])
        repeat' ((first | refine xSTh ?_ | refine xOTh rfl ?_); (try simp only [ctlB]))
        refine xCTh (fun h => ?_) (fun h => ?_)
        ·exfalso; simp at h
        clear h hzv hatj
        (try simp only [ctlB])
        repeat' ((first | refine xSTh ?_ | refine xOTh rfl ?_); (try simp only [ctlB]))
        exact ⟨hx8, vs, bs, hbs, hown, _, _, _, _, _, _, _, _, _, _, _, _, _, _, _, _, _, _, _, _, _, _, _, _, _, _, _, _, _, _, _, _, _, _, _, _, _, _,  by first | rfl | (simp only [Int.natCast_add, Int.natCast_one]; rfl) | simp only [Int.natCast_add, Int.natCast_one]⟩
       ·rw [hφi, if_pos (by simp [hz])] at hs2'
        have hsl : natL (sel φ (i + 1)) = natL (sel φ i) ++ [.int .i64 (i : Nat)] := by rw [hs2']; simp [natL]
        have hzv : (co u i).val ≠ (co w i).val := fun h => hz (El.ext h)
        clear hs2' hz hφi
        (try simp only [ctlB])
        repeat' ((first | refine xSTh ?_ | refine xOTh rfl ?_); (try simp only [ctlB]))
        refine xCTh (fun h => ?_) (fun h => ?_)
        case refine_2 => exfalso; simp at h; omega
        clear h hzv hatj
        (try simp only [ctlB])
        repeat' ((first | refine xSTh ?_ | refine xOTh rfl ?_); (try simp only [ctlB]))
        refine xHTh ?_
        refine wpH_app (c := [.int .i64 (i : Nat)]) (hown.mono (Ext.app _ _)) (by simp; omega) (by omega) (by omega) (by rw [natL_len]; omega) get_app0 (by simp) rfl rfl ?_
        rintro v' H9 hown9 hk9 hl9
        have hE := Ext.app H8 [some [Value.int .i64 (i : Nat)]]
        simp only [List.length_append, List.length_cons, List.length_nil] at hown9
        (try simp only [ctlB])
        repeat' ((first | refine xSTh ?_ | refine xOTh rfl ?_); (try simp only [ctlB]))
        refine ⟨hk9.ext (hx8.trans hE) (by omega), v', H8.length + (0 + 1), by omega, ?_, _, _, _, _, _, _, _, _, _, _, _, _, _, _, _, _, _, _, _, _, _, _, _, _, _, _, _, _, _, _, _, _, _, _, _, _, _, _,  by first | rfl | (simp only [Int.natCast_add, Int.natCast_one]; rfl) | simp only [Int.natCast_add, Int.natCast_one]⟩
        rw [hsl]; exact hown9
      ·rintro S H8 ⟨hx8, vs, bs, hbs, hown, z0, z1, z2, z3, z5, z7, z8, z9, z10, z11, z15, z16, z17, z18, z19, z20, z21, z22, z23, z24, z25, z26, z27, z28, z29, z30, z31, z32, z33, z36, z37, z38, z39, z40, z41, z42, z43, z44,  rfl⟩
       have g7 := hx8.get g7
       have hw0 := sle_sli (hw0.mono hx8)
       have hvw0 := sle_sli (hvw0.mono hx8)
       have hvc0 := encN_sli (hvc0.mono hx8)
       have hve := encN_sli (Sl.ofOwn (enc := encN) hown)
       have hx8 := hx7.trans hx8
       have hl8 := hx8.1
       have hsl : (sel φ w.length).length ≤ w.length := sC_le _ _
       (try simp only [ctlB])
       refine xTTh ?_
       refine wpH_call0 (ints_eq hvw0 hw0 (by rw [valI_len]; omega) (by rw [valI_len]; omega) rfl) ?_
       rintro v _ ⟨rfl, rfl⟩
       (try simp only [ctlB])
       refine xTTh ?_
       refine wpH_call0 (ints_eq hvc0 hve (by rw [List.length_map]; omega) (by rw [List.length_map]; omega) rfl) ?_
       rintro v _ ⟨rfl, rfl⟩
       (try simp only [ctlB])
       refine xTTh ?_
       refine wpH_call0 (alive hl8) ?_
       rintro v H9 ⟨-, rfl⟩
       (try simp only [ctlB])
       repeat' ((first | refine xSTh ?_ | refine xOTh rfl ?_); (try simp only [ctlB]))
       refine xRTh ?_
       rfl
end Go.Proofs.Ythejjplggcfjcaa
namespace Go.Proofs.Ythejjplggcfjcaa
open Go.Abs
theorem pairs_of {B : Nat} {H : Heap} : ∀ (n : Nat) (c : List Value), HasN (Has B H (.rcd [.int .i64, .int .i64])) n c → ∃ l : List (Int × Int), l.length = n ∧ c = l.flatMap (fun p => [.int .i64 p.1, .int .i64 p.2])
 | 0, c, h => by simp only [HasN] at h; subst h; exact ⟨[], rfl, rfl⟩
 | n + 1, c, h => by
  simp only [HasN] at h
  obtain ⟨a, b, rfl, ha, hb⟩ := h
  obtain ⟨l, h1, rfl⟩ := pairs_of n b hb
  obtain ⟨_, _, rfl, hx, ha⟩ := all_cons (has_rcd ha)
  obtain ⟨_, _, rfl, hy, ha⟩ := all_cons ha
  rw [all_nil ha]
  obtain ⟨x, rfl, _⟩ := has_int hx
  obtain ⟨y, rfl, _⟩ := has_int hy
  exact ⟨(x, y) :: l, by simp [h1], rfl⟩
theorem pairs_at : ∀ (l : List (Int × Int)) (i : Nat), i < l.length → (l.flatMap (fun p => [Value.int .i64 p.1, Value.int .i64 p.2]))[i * 2]? = some (.int .i64 (l.getD i (0, 0)).1) ∧ (l.flatMap (fun p => [Value.int .i64 p.1, Value.int .i64 p.2]))[i * 2 + 1]? = some (.int .i64 (l.getD i (0, 0)).2)
 | [], i, h => by simp at h
 | p :: l, 0, _ => by simp [List.flatMap_cons]
 | p :: l, i + 1, h => by
  have ih := pairs_at l i (by simpa using h)
  rw [List.flatMap_cons, show (i + 1) * 2 = (i * 2) + 2 by omega]
  exact ih
theorem slp_one {B : Nat} {H : Heap} {vs : List Value} (h : Has B H (.sl (.rcd [.int .i64, .int .i64])) vs) : ∃ v l, vs = [v] ∧ SlP H v l := by
 simp only [Has] at h
 rcases h with rfl | ⟨i, len, cap, c, rfl, h2, h3, h4, h5, h6⟩
 ·exact ⟨_, [], rfl, .inl ⟨rfl, rfl⟩⟩
 ·obtain ⟨l, hl, rfl⟩ := pairs_of (B := B) (H := H) _ _ (by simpa only [Has] using h6)
  have hlen : (l.take len).length = len := by simp; omega
  refine ⟨_, l.take len, rfl, .inr ⟨i, cap, _, by rw [hlen], h5, fun k hk => ?_⟩⟩
  rw [hlen] at hk
  have := pairs_at l k (by omega)
  rw [List.getD_eq_getElem?_getD, List.getElem?_take, if_pos hk, ← List.getD_eq_getElem?_getD]
  exact this
end Go.Proofs.Ythejjplggcfjcaa
namespace Go.Proofs.Ythejjplggcfjcaa
open Go.Abs
namespace reedsolomonCorrects
open Go.ChangeShapes Go.WideShapes Go.ChangeAt Go.RowKit
theorem fnE (X : Type) (ds : List (DataW X)) (h : ds.length = 2) : Rows.reedsolomonCorrectsSpec.fn X ds = ⟨[.lit (.bool true)], ds, []⟩ := by
 match ds, h with
 | [d1, d2], _ => rfl
theorem lawAll (H : Heap) (vs : List Value) (h : HasArgs maxLen H [.rcd [.rcd [.rcd [.int .i64, .int .i64, .int .i64], .int .i64, .int .i64], .sl (.int .i64), .sl (.int .i64)], .sl (.rcd [.int .i64, .int .i64])] vs) : Ev cp H.length 7 vs H (fun v _ => v = .bool true) := by
 simp only [HasArgs] at h
 obtain ⟨a1, r1, rfl, h1, a2, r2, rfl, h2, rfl⟩ := h
 obtain ⟨ch, sz, po, r, b, vw, ve, s, e, rfl, g2, g3, g4, g5⟩ := ask_of h1
 simp only [HasArg] at h2
 obtain ⟨v, l, e2, g6⟩ := slp_one h2
 cases e2
 exact lawCor g3 g2 g4 g5 g6
set_option maxRecDepth 100000 in
theorem lifted (os : Os) (started : os.Started) (H : Type) (enc : TypeId × Value → H) :
  ReturnsInHanded {} Try.checked os 7 .any (Rows.reedsolomonCorrectsSpec.pre6 enc Try.prog Try.f7 Rows.reedsolomonCorrectsRow.domain false) (Rows.reedsolomonCorrectsSpec.post enc Try.prog Try.f7 false true false false) := by
 refine returnsInHanded_of_change (C := Try.checked) own started (by kernel_rfl) Try.func7
  (ChangeSpec.witness6 (enc := enc) (C := Try.checked) false ⟨#[], #[.agg #[.int .i64 0, .int .i64 0, .int .i64 0, .int .i64 0, .int .i64 0, .slice none 0 0, .slice none 0 0], .slice none 0 0], []⟩ 8 (by kernel_rfl) (by kernel_rfl) (by kernel_rfl) (by kernel_rfl)) ?_
 intro W base args ds gs before hval hW _ _
 exact law_contract (P := Try.prog) (fn := Try.f7) (s := Rows.reedsolomonCorrectsSpec) okAll (d := 8) (tys := [.rcd [.rcd [.rcd [.int .i64, .int .i64, .int .i64], .int .i64, .int .i64], .sl (.int .i64), .sl (.int .i64)], .sl (.rcd [.int .i64, .int .i64])]) (by kernel_rfl) (by kernel_rfl) (by kernel_rfl) Try.underlying4 laidOut (by kernel_rfl) rfl fnE lawAll W (by rw [noGlobals]; omega) base args ds gs before hval hW (fun x _ => .inl (Nat.le_refl _))
theorem over : Rows.reedsolomonCorrectsRow.holds Try.pinned (OpenSpec.ofChange Rows.reedsolomonCorrectsSpec) :=
 OpenClaim.holds_of_wide 7 Try.f7 rfl rfl rfl rfl rfl rfl rfl ⟨rfl, rfl, rfl, rfl, rfl⟩ rfl rfl rfl rfl rfl (by kernel_rfl) Try.func7 (by kernel_rfl)
  (of_decide_eq_true (by kernel_rfl)) (by unfold Func.isWrapper; first | (rw [if_pos (by decide +kernel)]; kernel_rfl) | (rw [if_neg (by decide +kernel)]; exact ⟨rfl, rfl⟩))
  (fun os started H enc _ => lifted os started H enc)
theorem proved : Rows.ReedsolomonCorrectsSaid := over
#print axioms proved
end reedsolomonCorrects
end Go.Proofs.Ythejjplggcfjcaa
