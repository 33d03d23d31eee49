/- QR blocks: the law Places. -/
import Derived.Test.YtkeagffmmhllcaaP23
set_option linter.unusedVariables false
set_option linter.unusedSimpArgs false
set_option linter.unusedSectionVars false
namespace Go.Proofs.Ytkeagffmmhllcaa
open Go.Abs Go.RS
set_option linter.unusedSimpArgs false
set_option linter.unusedVariables false
set_option maxRecDepth 20000
def Bk.sz (b : Bk) : Nat := b.da + 1 + b.ck
def Bk.ix (b : Bk) (i : Nat) : Nat := (b.at i).1 * b.sz + (b.at i).2
theorem Bk.ix_in (b : Bk) {i : Nat} (h : i < b.all) : b.ix i < b.sz * b.n ∧ (b.at i).2 < b.sz ∧ (b.at i).1 < b.n := by
 obtain ⟨h1, h2⟩ := b.at_in h
 have := b.len_le (b.at i).1
 have h3 : (b.at i).2 < b.sz := by unfold Bk.sz; omega
 refine ⟨?_, h3, h1⟩
 have h4 := Nat.mul_le_mul_left b.sz (show (b.at i).1 + 1 ≤ b.n by omega)
 rw [Nat.mul_succ] at h4
 have h5 := Nat.mul_comm b.sz (b.at i).1
 unfold Bk.ix
 omega
theorem Bk.ix_inj (b : Bk) {i j : Nat} (hi : i < b.all) (hj : j < b.all) (h : b.ix i = b.ix j) : i = j := by
 obtain ⟨_, h1, _⟩ := b.ix_in hi
 obtain ⟨_, h2, _⟩ := b.ix_in hj
 unfold Bk.ix at h
 have hs : 0 < b.sz := by omega
 have e1 : ((b.at i).1 * b.sz + (b.at i).2) / b.sz = (b.at i).1 := by
  rw [Nat.mul_comm, Nat.mul_add_div hs, Nat.div_eq_of_lt h1]; rfl
 have e2 : ((b.at j).1 * b.sz + (b.at j).2) / b.sz = (b.at j).1 := by
  rw [Nat.mul_comm, Nat.mul_add_div hs, Nat.div_eq_of_lt h2]; rfl
 rw [h, e2] at e1
 rw [← e1] at h
 have e3 : (b.at i).2 = (b.at j).2 := by omega
 rw [← b.pos_at hi, ← b.pos_at hj, ← e1, e3]
def seenL (b : Bk) (i : Nat) : List Bool := (List.range (b.sz * b.n)).map fun q => (List.range i).any fun j => b.ix j == q
theorem seenL_len (b : Bk) (i : Nat) : (seenL b i).length = b.sz * b.n := by simp [seenL]
theorem seenL_zero (b : Bk) : seenL b 0 = List.replicate (b.sz * b.n) false := by simp [seenL, List.map_const']
theorem seenL_at {b : Bk} {i : Nat} (h : i < b.all) : (seenL b i).getD (b.ix i) false = false := by
 unfold seenL
 rw [range_getD _ (b.ix_in h).1, List.any_eq_false]
 intro j hj
 have hj := List.mem_range.1 hj
 simp only [beq_iff_eq]
 intro e
 have := b.ix_inj (by omega) h e
 omega
theorem seenL_set {b : Bk} {i : Nat} (h : i < b.all) : (seenL b i).set (b.ix i) true = seenL b (i + 1) := by
 unfold seenL
 refine range_setG (b.ix_in h).1 ?_ fun q hq hne => ?_
 ·rw [List.range_succ, List.any_append]; simp
 ·rw [List.range_succ, List.any_append]
  simp only [List.any_cons, List.any_nil, Bool.or_false]
  rw [show (b.ix i == q) = false from beq_eq_false_iff_ne.2 (fun e => hne e.symm), Bool.or_false]
theorem all_eq (b : Bk) : b.sh * (b.da + b.ck) + b.lg * b.sz = b.all := by
 unfold Bk.all Bk.cap Bk.sz Bk.n
 simp only [Nat.mul_add, Nat.add_mul, Nat.mul_one]
 omega
section
variable {lo : Nat} {v l : Int}
set_option linter.defProp false in
def xBQt := And.intro @Int.cast_ofNat_Int (And.intro @ite_self.{1} (And.intro @Bk.cells.eq_1 @ceq2))
theorem xSQt {cp : FuncId → Option CF} {lo : Nat} {l : List (Nat × E)} {chk : List E} {Q : Post} {S : List Value} {H : Heap} {vs : List (Nat × Value)} {S' : List Value} (k : Q .normal S' H) (h : evSets S H l = some vs := by simp (disch := first | omega | (simp only [lenB]; omega)) only [evB, xBQt, Nat.reduceAdd, Nat.reduceBEq, *]; rfl) (hc : evChk S H chk = true := by simp (disch := first | omega | (simp only [lenB]; omega)) only [evB, xBQt, Nat.reduceAdd, Nat.reduceBEq, *]) (hS : setAll S vs = S' := by simp (disch := first | omega | (simp only [lenB]; omega)) only [evB, xBQt, Nat.reduceAdd, Nat.reduceBEq, *]; rfl) : wpS cp lo (.sets l chk) Q S H := aw_sets h hc hS k
theorem xHQt {cp : FuncId → Option CF} {lo : Nat} {l : List (Nat × E)} {chk : List E} {Q : Post} {S : List Value} {H : Heap} {vs : List (Nat × Value)} {dst : Option Nat} {o : HOp} {a : E} {xs : List Value} (k : wpH cp lo o xs H fun v H' => Q .normal (setD (setAll S vs) dst v) H') (h : evSets S H l = some vs := by simp (disch := first | omega | (simp only [lenB]; omega)) only [evB, xBQt, Nat.reduceAdd, Nat.reduceBEq, *]; rfl) (hc : evChk S H chk = true := by simp (disch := first | omega | (simp only [lenB]; omega)) only [evB, xBQt, Nat.reduceAdd, Nat.reduceBEq, *]) (ha : ev S H a = some xs := by simp (disch := first | omega | (simp only [lenB]; omega)) only [evB, xBQt, Nat.reduceAdd, Nat.reduceBEq, *]; rfl) : wpS cp lo (.hv l chk [] dst o a) Q S H := aw_hv h hc ha k
theorem xOQt {cp : FuncId → Option CF} {lo : Nat} {l : List (Nat × E)} {chk : List E} {Q : Post} {S : List Value} {H : Heap} {vs : List (Nat × Value)} {dst : Option Nat} {o : HOp} {a : E} {xs : List Value} {S' : List Value} {H' : Heap} {v : Value} (hcall : o.isCall = false) (k : Q .normal S' H') (h : evSets S H l = some vs := by simp (disch := first | omega | (simp only [lenB]; omega)) only [evB, xBQt, Nat.reduceAdd, Nat.reduceBEq, *]; rfl) (hc : evChk S H chk = true := by simp (disch := first | omega | (simp only [lenB]; omega)) only [evB, xBQt, Nat.reduceAdd, Nat.reduceBEq, *]) (ha : ev S H a = some xs := by simp (disch := first | omega | (simp only [lenB]; omega)) only [evB, xBQt, Nat.reduceAdd, Nat.reduceBEq, *]; rfl) (ho : hsem0 lo o xs H = some (v, H') := by simp (disch := first | omega | (simp only [lenB]; omega)) only [evB, xBQt, Nat.reduceAdd, Nat.reduceBEq, *]; rfl) (hS : setD (setAll S vs) dst v = S' := by simp (disch := first | omega | (simp only [lenB]; omega)) only [evB, xBQt, Nat.reduceAdd, Nat.reduceBEq, *]; rfl) : wpS cp lo (.hv l chk [] dst o a) Q S H := aw_op hcall h hc ha ho hS k
theorem xCQt {cp : FuncId → Option CF} {lo : Nat} {c : E} {a b : Stm} {Q : Post} {S : List Value} {H : Heap} {t : Bool} (k1 : t = true → wpS cp lo a Q S H) (k2 : t = false → wpS cp lo b Q S H) (h : ev1 S H c = some (.bool t) := by simp (disch := first | omega | (simp only [lenB]; omega)) only [evB, xBQt, Nat.reduceAdd, Nat.reduceBEq, *]; rfl) : wpS cp lo (.cond c a b) Q S H := aw_cond h k1 k2
theorem xTQt {cp : FuncId → Option CF} {lo : Nat} {l : List (Nat × E)} {chk : List E} {Q : Post} {S : List Value} {H : Heap} {vs : List (Nat × Value)} {dst : Option Nat} {o : HOp} {a : E} {xs : List Value} {pc : PC} (k : wpH cp lo o xs H fun v H' => Q .normal (setD (setAll S vs) dst v) H') (h : evSets S H l = some vs := by simp (disch := first | omega | (simp only [lenB]; omega)) only [evB, xBQt, Nat.reduceAdd, Nat.reduceBEq, *]; rfl) (hc : evChk S H chk = true := by simp (disch := first | omega | (simp only [lenB]; omega)) only [evB, xBQt, Nat.reduceAdd, Nat.reduceBEq, *]) (hp : holds S H pc = some true := by simp (disch := first | omega | (simp only [lenB]; omega)) only [evB, xBQt, Nat.reduceAdd, Nat.reduceBEq, *]; try rfl) (ha : ev S H a = some xs := by simp (disch := first | omega | (simp only [lenB]; omega)) only [evB, xBQt, Nat.reduceAdd, Nat.reduceBEq, *]; rfl) : wpS cp lo (.hv l chk pc dst o a) Q S H := aw_hvT h hc hp ha k
theorem xRQt {cf : CF} {R : Value → Heap → Prop} {S : List Value} {H : Heap} {vs : List Value} (k : R (resultOf vs) H) (h : evList S H cf.res = some vs := by simp (disch := first | omega | (simp only [lenB]; omega)) only [evB, xBQt, Nat.reduceAdd, Nat.reduceBEq, *]; rfl) : bodyQ cf R .ret S H := body_ret h k
theorem lawPla_bad {H : Heap} (hno : ¬ Vl v l) : Ev cp H.length 4 [.int .i64 v, .int .i64 l] H (fun v _ => v = .bool true) := by
 have hne := eVl_ne (v := v)
 refine st4 ?_; unfold bd4 cf4; simp only [kB, ctlB]
 repeat' ((first | refine xSQt ?_ | refine xOQt rfl ?_); (try simp only [ctlB]))
 refine xHQt ?_
 refine wpH_call0 (placeP_bad (v := v) (l := l) (Nat.le_refl _) hno) ?_
 rintro r H1 ⟨hx1, rfl⟩
 have hl1 := hx1.1
 (try simp only [ctlB])
 repeat' ((first | refine xSQt ?_ | refine xOQt rfl ?_); (try simp only [ctlB]))
 refine xHQt ?_
 refine wpH_call0 (placeV_bad (v := v) (l := l) hl1 hno) ?_
 rintro r H2 ⟨hx2, rfl⟩
 have hx2 := hx1.trans hx2
 have hl2 := hx2.1
 (try simp only [ctlB])
 repeat' ((first | refine xSQt ?_ | refine xOQt rfl ?_); (try simp only [ctlB]))
 refine xCQt (fun h => ?_) (fun h => ?_)
 ·simp at h
 clear h
 (try simp only [ctlB])
 repeat' ((first | refine xSQt ?_ | refine xOQt rfl ?_); (try simp only [ctlB]))
 refine aw_for (fun k S H' => H2 = H' ∧ ∃ (z : Nat → Value), S = [.int .i64 v, .int .i64 l, z 2, .slice none 0 0, .int .i64 (eVl v), z 5, z 6, .int .i64 (k : Nat), z 8, z 9, z 10, z 11, z 12, z 13, z 14, z 15, z 16, z 17, z 18, z 19, z 20, z 21, z 22, z 23, z 24, z 25, z 26]) 0 ?_ ?_ ?_ ?_
 ·exact ⟨rfl, exZGc  rfl⟩
 ·rintro k S H' hk ⟨rfl, z,  rfl⟩
  exact ⟨_, by simp (disch := first | omega | (simp only [lenB]; omega)) only [evB, xBQt, Nat.reduceAdd, Nat.reduceBEq, *]; rfl, by simp⟩
 ·rintro k S H' hk
  omega
 ·rintro S H' ⟨rfl, z,  rfl⟩
  (try simp only [ctlB])
  refine xHQt ?_
  refine wpH_call0 (stV_bad (v := v) (l := l) (by omega) hno) ?_
  rintro r H3 ⟨hx3, rfl⟩
  have hx3 := hx2.trans hx3
  have hl3 := hx3.1
  unfold Bk.val bk0
  generalize eVl v = e at *
  (try simp only [ctlB])
  repeat' ((first | refine xSQt ?_ | refine xOQt rfl ?_); (try simp only [ctlB]))
  refine xCQt (fun h => ?_) (fun h => ?_)
  case refine_2 => exfalso; simp at h <;> omega
  clear h
  (try simp only [ctlB])
  refine xTQt ?_
  refine wpH_call0 (exH (by simp; omega)) ?_
  rintro r H4 ⟨-, rfl⟩
  (try simp only [ctlB])
  repeat' ((first | refine xSQt ?_ | refine xOQt rfl ?_); (try simp only [ctlB]))
  refine xRQt ?_
  rfl
set_option maxHeartbeats 1000000 in
theorem lawPla_ok {H : Heap} {i : Nat} (hi : i < 160) (ha : [Value.int .i64 v, Value.int .i64 l] = arg i) : Ev cp H.length 4 [.int .i64 v, .int .i64 l] H (fun v _ => v = .bool true) := by
 have hb := bk_ok hi
 have hP := placeP (lo := H.length) hi ha (Nat.le_refl _)
 have hV : ∀ {H' : Heap}, H.length ≤ H'.length → _ := fun {H'} h => placeV (lo := H.length) (H := H') hi ha h
 have hst : ∀ {H' : Heap}, H.length ≤ H'.length → _ := fun {H'} h => stV_vl (lo := H.length) (H := H') hi ha h
 clear ha
 refine st4 ?_; unfold bd4 cf4; simp only [kB, ctlB]
 repeat' ((first | refine xSQt ?_ | refine xOQt rfl ?_); (try simp only [ctlB]))
 refine xHQt ?_
 refine wpH_call0 hP ?_
 clear hP
 generalize bk i = b at *
 rintro r H1 ⟨hx1, vp, rfl, hp⟩
 have h1 := hb.sh
 have h2 := hb.n
 have h3 := hb.da
 have h4 := hb.ck
 have h6 := hb.len
 have h7 := hb.all
 have hbn : b.sh ≤ b.n := by unfold Bk.n; omega
 have hs : (b.sh : Int) + (b.lg : Int) = (b.n : Nat) := by unfold Bk.n; omega
 have hpos : 0 < b.all := by
  have := Nat.mul_pos (m := b.n) (n := b.ck) (by omega) (by omega)
  have : b.all = b.cap + b.n * b.ck := rfl
  have := Nat.mul_comm b.ck b.n
  omega
 have hpll : b.plI.length = b.all := by unfold Bk.plI; rw [List.length_map, b.pl_len]
 have hl1 := hx1.1
 have hp0 := hp
 obtain ⟨ap, cq, e0⟩ := hp.len
 rw [hpll] at e0
 subst e0
 (try simp only [ctlB])
 repeat' ((first | refine xSQt ?_ | refine xOQt rfl ?_); (try simp only [ctlB]))
 refine xHQt ?_
 refine wpH_call0 (hV hl1) ?_
 rintro r H2 ⟨hx2, vq, rfl, hq⟩
 have hp0 := hp0.mono hx2
 have hx2 := hx1.trans hx2
 have hl2 := hx2.1
 have hq0 := hq
 obtain ⟨aq, cq2, e0⟩ := hq.len
 rw [hpll] at e0
 subst e0
 clear hV hp hq
 (try simp only [ctlB])
 repeat' ((first | refine xSQt ?_ | refine xOQt rfl ?_); (try simp only [ctlB]))
 refine xCQt (fun h => ?_) (fun h => ?_)
 ·simp at h
 clear h
 (try simp only [ctlB])
 repeat' ((first | refine xSQt ?_ | refine xOQt rfl ?_); (try simp only [ctlB]))
 obtain ⟨pb, psp, pc, ep, gp⟩ := hp0.els (by omega)
 obtain ⟨qb, qsp, qc, eq, gq⟩ := hq0.els (by omega)
 rw [hpll] at ep eq
 cases ep
 cases eq
 have hpL := ptL_len b.plI
 rw [hpll] at hpL
 have hp2 := fun i (h : i < b.all) => ptL_two (l := b.plI) (i := i) (by omega)
 replace hpL : b.all * 2 ≤ (ptL b.plI).length := by omega
 clear hp0 hq0
 refine aw_for (fun k S H' => H2 = H' ∧ ∃ (z : Nat → Value), S = [.int .i64 v, .int .i64 l, z 2, .slice (some ⟨pb, 0, psp⟩) b.all cq, .int .i64 0, .slice (some ⟨qb, 0, qsp⟩) b.all cq2, z 6, .int .i64 (k : Nat), z 8, z 9, z 10, z 11, z 12, z 13, z 14, z 15, z 16, z 17, z 18, z 19, z 20, z 21, z 22, z 23, z 24, z 25, z 26]) b.all ?_ ?_ ?_ ?_
 ·exact ⟨rfl, exZGc  rfl⟩
 ·rintro k S H' hk ⟨rfl, z,  rfl⟩
  exact ⟨_, by simp (disch := first | omega | (simp only [lenB]; omega)) only [evB, xBQt, Nat.reduceAdd, Nat.reduceBEq, *]; rfl, by simp⟩
 ·rintro k S H' hk ⟨rfl, z,  rfl⟩
  have hp2 := hp2 k hk
  generalize ptL b.plI = PL at *
  generalize b.plI.getD k (0, 0) = pp at *
  (try simp only [ctlB])
  refine xCQt (fun h => ?_) (fun h => ?_)
  ·simp at h
  clear h
  (try simp only [ctlB])
  repeat' ((first | refine xSQt ?_ | refine xOQt rfl ?_); (try simp only [ctlB]))
  exact ⟨by trivial, exZGc  (by first | rfl | (simp only [Int.natCast_add, Int.natCast_one]; rfl) | simp only [Int.natCast_add, Int.natCast_one])⟩
 ·rintro S H' ⟨rfl, z,  rfl⟩
  (try simp only [ctlB])
  refine xHQt ?_
  refine wpH_call0 (hst (by omega)) ?_
  rintro r H3 ⟨hx3, rfl⟩
  have gp := hx3.get gp
  have hx3 := hx2.trans hx3
  have hl3 := hx3.1
  clear hst gq
  unfold Bk.val
  (try simp only [ctlB])
  repeat' ((first | refine xSQt ?_ | refine xOQt rfl ?_); (try simp only [ctlB]))
  generalize hG : H3 ++ _ = G at *
  obtain ⟨g0, hxG⟩ := box_facts hG
  clear hG
  have gp := hxG.get gp
  have hxG := hx3.trans hxG
  have hlG := hxG.1
  have hl0 := Heap.get_lt g0
  have hlp := Heap.get_lt gp
  refine xCQt (fun h => ?_) (fun h => ?_)
  ·cases h
  clear h
  have hsz : ((b.da : Nat) : Int) + 1 + ((b.ck : Nat) : Int) = ((b.sz : Nat) : Int) := by unfold Bk.sz; omega
  have hsz1 : b.sz ≤ 255 := h6
  have hN : ((b.sz : Nat) : Int) * ((b.n : Nat) : Int) = ((b.sz * b.n : Nat) : Int) := by rw [Int.natCast_mul]
  have hN1 : b.sz * b.n ≤ 255 * 81 := Nat.mul_le_mul hsz1 h2
  (try simp only [ctlB])
  repeat' ((first | refine xSQt ?_ | refine xOQt rfl ?_); (try simp only [ctlB]))
  refine aw_for (fun k S H' => Ext G H' ∧ ∃ vo bo, Own G.length 1 H' vo bo (boolL (List.replicate k false)) ∧ ∃ (z : Nat → Value), S = [.int .i64 v, .int .i64 l, z 2, .slice (some ⟨pb, 0, psp⟩) b.all cq, .int .i64 0, z 5, z 6, z 7, .pointer (some ⟨H3.length, 0, none⟩), z 9, vo, .int .i64 (b.sz : Nat), .int .i64 (k : Nat), z 13, z 14, z 15, z 16, z 17, z 18, z 19, z 20, z 21, z 22, z 23, z 24, z 25, z 26]) (b.sz * b.n) ?_ ?_ ?_ ?_
  ·exact ⟨Ext.refl _, _, _, Own.nil (Nat.le_refl _), exZGc  rfl⟩
  ·rintro k S H' hk ⟨hx, vo, bo, -, z,  rfl⟩
   have g0 := hx.get g0
   exact ⟨_, by simp (disch := first | omega | (simp only [lenB]; omega)) only [evB, xBQt, Nat.reduceAdd, Nat.reduceBEq, *]; rfl, by simp only [decide_eq_true_eq]; exact Int.ofNat_lt⟩
  ·rintro k S H4 hk ⟨hx4, vo, bo, oo, z,  rfl⟩
   have hl4 := hx4.1
   (try simp only [ctlB])
   repeat' ((first | refine xSQt ?_ | refine xOQt rfl ?_); (try simp only [ctlB]))
   refine xHQt ?_
   refine wpH_app (b := bo) (cells := boolL (List.replicate k false)) (c := [.bool false]) ((oo.mono (Ext.app _ _)).lower (by omega)) (by simp; omega) (by omega) (by omega) (by rw [boolL_len, List.length_replicate]; omega) get_app0 (by simp) rfl rfl ?_
   intro vo' H5 oo' hk5 hl5
   have oo' : ∃ nb, Own G.length 1 H5 vo' nb (boolL (List.replicate (k + 1) false)) := by
    rw [List.replicate_succ', boolL_app]
    exact ⟨_, by simp; omega, oo'.2⟩
   obtain ⟨nb, oo'⟩ := oo'
   have hx5 := hk5.ext (hx4.trans (Ext.app H4 _)) oo.1
   (try simp only [ctlB])
   repeat' ((first | refine xSQt ?_ | refine xOQt rfl ?_); (try simp only [ctlB]))
   exact ⟨hx5, vo', nb, oo', exZGc  (by first | rfl | (simp only [Int.natCast_add, Int.natCast_one]; rfl) | simp only [Int.natCast_add, Int.natCast_one])⟩
  ·rintro S H4 ⟨hx4, vo, bo, oo, z,  rfl⟩
   have hNp : 0 < b.sz * b.n := Nat.lt_of_le_of_lt (Nat.zero_le _) (b.ix_in hpos).1
   obtain ⟨hbo, ⟨_, h⟩ | ⟨n, _, h8, rfl, gs⟩⟩ := oo
   ·exfalso
    have := congrArg List.length h
    rw [boolL_len, List.length_replicate] at this
    simp at this; omega
   rw [boolL_len, List.length_replicate, Nat.mul_one] at h8
   subst h8
   rw [← seenL_zero] at gs
   have hl4 := hx4.1
   have hpt := fun i (h : i < b.all) => ptL_at (l := b.plI) (i := i) (by omega)
   have g0' := hx4.get g0
   clear hp2
   (try simp only [ctlB])
   repeat' ((first | refine xSQt ?_ | refine xOQt rfl ?_); (try simp only [ctlB]))
   refine aw_for (fun k S H' => Keep bo H4 H' ∧ Heap.get H' bo = some (boolL (seenL b k)) ∧ ∃ (z : Nat → Value), S = [.int .i64 v, .int .i64 l, z 2, .slice (some ⟨pb, 0, psp⟩) b.all cq, .int .i64 0, z 5, z 6, z 7, .pointer (some ⟨H3.length, 0, none⟩), z 9, .slice (some ⟨bo, 0, some 1⟩) (b.sz * b.n) (b.sz * b.n), .int .i64 (b.sz : Nat), z 12, .int .i64 (k : Nat), z 14, z 15, z 16, z 17, z 18, z 19, z 20, z 21, z 22, z 23, z 24, z 25, z 26]) b.all ?_ ?_ ?_ ?_
   ·exact ⟨keep_ext (Ext.refl _), gs, exZGc  rfl⟩
   ·rintro k S H' hk ⟨-, -, z,  rfl⟩
    exact ⟨_, by simp (disch := first | omega | (simp only [lenB]; omega)) only [evB, xBQt, Nat.reduceAdd, Nat.reduceBEq, *]; rfl, by simp⟩
   ·clear gs
    rintro k S H5 hk ⟨k1, gs, z,  rfl⟩
    have gp := k1.get (hx4.get gp) (by omega)
    have hlg := Heap.get_lt gs
    obtain ⟨i1, i2, i3⟩ := b.ix_in hk
    obtain ⟨t1, t2⟩ := hpt k hk
    rw [b.plI_at hk] at t1 t2
    have hsl := seenL_len b k
    have hsa := seenL_at hk
    have hss := seenL_set hk
    have m1 : (b.at k).1 * b.sz ≤ 81 * 255 := Nat.mul_le_mul (by omega) hsz1
    have m2 : (((b.at k).1 : Nat) : Int) * ((b.sz : Nat) : Int) = (((b.at k).1 * b.sz : Nat) : Int) := by rw [Int.natCast_mul]
    have m3 : (((b.at k).1 * b.sz : Nat) : Int) + (((b.at k).2 : Nat) : Int) = ((b.ix k : Nat) : Int) := by unfold Bk.ix; omega
    have hkk : Keep bo H5 (H5.set bo (some (boolL (seenL b (k + 1))))) := keep_set (Ext.refl _) _ _
    simp only at t1 t2
    clear hpt
    generalize ptL b.plI = PL at *
    generalize seenL b (k + 1) = s2 at *
    generalize seenL b k = s1 at *
    generalize b.ix k = q at *
    generalize (b.at k).1 = X at *
    generalize (b.at k).2 = Y at *
    generalize X * b.sz = xs at *
    (try simp only [ctlB])
    repeat' ((first | refine xSQt ?_ | refine xOQt rfl ?_); (try simp only [ctlB]))
    refine xCQt (fun h => ?_) (fun h => ?_)
    ·exfalso; simp at h <;> omega
    clear h
    (try simp only [ctlB])
    repeat' ((first | refine xSQt ?_ | refine xOQt rfl ?_); (try simp only [ctlB]))
    exact ⟨keep_trans k1 hkk, by rw [get_set_self (by omega)], exZGc  (by first | rfl | (simp only [Int.natCast_add, Int.natCast_one]; rfl) | simp only [Int.natCast_add, Int.natCast_one])⟩
   ·clear gs
    rintro S H5 ⟨k1, -, z,  rfl⟩
    have g0 := k1.get g0' (by omega)
    have e1 : ((b.sh : Nat) : Int) * (((b.da : Nat) : Int) + ((b.ck : Nat) : Int)) = ((b.sh * (b.da + b.ck) : Nat) : Int) := by rw [Int.natCast_mul, Int.natCast_add]
    have e2 : ((b.lg : Nat) : Int) * ((b.sz : Nat) : Int) = ((b.lg * b.sz : Nat) : Int) := by rw [Int.natCast_mul]
    have e3 := all_eq b
    have hl5 := k1.len
    have e4 : ((b.sh * (b.da + b.ck) : Nat) : Int) + ((b.lg * b.sz : Nat) : Int) = ((b.all : Nat) : Int) := by omega
    have e5 : b.sh * (b.da + b.ck) ≤ 4000 ∧ b.lg * b.sz ≤ 4000 := by omega
    clear e3
    generalize b.sh * (b.da + b.ck) = y1 at *
    generalize b.lg * b.sz = y2 at *
    (try simp only [ctlB])
    refine xTQt ?_
    refine wpH_call0 (exH (by omega)) ?_
    rintro r H6 ⟨-, rfl⟩
    (try simp only [ctlB])
    repeat' ((first | refine xSQt ?_ | refine xOQt rfl ?_); (try simp only [ctlB]))
    refine xRQt ?_
    rfl
theorem lawPla {H : Heap} : Ev cp H.length 4 [.int .i64 v, .int .i64 l] H (fun v _ => v = .bool true) := by
 by_cases h : Vl v l
 ·obtain ⟨i, hi, ha⟩ := vl_arg h
  exact lawPla_ok hi ha
 ·exact lawPla_bad h
end
end Go.Proofs.Ytkeagffmmhllcaa
