/- QR blocks: the law Bursts. -/
import Derived.Test.YtkeagffmmhllcaaP28
set_option linter.unusedVariables false
set_option linter.unusedSimpArgs false
set_option linter.unusedSectionVars false
namespace Go.Proofs.Ytkeagffmmhllcaa
open Go.Abs Go.RS
set_option linter.unusedSimpArgs false
set_option linter.unusedVariables false
set_option maxRecDepth 20000
theorem plc0_fst (len : Nat → Nat) (n : Nat) : ∀ k, (∀ x, x < n → k ≤ len x) → (plc0 len n k).map Prod.fst = (List.range (k * n)).map fun i => i % n
 | 0, _ => by simp [plc0]
 | k + 1, h => by
  rw [plc0_succ, List.map_append, plc0_fst len n k (fun x hx => by have := h x hx; omega), Nat.succ_mul, List.range_add, List.map_append, List.map_map]
  congr 1
  unfold rowP
  rw [List.map_map, List.filter_eq_self.2 (fun x hx => by have := h x (List.mem_range.1 hx); simp; omega)]
  refine List.map_congr_left fun x hx => ?_
  have hx := List.mem_range.1 hx
  simp only [Function.comp]
  rw [Nat.add_comm, Nat.add_mul_mod_self_right, Nat.mod_eq_of_lt hx]
theorem plD_fst (b : Bk) : b.plD.map Prod.fst = ((List.range (b.da * b.n)).map fun i => i % b.n) ++ (List.range b.lg).map fun j => b.sh + j := by
 unfold Bk.plD
 rw [plc0_succ, List.map_append, plc0_fst _ _ _ (fun x _ => b.len_ge x)]
 congr 1
 unfold rowP Bk.n
 rw [List.map_map, List.range_add, List.filter_append, List.filter_eq_nil_iff.2 (fun x hx => by
  have hx := List.mem_range.1 hx
  unfold Bk.len
  rw [if_neg (by omega)]; simp), List.nil_append, List.filter_eq_self.2 (fun x hx => by
  obtain ⟨j, hj, rfl⟩ := List.mem_map.1 hx
  unfold Bk.len
  rw [if_pos (by omega)]; simp), List.map_map]
 rfl
theorem plC_fst (b : Bk) : b.plC.map Prod.fst = (List.range (b.ck * b.n)).map fun i => i % b.n := by
 rw [← plc0_fst (fun _ => b.ck) b.n b.ck (fun _ _ => Nat.le_refl _)]
 unfold Bk.plC
 rw [List.map_map]; rfl
theorem one_of {p : Nat → Bool} : ∀ m, (∀ i j, i < j → j < m → p i = true → p j = true → False) → List.countP p (List.range m) ≤ 1
 | 0, _ => by simp
 | m + 1, h => by
  rw [List.range_succ, List.countP_append, List.countP_singleton]
  by_cases hm : p m = true
  ·have : List.countP p (List.range m) = 0 := List.countP_eq_zero.2 fun i hi hp => h i m (List.mem_range.1 hi) (by omega) hp hm
   rw [this, if_pos hm]; omega
  ·rw [if_neg hm]
   exact one_of m fun i j h1 h2 => h i j h1 (by omega)
theorem burst {b : Bk} {x f : Nat} (hn : 0 < b.n) : cntX b x (fun i => decide (f ≤ i) && decide (i < f + b.n)) ≤ 3 := by
 have hall : b.all = (b.da * b.n + b.lg) + b.ck * b.n := by
  unfold Bk.all Bk.cap
  rw [Nat.mul_comm b.n b.da, Nat.mul_comm b.n b.ck]
 have hpl : b.pl.map Prod.fst = (((List.range (b.da * b.n)).map fun i => i % b.n) ++ (List.range b.lg).map fun j => b.sh + j) ++ (List.range (b.ck * b.n)).map fun i => i % b.n := by
  unfold Bk.pl
  rw [List.map_append, plD_fst, plC_fst]
 have hat : ∀ i, i < b.all → (b.at i).1 = (b.pl.map Prod.fst).getD i 0 := fun i hi => by
  rw [b.at_eq hi, List.getD_eq_getElem?_getD, List.getElem?_map, List.getElem?_eq_getElem (by rw [b.pl_len]; exact hi)]; rfl
 rw [hpl] at hat
 unfold cntX
 rw [← List.countP_eq_length_filter, hall, List.range_add, List.range_add, List.countP_append, List.countP_append, List.countP_map, List.countP_map]
 have mod_ne : ∀ i j m : Nat, i < j → j - i < b.n → i % b.n = m → j % b.n = m → False := by
  intro i j m h1 h2 h3 h4
  have e1 := Nat.div_add_mod i b.n
  have e2 := Nat.div_add_mod j b.n
  have h5 : i / b.n < j / b.n ∨ j / b.n ≤ i / b.n := by omega
  rcases h5 with h5 | h5
  ·have := Nat.mul_le_mul_left b.n (show i / b.n + 1 ≤ j / b.n by omega)
   rw [Nat.mul_succ] at this
   omega
  ·have := Nat.mul_le_mul_left b.n h5
   omega
 have c1 : List.countP (fun i => decide ((b.at i).1 = x) && (decide (f ≤ i) && decide (i < f + b.n))) (List.range (b.da * b.n)) ≤ 1 := by
  refine one_of _ fun i j h1 h2 h3 h4 => ?_
  simp only [Bool.and_eq_true, decide_eq_true_eq] at h3 h4
  have e1 := hat i (by omega)
  have e2 := hat j (by omega)
  rw [List.getD_eq_getElem?_getD, List.getElem?_append_left (by simp; omega), List.getElem?_append_left (by simp; omega), List.getElem?_map, List.getElem?_range (by omega)] at e1 e2
  simp only [Option.map_some, Option.getD_some] at e1 e2
  exact mod_ne i j x h1 (by omega) (by omega) (by omega)
 have c2 : List.countP ((fun i => decide ((b.at i).1 = x) && (decide (f ≤ i) && decide (i < f + b.n))) ∘ fun i => b.da * b.n + i) (List.range b.lg) ≤ 1 := by
  refine one_of _ fun i j h1 h2 h3 h4 => ?_
  simp only [Function.comp, Bool.and_eq_true, decide_eq_true_eq] at h3 h4
  have e1 := hat (b.da * b.n + i) (by omega)
  have e2 := hat (b.da * b.n + j) (by omega)
  rw [List.getD_eq_getElem?_getD, List.getElem?_append_left (by simp; omega), List.getElem?_append_right (by simp), List.length_map, List.length_range, Nat.add_sub_cancel_left, List.getElem?_map, List.getElem?_range (by omega)] at e1 e2
  simp only [Option.map_some, Option.getD_some] at e1 e2
  omega
 have c3 : List.countP ((fun i => decide ((b.at i).1 = x) && (decide (f ≤ i) && decide (i < f + b.n))) ∘ fun i => b.da * b.n + b.lg + i) (List.range (b.ck * b.n)) ≤ 1 := by
  refine one_of _ fun i j h1 h2 h3 h4 => ?_
  simp only [Function.comp, Bool.and_eq_true, decide_eq_true_eq] at h3 h4
  have e1 := hat (b.da * b.n + b.lg + i) (by omega)
  have e2 := hat (b.da * b.n + b.lg + j) (by omega)
  rw [List.getD_eq_getElem?_getD, List.getElem?_append_right (by simp), List.length_append, List.length_map, List.length_map, List.length_range, List.length_range, Nat.add_sub_cancel_left, List.getElem?_map, List.getElem?_range (by omega)] at e1 e2
  simp only [Option.map_some, Option.getD_some] at e1 e2
  exact mod_ne i j x h1 (by omega) (by omega) (by omega)
 exact Nat.add_le_add (Nat.add_le_add c1 c2) c3
theorem bk_ckB : (List.range 160).all (fun i => decide (7 ≤ (bk i).ck)) = true := by decide +kernel
theorem bk_ck {i : Nat} (h : i < 160) : 7 ≤ (bk i).ck := of_decide_eq_true (List.all_eq_true.1 bk_ckB i (List.mem_range.2 h))
def burL (wl : List Int) (f y j : Nat) : List Int := (List.range wl.length).map fun i => (((if f ≤ i ∧ i < f + j then (wl.getD i 0).toNat ^^^ y else (wl.getD i 0).toNat) : Nat) : Int)
theorem burL_len (wl : List Int) (f y j : Nat) : (burL wl f y j).length = wl.length := by simp [burL]
theorem burL_zero {wl : List Int} {f y : Nat} (h : ∀ i, i < wl.length → 0 ≤ wl.getD i 0) : burL wl f y 0 = wl := by
 unfold burL
 refine List.ext_getElem (by simp) fun i h1 h2 => ?_
 have := h i h2
 rw [List.getElem_map, List.getElem_range, if_neg (by omega), Int.toNat_of_nonneg this, List.getD_eq_getElem?_getD, List.getElem?_eq_getElem h2]; rfl
theorem burL_at {wl : List Int} {f y j i : Nat} (h : i < wl.length) : (burL wl f y j).getD i 0 = (((if f ≤ i ∧ i < f + j then (wl.getD i 0).toNat ^^^ y else (wl.getD i 0).toNat) : Nat) : Int) := range_getD _ h
theorem burL_set {wl : List Int} {f y j : Nat} (h : f + j < wl.length) : (burL wl f y j).set (f + j) ((((wl.getD (f + j) 0).toNat ^^^ y : Nat)) : Int) = burL wl f y (j + 1) := by
 unfold burL
 refine range_setG h (by rw [if_pos (by omega)]) fun i hi hne => ?_
 by_cases e : f ≤ i ∧ i < f + j
 ·rw [if_pos e, if_pos (by omega)]
 ·rw [if_neg e, if_neg (by omega)]
section
variable {V L : Int}
theorem xTQz {cp : FuncId → Option CF} {lo : Nat} {l : List (Nat × E)} {chk : List E} {Q : Post} {S : List Value} {H : Heap} {vs : List (Nat × Value)} {dst : Option Nat} {o : HOp} {a : E} {xs : List Value} {pc : PC} (k : wpH cp lo o xs H fun v H' => Q .normal (setD (setAll S vs) dst v) H') (h : evSets S H l = some vs := by simp (disch := first | omega | (simp only [lenB]; omega)) only [evB, xBQi, Nat.reduceAdd, Nat.reduceBEq, *]; rfl) (hc : evChk S H chk = true := by simp (disch := first | omega | (simp only [lenB]; omega)) only [evB, xBQi, Nat.reduceAdd, Nat.reduceBEq, *]) (hp : holds S H pc = some true := by simp (disch := first | omega | (simp only [lenB]; omega)) only [evB, xBQi, Nat.reduceAdd, Nat.reduceBEq, *]; try rfl) (ha : ev S H a = some xs := by simp (disch := first | omega | (simp only [lenB]; omega)) only [evB, xBQi, Nat.reduceAdd, Nat.reduceBEq, *]; rfl) : wpS cp lo (.hv l chk pc dst o a) Q S H := aw_hvT h hc hp ha k
theorem lawBur {H : Heap} {aD aA aY aE : Option Addr} {cD cA cY cE : Nat} {lD la lb : List Int} {le : List Bool} {at' by' : Int}
  (hD : SlY H (.slice aD lD.length cD) lD) (hDr : ∀ x ∈ lD, 0 ≤ x ∧ x ≤ 255) (hDl : lD.length ≤ 9223372036854775807) (hat : 0 ≤ at' ∧ at' ≤ 65535) (hby : 0 ≤ by' ∧ by' ≤ 255) :
  Ev cp H.length 7 [.agg #[.int .i64 V, .int .i64 L, .slice aD lD.length cD, .slice aA la.length cA, .slice aY lb.length cY, .slice aE le.length cE], .int .u16 at', .int .u8 by'] H (fun v _ => v = .bool true) := by
 refine st7 ?_; unfold bd7 cf7; simp only [kB, ctlB]
 repeat' ((first | refine xSQi ?_ | refine xOQi rfl ?_); (try simp only [ctlB]))
 generalize hG : H ++ _ = G at *
 obtain ⟨g1, hxG⟩ := box_facts hG
 clear hG
 have hlG := hxG.1
 have hlg1 := Heap.get_lt g1
 by_cases hvl : Vl V L
 case neg =>
  refine xHQi ?_
  refine wpH_call0 (dataP_bad (v := V) (l := L) hlG hvl) ?_
  rintro r H1 ⟨hx1, rfl⟩
  have g1 := hx1.get g1
  have hl1 := hx1.1
  (try simp only [ctlB])
  repeat' ((first | refine xSQi ?_ | refine xOQi rfl ?_); (try simp only [ctlB]))
  refine xCQi (fun h => ?_) (fun h => ?_)
  case refine_2 => simp at h
  clear h
  (try simp only [ctlB])
  refine xHQi ?_
  refine wpH_call0 (exH (by omega)) ?_
  rintro r H2 ⟨-, rfl⟩
  (try simp only [ctlB])
  repeat' ((first | refine xSQi ?_ | refine xOQi rfl ?_); (try simp only [ctlB]))
  refine xRQi ?_
  rfl
 obtain ⟨i, hi, ha⟩ := vl_arg hvl
 have hb := bk_ok hi
 have hck := bk_ck hi
 obtain ⟨p1, p2, p3⟩ := hb.pos
 have hst : ∀ {H' : Heap}, H.length ≤ H'.length → _ := fun {H'} h => stV_vl (lo := H.length) (H := H') hi ha h
 have hEn : ∀ {H' : Heap} {vd : Value} {d : List Int}, SlI H' vd d → d.length ≤ 1000000000 → H.length ≤ H'.length → _ := fun {H' vd d} h1 h2 h => encP (lo := H.length) (H := H') h1 h2 hi ha h
 have hDe : ∀ {H' : Heap} {vw ve : Value} {wl : List Int} {el : List Bool}, SlI H' vw wl → SlB H' ve el → wl.length ≤ 1000000000 → el.length ≤ 1000000000 → H.length ≤ H'.length → _ := fun {H' vw ve wl el} h1 h2 h3 h4 h => decP (lo := H.length) (H := H') h1 h2 h3 h4 hi ha h
 have hDa := dataP (lo := H.length) (hD.mono hxG) hDr hDl hi ha hlG
 clear ha
 refine xHQi ?_
 refine wpH_call0 hDa ?_
 clear hDa
 generalize bk i = b at *
 rintro r H1 ⟨hx1, d, hd, hvd⟩
 have h7 := hb.all
 have h2n := hb.n
 have h1n : b.sh ≤ b.n := by unfold Bk.n; omega
 have hnn := hb.sh
 have hcap : b.cap ≤ 3706 := by
  have : b.all = b.cap + b.n * b.ck := rfl
  omega
 have g1 := hx1.get g1
 have hx1 := hxG.trans hx1
 have hl1 := hx1.1
 have hvd0 := hvd
 obtain ⟨ad, cd, e0⟩ := hvd.len
 rw [valI_len, hd] at e0
 subst e0
 clear hxG hlG hvd
 (try simp only [ctlB])
 repeat' ((first | refine xSQi ?_ | refine xOQi rfl ?_); (try simp only [ctlB]))
 by_cases hg : 12 < V
 ·refine xCQi (fun h => ?_) (fun h => ?_)
  case refine_2 => simp at h <;> omega
  clear h
  (try simp only [ctlB])
  refine xHQi ?_
  refine wpH_call0 (exH hl1) ?_
  rintro r H2 ⟨-, rfl⟩
  (try simp only [ctlB])
  repeat' ((first | refine xSQi ?_ | refine xOQi rfl ?_); (try simp only [ctlB]))
  refine xRQi ?_
  rfl
 refine xCQi (fun h => ?_) (fun h => ?_)
 ·simp at h <;> omega
 clear h
 (try simp only [ctlB])
 repeat' ((first | refine xSQi ?_ | refine xOQi rfl ?_); (try simp only [ctlB]))
 refine xHQi ?_
 refine wpH_call0 (hEn hvd0.sli (by rw [valI_len]; omega) hl1) ?_
 rintro r H2 ⟨hx2, -, -, hen⟩
 obtain ⟨vo, rfl, hvo, hnew, hie⟩ := hen d rfl hd
 have g1 := hx2.get g1
 have hvd0 := hvd0.mono hx2
 have hx2 := hx1.trans hx2
 have hl2 := hx2.1
 have hwl := wv_len b (b.W d)
 obtain ⟨ao, cc, e0⟩ := hvo.len
 rw [hwl] at e0
 subst e0
 have hwi := hvo.sli
 clear hen hEn hnew hvo hx1
 (try simp only [ctlB])
 repeat' ((first | refine xSQi ?_ | refine xOQi rfl ?_); (try simp only [ctlB]))
 refine xHQi ?_
 refine wpH_call0 (hst hl2) ?_
 rintro r H4 ⟨hx4, rfl⟩
 have g1 := hx4.get g1
 have hvd0 := hvd0.mono hx4
 have hwi := hwi.mono hx4
 have hx4 := hx2.trans hx4
 have hl4 := hx4.1
 clear hst hx2
 unfold Bk.val
 (try simp only [ctlB])
 repeat' ((first | refine xSQi ?_ | refine xOQi rfl ?_); (try simp only [ctlB]))
 generalize hG : H4 ++ _ = G4 at *
 obtain ⟨g0, hxG⟩ := box_facts hG
 clear hG
 have g1 := hxG.get g1
 have hvd0 := hvd0.mono hxG
 have hwi := hwi.mono hxG
 have hx5 := hx4.trans hxG
 have hl5 := hx5.1
 have hlg := Heap.get_lt g0
 clear hxG hx4
 refine xCQi (fun h => ?_) (fun h => ?_)
 ·exfalso; simp at h <;> omega
 clear h
 (try simp only [ctlB])
 repeat' ((first | refine xSQi ?_ | refine xOQi rfl ?_); (try simp only [ctlB]))
 refine xHQi ?_
 refine own_appI (A := []) (base := G4.length) (Own.nil (b := G4.length) (Nat.le_refl _)) (by omega) (Nat.le_refl _) hwi (by omega) (by simp only [List.length_nil]; omega) ?_
 intro v9 H6 o9 hk6 hl6
 rw [List.nil_append] at o9
 have hx6 : Ext G4 H6 := ⟨by omega, fun i hi => hk6.eq i hi (by omega)⟩
 obtain ⟨rfl, g9⟩ := own_realI o9 (by omega)
 have g0 := hx6.get g0
 have g1 := hx6.get g1
 have hvd5 := hvd0
 have hx6' := hx5.trans hx6
 rw [hwl]
 clear o9 hk6 hl6 hwi
 obtain ⟨af, rfl⟩ : ∃ af : Nat, at' = (af : Int) := ⟨_, (Int.toNat_of_nonneg hat.1).symm⟩
 obtain ⟨y, rfl⟩ : ∃ y : Nat, by' = (y : Int) := ⟨_, (Int.toNat_of_nonneg hby.1).symm⟩
 have q1 := (Int.ofNat_tmod af b.all).symm
 have hf : af % b.all < b.all := Nat.mod_lt _ p1
 generalize af % b.all = f at *
 generalize hwle : b.wv (b.W d) = wl at *
 have hwb : ∀ i, i < b.all → 0 ≤ wl.getD i 0 ∧ wl.getD i 0 ≤ 255 := fun i hi => by rw [← hwle]; exact wv_byte hi
 have hz := burL_zero (wl := wl) (f := f) (y := y) (fun i hi => (hwb i (by omega)).1)
 rw [← hz] at g9
 clear hz
 have hs : ((f : Nat) : Int) + ((b.sh : Nat) : Int) + ((b.lg : Nat) : Int) = ((f + b.n : Nat) : Int) := by unfold Bk.n; omega
 (try simp only [ctlB])
 repeat' ((first | refine xSQi ?_ | refine xOQi rfl ?_); (try simp only [ctlB]))
 have hbl := fun j => burL_len wl f y j
 replace hwle : False ∨ _ := .inr hwle
 refine aw_for (fun k S H' => Keep G4.length H6 H' ∧ Heap.get H' G4.length = some (intL (burL wl f y k)) ∧ ∃ (z : Nat → Value), S = [z 0, z 1, .int .u8 (y : Nat), .pointer (some ⟨H.length, 0, none⟩), z 4, .slice ad b.cap cd, z 6, z 7, .pointer (some ⟨H4.length, 0, none⟩), .slice (some ⟨G4.length, 0, some 1⟩) b.all b.all, .int .i64 (f : Nat), .int .i64 (f + k : Nat), z 12, z 13, z 14, z 15, z 16, z 17, z 18, z 19, z 20, z 21, z 22, z 23, z 24, z 25]) (min b.n (b.all - f)) ?_ ?_ ?_ ?_
 ·exact ⟨keep_ext (Ext.refl _), g9, exZGc  rfl⟩
 ·rintro k S H' hk ⟨k1, -, z,  rfl⟩
  have g0 := k1.get g0 (by omega)
  exact ⟨_, by simp (disch := first | omega | (simp only [lenB]; omega)) only [evB, xBQi, Nat.reduceAdd, Nat.reduceBEq, *]; rfl, by simp; omega⟩
 ·clear g9
  rintro k S H7 hk ⟨k1, g9, z,  rfl⟩
  have hat2 := burL_at (wl := wl) (f := f) (y := y) (j := k) (i := f + k) (by omega)
  rw [if_neg (by omega)] at hat2
  have hset := burL_set (wl := wl) (f := f) (y := y) (j := k) (by omega)
  have hwk := hwb (f + k) (by omega)
  have hlk := hbl k
  have hlg9 := Heap.get_lt g9
  obtain ⟨o, ho⟩ : ∃ o : Nat, wl.getD (f + k) 0 = (o : Int) := ⟨_, (Int.toNat_of_nonneg hwk.1).symm⟩
  rw [ho] at hat2 hset hwk
  rw [Int.toNat_natCast] at hat2 hset
  have hxr := xor_int (a := o) (b := y) (by omega) (by omega)
  have hxb : o ^^^ y < 256 := Nat.xor_lt_two_pow (n := 8) (by omega) (by omega)
  have hkk : Keep G4.length H7 (H7.set G4.length (some (intL (burL wl f y (k + 1))))) := keep_set (Ext.refl _) _ _
  clear ho
  generalize o ^^^ y = n at *
  generalize burL wl f y (k + 1) = B2 at *
  generalize burL wl f y k = B1 at *
  generalize hfk : f + k = fk at *
  (try simp only [ctlB])
  repeat' ((first | refine xSQi ?_ | refine xOQi rfl ?_); (try simp only [ctlB]))
  refine ⟨keep_trans k1 hkk, by rw [get_set_self (by omega)], ?_⟩
  rw [show f + (k + 1) = fk + 1 by omega]
  exact exZGc  (by first | rfl | (simp only [Int.natCast_add, Int.natCast_one]; rfl) | simp only [Int.natCast_add, Int.natCast_one])
 ·clear g9
  rintro S H7 ⟨k1, g9, z,  rfl⟩
  have g1 := k1.get g1 (by omega)
  have hx7 := k1.ext (hx5.trans hx6) (by omega)
  have hx67 := k1.ext hx6 (Nat.le_refl _)
  have hvd0 : SlW H7 _ _ := (hvd5.mono hx67)
  have hl7 := hx7.1
  have hwle := hwle.resolve_left id
  generalize hN : min b.n (b.all - f) = N at *
  have hol := burL_len wl f y N
  have hoi : SlI H7 (.slice (some ⟨G4.length, 0, some 1⟩) b.all b.all) (burL wl f y N) := Sl.whole g9 (by omega)
  have hby2 : ∀ i, i < b.all → 0 ≤ (burL wl f y N).getD i 0 ∧ (burL wl f y N).getD i 0 ≤ 255 := fun i hi => by
   have h1 := hwb i hi
   rw [burL_at (by omega)]
   have h2 : (wl.getD i 0).toNat ^^^ y < 256 := Nat.xor_lt_two_pow (n := 8) (by omega) (by omega)
   split <;> omega
  have hrd : Rd b (burL wl f y N) fun i => ([] : List Bool).getD i false := fun i hi _ => hby2 i hi
  have hcost : ∀ x, costX b (burL wl f y N) wl (fun i => ([] : List Bool).getD i false) x ≤ b.ck := fun x => by
   show 2 * cntX b x (fun i => !([] : List Bool).getD i false && decide ((burL wl f y N).getD i 0 ≠ wl.getD i 0)) + cntX b x (fun i => ([] : List Bool).getD i false) ≤ b.ck
   have e1 : cntX b x (fun i => !([] : List Bool).getD i false && decide ((burL wl f y N).getD i 0 ≠ wl.getD i 0)) ≤ cntX b x (fun i => decide (f ≤ i) && decide (i < f + b.n)) := cntX_le fun i hi hp => by
    simp only [Bool.and_eq_true, decide_eq_true_eq] at hp ⊢
    have hp2 := hp.2
    rw [burL_at (by omega)] at hp2
    have h1 := hwb i hi
    by_cases e : f ≤ i ∧ i < f + N
    ·omega
    ·rw [if_neg e] at hp2
     exact absurd (Int.toNat_of_nonneg h1.1) hp2
   have e2 : cntX b x (fun i => ([] : List Bool).getD i false) = 0 := by
    unfold cntX
    rw [List.filter_eq_nil_iff.2 (fun i _ => by simp)]; rfl
   have e3 := burst (b := b) (x := x) (f := f) (by omega)
   omega
  have hfix : ∀ x, x < b.n → OkX b (burL wl f y N) (fun i => ([] : List Bool).getD i false) x ∧ fxX b (burL wl f y N) (fun i => ([] : List Bool).getD i false) x = b.W d x := fun x hx => by
   have he := hie x hx
   exact corrX hb hx hrd (by rw [he.len, blk_len hd hx]) he.cw (by rw [hwle]; exact hcost x)
  have hde := dat_congr fun x hx => (hfix x hx).2
  rw [dat_enc hd hie] at hde
  clear g0 hwle
  generalize burL wl f y N = out at *
  (try simp only [ctlB])
  repeat' ((first | refine xSQi ?_ | refine xOQi rfl ?_); (try simp only [ctlB]))
  refine xHQi ?_
  refine wpH_call0 (hDe hoi (ve := .slice none 0 0) (el := []) (.inl ⟨rfl, rfl⟩) (by omega) (by simp) hl7) ?_
  rintro r H8 ⟨hx8, -, -, -, hdc⟩
  obtain ⟨vr, rfl, hvr⟩ := hdc (by simp; omega) hrd (fun x hx => (hfix x hx).1)
  rw [hde] at hvr
  have hvd0 := hvd0.mono hx8
  have hx8 := hx7.trans hx8
  have hl8 := hx8.1
  clear hdc hDe hde hfix hrd hcost hby2
  unfold tup3
  (try simp only [ctlB])
  repeat' ((first | refine xSQi ?_ | refine xOQi rfl ?_); (try simp only [ctlB]))
  refine xTQz ?_
  refine wpH_call0 (same_eq hvr hvd0.sli (by rw [valI_len]; omega) (by rw [valI_len]; omega) rfl) ?_
  rintro r _ ⟨rfl, rfl⟩
  (try simp only [ctlB])
  refine xTQz ?_
  refine wpH_call0 (exH hl8) ?_
  rintro r H9 ⟨-, rfl⟩
  (try simp only [ctlB])
  repeat' ((first | refine xSQi ?_ | refine xOQi rfl ?_); (try simp only [ctlB]))
  refine xRQi ?_
  rfl
end
end Go.Proofs.Ytkeagffmmhllcaa
